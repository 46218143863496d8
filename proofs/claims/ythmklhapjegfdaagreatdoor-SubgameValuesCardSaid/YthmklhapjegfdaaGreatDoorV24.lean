/- recall.walked and recall.Form -/
import Derived.Test.YthmklhapjegfdaaGreatDoorV09
import Derived.Test.YthmklhapjegfdaaGreatDoorV22
import Derived.Deep.CutRange
import Derived.Test.YthmklhapjegfdaaGreatDoorV11
import Derived.Deep.LoopGhost
set_option linter.all false
set_option maxRecDepth 100000
set_option maxHeartbeats 12800000
namespace Go.Proofs.YthmklhapjegfdaaGreatDoor
open Lib renaming hid → Ac
open List renaming getElem_toArray → lq1, getElem_cons_zero → lq2, getElem_cons_succ → lq3, setIfInBounds_toArray → lq4, set_cons_zero → lq5, set_cons_succ → lq6
open Go.RowKit
def walkT (g:Gm):Int×Tri:=dB g.nodes (g.nodes.length+1) 0 (-1) 0 ⟨List.replicate g.nodes.length 0,List.replicate g.nodes.length 0,List.replicate g.nodes.length 0⟩
def qA (g:Gm):Int :=
 if iq g then 2 else if cO g.au g.infos.length g.nodes≠0 then cO g.au g.infos.length g.nodes
 else if (walkT g).1≠g.nodes.length then 9 else if 40 < maxL (walkT g).2.d then 5 else iM g
def DL (u:Value) (g:Gm) (B:Nat) (v:Value) (w':World):Prop:=∃ vp,v = .tuple #[vp,.int .i64 (qA g)] ∧
 (qA g=0→∃ p bp bd bl A c Ai ci,vp = .pointer (some ⟨p,0,none⟩)∧u = .agg #[.int .i64 g.au,.slice A g.nodes.length c,.slice Ai g.infos.length ci]∧Bq w' p bp bd bl g.au A g.nodes.length c Ai g.infos.length ci (walkT g).2∧B≤p∧B≤bp∧B≤bd∧B≤bl)
theorem lD {P:Program} (w:World) {o:Oper} {a:Act} {K:Act→World→Prop} {Q:Exit→Act→World→Prop} (l c:Operand) (t:TypeId) (hop:o.op=Op.makeSlice t l c)
  (e:TypeId) (z:Value) (bytes:Nat) (ht:P.underlying t=some (.slice e)) (hinfo:(P.info? e).map (fun i=>(i.zero,i.size,i.bytes))=some (some z,1,bytes)) (hz1:z.cells = #[z])
  (n:Nat) (hl:a.eval l = .int .i64 (n:Int)) (hc:a.eval c = .int .i64 (n:Int)) (hn:n≤1000000) (hb:bytes≤1000)
  (hK:∀ w1,Below w.heap.size w w1→w1.heap.size=w.heap.size+1→Row w1 w.heap.size e (List.replicate n z)→K (a.put o.dst (.slice (some ⟨w.heap.size,0,none⟩) n n)) w1) :
  Oper.wp P o a w K Q:=by
 have hbytes:bytes*n≤281474976710656:=by
  exact zcI
 exact YU
def ac8 (w:World) (B x:Nat) (p:Int) (vn vi:Value):Hold :=
 ⟨fun w'=>B≤w'.heap.size∧Below x w w'∧Row w' x 25 [.int .i64 p,vn,vi]∧∃ a b c,Row w' (x+1) 209 [.int .i64 p,vn,vi,a,b,c],
  fun _ _ ⟨h1,h2,h3,a,b,c,h4⟩ hb=>⟨Nat.le_trans h1 hb.size,h2.trans (hb.mono (Nat.le_of_lt h3.lt)),h3.below hb h3.lt,a,b,c,h4.below hb h4.lt⟩⟩
def sU (x:Nat) (p:Int) (vn vi u:Value):Hold:=⟨fun w'=>∃ b c,Row w' x 209 [.int .i64 p,vn,vi,u,b,c],fun _ _ ⟨b,c,h4⟩ hb=>⟨b,c,h4.below hb h4.lt⟩⟩
def sV (x:Nat) (p:Int) (vn vi u v:Value):Hold:=⟨fun w'=>∃ c,Row w' x 209 [.int .i64 p,vn,vi,u,v,c],fun _ _ ⟨c,h4⟩ hb=>⟨c,h4.below hb h4.lt⟩⟩
def xE (x:Nat) (p:Int) (vn vi u v z:Value):Hold:=⟨fun w'=>Row w' x 209 [.int .i64 p,vn,vi,u,v,z],fun _ _ h4 hb=>h4.below hb h4.lt⟩
def fB (B x n:Nat) (p:Int) (vn vi:Value):Says where
 uses i:=match i with | 17=>[6] | 20=>[6,10] | 23=>[6,10,14] | _=>[]
 F i l:=match i with
  | 6 | 10 | 14=>Hold.made B 3 n (List.replicate n (.int .i64 0)) (l.getD 0 undef)
  | 15 | 18 | 21=>Hold.eq (.pointer (some ⟨x,0,none⟩)) (l.getD 0 undef)
  | 16=>Hold.eq (.pointer (some ⟨x,3,none⟩)) (l.getD 0 undef)
  | 19=>Hold.eq (.pointer (some ⟨x,4,none⟩)) (l.getD 0 undef)
  | 22=>Hold.eq (.pointer (some ⟨x,5,none⟩)) (l.getD 0 undef)
  | 17=>sU x p vn vi (l.getD 1 undef)
  | 20=>sV x p vn vi (l.getD 1 undef) (l.getD 2 undef)
  | 23=>xE x p vn vi (l.getD 1 undef) (l.getD 2 undef) (l.getD 3 undef)
  | _=>Hold.tt
 cu:=[17,20,23]
 G j l w w':=match j with
  | 17=>w'=w.setCell ⟨x,3,none⟩ (l.getD 1 undef)
  | 20=>w'=w.setCell ⟨x,4,none⟩ (l.getD 2 undef)
  | 23=>w'=w.setCell ⟨x,5,none⟩ (l.getD 3 undef)
  | _=>False
 mks:=[6,10,14]
theorem afY (B x n:Nat) (p:Int) (vn vi:Value):∀ k∈(fB B x n p vn vi).mks,∀ e w,(fB B x n p vn vi).R k e w→∀ b,nH (e k)=some b→b < w.heap.size:=by
 intro k hk e w h;simp only[fB,List.mem_cons,List.not_mem_nil,or_false] at hk;rcases hk with rfl | rfl | rfl
 ·exact pX (show(Hold.made B 3 n (List.replicate n (.int .i64 0)) (e 6)).p w from h)
 ·exact pX (show(Hold.made B 3 n (List.replicate n (.int .i64 0)) (e 10)).p w from h)
 ·exact pX (show(Hold.made B 3 n (List.replicate n (.int .i64 0)) (e 14)).p w from h)
theorem abz {B x n:Nat} {p:Int} {vn vi:Value} {w0:World} (j:Nat) (hj:j∈(fB B (x+1) n p vn vi).cu) {E:List Nat} {e:Nat→Value} {w w':World} (hE:∀ k∈E,k∈[6,10,14,15,16,17,18,19,20,21,22,23]) (hnE:j ∉ E)
  (hf:∀ i∈E,(fB B (x+1) n p vn vi).R i e w) (hS:(ac8 w0 B x p vn vi).p w) (hx:x+1 < B) (hG:(fB B (x+1) n p vn vi).G j ((j :: (fB B (x+1) n p vn vi).uses j).map e) w w') :
  (ac8 w0 B x p vn vi).p w'∧∀ i∈E,(fB B (x+1) n p vn vi).R i e w':=by
 obtain⟨s1,s2,s3,a,b,c,s4⟩:=hS;obtain⟨k,u,hk,rfl,hs4,h17,h20,h23⟩:∃ k u,k=3+(j - 17) / 3∧w'=w.setCell ⟨x+1,k,none⟩ u∧(∃ a b c,Row (w.setCell ⟨x+1,k,none⟩ u) (x+1) 209 [.int .i64 p,vn,vi,a,b,c]) ∧
   (17∈E→(sU (x+1) p vn vi (e 6)).p (w.setCell ⟨x+1,k,none⟩ u))∧(20∈E→(sV (x+1) p vn vi (e 6) (e 10)).p (w.setCell ⟨x+1,k,none⟩ u))∧(23∈E→(xE (x+1) p vn vi (e 6) (e 10) (e 14)).p (w.setCell ⟨x+1,k,none⟩ u)):=by
  have f17:17∈E→(sU (x+1) p vn vi (e 6)).p w:=hf 17;have f20:20∈E→(sV (x+1) p vn vi (e 6) (e 10)).p w:=hf 20;have f23:23∈E→(xE (x+1) p vn vi (e 6) (e 10) (e 14)).p w:=hf 23;simp only[fB,List.mem_cons,List.not_mem_nil,or_false] at hj;rcases hj with rfl | rfl | rfl
  ·exact⟨3,e 6,rfl,hG,⟨_,_,_,s4.set 3 _⟩,fun h=>absurd h hnE,fun h=>let ⟨c,h⟩:=f20 h; ⟨c,h.set 3 _⟩,fun h=>(f23 h).set 3 _⟩
  ·exact⟨4,e 10,rfl,hG,⟨_,_,_,s4.set 4 _⟩,fun h=>let ⟨b,c,h⟩:=f17 h; ⟨_,_,h.set 4 _⟩,fun h=>absurd h hnE,fun h=>(f23 h).set 4 _⟩
  ·exact⟨5,e 14,rfl,hG,⟨_,_,_,s4.set 5 _⟩,fun h=>let ⟨b,c,h⟩:=f17 h; ⟨_,_,h.set 5 _⟩,fun h=>let ⟨c,h⟩:=f20 h; ⟨_,h.set 5 _⟩,fun h=>absurd h hnE⟩
 refine⟨⟨by simpa using s1,s2.setCell (p:=⟨x+1,k,none⟩) (Nat.le_succ x) _,s3.other (a:=⟨x+1,k,none⟩) (show x≠x+1 by omega) _,hs4⟩,fun i hi=>?_⟩;have hi':=hE i hi;simp only[List.mem_cons,List.not_mem_nil,or_false] at hi';rcases hi' with rfl | rfl | rfl | rfl | rfl | rfl | rfl | rfl | rfl | rfl | rfl | rfl
 ·exact vV hx (show(Hold.made B 3 n (List.replicate n (.int .i64 0)) (e 6)).p w from hf 6 hi)
 ·exact vV hx (show(Hold.made B 3 n (List.replicate n (.int .i64 0)) (e 10)).p w from hf 10 hi)
 ·exact vV hx (show(Hold.made B 3 n (List.replicate n (.int .i64 0)) (e 14)).p w from hf 14 hi)
 ·exact hf 15 hi
 ·exact hf 16 hi
 ·exact h17 hi
 ·exact hf 18 hi
 ·exact hf 19 hi
 ·exact h20 hi
 ·exact hf 21 hi
 ·exact hf 22 hi
 ·exact h23 hi
theorem afZ (w:World) (F:Ag) (u:Value) (g:Gm) (hg:AB w F u g) (hsm:Small g) :
  Calls Tryz.prog 129 #[u] w (Ret w (DL u g w.heap.size)):=by
 have HG:=Ac hg;obtain⟨vn,vi,rfl,⟨A,c,rfl,hc,hN⟩,⟨Ai,ci,rfl,hci,hI⟩⟩:=hg;have HN:=Ac hN;have HI:=Ac hI;clear hN hI;have hn:=hsm.nodes;have hni:=hsm.infos;have HS:=Ac hsm;clear hsm;by_cases q0:g.au < 1
 ·have HF:=Ac (show qA g=2 by unfold qA; rw[if_pos (by unfold iq; omega)]);go_in;go_wp2
  go_ret2;exact zak
 have d0:decide (g.au < 1)=false:=decide_eq_false byOmega;by_cases q1:4 < g.au
 ·have HF:=Ac (show qA g=2 by unfold qA; rw[if_pos (by unfold iq; omega)]);go_in;go_wp2
  go_ret2;exact zak
 have d1:decide ((4:Int) < g.au)=false:=decide_eq_false byOmega;by_cases q2:g.nodes.length < 1
 ·have HF:=Ac (show qA g=2 by unfold qA; rw[if_pos (by unfold iq; omega)]);go_in;go_wp2
  go_ret2;exact zak
 have d2:decide ((g.nodes.length:Int) < 1)=false:=decide_eq_false byOmega;have d3:decide ((2000:Int) < (g.nodes.length:Int))=false:=decide_eq_false byOmega;have d4:decide ((200:Int) < (g.infos.length:Int))=false:=decide_eq_false byOmega;have HE:=Ac (show qA g=if cO g.au g.infos.length g.nodes≠0 then cO g.au g.infos.length g.nodes
   else if (walkT g).1≠g.nodes.length then 9 else if 40 < maxL (walkT g).2.d then 5 else iM g by unfold qA; rw[if_neg (by unfold iq; omega)])
 obtain⟨b,o,rfl,hbF,hb,hcell⟩:=HN.out byOmega;have HC:=Ac hcell;clear hcell;go_in;go_wp2_with fail
 go_loopw [42] (fun i wr=>∃ k:Nat,k≤g.nodes.length∧i = .int .i64 k∧Row wr w.heap.size 25 [.int .i64 g.au,.slice (some ⟨b,o,none⟩) g.nodes.length c,.slice Ai g.infos.length ci]∧Row wr (w.heap.size+1) 209 [.int .i64 g.au,.slice (some ⟨b,o,none⟩) g.nodes.length c,.slice Ai g.infos.length ci,.slice none 0 0,.slice none 0 0,.slice none 0 0]∧Below w.heap.size w wr∧cO g.au g.infos.length g.nodes=cO g.au g.infos.length (g.nodes.drop k)) (fun i _=>g.nodes.length - (intOf i).toNat)
 case atStart =>
  refine⟨0,byOmega,rfl,(Row.new w _ _).alloc _,?_,?_,rfl⟩
  ·have:=Row.new (w.alloc (.cells #[.int .i64 g.au,.slice (some ⟨b,o,none⟩) g.nodes.length c,.slice Ai g.infos.length ci] 25)) 209 #[.int .i64 g.au,.slice (some ⟨b,o,none⟩) g.nodes.length c,.slice Ai g.infos.length ci,.slice none 0 0,.slice none 0 0,.slice none 0 0];simpa using this
  ·exact aY _ _ _ 0
 case round =>
  obtain⟨k,hk,rfl,hbx,hwk,hbel,hval⟩:=hrel;have HV:=Ac hval;clear hval;by_cases hlt:k < g.nodes.length
  ·obtain⟨x,hx⟩:=aC hlt;obtain⟨e0,e1,e2,⟨v3,e3,i3⟩,⟨v4,e4,i4⟩,⟨v5,e5,i5⟩⟩:=HC.out k x hx;obtain⟨A3,c3,rfl,hc3,h3⟩:=i3;obtain⟨A4,c4,rfl,hc4,h4⟩:=i4;obtain⟨A5,c5,rfl,hc5,h5⟩:=i5;have V:=Ac (show BF w F _ x from⟨_,_,_,rfl,⟨A3,c3,rfl,hc3,h3⟩,⟨A4,c4,rfl,hc4,h4⟩,⟨A5,c5,rfl,hc5,h5⟩⟩);clear h3 h4 h5;have M:=List.mem_of_getElem? hx;have HL:=Ac (show x.next.length < 1000000∧x.weights.length < 1000000∧x.pay.length < 1000000 from⟨by have:=HS.out.next x M; omega,by have:=HS.out.weights x M; omega,by have:=HS.out.pay x M; omega⟩);clear M;have HV2:=Ac (HV.out.trans (uQ hx));clear hx;have hold:=aJ hbel;have hwl:=hwk.lt;go_wp2_with fail
   obtain⟨W,hW,_,hWb,hWz⟩:=aT wr 61 #[.int .i64 x.kind,.int .i64 x.aF,.int .i64 x.info,.slice A3 x.next.length c3,.slice A4 x.weights.length c4,.slice A5 x.pay.length c5];rw[← hW];clear hW;have fQ:=hbx.below hWb hbx.lt;have ahR:=hwk.below hWb hwk.lt;have aaT:=hbel.trans (hWb.mono hbel.size);clear hbx hwk hbel hold;refine(ahy _ F (w.heap.size+1) _ g.au g.infos.length x ⟨ahR.cell rfl,_,_,ahR.cell rfl⟩ (V.out.on (Below.same' aaT F)) HL.out byOmega byOmega ahR.lt).mono ?_;rintro e w1 ⟨_,rfl,hb1,rfl⟩;have hbx2:=fQ.below hb1 fQ.lt;have hwk2:=ahR.below hb1 ahR.lt;have fZ:=aaT.trans (hb1.mono aaT.size);clear fQ ahR aaT hb1 hWb hWz;dsimp only;generalize aU g.au g.infos.length x=er at *;by_cases he:er=0
   ·subst he;go_wp2
    go_roundw
    case rel=>exact⟨k+1,byOmega,by go_num,hbx2,hwk2,fZ,by rw[HV2.out]; simp⟩
    case measure=>simp[intOf]; omega
   ·refine zbI ?_;intro hd;have HF:=Ac (show qA g=er by rw[HE.out,HV2.out]; simp[he]);have HNZ:=Ac he;clear he;go_wp2
    go_ret2;exact⟨_,rfl,fZ,.pointer none,by rw[HF.out]; rfl,by rw[HF.out]; intro h; exact absurd h HNZ.out⟩
  ·have HE2:=Ac (show qA g=if (walkT g).1≠g.nodes.length then 9 else if 40 < maxL (walkT g).2.d then 5 else iM g by
    rw[HE.out,HV.out,List.drop_eq_nil_of_le byOmega]; simp[cO])
   have HIN:=Ac (kV (g:=g) (by rw[HV.out,List.drop_eq_nil_of_le byOmega]; rfl));have hbl:=hbx.lt;have hwl:=hwk.lt;go_upto_region 11 with fail
   go_cut [] from 53 to 73 (fun wx=>∃ bp bd bl,Bq wx (w.heap.size+1) bp bd bl g.au (some ⟨b,o,none⟩) g.nodes.length c Ai g.infos.length ci ⟨List.replicate g.nodes.length 0,List.replicate g.nodes.length 0,List.replicate g.nodes.length 0⟩∧Row wx w.heap.size 25 [.int .i64 g.au,.slice (some ⟨b,o,none⟩) g.nodes.length c,.slice Ai g.infos.length ci]∧Below w.heap.size w wx∧w.heap.size+1 < bp∧w.heap.size+1 < bd∧w.heap.size+1 < bl∧bp≠bd∧bp≠bl∧bd≠bl)
   case first =>
    refine wp_region_held_drew (S:=fun w'=>w'.cell? ⟨w.heap.size,1,none⟩=some (.slice (some ⟨b,o,none⟩) g.nodes.length c)) ak (hbx.cell rfl) (fun hHeld=>?_);refine tkm [0,1,2,3,4,5,7,8,9,11,12,13] ?_;obtain⟨w0,hw0⟩:=named wr.drew;have hbx0:Row w0 _ _ _:=hw0▸hbx.drew;have hwk0:Row w0 _ _ _:=hw0▸hwk.drew;have hB0:Below w.heap.size w w0:=hw0▸hbel.drew;rw[← hw0] at hHeld ⊢;clear hw0 hbx hwk hbel hwl hbl;have hz0:=hwk0.lt;refine qX (js:=[6,10,14,15,16,17,18,19,20,21,22,23]) (ac8 w w0.heap.size w.heap.size g.au (.slice (some ⟨b,o,none⟩) g.nodes.length c) (.slice Ai g.infos.length ci)) (fB w0.heap.size (w.heap.size+1) g.nodes.length g.au (.slice (some ⟨b,o,none⟩) g.nodes.length c) (.slice Ai g.infos.length ci)) ak ak ⟨Nat.le_refl _,hB0,hbx0,_,_,_,hwk0⟩ (fun _ h=>h.2.2.1.cell rfl) (afY _ _ _ _ _ _) (fun j hj E e _ w' hE hu hn hf hA hS hG=>abz j hj hE hn hf hS hz0 hG) ?_;refine AO.cons (o:=_) rfl (fun wk hS hf K hK=>?_) (fun v6=>?_)
    ·exact Z4
    refine Zc ?_;refine AO.cons (o:=_) rfl (fun wk hS hf K hK=>?_) (fun v10=>?_)
    ·exact Z4
    refine Zc ?_;refine AO.cons (o:=_) rfl (fun wk hS hf K hK=>?_) (fun v14=>?_)
    ·exact Z4
    refine Zc ?_;refine AO.cons (o:=_) rfl (fun wk hS hf K hK=>?_) (fun v15=>?_)
    ·go_simp;exact YQ
    refine Zc ?_;refine AO.cons (o:=_) rfl (fun wk hS hf K hK=>?_) (fun v16=>?_)
    ·have f15:Hold.p (Hold.eq (.pointer (some ⟨w.heap.size+1,0,none⟩)) v15) wk:=hf 15 ay ak;obtain rfl:v15=_:=f15;go_simp;exact YQ
    refine Zc ?_;refine AO.cons (o:=_) rfl (fun wk hS hf K hK=>?_) (fun v17=>?_)
    ·have f16:Hold.p (Hold.eq (.pointer (some ⟨w.heap.size+1,3,none⟩)) v16) wk:=hf 16 ay ak;have f6:Hold.p (Hold.made w0.heap.size 3 g.nodes.length (List.replicate g.nodes.length (.int .i64 0)) v6) wk:=hf 6 ay ak;obtain rfl:v16=_:=f16;obtain⟨b6,rfl,g6,r6⟩:=f6;obtain⟨_,_,_,x,y,z,hr⟩:=hS;have yy:=hr.cell (i:=3) rfl;have ff:=hr.frozen 3;go_simp;exact hK.out undef (wk.setCell ⟨w.heap.size+1,3,none⟩ (.slice (some ⟨b6,0,none⟩) g.nodes.length g.nodes.length)) ⟨rfl,⟨_,_,hr.set 3 _⟩,fun h=>(by simp[fB] at h)⟩
    refine Zc ?_;refine AO.cons (o:=_) rfl (fun wk hS hf K hK=>?_) (fun v18=>?_)
    ·go_simp;exact YQ
    refine Zc ?_;refine AO.cons (o:=_) rfl (fun wk hS hf K hK=>?_) (fun v19=>?_)
    ·have f18:Hold.p (Hold.eq (.pointer (some ⟨w.heap.size+1,0,none⟩)) v18) wk:=hf 18 ay ak;obtain rfl:v18=_:=f18;go_simp;exact YQ
    refine Zc ?_;refine AO.cons (o:=_) rfl (fun wk hS hf K hK=>?_) (fun v20=>?_)
    ·have f19:Hold.p (Hold.eq (.pointer (some ⟨w.heap.size+1,4,none⟩)) v19) wk:=hf 19 ay ak;have f10:Hold.p (Hold.made w0.heap.size 3 g.nodes.length (List.replicate g.nodes.length (.int .i64 0)) v10) wk:=hf 10 ay ak;have f17:Hold.p (sU (w.heap.size+1) g.au (.slice (some ⟨b,o,none⟩) g.nodes.length c) (.slice Ai g.infos.length ci) v6) wk:=hf 17 ay ak;obtain rfl:v19=_:=f19;obtain⟨b10,rfl,g10,r10⟩:=f10;obtain⟨y,z,hr⟩:=f17;have yy:=hr.cell (i:=4) rfl;have ff:=hr.frozen 4;go_simp;exact hK.out undef (wk.setCell ⟨w.heap.size+1,4,none⟩ (.slice (some ⟨b10,0,none⟩) g.nodes.length g.nodes.length)) ⟨rfl,⟨_,hr.set 4 _⟩,fun h=>(by simp[fB] at h)⟩
    refine Zc ?_;refine AO.cons (o:=_) rfl (fun wk hS hf K hK=>?_) (fun v21=>?_)
    ·go_simp;exact YQ
    refine Zc ?_;refine AO.cons (o:=_) rfl (fun wk hS hf K hK=>?_) (fun v22=>?_)
    ·have f21:Hold.p (Hold.eq (.pointer (some ⟨w.heap.size+1,0,none⟩)) v21) wk:=hf 21 ay ak;obtain rfl:v21=_:=f21;go_simp;exact YQ
    refine Zc ?_;refine AO.cons (o:=_) rfl (fun wk hS hf K hK=>?_) (fun v23=>?_)
    ·have f22:Hold.p (Hold.eq (.pointer (some ⟨w.heap.size+1,5,none⟩)) v22) wk:=hf 22 ay ak;have f14:Hold.p (Hold.made w0.heap.size 3 g.nodes.length (List.replicate g.nodes.length (.int .i64 0)) v14) wk:=hf 14 ay ak;have f20:Hold.p (sV (w.heap.size+1) g.au (.slice (some ⟨b,o,none⟩) g.nodes.length c) (.slice Ai g.infos.length ci) v6 v10) wk:=hf 20 ay ak;obtain rfl:v22=_:=f22;obtain⟨b14,rfl,g14,r14⟩:=f14;obtain⟨z,hr⟩:=f20;have yy:=hr.cell (i:=5) rfl;have ff:=hr.frozen 5;go_simp;exact hK.out undef (wk.setCell ⟨w.heap.size+1,5,none⟩ (.slice (some ⟨b14,0,none⟩) g.nodes.length g.nodes.length)) ⟨rfl,hr.set 5 _,fun h=>(by simp[fB] at h)⟩
    refine Zc ?_;refine AO.nil (fun wE hS hf hA=>?_);have f6:Hold.p (Hold.made w0.heap.size 3 g.nodes.length (List.replicate g.nodes.length (.int .i64 0)) v6) wE:=hf 6 ay;have f10:Hold.p (Hold.made w0.heap.size 3 g.nodes.length (List.replicate g.nodes.length (.int .i64 0)) v10) wE:=hf 10 ay;have f14:Hold.p (Hold.made w0.heap.size 3 g.nodes.length (List.replicate g.nodes.length (.int .i64 0)) v14) wE:=hf 14 ay;have f17:Hold.p (sU (w.heap.size+1) g.au (.slice (some ⟨b,o,none⟩) g.nodes.length c) (.slice Ai g.infos.length ci) v6) wE:=hf 17 ay;have f20:Hold.p (sV (w.heap.size+1) g.au (.slice (some ⟨b,o,none⟩) g.nodes.length c) (.slice Ai g.infos.length ci) v6 v10) wE:=hf 20 ay;have f23:Hold.p (xE (w.heap.size+1) g.au (.slice (some ⟨b,o,none⟩) g.nodes.length c) (.slice Ai g.infos.length ci) v6 v10 v14) wE:=hf 23 ay;obtain⟨b6,rfl,g6,r6⟩:=f6;obtain⟨b10,rfl,g10,r10⟩:=f10;obtain⟨b14,rfl,g14,r14⟩:=f14;have rw6:Row wE (w.heap.size+1) _ _:=f23;have alW:=jM hA (i:=6) (k:=10) ay ay (by simp[fB]) (by simp[fB]) aA rfl rfl;have alX:=jM hA (i:=6) (k:=14) ay ay (by simp[fB]) (by simp[fB]) aA rfl rfl;have alm:=jM hA (i:=10) (k:=14) ay ay (by simp[fB]) (by simp[fB]) aA rfl rfl;obtain⟨hzE,hBE,aey,_⟩:=hS;have HR:=Ac (show Bq wE (w.heap.size+1) b6 b10 b14 g.au (some ⟨b,o,none⟩) g.nodes.length c Ai g.infos.length ci ⟨List.replicate g.nodes.length 0,List.replicate g.nodes.length 0,List.replicate g.nodes.length 0⟩ from⟨rw6,by simpa [dX] using r6,by simpa [dX] using r10,by simpa [dX] using r14⟩);have HBX:=Ac (And.intro aey hBE);clear hHeld hbx0 hwk0 hB0 hf hA aey hBE r6 r10 r14 rw6 f17 f20 f23;go_wp2_with fail
    go_meet
    exact⟨b6,b10,b14,HR.out,HBX.out.1,HBX.out.2,byOmega,byOmega,byOmega,alW,alX,alm⟩
   case rest =>
    obtain⟨bp,bd,bl,hwa,mF,bW,z1,z2,z3,z4,z5,z6⟩:=hcut;clear hbx hwk hbel;have ala:=mF.lt;have x1:=mF.cell (i:=1) rfl;have HNO:=Ac (show AP w F (.slice (some ⟨b,o,none⟩) g.nodes.length c) g.nodes from⟨_,_,rfl,hc,HN.out⟩);have HIO:=Ac (show A8 w F (.slice Ai g.infos.length ci) g.infos from⟨_,_,rfl,hci,HI.out⟩);have HWA:=Ac hwa;clear hwa;have HG':=Ac (show ∀ k,(F k∧k < w.heap.size)→k≠bp∧k≠bd∧k≠bl from fun k hk=>by omega);go_wp2_with fail
    refine(ahz g HS.out (w.heap.size+1) bp bd bl b o c Ai ci ⟨byOmega,byOmega,byOmega,z4,z5,z6⟩ hc (fun k=>F k∧k < w.heap.size) HG'.out (g.nodes.length+1) 0 (-1) 0 _ wc _ ⟨some ⟨b,o,none⟩,ay,fun _=>by simp⟩ ⟨ay,ay,ay⟩ (fun _=>HNO.out.keep (fun k hk hl=>⟨hk,hl⟩) (Below.same' bW F)) HWA.out byOmega byOmega byOmega byOmega).mono ?_;rintro e w2 ⟨vr,rfl,hrest,aln,hwr2⟩;have alo:=pU g.nodes (g.nodes.length+1) 0 (-1) 0 ⟨List.replicate g.nodes.length 0,List.replicate g.nodes.length 0,List.replicate g.nodes.length 0⟩;refine Y3 ?_;intro hlen hT;rw[← hT] at hrest aln alo hlen ⊢;clear hT;have hB2:Below w.heap.size w w2:=Wrote.below bW hwr2 (fun k hk=>by omega) bW.size;have hbx2:=mF.wrote hwr2 byOmega;clear bW hwr2 mF x1 HWA;obtain⟨T,hTT⟩:=named (walkT g);have HT:=Ac (show Bq w2 (w.heap.size+1) bp bd bl g.au (some ⟨b,o,none⟩) g.nodes.length c Ai g.infos.length ci (walkT g).2 from aln);clear aln;have HLN:=Ac hlen;clear hlen;rw[← hTT] at hrest alo HE2 ⊢;have HTT:=Ac hTT;clear hTT;obtain⟨rn,td⟩:=T;dsimp only at hrest alo HE2 ⊢;by_cases hng:rn < 0
    ·have HF:=Ac (show qA g=9 by rw[HE2.out,if_pos byOmega]);have hdn:decide (0≤rn)=false:=decide_eq_false byOmega;clear hrest;go_wp2
     go_ret2;exact zdc
    ·obtain⟨q,rfl⟩:=Int.eq_ofNat_of_zero_le (show 0≤rn by omega);obtain⟨A',rfl,hA'⟩:=hrest byOmega;simp only[Int.toNat_natCast] at hA' ⊢;have hdn:decide (0≤(q:Int))=true:=decide_eq_true byOmega;by_cases hqn:q=g.nodes.length
     ·subst hqn;have HF:=Ac (show qA g=if 40 < maxL td.d then 5 else iM g by rw[HE2.out,if_neg ay]);have hz:g.nodes.length - g.nodes.length=0:=byOmega;rw[hz];have ht2:td=(walkT g).2:=by rw[← HTT.out]
      have x4:=HT.out.head.cell (i:=4) rfl;clear hA' hz;go_wp2_with fail
      have hdl:td.d.length=g.nodes.length:=by rw[ht2];exact HLN.out.d
      have HID:=Ac (show Ah w2 (fun k=>k=bd) (.slice (some ⟨bd,0,none⟩) g.nodes.length g.nodes.length) td.d by
       have:=Row.ints (F:=fun k=>k=bd) (show Row w2 bd 3 (td.d.map (Value.int .i64)) by rw[ht2]; exact HT.out.rd) rfl (c:=g.nodes.length) byOmega;rwa [hdl] at this)
      have HT2:=Ac ht2;clear ht2;refine(aj7 w2 (fun k=>k=bd) _ td.d HID.out byOmega byOmega).mono ?_;rintro e w3 ⟨rfl,rfl⟩;dsimp only;generalize maxL td.d=mx at *;by_cases hmx:40 < mx
      ·have HF2:=Ac (show qA g=5 by rw[HF.out,if_pos hmx]);go_wp2
       go_ret2;exact⟨_,rfl,hB2,.pointer none,by rw[HF2.out]; rfl,by rw[HF2.out]; intro h; simp at h⟩
      ·have HF2:=Ac (show qA g=iM g by rw[HF.out,if_neg hmx]);have hdm:decide (40 < mx)=false:=decide_eq_false hmx;clear hmx;go_wp2_with fail
       refine(ahA w3 F (w.heap.size+1) g _ _ _ _ (HT.out.head.cell rfl) (HT.out.head.cell rfl) HT.out.head.lt (HNO.out.on (Below.same' hB2 F)) (HIO.out.on (Below.same' hB2 F)) HS.out HIN.out byOmega).mono ?_;rintro e w4 ⟨_,rfl,hb4,rfl⟩;dsimp only;go_wp2
       go_ret2;refine⟨_,rfl,hB2.trans (hb4.mono hB2.size),.pointer (some ⟨w.heap.size+1,0,none⟩),by rw[HF2.out]; rfl,fun _=>?_⟩;have h:=HT.out;exact⟨w.heap.size+1,bp,bd,bl,_,_,_,_,rfl,rfl,⟨h.head.below hb4 h.head.lt,h.rp.below hb4 h.rp.lt,h.rd.below hb4 h.rd.lt,h.rl.below hb4 h.rl.lt⟩,byOmega,byOmega,byOmega,byOmega⟩
     ·have HF:=Ac (show qA g=9 by rw[HE2.out,if_pos byOmega]);have hdg:(0:Int) < ((g.nodes.length - q:Nat):Int):=byOmega;clear hqn;go_wp2
      go_ret2;exact zdc
theorem acg (w:World) (F:Ag) (u:Value) (g:Gm) (hg:AB w F u g) (hsm:Small g) :
  Calls Tryz.prog 70 #[u] w (Ret w fun v _=>v = .int .i64 (qA g)):=by
 have HG:=Ac hg;obtain⟨vn,vi,rfl,⟨A,c,rfl,hc,hN⟩,⟨Ai,ci,rfl,hci,hI⟩⟩:=hg;clear hN hI;have HS:=Ac hsm;clear hsm;go_in;go_wp2_with fail
 refine(afZ _ F _ g (HG.out.on (Same.alloc _ _ _)) HS.out).mono ?_;rintro e w1 ⟨v,rfl,hb1,vp,rfl,hv⟩;clear hv;refine Ya ?_;intro hB;dsimp only;exact zc3
def mv (nodes:List Nd) (s i:Nat):Bool:=match nodes[i]? with | some n=>decide (n.kind=2)&&decide (n.info.toNat=s) | none=>false
def bQ (nodes:List Nd) (s k:Nat):List Int:=((List.range k).filter (mv nodes s)).map fun i:Nat=>(i:Int)
theorem aaU (nodes:List Nd) (s k:Nat):bQ nodes s (k+1)=bQ nodes s k++(if mv nodes s k then [(k:Int)] else []):=by
 unfold bQ;rw[List.range_succ,List.filter_append,List.map_append];cases h:mv nodes s k <;> simp[h]
theorem af0 (nodes:List Nd) (ni:Nat) (hin:∀ n∈nodes,n.kind=2→0≤n.info∧n.info < (ni:Int)) (k:Nat):∀ s,s < ni→(eG nodes ni k)[s]? = some (bQ nodes s k):=by
 induction k with
 | zero=>intro s hs; simp[eG,bQ,hs]
 | succ k ih =>
  intro s hs;rw[aaU];cases hn:nodes[k]? with
  | none =>
   have:mv nodes s k=false:=by simp[mv,hn]
   rw[this];simp only[eG,hn];rw[ih s hs];simp
  | some n =>
   by_cases hk:n.kind=2
   ·have hb:=hin n (List.mem_of_getElem? hn) hk;have hlt:n.info.toNat < ni:=byOmega;rw[su hn hk (ih _ hlt)];by_cases he:n.info.toNat=s
    ·subst he;have:mv nodes n.info.toNat k=true:=by simp[mv,hn,hk]
     rw[this,List.getElem?_set_self (by rw[bC]; exact hlt)];simp
    ·have:mv nodes s k=false:=by simp[mv,hn,he]
     rw[this,List.getElem?_set_ne he,ih s hs];simp
   ·have:mv nodes s k=false:=by simp[mv,hn,hk]
    rw[sF hn hk,this,ih s hs];simp
theorem fM {g:Gm} (hin:Bg g) {s:Nat} (hs:s < g.infos.length):(aW g)[s]? = some (bQ g.nodes s g.nodes.length):=af0 g.nodes g.infos.length hin _ s hs
theorem gq {nodes:List Nd} {s k:Nat} {x:Int}:x∈bQ nodes s k↔∃ i:Nat,x=i∧i < k∧mv nodes s i=true:=by
 unfold bQ;simp only[List.mem_map,List.mem_filter,List.mem_range];constructor
 ·rintro⟨i,⟨h1,h2⟩,rfl⟩;exact⟨i,rfl,h1,h2⟩
 ·rintro⟨i,rfl,h1,h2⟩;exact⟨i,⟨h1,h2⟩,rfl⟩
theorem aez (nodes:List Nd) (ni:Nat) (hin:∀ n∈nodes,n.kind=2→0≤n.info∧n.info < (ni:Int)) (m:Nat):∀ k,k+m=nodes.length→∀ s,s < ni →
  (iJ (nodes.drop k) k (List.replicate ni 0))[s]? = some (match (List.range' k m).find? (mv nodes s) with | some i=>(i:Int)+1 | none=>0):=by
 induction m with
 | zero =>
  intro k hk s hs;rw[List.drop_eq_nil_of_le byOmega];simp[iJ,hs]
 | succ m ih =>
  intro k hk s hs;obtain⟨n,hn⟩:=aC (l:=nodes) (k:=k) byOmega;rw[xg hn];have hr:List.range' k (m+1)=k :: List.range' (k+1) m:=by rw[List.range'_succ]
  rw[hr,List.find?_cons];by_cases hkd:n.kind=2
  ·have hb:=hin n (List.mem_of_getElem? hn) hkd;rw[if_pos hkd];by_cases he:n.info.toNat=s
   ·subst he;have:mv nodes n.info.toNat k=true:=by simp[mv,hn,hkd]
    rw[this,List.getElem?_set_self (by rw[jf]; simp; omega)]
   ·have:mv nodes s k=false:=by simp[mv,hn,he]
    rw[this,List.getElem?_set_ne he];exact ih (k+1) byOmega s hs
  ·have:mv nodes s k=false:=by simp[mv,hn,hkd]
   rw[if_neg hkd,this];exact ih (k+1) byOmega s hs
theorem kE {g:Gm} (hin:Bg g) {s:Nat} (hs:s < g.infos.length):(gI g)[s]? = some (match bQ g.nodes s g.nodes.length with | []=>0 | x :: _=>x+1):=by
 have h:=aez g.nodes g.infos.length hin g.nodes.length 0 byOmega s hs;unfold gI;rw[List.drop_zero] at h;rw[h];congr 1;unfold bQ;rw[← List.range_eq_range',← List.head?_filter];cases (List.range g.nodes.length).filter (mv g.nodes s) <;> simp
theorem zG (g:Gm):(gI g).length=g.infos.length:=by unfold gI; rw[jf]; simp
theorem af2 {g:Gm} (hin:Bg g):iM g=jm g:=by
 unfold iM jm;have hl:(aW g).length=g.infos.length:=bC _ _ _;have hfl:=zG g;have h1:(gI g).contains 0=jc (aW g):=by
  rw[Bool.eq_iff_iff];unfold jc;rw[List.any_eq_true,List.contains_iff_exists_mem_beq];constructor
  ·rintro⟨x,hx,h0⟩;obtain⟨s,hs⟩:=List.getElem?_of_mem hx;have hlt:s < g.infos.length:=by rw[← hfl];exact aI hs
   have:=kE hin hlt;rw[hs] at this;refine⟨_,List.mem_of_getElem? (fM hin hlt),?_⟩;have hx0:x=0:=by simpa using (beq_iff_eq.1 h0).symm
   subst hx0;cases hm:bQ g.nodes s g.nodes.length with
   | nil=>rfl
   | cons y l =>
    exfalso
    rw[hm] at this;have hy:y∈bQ g.nodes s g.nodes.length:=by rw[hm];simp
    obtain⟨i,rfl,_⟩:=gq.1 hy;simp at this;omega
  ·rintro⟨l,hl',h0⟩;obtain⟨s,hs⟩:=List.getElem?_of_mem hl';have hlt:s < g.infos.length:=by rw[← hl];exact aI hs
   have h2:=fM hin hlt;rw[hs] at h2;cases h2;have h3:=kE hin hlt;have hnil:bQ g.nodes s g.nodes.length = []:=List.eq_nil_of_length_eq_zero (by simpa using h0);rw[hnil] at h3;exact⟨0,List.mem_of_getElem? h3,ay⟩
 rw[h1];split
 ·rfl
 ·cases hn:jc (aW g) with
  | true=>rfl
  | false =>
   have hne:∀ s,s < g.infos.length→∃ x l,bQ g.nodes s g.nodes.length=x :: l:=by
    intro s hs;have:=List.any_eq_false.1 hn _ (List.mem_of_getElem? (fM hin hs));cases hm:bQ g.nodes s g.nodes.length with
    | nil=>rw[hm] at this; simp at this
    | cons x l=>exact⟨x,l,rfl⟩
   have h2:gW (gI g) = !dI (aW g) g.infos.length:=by
    rw[Bool.eq_iff_iff,adQ,Bool.not_eq_true',dI,List.any_eq_false];constructor
    ·intro h i hi;rw[List.mem_range'_1] at hi;obtain⟨x,l,hx⟩:=hne (i - 1) byOmega;obtain⟨y,l',hy⟩:=hne i byOmega;have f1:=kE hin (s:=i - 1) byOmega;have f2:=kE hin (s:=i) byOmega;rw[hx] at f1;rw[hy] at f2;have:=h (i - 1) _ _ f1 (by rw[show i - 1+1=i by omega]; exact f2);have s1:=fM hin (s:=i - 1) byOmega;have s2:=fM hin (s:=i) byOmega;rw[hx] at s1;rw[hy] at s2;simp[iT,List.getD_eq_getElem?_getD,s1,s2];simp at this;exact this
    ·intro h k x y hx hy;have hk1:k+1 < g.infos.length:=by rw[← hfl];exact aI hy
     have:=h (k+1) (by rw[List.mem_range'_1]; omega);obtain⟨x',l,hx'⟩:=hne k byOmega;obtain⟨y',l',hy'⟩:=hne (k+1) byOmega;have f1:=kE hin (s:=k) byOmega;have f2:=kE hin (s:=k+1) byOmega;rw[hx'] at f1;rw[hy'] at f2;have s1:=fM hin (s:=k) byOmega;have s2:=fM hin (s:=k+1) byOmega;rw[hx'] at s1;rw[hy'] at s2;rw[hx] at f1;rw[hy] at f2;cases f1;cases f2;simp[iT,List.getD_eq_getElem?_getD,s1,s2] at this;simpa using this
   rw[h2];cases dI (aW g) g.infos.length <;> rfl
structure Deep (a:Nat) (r:Int) (d d':List Int) (deep deep':Int):Prop where
 out:∀ i:Nat,i < a∨r≤(i:Int)→d'[i]? = d[i]?
 le:deep≤deep'
 below:∀ (i:Nat) x,a≤i→(i:Int) < r→d'[i]? = some x→x≤deep'
 hit:deep'=deep∨∃ (i:Nat),a≤i∧(i:Int) < r∧d'[i]? = some deep'
theorem Deep.refl (a:Nat) (d:List Int) (deep:Int):Deep a a d d deep deep:=⟨fun _ _=>rfl,byOmega,fun i x h1 h2=>by omega,.inl rfl⟩
theorem Deep.trans {a m:Nat} {r:Int} {d d' d'':List Int} {x y z:Int} (ham:a≤m) (hmr:(m:Int)≤r) (h:Deep a m d d' x y) (k:Deep m r d' d'' y z):Deep a r d d'' x z:=by
 refine⟨fun i hi=>?_,Int.le_trans h.le k.le,fun i v h1 h2 hv=>?_,?_⟩
 ·rw[k.out i byOmega,h.out i byOmega]
 ·by_cases hm:i < m
  ·rw[k.out i (.inl hm)] at hv;exact Int.le_trans (h.below i v h1 byOmega hv) k.le
  ·exact k.below i v byOmega h2 hv
 ·rcases k.hit with e | ⟨i,h1,h2,h3⟩
  ·rcases h.hit with e' | ⟨i,h1,h2,h3⟩
   ·left; omega
   ·right; exact⟨i,h1,byOmega,by rw[k.out i (.inl byOmega),h3,e]⟩
  ·right; exact⟨i,byOmega,h2,h3⟩
theorem ach {N:Nat} {rec:Nat→Tri→Int×Tri} {rec':Nat→Int→Int×Int} (hlen:∀ a t,Tri.Len N t→Tri.Len N (rec a t).2)
  (hb:∀ a t,(rec a t).1 = -1∨((a:Int) < (rec a t).1∧(rec a t).1≤N)) (hs:∀ a t d,(rec a t).1=(rec' a d).1)
  (hrec:∀ a t deep,a < N→Tri.Len N t→0≤(rec a t).1→Deep a (rec a t).1 t.d (rec a t).2.d deep (rec' a deep).2) :
  ∀ (cs:List Int) (x:Nat) (t:Tri) (deep:Int),x≤N→Tri.Len N t→0≤(gQ rec cs x t).1→(x:Int)≤(gQ rec cs x t).1∧Deep x (gQ rec cs x t).1 t.d (gQ rec cs x t).2.d deep (bJ rec' cs x deep).2
 | [],x,t,deep,_,_,_=>⟨by simp[gQ],by simpa [gQ,bJ] using Deep.refl x t.d deep⟩
 | c :: cs,x,t,deep,hx,ht,h=>by
  unfold gQ at h ⊢;unfold bJ;by_cases hc:c=x
  ·subst hc;simp only[ne_eq,not_true_eq_false,↓reduceIte,Int.toNat_natCast] at h ⊢;rw[← hs x t deep];by_cases hng:(rec x t).1 < 0
   ·rw[if_pos hng] at h; simp at h
   ·rw[if_neg hng] at h ⊢;rw[if_neg hng];rcases hb x t with hb1 | hb1
    ·omega
    ·have hr:=hrec x t deep byOmega ht byOmega;obtain⟨m,hm⟩:=Int.eq_ofNat_of_zero_le (show 0≤(rec x t).1 by omega);rw[hm] at h hr ⊢;rw[hm] at hb1;have ih:=ach hlen hb hs hrec cs m (rec x t).2 (rec' x deep).2 byOmega (hlen x t ht) h;exact⟨byOmega,hr.trans byOmega ih.1 ih.2⟩
  ·rw[if_pos hc] at h; simp at h
theorem yG (nodes:List Nd):∀ (f a:Nat) (par dep:Int) (t:Tri) (deep:Int),Tri.Len nodes.length t→0≤(dB nodes f a par dep t).1 →
  Deep a (dB nodes f a par dep t).1 t.d (dB nodes f a par dep t).2.d deep (bK nodes f a dep deep).2
 | 0,_,_,_,_,_,_,h=>by simp[dB] at h
 | f+1,a,par,dep,t,deep,ht,h=>by
  unfold dB at h ⊢;unfold bK;cases hn:nodes[a]? with
  | none=>rw[hn] at h; simp at h
  | some n =>
   rw[hn] at h;simp only at h ⊢;have ha:=aI hn;have hk:=ach (N:=nodes.length) (rec:=fun a' t=>dB nodes f a' a (dep+1) t) (rec':=fun a' d=>bK nodes f a' (dep+1) d)
    (fun a' t h=>oG nodes f a' a (dep+1) t h) (fun a' t=>pU nodes f a' a (dep+1) t) (fun a' t d=>uo nodes f a' a (dep+1) t d)
    (fun a' t d _ ht h=>yG nodes f a' a (dep+1) t d ht h) n.next (a+1) ⟨t.p.set a par,t.d.set a dep,t.l⟩ (max deep dep) byOmega ⟨by simp[ht.p],by simp[ht.d],ht.l⟩
   simp only[Int.natCast_add,Int.cast_ofNat_Int] at hk;by_cases hng:(gQ (fun a' t=>dB nodes f a' a (dep+1) t) n.next ((a:Int)+1) ⟨t.p.set a par,t.d.set a dep,t.l⟩).1 < 0
   ·rw[if_pos hng] at h; omega
   ·rw[if_neg hng] at h ⊢;obtain⟨h1,h2⟩:=hk byOmega;have h0:Deep a ((a+1:Nat):Int) t.d (t.d.set a dep) deep (max deep dep):=by
     refine⟨fun i hi=>List.getElem?_set_ne byOmega,byOmega,fun i x h1 h2 hx=>?_,?_⟩
     ·have:i=a:=byOmega;subst this;rw[List.getElem?_set_self (by rw[ht.d]; exact ha)] at hx;cases hx;omega
     ·by_cases hd:dep≤deep
      ·left; omega
      ·right; exact⟨a,byOmega,byOmega,by rw[List.getElem?_set_self (by rw[ht.d]; exact ha)]; congr 1; omega⟩
    exact h0.trans byOmega (by simpa using h1) (by simpa using h2)
theorem af4 (l:List Int) (a:Int):a≤l.foldl max a∧∀ x∈l,x≤l.foldl max a:=by
 induction l generalizing a with
 | nil=>simp
 | cons y l ih =>
  obtain⟨h1,h2⟩:=ih (max a y);simp only[List.foldl_cons];refine⟨byOmega,fun x hx=>?_⟩;rcases List.mem_cons.1 hx with rfl | hx
  ·omega
  ·exact h2 x hx
theorem aeA (l:List Int) (a:Int):l.foldl max a=a∨l.foldl max a∈l:=by
 induction l generalizing a with
 | nil=>simp
 | cons y l ih =>
  simp only[List.foldl_cons];rcases ih (max a y) with h | h
  ·rw[h];by_cases hay:y≤a
   ·left; omega
   ·right; rw[show max a y=y by omega]; simp
  ·right; exact List.mem_cons_of_mem _ h
theorem ahS {l:List Int} {m:Int} (hm:m∈l) (hb:∀ x∈l,x≤m):maxL l=m:=by
 cases l with
 | nil=>cases hm
 | cons y l =>
  unfold maxL;have h1:=af4 l y;have h2:=aeA l y;have h3:m≤l.foldl max y:=by
   rcases List.mem_cons.1 hm with rfl | h
   ·exact h1.1
   ·exact h1.2 m h
  have h4:l.foldl max y≤m:=by
   rcases h2 with h | h
   ·rw[h];exact hb y ay
   ·exact hb _ (List.mem_cons_of_mem _ h)
  show l.foldl max y=m;omega
theorem ag0 (g:Gm):qA g=bF g:=by
 unfold qA bF;have hw:(walkT g).1=(bK g.nodes (g.nodes.length+1) 0 0 0).1:=uo _ _ _ _ _ _ _;split
 ·rfl
 ·rename_i hsz
  split
  ·rfl
  ·rename_i hne
   rw[hw];split
   ·rfl
   ·rename_i hN
    have hin:Bg g:=kV (by simpa using hne);have hp:0 < g.nodes.length:=by unfold iq at hsz;omega
    have hd:=yG g.nodes (g.nodes.length+1) 0 (-1) 0 ⟨List.replicate g.nodes.length 0,List.replicate g.nodes.length 0,List.replicate g.nodes.length 0⟩ (-1) ⟨ay,ay,ay⟩;have hd0:=yG g.nodes (g.nodes.length+1) 0 (-1) 0 ⟨List.replicate g.nodes.length 0,List.replicate g.nodes.length 0,List.replicate g.nodes.length 0⟩ 0 ⟨ay,ay,ay⟩;have hee:bK g.nodes (g.nodes.length+1) 0 0 (-1)=bK g.nodes (g.nodes.length+1) 0 0 0:=by
     obtain⟨n0,hn0⟩:=aC hp;unfold bK;rw[hn0];rfl
    rw[hee] at hd;refine Y3 ?_;intro hlen hT;rw[← hT] at hd hd0 hlen;have hN':(walkT g).1=(g.nodes.length:Int):=by rw[hw];simpa using hN
    rw[hN'] at hd hd0;have hd:=hd byOmega;have hle:=(hd0 byOmega).le;clear hd0;have hmax:maxL (walkT g).2.d=(bK g.nodes (g.nodes.length+1) 0 0 0).2:=by
     generalize (bK g.nodes (g.nodes.length+1) 0 0 0).2=mx at hd hle;have hb:∀ x∈(walkT g).2.d,x≤mx:=by
      intro x hx;obtain⟨i,hi⟩:=List.getElem?_of_mem hx;exact hd.below i x byOmega (by have:=aI hi; rw[hlen.d] at this; omega) hi
     rcases hd.hit with e | ⟨i,_,_,hi⟩
     ·omega
     ·exact ahS (List.mem_of_getElem? hi) hb
    rw[hmax,af2 hin]
def Bz (w:World) (F:Ag) (v:Value) (g:Gm) (par last:List Int) (sets:List (List Int)):Prop :=
 ∃ vn vi vp vl vs,v = .agg #[.int .i64 g.au,vn,vi,vp,vl,vs]∧AP w F vn g.nodes∧A8 w F vi g.infos∧Ah w F vp par∧Ah w F vl last∧Bc w F vs sets
theorem Bz.keep {w w':World} {F G:Ag} {v:Value} {g:Gm} {par last:List Int} {sets:List (List Int)} (h:Bz w F v g par last sets) (hFG:∀ b,F b→b < w.heap.size→G b) (hs:Same F w w'):Bz w' G v g par last sets:=by
 obtain⟨vn,vi,vp,vl,vs,rfl,h1,h2,h3,h4,h5⟩:=h;exact⟨vn,vi,vp,vl,vs,rfl,h1.keep hFG hs,h2.keep hFG hs,h3.keep hFG hs,h4.keep hFG hs,h5.keep hFG hs⟩
theorem Bz.on {w w':World} {F:Ag} {v:Value} {g:Gm} {par last:List Int} {sets:List (List Int)} (h:Bz w F v g par last sets) (hs:Same F w w'):Bz w' F v g par last sets:=h.keep (fun _ h _=>h) hs
def fE (i:Nat) (cs:List Int) (s:List Int×List Int):List Int×List Int:=cs.foldl (fun s c=>(s.1.set c.toNat i,s.2.set i (s.2.getD c.toNat 0))) s
def sW (nodes:List Nd) (i:Nat) (s:List Int×List Int):List Int×List Int:=match nodes[i]? with
 | some n=>fE i n.next (s.1,s.2.set i i)
 | none=>s
def iW (nodes:List Nd):Nat→List Int×List Int
 | 0=>((List.replicate nodes.length 0).set 0 (-1),List.replicate nodes.length 0)
 | m+1=>sW nodes (nodes.length - 1 - m) (iW nodes m)
def aQ (nodes:List Nd):List Int×List Int:=iW nodes nodes.length
theorem abA {l:List Int} {i:Nat} {s:List Int×List Int} {k:Nat} {c:Int} (h:l[k]? = some c):fE i (l.take (k+1)) s=((fE i (l.take k) s).1.set c.toNat i,(fE i (l.take k) s).2.set i ((fE i (l.take k) s).2.getD c.toNat 0)):=by
 rw[take_snoc h];simp[fE,List.foldl_append]
theorem xG {N:Nat} (i:Nat) (l:List Int) (s:List Int×List Int) (h1:s.1.length=N) (h2:s.2.length=N):(fE i l s).1.length=N∧(fE i l s).2.length=N:=by
 unfold fE;induction l generalizing s with
 | nil=>exact⟨h1,h2⟩
 | cons c l ih=>simp only[List.foldl_cons]; exact ih _ (by simp[h1]) (by simp[h2])
theorem fH (nodes:List Nd) (m:Nat):(iW nodes m).1.length=nodes.length∧(iW nodes m).2.length=nodes.length:=by
 induction m with
 | zero=>simp[iW]
 | succ m ih =>
  unfold iW sW;split
  ·exact xG _ _ _ ih.1 (by simp[ih.2])
  ·exact ih
def noView:Value:=.agg #[.int .i64 0,.slice none 0 0,.slice none 0 0,.slice none 0 0,.slice none 0 0,.slice none 0 0]
def Eb (F:Ag) (g:Gm) (B:Nat) (v:Value) (w':World):Prop:=∃ vv,v = .tuple #[vv,.int .i64 (bF g)] ∧
 (bF g≠0→vv=noView)∧(bF g=0→Bz w' (fun b=>F b∨B≤b) vv g (aQ g.nodes).1 (aQ g.nodes).2 (aW g))
theorem aaV {w:World} {b:Nat} {t:TypeId} {a0 a1 a2 a3 a4 a5:Value} (h:Row w b t [a0,a1,a2,a3,a4,a5]) (v0 v1 v2 v3 v4 v5:Value):∃ W,W=((((((w.setCell ⟨b,0,none⟩ v0).setCell ⟨b,1,none⟩ v1).setCell ⟨b,2,none⟩ v2).setCell ⟨b,3,none⟩ v3).setCell ⟨b,4,none⟩ v4).setCell ⟨b,5,none⟩ v5) ∧
  Row W b t [v0,v1,v2,v3,v4,v5]∧Wrote (fun k=>k=b) w W:=by
 refine⟨_,rfl,?_,?_⟩
 ·exact(((((h.set 0 v0).set 1 v1).set 2 v2).set 3 v3).set 4 v4).set 5 v5
 ·exact YH
structure AQ (w:World) (g:Gm) (A:Option Addr) (c:Nat) (Ai:Option Addr) (ci:Nat) (bv bp bl bs:Nat) (s:List Int×List Int) (vs:List Value) (wr:World):Prop where
 box:Row wr w.heap.size 25 [.int .i64 g.au,.slice A g.nodes.length c,.slice Ai g.infos.length ci]
 res:Row wr (w.heap.size+1) 98 [.int .i64 0,.slice none 0 0,.slice none 0 0,.slice none 0 0,.slice none 0 0,.slice none 0 0]
 view:Row wr bv 98 [.int .i64 g.au,.slice A g.nodes.length c,.slice Ai g.infos.length ci,.slice (some ⟨bp,0,none⟩) g.nodes.length g.nodes.length,.slice (some ⟨bl,0,none⟩) g.nodes.length g.nodes.length,.slice (some ⟨bs,0,none⟩) g.infos.length g.infos.length]
 rp:Row wr bp 3 (dX s.1)
 rl:Row wr bl 3 (dX s.2)
 rs:Row wr bs 26 vs
 bel:Below w.heap.size w wr
structure ApartL (B bv bp bl bs:Nat):Prop where
 v:B+1 < bv
 p:B+1 < bp
 l:B+1 < bl
 s:B+1 < bs
 vp:bv≠bp
 vl:bv≠bl
 vs:bv≠bs
 pl:bp≠bl
 ps:bp≠bs
 ls:bl≠bs
section
variable {w:World} {g:Gm} {A:Option Addr} {c:Nat} {Ai:Option Addr} {ci:Nat} {bv bp bl bs:Nat} {s:List Int×List Int} {vs:List Value} {wr wr':World}
theorem AQ.below (h:AQ w g A c Ai ci bv bp bl bs s vs wr) (k:Below wr.heap.size wr wr'):AQ w g A c Ai ci bv bp bl bs s vs wr' :=
 ⟨h.box.below k h.box.lt,h.res.below k h.res.lt,h.view.below k h.view.lt,h.rp.below k h.rp.lt,h.rl.below k h.rl.lt,h.rs.below k h.rs.lt,h.bel.trans (k.mono h.bel.size)⟩
theorem AQ.alloc (h:AQ w g A c Ai ci bv bp bl bs s vs wr) (o:Obj):AQ w g A c Ai ci bv bp bl bs s vs (wr.alloc o):=h.below ((Below.refl _ _).alloc (Nat.le_refl _) _)
theorem AQ.drew (h:AQ w g A c Ai ci bv bp bl bs s vs wr):AQ w g A c Ai ci bv bp bl bs s vs wr.drew:=⟨h.box,h.res,h.view,h.rp,h.rl,h.rs,h.bel.drew⟩
theorem AQ.setP (h:AQ w g A c Ai ci bv bp bl bs s vs wr) (ap:ApartL w.heap.size bv bp bl bs) (i:Nat) (x:Int):AQ w g A c Ai ci bv bp bl bs (s.1.set i x,s.2) vs (wr.setCell ⟨bp,i,none⟩ (.int .i64 x)) :=
 ⟨h.box.other (by have:=ap.p; simp; omega) _,h.res.other (by have:=ap.p; simp; omega) _,h.view.other ap.vp _,by simpa [dX,List.map_set] using h.rp.set i (.int .i64 x),h.rl.other ap.pl.symm _,h.rs.other ap.ps.symm _,h.bel.setCell (by have:=ap.p; simp; omega) _⟩
theorem AQ.setL (h:AQ w g A c Ai ci bv bp bl bs s vs wr) (ap:ApartL w.heap.size bv bp bl bs) (i:Nat) (x:Int):AQ w g A c Ai ci bv bp bl bs (s.1,s.2.set i x) vs (wr.setCell ⟨bl,i,none⟩ (.int .i64 x)) :=
 ⟨h.box.other (by have:=ap.l; simp; omega) _,h.res.other (by have:=ap.l; simp; omega) _,h.view.other ap.vl _,h.rp.other ap.pl _,by simpa [dX,List.map_set] using h.rl.set i (.int .i64 x),h.rs.other ap.ls.symm _,h.bel.setCell (by have:=ap.l; simp; omega) _⟩
theorem AQ.setS (h:AQ w g A c Ai ci bv bp bl bs s vs wr) (ap:ApartL w.heap.size bv bp bl bs) (i:Nat) (x:Value):AQ w g A c Ai ci bv bp bl bs s (vs.set i x) (wr.setCell ⟨bs,i,none⟩ x) :=
 ⟨h.box.other (by have:=ap.s; simp; omega) _,h.res.other (by have:=ap.s; simp; omega) _,h.view.other ap.vs _,h.rp.other ap.ps _,h.rl.other ap.ls _,h.rs.set i x,h.bel.setCell (by have:=ap.s; simp; omega) _⟩
theorem AQ.blocks (h:AQ w g A c Ai ci bv bp bl bs s vs wr) (k:∀ b,b < wr.heap.size→b=w.heap.size∨b=w.heap.size+1∨b=bv∨b=bp∨b=bl∨b=bs→wr'.heap[b]? = wr.heap[b]?) (hb:Below w.heap.size w wr'):AQ w g A c Ai ci bv bp bl bs s vs wr' :=
 ⟨h.box.of_block (k _ h.box.lt ay),h.res.of_block (k _ h.res.lt ay),h.view.of_block (k _ h.view.lt ay),h.rp.of_block (k _ h.rp.lt ay),h.rl.of_block (k _ h.rl.lt ay),h.rs.of_block (k _ h.rs.lt ay),hb⟩
end
def lX (B n m:Nat) (p:Int) (vn vi:Value):Says where
 uses i:=match i with | 13=>[4,8,12] | _=>[]
 F i l:=match i with
  | 4=>Hold.made B 3 n (List.replicate n (.int .i64 0)) (l.getD 0 undef)
  | 8=>Hold.made B 3 n (List.replicate n (.int .i64 0)) (l.getD 0 undef)
  | 12=>Hold.made B 26 m (List.replicate m (.slice none 0 0)) (l.getD 0 undef)
  | 13=>Hold.eq (.agg #[.int .i64 p,vn,vi,l.getD 1 undef,l.getD 2 undef,l.getD 3 undef]) (l.getD 0 undef)
  | 14=>Hold.akk B 98 [.int .i64 0,.slice none 0 0,.slice none 0 0,.slice none 0 0,.slice none 0 0,.slice none 0 0] (l.getD 0 undef)
  | _=>Hold.tt
 cu:=[]
 G _ _ _ _:=False
 mks:=[4,8,12,14]
theorem ajt (B n m:Nat) (p:Int) (vn vi:Value):∀ k∈(lX B n m p vn vi).mks,∀ e w,(lX B n m p vn vi).R k e w→∀ b,nH (e k)=some b→b < w.heap.size:=by
 intro k hk e w h;simp only[lX,List.mem_cons,List.not_mem_nil,or_false] at hk;rcases hk with rfl | rfl | rfl | rfl
 ·exact pX (show(Hold.made B 3 n (List.replicate n (.int .i64 0)) (e 4)).p w from h)
 ·exact pX (show(Hold.made B 3 n (List.replicate n (.int .i64 0)) (e 8)).p w from h)
 ·exact pX (show(Hold.made B 26 m (List.replicate m (.slice none 0 0)) (e 12)).p w from h)
 ·exact akl (show(Hold.akk B 98 [.int .i64 0,.slice none 0 0,.slice none 0 0,.slice none 0 0,.slice none 0 0,.slice none 0 0] (e 14)).p w from h)
theorem xH (w:World) (F:Ag) (u:Value) (g:Gm) (hg:AB w F u g) (hsm:Small g) :
  Calls Tryz.prog 83 #[u] w (Ret w (Eb F g w.heap.size)):=by
 have HG:=Ac hg;obtain⟨vn,vi,rfl,⟨A,c,rfl,hc,hN⟩,⟨Ai,ci,rfl,hci,hI⟩⟩:=hg;have HN:=Ac hN;have HI:=Ac hI;clear hN hI;have hn:=hsm.nodes;have hni:=hsm.infos;have HS:=Ac hsm;clear hsm;go_in;go_wp2_with fail
 refine(acg _ F _ g ((HG.out.on (Same.alloc _ _ _)).on (Same.alloc _ _ _)) HS.out).mono ?_;rintro e w1 ⟨_,rfl,hb1,rfl⟩;rw[ag0];have hbx:=((Row.new w 25 #[.int .i64 g.au,.slice A g.nodes.length c,.slice Ai g.infos.length ci]).alloc (.cells #[.int .i64 0,.slice none 0 0,.slice none 0 0,.slice none 0 0,.slice none 0 0,.slice none 0 0] 98)).below hb1 aB;have hrs:Row w1 (w.heap.size+1) 98 [.int .i64 0,.slice none 0 0,.slice none 0 0,.slice none 0 0,.slice none 0 0,.slice none 0 0]:=by
  refine zaZ ?_;intro this;simpa using this
 have hB:Below w.heap.size w w1:=(aY w _ _ 0).trans (hb1.mono aB);clear hb1;have HGD:=Ac (fun h:bF g=0=>jd h);generalize hfe:bF g=er at *;have HFE:=Ac hfe;clear hfe;dsimp only;by_cases he:er=0
 ·have hgd:=HGD.out he;have HK:=Ac hgd.acS;have HIN:=Ac hgd.infos;have hp:=hgd.pos;subst he;clear hgd HGD;obtain⟨b,o,rfl,hbF,hb,hcell⟩:=HN.out hp;have HC:=Ac hcell;clear hcell;go_upto_region 4 with fail
  go_cut [5] from 17 to 30 (fun v5 wx=>∃ bv bp bl bs,v5 = .pointer (some ⟨bv,0,none⟩)∧AQ w g (some ⟨b,o,none⟩) c Ai ci bv bp bl bs (List.replicate g.nodes.length 0,List.replicate g.nodes.length 0) (List.replicate g.infos.length (.slice none 0 0)) wx∧ApartL w.heap.size bv bp bl bs)
  case first =>
   refine bD (fun w'=>w'.cell? ⟨w.heap.size,0,none⟩=some (.int .i64 g.au)∧w'.cell? ⟨w.heap.size,1,none⟩=some (.slice (some ⟨b,o,none⟩) g.nodes.length c)∧w'.cell? ⟨w.heap.size,2,none⟩=some (.slice Ai g.infos.length ci)) 15 1 ak rfl ak ?_;have hHeld:(fun w':World=>w'.cell? ⟨w.heap.size,0,none⟩=some (.int .i64 g.au)∧w'.cell? ⟨w.heap.size,1,none⟩=some (.slice (some ⟨b,o,none⟩) g.nodes.length c)∧w'.cell? ⟨w.heap.size,2,none⟩=some (.slice Ai g.infos.length ci)) w1.drew:=⟨hbx.cell rfl,hbx.cell rfl,hbx.cell rfl⟩;refine ZB ?_;refine tkm [0,1,2,3,5,6,7,9,10,11] ?_;obtain⟨w0,hw0⟩:=named w1.drew;have hbx0:Row w0 _ _ _:=hw0▸hbx.drew;have akr:Row w0 _ _ _:=hw0▸hrs.drew;have hB0:Below w.heap.size w w0:=hw0▸hB.drew;rw[← hw0] at hHeld ⊢;clear hw0 hbx hrs hB;have hz0:=akr.lt;refine qX (js:=[4,8,12,13,14]) ((Hold.cell (w.heap.size) 0 (.int .i64 g.au)).and ((Hold.cell (w.heap.size) 1 (.slice (some ⟨b,o,none⟩) g.nodes.length c)).and ((Hold.cell (w.heap.size) 2 (.slice Ai g.infos.length ci)).and (Hold.below w0.heap.size w0)))) (lX w0.heap.size g.nodes.length g.infos.length g.au (.slice (some ⟨b,o,none⟩) g.nodes.length c) (.slice Ai g.infos.length ci)) ak ak ⟨hHeld.1,hHeld.2.1,hHeld.2.2,Nat.le_refl _,Below.refl _ _⟩ (fun _ h=>⟨h.1,h.2.1,h.2.2.1⟩) (ajt _ _ _ _ _ _) (fun j hj=>by simp[lX] at hj) ?_;refine AO.cons (o:=_) rfl (fun wk hS hf K hK=>?_) (fun v4=>?_)
   ·exact zba
   refine Zc ?_;refine AO.cons (o:=_) rfl (fun wk hS hf K hK=>?_) (fun v8=>?_)
   ·exact zba
   refine Zc ?_;refine AO.cons (o:=_) rfl (fun wk hS hf K hK=>?_) (fun v12=>?_)
   ·refine ifA rfl ?_;refine lD _ _ _ 96 rfl 26 (.slice none 0 0) 24 Tryz.underlying96 Tryz.infoInts rfl g.infos.length rfl rfl byOmega byOmega ?_;intro W1 hb hz hr;exact Y7
   refine Zc ?_;refine AO.cons (o:=_) rfl (fun wk hS hf K hK=>?_) (fun v13=>?_)
   ·have f4:Hold.p (Hold.made w0.heap.size 3 g.nodes.length (List.replicate g.nodes.length (.int .i64 0)) v4) wk:=hf 4 ay ak;have f8:Hold.p (Hold.made w0.heap.size 3 g.nodes.length (List.replicate g.nodes.length (.int .i64 0)) v8) wk:=hf 8 ay ak;have f12:Hold.p (Hold.made w0.heap.size 26 g.infos.length (List.replicate g.infos.length (.slice none 0 0)) v12) wk:=hf 12 ay ak;obtain⟨b4,rfl,g4,r4⟩:=f4;obtain⟨b8,rfl,g8,r8⟩:=f8;obtain⟨b12,rfl,g12,r12⟩:=f12;go_simp;exact hK.out _ _ ⟨Below.refl _ _,rfl,fun h=>(by simp[lX] at h)⟩
   refine Zc ?_;refine AO.cons (o:=_) rfl (fun wk hS hf K hK=>?_) (fun v14=>?_)
   ·go_simp;obtain⟨W1,hw,hr,hb,hz⟩:=aT wk 98 #[.int .i64 0,.slice none 0 0,.slice none 0 0,.slice none 0 0,.slice none 0 0,.slice none 0 0];rw[← hw];exact Y7
   refine Zc ?_;refine AO.nil (fun wE hS hf hA=>?_);have f4:Hold.p (Hold.made w0.heap.size 3 g.nodes.length (List.replicate g.nodes.length (.int .i64 0)) v4) wE:=hf 4 ay;have f8:Hold.p (Hold.made w0.heap.size 3 g.nodes.length (List.replicate g.nodes.length (.int .i64 0)) v8) wE:=hf 8 ay;have f12:Hold.p (Hold.made w0.heap.size 26 g.infos.length (List.replicate g.infos.length (.slice none 0 0)) v12) wE:=hf 12 ay;have f13:Hold.p (Hold.eq (.agg #[.int .i64 g.au,.slice (some ⟨b,o,none⟩) g.nodes.length c,.slice Ai g.infos.length ci,v4,v8,v12]) v13) wE:=hf 13 ay;have f14:Hold.p (Hold.akk w0.heap.size 98 [.int .i64 0,.slice none 0 0,.slice none 0 0,.slice none 0 0,.slice none 0 0,.slice none 0 0] v14) wE:=hf 14 ay;obtain⟨b4,rfl,g4,r4⟩:=f4;obtain⟨b8,rfl,g8,r8⟩:=f8;obtain⟨b12,rfl,g12,r12⟩:=f12;obtain⟨b14,rfl,g14,r14⟩:=f14;obtain rfl:v13=(.agg #[.int .i64 g.au,.slice (some ⟨b,o,none⟩) g.nodes.length c,.slice Ai g.infos.length ci,_,_,_]):=f13;have alp:=jM hA (i:=4) (k:=8) ay ay (by simp[lX]) (by simp[lX]) aA rfl rfl;have alY:=jM hA (i:=4) (k:=12) ay ay (by simp[lX]) (by simp[lX]) aA rfl rfl;have alZ:=jM hA (i:=4) (k:=14) ay ay (by simp[lX]) (by simp[lX]) aA rfl rfl;have al2:=jM hA (i:=8) (k:=12) ay ay (by simp[lX]) (by simp[lX]) aA rfl rfl;have al3:=jM hA (i:=8) (k:=14) ay ay (by simp[lX]) (by simp[lX]) aA rfl rfl;have alq:=jM hA (i:=12) (k:=14) ay ay (by simp[lX]) (by simp[lX]) aA rfl rfl;have hV:=hS.2.2.2;have aey:=hbx0.below hV.2 hbx0.lt;have hrsE:=akr.below hV.2 akr.lt;have hBE:=hB0.trans (hV.2.mono hB0.size);have hzE:=hV.1;clear hS hV hHeld hbx0 akr hB0 hf hA;have r20:=r14.cell (i:=0) rfl;have f20:=r14.frozen 0;have r21:=r14.cell (i:=1) rfl;have f21:=r14.frozen 1;have r22:=r14.cell (i:=2) rfl;have f22:=r14.frozen 2;have r23:=r14.cell (i:=3) rfl;have f23:=r14.frozen 3;have r24:=r14.cell (i:=4) rfl;have f24:=r14.frozen 4;have r25:=r14.cell (i:=5) rfl;have f25:=r14.frozen 5;obtain⟨W,hW,hrw,hww⟩:=aaV r14 (.int .i64 g.au) (.slice (some ⟨b,o,none⟩) g.nodes.length c) (.slice Ai g.infos.length ci) (.slice (some ⟨b4,0,none⟩) g.nodes.length g.nodes.length) (.slice (some ⟨b8,0,none⟩) g.nodes.length g.nodes.length) (.slice (some ⟨b12,0,none⟩) g.infos.length g.infos.length);have HR:=Ac (show AQ w g (some ⟨b,o,none⟩) c Ai ci b14 b4 b8 b12 (List.replicate g.nodes.length 0,List.replicate g.nodes.length 0) (List.replicate g.infos.length (.slice none 0 0)) W from⟨aey.wrote hww byOmega,hrsE.wrote hww byOmega,hrw,by simpa [dX] using r4.wrote hww byOmega,by simpa [dX] using r8.wrote hww byOmega,r12.wrote hww byOmega,Wrote.below hBE hww (fun k hk=>by omega) hBE.size⟩);clear r4 r8 r12 r14 aey hrsE hBE hrw hww;refine YX ?_;go_wp2_with fail
   rw[← hW];clear hW r20 f20 r21 f21 r22 f22 r23 f23 r24 f24 r25 f25;refine Y5 ?_;go_wp2_with fail
   go_meet
   exact⟨b14,b4,b8,b12,rfl,HR.out,⟨byOmega,byOmega,byOmega,byOmega,Ne.symm alZ,Ne.symm al3,Ne.symm alq,alp,alY,al2⟩⟩
  case rest =>
   obtain⟨bv,bp,bl,bs,rfl,hst,hap⟩:=hcut;clear hbx hrs hB;have y3:=hst.view.cell (i:=3) rfl;have ep0:=hst.rp.cell (i:=0) (v:=.int .i64 0) (by simp[dX,hp]);have fp0:=hst.rp.frozen 0;have x1:=hst.box.cell (i:=1) rfl;have zp:w.heap.size≠bp:=by have:=hap.p;omega
   have hsub:((g.nodes.length:Int) - 1)=((g.nodes.length - 1:Nat):Int):=byOmega;have HST:=Ac hst;clear hst;go_wp2
   go_loopw [6] (fun i wr=>∃ k:Nat,k≤g.nodes.length∧i = .int .i64 ((k:Int) - 1)∧AQ w g (some ⟨b,o,none⟩) c Ai ci bv bp bl bs (iW g.nodes (g.nodes.length - k)) (List.replicate g.infos.length (.slice none 0 0)) wr) (fun i _=>(intOf i+1).toNat)
   case atStart =>
    refine⟨g.nodes.length,byOmega,by rw[← hsub],?_⟩;rw[Nat.sub_self];exact HST.out.setP hap 0 (-1)
   case round =>
    clear y3 ep0 fp0 x1 HST;obtain⟨k,hk,rfl,hst⟩:=hrel;have HST:=Ac hst;clear hst;have y3:=HST.out.view.cell (i:=3) rfl;have y4:=HST.out.view.cell (i:=4) rfl;have x1:=HST.out.box.cell (i:=1) rfl;have hlen:=fH g.nodes (g.nodes.length - k);by_cases hlt:0 < k
    ·obtain⟨q,rfl⟩:∃ q,k=q+1:=⟨k - 1,byOmega⟩;have i1:(((q+1:Nat):Int) - 1)=(q:Int):=byOmega;rw[i1];clear i1;obtain⟨n,hn'⟩:=aC (l:=g.nodes) (k:=q) byOmega;obtain⟨v3,e3,A3,c3,rfl,hc3,i3⟩:=(HC.out q n hn').c3;have hl3:=HS.out.next n (List.mem_of_getElem? hn');have HN3:=Ac i3; clear i3;have hqn:q < g.nodes.length:=byOmega;have HTO:=Ac (show iW g.nodes (g.nodes.length - q)=fE q n.next ((iW g.nodes (g.nodes.length - (q+1))).1,(iW g.nodes (g.nodes.length - (q+1))).2.set q q) by
      rw[show g.nodes.length - q=(g.nodes.length - (q+1))+1 by omega,iW,sW,show g.nodes.length - 1 - (g.nodes.length - (q+1))=q by omega,hn'])
     have HX:=Ac hn';clear hn';generalize iW g.nodes (g.nodes.length - (q+1))=s0 at *;obtain⟨hlp,hll⟩:=hlen;obtain⟨y,hy⟩:=aC (l:=s0.2) (k:=q) byOmega;have el:=HST.out.rl.cell (i:=q) (v:=.int .i64 y) (by simp[dX,hy]);have fl:=HST.out.rl.frozen q;have e3':wr.cell? ⟨b,o+q*6+3,none⟩=some (.slice A3 n.next.length c3):=by rw[aJ HST.out.bel b _ hb];exact e3
     have zl:w.heap.size≠bl:=by have:=hap.l;omega
     have zlb:b≠bl:=by have:=hap.l;omega
     clear hy e3;go_wp2
     go_loopw [8,54] (fun _ i wi=>∃ j:Nat,j≤n.next.length∧i = .int .i64 j∧AQ w g (some ⟨b,o,none⟩) c Ai ci bv bp bl bs (fE q (n.next.take j) (s0.1,s0.2.set q q)) (List.replicate g.infos.length (.slice none 0 0)) wi) (fun _ i _=>n.next.length - (intOf i).toNat)
     case atStart=>exact⟨0,byOmega,rfl,by simpa [fE] using HST.out.setL hap q q⟩
     case round =>
      clear y3 y4 x1 el fl e3' HST;obtain⟨j,hj,rfl,hst⟩:=hrel;have hlk:=xG q (n.next.take j) (s0.1,s0.2.set q q) (N:=g.nodes.length) hlp (by simpa using hll);have HST:=Ac hst;clear hst;have y3:=HST.out.view.cell (i:=3) rfl;have y4:=HST.out.view.cell (i:=4) rfl;by_cases hjt:j < n.next.length
      ·obtain⟨ch,hch⟩:=aC hjt;obtain⟨b3,o3,rfl,hb3,hb3B,hx3⟩:=HN3.out byOmega;have ec:=hx3 j ch hch;unfold iE at ec;rw[Nat.mul_one] at ec;rw[← aJ HST.out.bel b3 _ hb3B] at ec;obtain⟨alr,hch1⟩:=HK.out n (List.mem_of_getElem? HX.out) ch (List.mem_of_getElem? hch);have HSN:=Ac (abA (i:=q) (s:=(s0.1,s0.2.set q q)) hch);clear hch hx3;generalize fE q (n.next.take j) (s0.1,s0.2.set q q)=s at *;obtain⟨hkp,hkl⟩:=hlk;obtain⟨yp,hyp⟩:=aC (l:=s.1) (k:=ch.toNat) byOmega;have ep:=HST.out.rp.cell (i:=ch.toNat) (v:=.int .i64 yp) (by simp[dX,hyp]);have fp:=HST.out.rp.frozen ch.toNat;clear hyp;have zvp:bv≠bp:=hap.vp;go_wp2
       have hst2:=HST.out.setP hap ch.toNat q;obtain⟨W,hW⟩:∃ W:World,W=wr.setCell ⟨bp,ch.toNat,none⟩ (.int .i64 q):=⟨_,rfl⟩;rw[← hW] at hst2 ⊢;clear hW y3 y4 ep fp ec;have C9:=Ac hst2;clear hst2 HST;have y4:=C9.out.view.cell (i:=4) rfl;obtain⟨yl,hyl⟩:=aC (l:=s.2) (k:=ch.toNat) byOmega;obtain⟨yq,hyq⟩:=aC (l:=s.2) (k:=q) byOmega;have el:=C9.out.rl.cell (i:=ch.toNat) (v:=.int .i64 yl) (by simp[dX,hyl]);have eq':=C9.out.rl.cell (i:=q) (v:=.int .i64 yq) (by simp[dX,hyq]);have fl:=C9.out.rl.frozen q;have HGD:=Ac (show s.2.getD ch.toNat 0=yl by simp[List.getD_eq_getElem?_getD,hyl]);clear hyl hyq;refine aiQ (fun w'=>w'.cell? ⟨bv,4,none⟩=some (.slice (some ⟨bl,0,none⟩) g.nodes.length g.nodes.length)∧w'.cell? ⟨bl,ch.toNat,none⟩=some (.int .i64 yl)) 9 ak rfl ak ak ⟨y4,el⟩ ?_;have hHeld:(fun w':World=>w'.cell? ⟨bv,4,none⟩=some (.slice (some ⟨bl,0,none⟩) g.nodes.length g.nodes.length)∧w'.cell? ⟨bl,ch.toNat,none⟩=some (.int .i64 yl)) W.drew:=⟨y4,el⟩;refine ZB ?_;refine tkm [0,1,2,3,4,5,6,7,8] ?_;refine ZA ?_;clear hHeld;go_wp2
       go_roundw
       case rel =>
        refine⟨j+1,byOmega,by go_num,?_⟩;rw[HSN.out,HGD.out];exact(C9.out.setL hap q yl).drew
       case measure=>simp[intOf] <;> omega
      ·go_wp2
       go_roundw
       case rel=>exact⟨q,byOmega,rfl,by rw[HTO.out]; rw[List.take_of_length_le byOmega] at HST; exact HST.out⟩
       case measure=>simp[intOf] <;> omega
    ·obtain rfl:k=0:=byOmega;have hfs:iW g.nodes (g.nodes.length - 0)=aQ g.nodes:=rfl;rw[hfs] at HST;clear hfs y3 y4;go_wp2
     go_loopw [9,10,76] (fun _ _ i wi=>∃ (k:Nat) (vs:List Value),k≤g.nodes.length∧i = .int .i64 k∧AQ w g (some ⟨b,o,none⟩) c Ai ci bv bp bl bs (aQ g.nodes) vs wi∧OwnRows wi (max (max bv bp) (max bl bs)+1) 3 vs (eG g.nodes g.infos.length k)) (fun _ _ i _=>g.nodes.length - (intOf i).toNat)
     case atStart=>exact⟨0,_,byOmega,rfl,HST.out,OwnRows.start _ _ _ _⟩
     case round =>
      clear x1 HST;obtain⟨k,vs,hk,rfl,hst,hown⟩:=hrel;have HST:=Ac hst;clear hst;have hm1:bv < max (max bv bp) (max bl bs)+1∧bp < max (max bv bp) (max bl bs)+1∧bl < max (max bv bp) (max bl bs)+1∧bs < max (max bv bp) (max bl bs)+1:=byOmega;have hm2:max (max bv bp) (max bl bs)+1≤wr.heap.size:=by
       have h1:=HST.out.view.lt;have h2:=HST.out.rp.lt;have h3:=HST.out.rl.lt;have h4:=HST.out.rs.lt;omega
      generalize max (max bv bp) (max bl bs)+1=M at *;obtain⟨m1,m2,m3,m4⟩:=hm1;have a1:=hap.v;have a2:=hap.s;have a3:=hap.vs;have x1:=HST.out.box.cell (i:=1) rfl;by_cases hlt2:k < g.nodes.length
      ·obtain⟨n,hn'⟩:=aC hlt2;obtain⟨e0,e1,e2,⟨v3,e3,A3,c3,rfl,hc3,i3⟩,⟨v4,e4,A4,c4,rfl,hc4,i4⟩,⟨v5,e5,A5,c5,rfl,hc5,i5⟩⟩:=HC.out k n hn';clear i3 i4 i5;have HX:=Ac hn';clear hn';have hold:=aJ HST.out.bel;by_cases hkd:n.kind=2
       ·refine zcd ?_;clear hkd;intro hin0 hin1 hd HKD l hl v hv;have hll:=qL l (List.mem_of_getElem? hl);have HO:=Ac (hown.own _ v l hv hl);have HL:=Ac hl;clear hl;have HV:=Ac hv;clear hv;go_wp2
        refine zav ?_;intro W hW cx;have HWS:=Ac (show AQ w g (some ⟨b,o,none⟩) c Ai ci bv bp bl bs (aQ g.nodes) vs W by rw[hW]; exact HST.out.alloc _);have HWO:=Ac (show OwnRows W M 3 vs (eG g.nodes g.infos.length k) by rw[hW]; exact hown.alloc _);have hWlt:wr.heap.size < W.heap.size:=by rw[hW];simp
        clear hW hown x1 hold e0 e1 e2 e3 e4 e5 HST;have rv:=HWS.out.rs.cell HV.out;have fv:=HWS.out.rs.frozen n.info.toNat;have y5:=HWS.out.view.cell (i:=5) rfl;have HOW:=Ac (HWO.out.own _ v l HV.out HL.out);refine adL (fun w'=>w'.cell? ⟨wr.heap.size,2,none⟩=some (.int .i64 n.info)∧w'.cell? ⟨bv,5,none⟩=some (.slice (some ⟨bs,0,none⟩) g.infos.length g.infos.length)∧w'.cell? ⟨bs,n.info.toNat,none⟩=some v) 13 ak rfl rfl ak ak ak ak ⟨cx,y5,rv⟩ ?_;have hHeld:(fun w':World=>w'.cell? ⟨wr.heap.size,2,none⟩=some (.int .i64 n.info)∧w'.cell? ⟨bv,5,none⟩=some (.slice (some ⟨bs,0,none⟩) g.infos.length g.infos.length)∧w'.cell? ⟨bs,n.info.toNat,none⟩=some v) W.drew:=⟨cx,y5,rv⟩;refine ZB ?_;refine tkm [0,1,2,3,4,5,6,7,8,9,10] ?_;refine tk2 11 ak rfl fun K hK=>?_
        go_simp;refine hK.out _ _ ⟨by rw[World.cell?_drew,World.cell?_alloc_lt _ _ _ aB]; exact cx,by rw[World.cell?_drew,World.cell?_alloc_lt _ _ _ aB]; exact y5,by rw[World.cell?_drew,World.cell?_alloc_lt _ _ _ aB]; exact rv⟩ (fun hHeld=>?_);clear hK K;refine Zc ?_;refine tk2 12 ak rfl fun K hK=>?_
        refine wR (by rfl) _ _ (by rfl) M v l (by rfl) (HOW.out.alloc _) W.heap.size k (by rfl) (heap_alloc_new W _) byOmega aB ?_;intro gg cap w2 hown1 hgrow hat hlt1;have hnb:∀ b,v.ownBlock=some b→M≤b:=fun b hb=>(HOW.out.lt b hb).1
        have hHG:∀ b,b < M→w2.heap[b]? = W.heap[b]?:=fun b hb=>by
         exact zcS
        have k4:Below w.heap.size w w2:=((HWS.out.bel.alloc byOmega _).drew).grown hgrow aB (fun k hk=>by have:=hnb k hk; omega);have k1:AQ w g (some ⟨b,o,none⟩) c Ai ci bv bp bl bs (aQ g.nodes) vs w2:=HWS.out.blocks (fun b _ hb=>hHG b byOmega) k4;have k3:=((HWO.out.alloc (.cells #[.int .i64 (k:Int)] 3)).drew).put HV.out hown1 hgrow rfl hat;have rv1:=k1.rs.cell HV.out;have fv1:=k1.rs.frozen n.info.toNat;have y51:=k1.view.cell (i:=5) rfl;have KK:=Ac (And.intro k1 k3);refine hK.out _ _ ⟨?_,y51,rv1⟩ (fun hHeld=>?_)
        ·refine zcD ?_;exact cx
        clear hK K k1 k3 k4 hHG hgrow hown1 hat cx rv fv;refine zbE ?_;refine YF ?_;refine YX ?_;go_wp2
        refine YX ?_;go_wp2
        go_roundw
        case rel =>
         obtain⟨k1,k3⟩:=KK.out;(repeat apply Exists.intro);refine⟨⟨k+1,_,byOmega,by go_num,k1.setS hap _ _,?_⟩,rfl⟩;rw[su HX.out HKD.out HL.out];exact k3.setCell aB _
        case measure=>simp[intOf] <;> omega
       ·have hd:(n.kind==2)=false:=by simp[hkd]
        have HKD:=Ac hkd;clear hkd;go_wp2
        go_roundw
        case rel =>
         refine⟨k+1,vs,byOmega,by go_num,HST.out.alloc _,?_⟩;rw[sF HX.out HKD.out];exact hown.alloc _
        case measure=>simp[intOf] <;> omega
      ·have hke:k=g.nodes.length:=byOmega;subst hke;have y0:=HST.out.view.cell (i:=0) rfl;have r0:=HST.out.res.cell (i:=0) rfl;have f0:=HST.out.res.frozen 0;have y1:=HST.out.view.cell (i:=1) rfl;have r1:=HST.out.res.cell (i:=1) rfl;have f1:=HST.out.res.frozen 1;have y2:=HST.out.view.cell (i:=2) rfl;have r2:=HST.out.res.cell (i:=2) rfl;have f2:=HST.out.res.frozen 2;have y3:=HST.out.view.cell (i:=3) rfl;have r3:=HST.out.res.cell (i:=3) rfl;have f3:=HST.out.res.frozen 3;have y4:=HST.out.view.cell (i:=4) rfl;have r4:=HST.out.res.cell (i:=4) rfl;have f4:=HST.out.res.frozen 4;have y5:=HST.out.view.cell (i:=5) rfl;have r5:=HST.out.res.cell (i:=5) rfl;have f5:=HST.out.res.frozen 5;go_wp2
       obtain⟨W,hW,hrw,hww⟩:=aaV HST.out.res (.int .i64 g.au) (.slice (some ⟨b,o,none⟩) g.nodes.length c) (.slice Ai g.infos.length ci) (.slice (some ⟨bp,0,none⟩) g.nodes.length g.nodes.length) (.slice (some ⟨bl,0,none⟩) g.nodes.length g.nodes.length) (.slice (some ⟨bs,0,none⟩) g.infos.length g.infos.length);rw[← hW];clear hW;clear r0 f0 y0;have r0:=hrw.cell (i:=0) rfl;clear r1 f1 y1;have r1:=hrw.cell (i:=1) rfl;clear r2 f2 y2;have r2:=hrw.cell (i:=2) rfl;clear r3 f3 y3;have r3:=hrw.cell (i:=3) rfl;clear r4 f4 y4;have r4:=hrw.cell (i:=4) rfl;clear r5 f5 y5;have r5:=hrw.cell (i:=5) rfl;refine bodyPost_ret (v:=.tuple #[.agg #[.int .i64 g.au,.slice (some ⟨b,o,none⟩) g.nodes.length c,.slice Ai g.infos.length ci,.slice (some ⟨bp,0,none⟩) g.nodes.length g.nodes.length,.slice (some ⟨bl,0,none⟩) g.nodes.length g.nodes.length,.slice (some ⟨bs,0,none⟩) g.infos.length g.infos.length],.int .i64 0]) ?_ rfl ?_
       ·simp[results,Tryz.results83,go_sem,r0,r1,r2,r3,r4,r5]
       ·have hst:=HST.out;have hbz:=hst.bel.size;have hap2:=hap.p;have hap3:=hap.l;have hlk:=fH g.nodes g.nodes.length;refine⟨_,rfl,Wrote.below hst.bel hww (fun k hk=>by omega) hbz,_,by rw[HFE.out],fun h=>absurd HFE.out h,fun _=>⟨_,_,_,_,_,rfl,?_,?_,?_,?_,?_⟩⟩
        ·have h1:AP w F (.slice (some ⟨b,o,none⟩) g.nodes.length c) g.nodes:=⟨_,_,rfl,hc,HN.out⟩;exact zbK
        ·have h1:A8 w F (.slice Ai g.infos.length ci) g.infos:=⟨_,_,rfl,hci,HI.out⟩;exact zbK
        ·have h1:=Row.ints (F:=fun b=>F b∨w.heap.size≤b) (hst.rp.wrote hww byOmega) (.inr byOmega) (c:=g.nodes.length) (by unfold aQ; omega);rwa [show(aQ g.nodes).1.length=g.nodes.length from hlk.1] at h1
        ·have h1:=Row.ints (F:=fun b=>F b∨w.heap.size≤b) (hst.rl.wrote hww byOmega) (.inr byOmega) (c:=g.nodes.length) (by unfold aQ; omega);rwa [show(aQ g.nodes).2.length=g.nodes.length from hlk.2] at h1
        ·have h1:=OwnRows.rows (F:=fun b=>w.heap.size+1 < b) hown hst.rs byOmega (fun k hk=>by omega) (c:=g.infos.length) (by rw[bC]; omega);rw[bC] at h1;exact h1.keep (fun b hb _=>.inr byOmega) (hww.same (fun b hb=>by omega))
 ·refine zbI ?_;intro hd;have HNZ:=Ac he;clear he;have r0:=hrs.cell (i:=0) rfl;have f0:=hrs.frozen 0;have r1:=hrs.cell (i:=1) rfl;have f1:=hrs.frozen 1;have r2:=hrs.cell (i:=2) rfl;have f2:=hrs.frozen 2;have r3:=hrs.cell (i:=3) rfl;have f3:=hrs.frozen 3;have r4:=hrs.cell (i:=4) rfl;have f4:=hrs.frozen 4;have r5:=hrs.cell (i:=5) rfl;have f5:=hrs.frozen 5;go_wp2
  obtain⟨W,hW,hrw,hww⟩:=aaV hrs (.int .i64 0) (.slice none 0 0) (.slice none 0 0) (.slice none 0 0) (.slice none 0 0) (.slice none 0 0);rw[← hW];clear hW;clear r0 f0;have r0:=hrw.cell (i:=0) rfl;clear r1 f1;have r1:=hrw.cell (i:=1) rfl;clear r2 f2;have r2:=hrw.cell (i:=2) rfl;clear r3 f3;have r3:=hrw.cell (i:=3) rfl;clear r4 f4;have r4:=hrw.cell (i:=4) rfl;clear r5 f5;have r5:=hrw.cell (i:=5) rfl;refine bodyPost_ret (v:=.tuple #[noView,.int .i64 er]) ?_ rfl ?_
  ·simp[results,Tryz.results83,go_sem,r0,r1,r2,r3,r4,r5,noView]
  ·exact⟨_,rfl,Wrote.below hB hww (fun k hk=>by omega) hB.size,noView,by rw[HFE.out],fun _=>rfl,fun h=>absurd (HFE.out▸h) HNZ.out⟩
def hasB (N:Nat) (r:Int):Bool:=decide (0≤r)&&decide (r < (N:Int))
theorem ac9 (w:World) (F:Ag) (u:Value) (r:Int) (g:Gm) (par last:List Int) (sets:List (List Int)) (hv:Bz w F u g par last sets) :
  Calls Tryz.prog 85 #[u,.int .i64 r] w (Ret w fun v _=>v = .bool (hasB g.nodes.length r)):=by
 obtain⟨vn,vi,vp,vl,vs,rfl,⟨A,c,rfl,hc,hN⟩,_⟩:=hv;clear hN;by_cases q0:0≤r
 ·by_cases q1:r < (g.nodes.length:Int)
  ·have HF:=Ac (show hasB g.nodes.length r=true by simp[hasB,q0,q1]);exact Zo
  ·have HF:=Ac (show hasB g.nodes.length r=false by simp[hasB,q1]);have d1:decide (r < (g.nodes.length:Int))=false:=decide_eq_false q1;exact Zo
 ·have HF:=Ac (show hasB g.nodes.length r=false by simp[hasB,q0]);have d0:decide (0≤r)=false:=decide_eq_false q0;exact Zo
def sZ (last roots:List Int) (i:Nat):Bool:=decide (roots.getD i 0≤last.getD (roots.getD (i - 1) 0).toNat 0)
def jU (last roots:List Int) (m:Nat):Bool:=(List.range' 1 (m - 1)).any (sZ last roots)
theorem zH (last roots:List Int) (m:Nat) (h:1≤m):jU last roots (m+1)=(jU last roots m||sZ last roots m):=by
 unfold jU;have:m+1 - 1=(m - 1)+1:=byOmega;rw[this,List.range'_concat,List.any_append];simp;rw[show 1+(m - 1)=m by omega]
theorem abB {last roots:List Int} {m k:Nat} (h:1≤m) (hm:m < k) (hb:sZ last roots m=true):jU last roots k=true:=by
 unfold jU;rw[List.any_eq_true];exact⟨m,by rw[List.mem_range'_1]; omega,hb⟩
def nK (N:Nat) (last roots:List Int):Int:=if roots = [] then 3 else if qx N roots then 2 else if jU last roots roots.length then 9 else 0
theorem abC (w:World) (F:Ag) (u vr:Value) (g:Gm) (par last:List Int) (sets:List (List Int)) (roots:List Int) (hv:Bz w F u g par last sets) (hr:Ah w F vr roots) (hl:roots.length≤1000) (hN:g.nodes.length≤1000) (hll:last.length=g.nodes.length) :
  Calls Tryz.prog 123 #[u,vr] w (Ret w fun v _=>v = .int .i64 (nK g.nodes.length last roots)):=by
 have HVW:=Ac hv;obtain⟨vn,vi,vp,vl,vs,rfl,⟨A,c,rfl,hc,hN'⟩,⟨Ai,ci,rfl,hci,hI⟩,⟨Ap,cp,rfl,hcp,hP⟩,⟨Al,cl,rfl,hcl,hL⟩,⟨As,cs,rfl,hcs,hS⟩⟩:=hv;clear hN' hI hP hS;have HL:=Ac hL;clear hL;have HLL:=Ac hll;clear hll;obtain⟨Ar,cr,rfl,hcr,hRr⟩:=hr;have HR:=Ac hRr;clear hRr;by_cases hnil:roots = []
 ·subst hnil;go_in;go_wp2
  go_ret;exact⟨_,rfl,(Below.refl _ _).alloc (Nat.le_refl _) _,rfl⟩
 have hpos:0 < roots.length:=List.length_pos_iff.2 hnil;have hd0:((roots.length:Int)==0)=false:=aB;have Es:=Ac hnil;clear hnil;obtain⟨br,or,rfl,hbrF,hbr,hxr⟩:=HR.out hpos;have HX:=Ac hxr;clear hxr HR;go_in;go_wp2
 refine zaj ?_;intro W hW hbx hWb hWz;clear hW hWz;go_loopw [6,14] (fun _ i wr=>∃ k:Nat,k≤roots.length∧i = .int .i64 k∧qx g.nodes.length (roots.take k)=false∧Below W.heap.size W wr) (fun _ i _=>roots.length - (intOf i).toNat)
 case atStart=>exact⟨0,byOmega,rfl,rfl,Below.refl _ _⟩
 case round =>
  obtain⟨k,hk,rfl,hpre,hbel⟩:=hrel;have HP:=Ac hpre;clear hpre;have mF:=hbx.below hbel hbx.lt;have x0:=mF.cell (i:=0) rfl;have x1:=mF.cell (i:=1) rfl;have x2:=mF.cell (i:=2) rfl;have x3:=mF.cell (i:=3) rfl;have x4:=mF.cell (i:=4) rfl;have x5:=mF.cell (i:=5) rfl;by_cases hlt:k < roots.length
  ·obtain⟨r,hr⟩:=aC hlt;have er:=HX.out k r hr;unfold iE at er;rw[Nat.mul_one,← aJ hWb _ _ hbr,← aJ hbel _ _ (by have:=hWb.size; omega)] at er;have HXX:=Ac hr;clear hr;go_wp2_with fail
   refine(ac9 _ F _ r g par last sets ((HVW.out.on (Below.same' hWb F)).on (Below.same' hbel F))).mono ?_;rintro e w1 ⟨_,rfl,hb1,rfl⟩;dsimp only;have HHB:=Ac (show hasB g.nodes.length r=(decide (0≤r)&&decide (r < (g.nodes.length:Int))) from rfl);generalize hasB g.nodes.length r=hb at *;have aaT:=hbel.trans (hb1.mono hbel.size);clear er x0 x1 x2 x3 x4 x5;cases hb
   ·have HF:=Ac (show nK g.nodes.length last roots=2 by
     have:qx g.nodes.length roots=true:=List.any_eq_true.2 ⟨r,List.mem_of_getElem? HXX.out,by
      have:=HHB.out; simp at this ⊢; omega⟩
     unfold nK; rw[if_neg Es.out,if_pos this])
    go_wp2
    go_ret;exact⟨_,rfl,hWb.trans (aaT.mono hWb.size),by rw[HF.out]; rfl⟩
   ·go_wp2
    go_roundw
    case rel=>exact⟨k+1,byOmega,by go_num,lN HXX.out HP.out (by have:=HHB.out; simp at this ⊢; omega),aaT⟩
    case measure=>simp[intOf] <;> omega
  ·have HRB:=Ac (show qx g.nodes.length roots=false by
    have:=HP.out; rw[List.take_of_length_le byOmega] at this; exact this)
   go_wp2
   go_loopw [7,8,25] (fun _ _ i wr'=>∃ k n:Nat,k≤roots.length∧i = .int .i64 k∧jU last roots k=false∧wr'=wr.drewN n) (fun _ _ i _=>roots.length - (intOf i).toNat)
   case atStart=>exact⟨0,0,byOmega,rfl,rfl,rfl⟩
   case round =>
    obtain⟨m,n,hm,rfl,hpre,rfl⟩:=hrel;have HPM:=Ac hpre;clear hpre;by_cases hmt:m < roots.length
    ·obtain⟨r,hr⟩:=aC hmt;have er:=HX.out m r hr;unfold iE at er;rw[Nat.mul_one,← aJ hWb _ _ hbr,← aJ hbel _ _ (by have:=hWb.size; omega)] at er;by_cases hm0:0 < m
     ·obtain⟨p,hp⟩:=aC (l:=roots) (k:=m - 1) byOmega;have ep:=HX.out (m - 1) p hp;unfold iE at ep;rw[Nat.mul_one,← aJ hWb _ _ hbr,← aJ hbel _ _ (by have:=hWb.size; omega)] at ep;obtain⟨hp0,hp1⟩:=sH HRB.out p (List.mem_of_getElem? hp);have hll:=HLL.out;obtain⟨bl,ol,rfl,_,hbl,hxl⟩:=HL.out byOmega;obtain⟨y,hy⟩:=aC (l:=last) (k:=p.toNat) byOmega;have el:=hxl p.toNat y hy;unfold iE at el;rw[Nat.mul_one,← aJ hWb _ _ hbl,← aJ hbel _ _ (by have:=hWb.size; omega)] at el;have HLB:=Ac (show sZ last roots m=decide (r≤y) by unfold sZ; simp[List.getD_eq_getElem?_getD,hr,hp,hy]);have hp2:p < (last.length:Int):=byOmega;clear hr hp hxl hy hll;have hdm:decide ((0:Int) < (m:Int))=true:=decide_eq_true byOmega;have hm1:m - 1 < roots.length:=byOmega;have hms:IntKind.i64.wrap ((m:Int) - 1)=((m - 1:Nat):Int):=by rw[IntWalk.i64_in _ byOmega];omega
      by_cases hle:r≤y
      ·have HF:=Ac (show nK g.nodes.length last roots=9 by
        unfold nK; rw[if_neg Es.out,HRB.out,abB (m:=m) byOmega hmt (by rw[HLB.out]; simp[hle])]; rfl)
       have hdl:decide (r≤y)=true:=decide_eq_true hle;go_wp2
       go_quiet (fail)
       go_wp2
       go_ret;exact⟨_,rfl,aK (aK (hWb.trans (hbel.mono hWb.size)) _) _,by rw[HF.out]; rfl⟩
      ·have HB:=Ac (show jU last roots (m+1)=false by rw[zH _ _ _ byOmega,HPM.out,HLB.out]; simp; omega);have hdl:decide (r≤y)=false:=decide_eq_false hle;go_wp2
       go_quiet (fail)
       go_wp2
       go_roundw
       case rel=>exact⟨m+1,n+nq,byOmega,by go_num,HB.out,rfl⟩
       case measure=>simp[intOf] <;> omega
     ·obtain rfl:m=0:=byOmega;clear hr;rw[Nat.add_zero] at er;have hdm:decide ((0:Int) < 0)=false:=rfl;have hdm':decide ((0:Int) < ((0:Nat):Int))=false:=rfl;simp only[Int.natCast_zero,Int.cast_ofNat_Int];go_wp2
      go_quiet (fail)
      go_wp2
      go_roundw
      case rel=>exact⟨1,n+nq,byOmega,by go_num,rfl,rfl⟩
      case measure=>simp[intOf] <;> omega
    ·have HF:=Ac (show nK g.nodes.length last roots=0 by
      have h1:=HPM.out;rw[show m=roots.length by omega] at h1;unfold nK; rw[if_neg Es.out,HRB.out,h1]; rfl)
     go_wp2
     go_ret;exact⟨_,rfl,aK (hWb.trans (hbel.mono hWb.size)) _,by rw[HF.out]; rfl⟩
def dD (g:Gm) (roots:List Int):Int:=if bF g≠0 then bF g else nK g.nodes.length (aQ g.nodes).2 roots
def Ec (F:Ag) (g:Gm) (roots:List Int) (B:Nat) (v:Value) (w':World):Prop:=∃ vv,v = .tuple #[vv,.int .i64 (dD g roots)] ∧
 (∃ p A1 n1 c1 A2 n2 c2 A3 n3 c3 A4 n4 c4 A5 n5 c5,vv = .agg #[.int .i64 p,.slice A1 n1 c1,.slice A2 n2 c2,.slice A3 n3 c3,.slice A4 n4 c4,.slice A5 n5 c5])∧(dD g roots=0→Bz w' (fun b=>F b∨B≤b) vv g (aQ g.nodes).1 (aQ g.nodes).2 (aW g))
theorem open_any (w:World) (F:Ag) (u vr:Value) (g:Gm) (roots:List Int) (hg:AB w F u g) (hr:Ah w F vr roots) (hsm:Small g) (hl:roots.length≤1000) :
  Calls Tryz.prog 63 #[u,vr] w (Ret w (Ec F g roots w.heap.size)):=by
 have HG:=Ac (hg.keep (G:=fun b=>F b∧b < w.heap.size) (fun b hb hl=>⟨hb,hl⟩) (Same.refl _ _));obtain⟨vn,vi,rfl,⟨A,c,rfl,hc,hN⟩,⟨Ai,ci,rfl,hci,hI⟩⟩:=hg;clear hN hI;have HR:=Ac (hr.keep (G:=fun b=>F b∧b < w.heap.size) (fun b hb hl=>⟨hb,hl⟩) (Same.refl _ _));clear hr;have hn:=hsm.nodes;have HS:=Ac hsm;clear hsm;go_in;go_wp2_with fail
 refine(xH _ (fun b=>F b∧b < w.heap.size) _ g ((HG.out.on (Same.alloc _ _ _)).on (Same.alloc _ _ _)) HS.out).mono ?_;rintro e w1 ⟨_,rfl,hb1,vv,rfl,hv1,hv2⟩;have hrs:Row w1 (w.heap.size+1) 98 [.int .i64 0,.slice none 0 0,.slice none 0 0,.slice none 0 0,.slice none 0 0,.slice none 0 0]:=by
  refine zaZ ?_;intro this;simpa using this
 have hB:Below w.heap.size w w1:=(aY w _ _ 0).trans (hb1.mono aB);simp only[World.size_alloc] at hv2;clear hb1;have HV1:=Ac hv1;have HV2:=Ac hv2;clear hv1 hv2;have HOE:=Ac (show dD g roots=if bF g≠0 then bF g else nK g.nodes.length (aQ g.nodes).2 roots from rfl);generalize bF g=er at *;dsimp only;by_cases he:er=0
 ·have HVV:=Ac (HV2.out he);have HO:=Ac (show dD g roots=nK g.nodes.length (aQ g.nodes).2 roots by rw[HOE.out,if_neg (by simpa using he)]);subst he;clear HV1 HV2 HOE;have HVX:=Ac HVV.out;obtain⟨vn',vi',vp,vl,vs,rfl,⟨An,cn,rfl,hcn,hN'⟩,⟨Ax,cx,rfl,hcx,hI'⟩,⟨Ap,cp,rfl,hcp,hP'⟩,⟨Al,cl,rfl,hcl,hL'⟩,⟨As,cs,rfl,hcs,hS'⟩⟩:=HVV.out;clear hN' hI' hP' hL' hS' HVV;go_wp2_with fail
  obtain⟨W,hW,hbv,hWb,hWz⟩:=aT w1 98 #[.int .i64 g.au,.slice An g.nodes.length cn,.slice Ax g.infos.length cx,.slice Ap (aQ g.nodes).1.length cp,.slice Al (aQ g.nodes).2.length cl,.slice As (aW g).length cs];rw[← hW];clear hW hWz;have hrs1:=hrs.below hWb hrs.lt;have hB1:Below w.heap.size w W:=hB.trans (hWb.mono hB.size);have hlt1:=hrs.lt;have x0:=hbv.cell (i:=0) rfl;have x1:=hbv.cell (i:=1) rfl;have x2:=hbv.cell (i:=2) rfl;have x3:=hbv.cell (i:=3) rfl;have x4:=hbv.cell (i:=4) rfl;have x5:=hbv.cell (i:=5) rfl;refine wp_region_held_drew (S:=fun w'=>w'.cell? ⟨w1.heap.size,0,none⟩=some (.int .i64 g.au)∧w'.cell? ⟨w1.heap.size,1,none⟩=some (.slice An g.nodes.length cn)∧w'.cell? ⟨w1.heap.size,2,none⟩=some (.slice Ax g.infos.length cx)∧w'.cell? ⟨w1.heap.size,3,none⟩=some (.slice Ap (aQ g.nodes).1.length cp)∧w'.cell? ⟨w1.heap.size,4,none⟩=some (.slice Al (aQ g.nodes).2.length cl)∧w'.cell? ⟨w1.heap.size,5,none⟩=some (.slice As (aW g).length cs)) ak ⟨x0,x1,x2,x3,x4,x5⟩ (fun hHeld=>?_);refine tkm [0,1,2] ?_;refine tk2 3 ak rfl fun K hK=>?_
  go_simp;refine(abC _ (fun b=>F b∧b < w.heap.size∨w.heap.size+1+1≤b) _ _ g (aQ g.nodes).1 (aQ g.nodes).2 (aW g) roots ((HVX.out.on (Below.same' hWb _)).on (Same.drewN _ _ 1)) ((HR.out.on (Below.same' hB1 _)).keep (fun b hb _=>.inl hb) (Same.drewN _ _ 1)) hl byOmega (fH _ _).2).mono ?_;rintro e w2 ⟨_,rfl,hb2,rfl⟩;have hb2':Below W.heap.size W w2:=(aK (Below.refl W.heap.size W) 1).trans hb2;clear hb2;have af5:=hbv.below hb2' hbv.lt;have yH:=hrs1.below hb2' hrs1.lt;have hB2:Below w.heap.size w w2:=hB1.trans (hb2'.mono hB1.size);dsimp only;refine hK.out _ _ ⟨af5.cell rfl,af5.cell rfl,af5.cell rfl,af5.cell rfl,af5.cell rfl,af5.cell rfl⟩ (fun hHeld=>?_);clear hK K;refine Zc ?_;have r0:=yH.cell (i:=0) rfl;have f0:=yH.frozen 0;have r1:=yH.cell (i:=1) rfl;have f1:=yH.frozen 1;have r2:=yH.cell (i:=2) rfl;have f2:=yH.frozen 2;have r3:=yH.cell (i:=3) rfl;have f3:=yH.frozen 3;have r4:=yH.cell (i:=4) rfl;have f4:=yH.frozen 4;have r5:=yH.cell (i:=5) rfl;have f5:=yH.frozen 5;refine tk2 4 ak rfl fun K hK=>?_
  go_simp;obtain⟨W3,hW3,hrw,hww⟩:=aaV yH (.int .i64 g.au) (.slice An g.nodes.length cn) (.slice Ax g.infos.length cx) (.slice Ap (aQ g.nodes).1.length cp) (.slice Al (aQ g.nodes).2.length cl) (.slice As (aW g).length cs);rw[← hW3];clear hW3;have ahT:=af5.wrote hww byOmega;refine hK.out _ _ ⟨ahT.cell rfl,ahT.cell rfl,ahT.cell rfl,ahT.cell rfl,ahT.cell rfl,ahT.cell rfl⟩ (fun hHeld=>?_);clear hK K;refine Zc ?_;refine tkm [5] ?_;clear r0 f0;have r0:=hrw.cell (i:=0) rfl;clear r1 f1;have r1:=hrw.cell (i:=1) rfl;clear r2 f2;have r2:=hrw.cell (i:=2) rfl;clear r3 f3;have r3:=hrw.cell (i:=3) rfl;clear r4 f4;have r4:=hrw.cell (i:=4) rfl;clear r5 f5;have r5:=hrw.cell (i:=5) rfl;refine YF ?_;clear hHeld;go_wp2
  refine bodyPost_ret (v:=.tuple #[.agg #[.int .i64 g.au,.slice An g.nodes.length cn,.slice Ax g.infos.length cx,.slice Ap (aQ g.nodes).1.length cp,.slice Al (aQ g.nodes).2.length cl,.slice As (aW g).length cs],.int .i64 (nK g.nodes.length (aQ g.nodes).2 roots)]) ?_ rfl ?_
  ·simp[results,Tryz.results63,go_sem,r0,r1,r2,r3,r4,r5]
  ·refine⟨_,rfl,Wrote.below hB2 hww (fun k hk=>by omega) hB2.size,_,by rw[HO.out],⟨_,_,_,_,_,_,_,_,_,_,_,_,_,_,_,_,rfl⟩,fun _=>?_⟩;exact Bz.keep (F:=fun b=>F b∧b < w.heap.size∨w.heap.size+1+1≤b) ((HVX.out.on (Below.same' hWb _)).on (Below.same' hb2' _)) (fun b hb _=>hb.imp And.left byOmega) (hww.same (fun b hb=>by omega))
 ·refine zbI ?_;intro hd;have HO:=Ac (show dD g roots=er by rw[HOE.out,if_pos he]);obtain rfl:=HV1.out he;have HNZ:=Ac he;clear he;unfold noView;have r0:=hrs.cell (i:=0) rfl;have f0:=hrs.frozen 0;have r1:=hrs.cell (i:=1) rfl;have f1:=hrs.frozen 1;have r2:=hrs.cell (i:=2) rfl;have f2:=hrs.frozen 2;have r3:=hrs.cell (i:=3) rfl;have f3:=hrs.frozen 3;have r4:=hrs.cell (i:=4) rfl;have f4:=hrs.frozen 4;have r5:=hrs.cell (i:=5) rfl;have f5:=hrs.frozen 5;have hlt1:=hrs.lt;go_wp2
  obtain⟨W,hW,hrw,hww⟩:=aaV hrs (.int .i64 0) (.slice none 0 0) (.slice none 0 0) (.slice none 0 0) (.slice none 0 0) (.slice none 0 0);rw[← hW];clear hW;clear r0 f0;have r0:=(hrw.alloc (.cells #[.int .i64 0,.slice none 0 0,.slice none 0 0,.slice none 0 0,.slice none 0 0,.slice none 0 0] 98)).cell (i:=0) rfl;clear r1 f1;have r1:=(hrw.alloc (.cells #[.int .i64 0,.slice none 0 0,.slice none 0 0,.slice none 0 0,.slice none 0 0,.slice none 0 0] 98)).cell (i:=1) rfl;clear r2 f2;have r2:=(hrw.alloc (.cells #[.int .i64 0,.slice none 0 0,.slice none 0 0,.slice none 0 0,.slice none 0 0,.slice none 0 0] 98)).cell (i:=2) rfl;clear r3 f3;have r3:=(hrw.alloc (.cells #[.int .i64 0,.slice none 0 0,.slice none 0 0,.slice none 0 0,.slice none 0 0,.slice none 0 0] 98)).cell (i:=3) rfl;clear r4 f4;have r4:=(hrw.alloc (.cells #[.int .i64 0,.slice none 0 0,.slice none 0 0,.slice none 0 0,.slice none 0 0,.slice none 0 0] 98)).cell (i:=4) rfl;clear r5 f5;have r5:=(hrw.alloc (.cells #[.int .i64 0,.slice none 0 0,.slice none 0 0,.slice none 0 0,.slice none 0 0,.slice none 0 0] 98)).cell (i:=5) rfl;have hBW:Below w.heap.size w W:=Wrote.below hB hww (fun k hk=>by omega) hB.size;refine bodyPost_ret (v:=.tuple #[noView,.int .i64 er]) ?_ rfl ?_
  ·simp[results,Tryz.results63,go_sem,r0,r1,r2,r3,r4,r5,noView]
  ·exact⟨_,rfl,hBW.alloc hBW.size _,noView,by rw[HO.out],⟨_,_,_,_,_,_,_,_,_,_,_,_,_,_,_,_,rfl⟩,fun h=>absurd (HO.out▸h) HNZ.out⟩
def xI (l:List Bool) (a:Nat):Nat→List Bool
 | 0=>l
 | j+1=>(xI l a j).set (a+j) true
theorem xJ (l:List Bool) (a j:Nat):(xI l a j).length=l.length:=by
 induction j with
 | zero=>rfl
 | succ j ih=>simp[xI,ih]
def xK (last:List Int) (l:List Bool) (r:Int):List Bool:=xI l r.toNat (last.getD r.toNat 0+1 - r).toNat
def insL (N:Nat) (last roots:List Int):List Bool:=roots.foldl (xK last) (List.replicate N false)
theorem ahU {N:Nat} {last roots:List Int} {k:Nat} {r:Int} (h:roots[k]? = some r):insL N last (roots.take (k+1))=xK last (insL N last (roots.take k)) r:=by
 rw[take_snoc h];simp[insL,List.foldl_append]
theorem lF (N:Nat) (last roots:List Int):(insL N last roots).length=N:=by
 unfold insL;suffices ∀ l:List Bool,(roots.foldl (xK last) l).length=l.length by simpa using this (List.replicate N false)
 induction roots with
 | nil=>intro l; rfl
 | cons r l ih=>intro m; simp only[List.foldl_cons]; rw[ih]; simp[xK,xJ]
def lV (l:List Bool):List Value:=l.map Value.bool
theorem vY (w:World) (F:Ag) (u vr:Value) (g:Gm) (par last:List Int) (sets:List (List Int)) (roots:List Int) (hv:Bz w F u g par last sets) (hr:Ah w F vr roots) (hl:roots.length≤1000) (hN:g.nodes.length≤1000) (hll:last.length=g.nodes.length)
  (hin:∀ r∈roots,0≤r∧r < (g.nodes.length:Int)) (hla:∀ x∈last,x < (g.nodes.length:Int)) :
  Calls Tryz.prog 65 #[u,vr] w (Ret w fun v w'=>AU w' (fun b=>w.heap.size≤b) v (insL g.nodes.length last roots)):=by
 obtain⟨vn,vi,vp,vl,vs,rfl,⟨A,c,rfl,hc,hN'⟩,⟨Ai,ci,rfl,hci,hI⟩,⟨Ap,cp,rfl,hcp,hP⟩,⟨Al,cl,rfl,hcl,hL⟩,⟨As,cs,rfl,hcs,hS⟩⟩:=hv;clear hN' hI hP hS;have HL:=Ac hL;clear hL;have HLL:=Ac hll;clear hll;have HIN:=Ac hin;clear hin;have HLA:=Ac hla;clear hla;obtain⟨Ar,cr,rfl,hcr,hRr⟩:=hr;have HR:=Ac hRr;clear hRr;go_in;go_wp2_with (at_make; refine gG _ rfl _ _ 70 rfl 4 (.bool false) 1 Tryz.underlying70 Tryz.infoBool rfl g.nodes.length rfl rfl byOmega byOmega ?_; intro w1 hb1 hz1 hrow1)
 simp only[World.size_alloc] at hb1 hz1 hrow1;have hbx:=(Row.new w 98 #[.int .i64 g.au,.slice A g.nodes.length c,.slice Ai g.infos.length ci,.slice Ap par.length cp,.slice Al last.length cl,.slice As sets.length cs]).below hb1 ay;have hB:Below w.heap.size w w1:=((Below.refl w.heap.size w).alloc (Nat.le_refl _) _).trans (hb1.mono byOmega);clear hb1;have HZ:=Ac hz1;clear hz1;go_loopw [7,8,16] (fun _ _ i wr=>∃ k:Nat,k≤roots.length∧i = .int .i64 k∧Row wr w.heap.size 98 [.int .i64 g.au,.slice A g.nodes.length c,.slice Ai g.infos.length ci,.slice Ap par.length cp,.slice Al last.length cl,.slice As sets.length cs]∧Row wr (w.heap.size+1) 4 (lV (insL g.nodes.length last (roots.take k)))∧Below w.heap.size w wr) (fun _ _ i _=>roots.length - (intOf i).toNat)
 case atStart=>exact⟨0,byOmega,rfl,hbx,by simpa [lV,insL] using hrow1,hB⟩
 case round =>
  clear hbx hB hrow1 HZ;obtain⟨k,hk,rfl,hbx,hrow,hbel⟩:=hrel;by_cases hlt:k < roots.length
  ·obtain⟨b,o,rfl,_,hb,hx⟩:=HR.out byOmega;obtain⟨r,hr⟩:=aC hlt;have er:=hx k r hr;unfold iE at er;rw[Nat.mul_one,← aJ hbel _ _ hb] at er;obtain⟨hr0,hr1⟩:=HIN.out r (List.mem_of_getElem? hr);obtain⟨q,rfl⟩:=Int.eq_ofNat_of_zero_le hr0;have hll:=HLL.out;obtain⟨bl,ol,rfl,_,hbl,hxl⟩:=HL.out byOmega;obtain⟨y,hy⟩:=aC (l:=last) (k:=q) byOmega;have el:=hxl q y hy;unfold iE at el;rw[Nat.mul_one] at el;have hyN:=HLA.out y (List.mem_of_getElem? hy);have hqL:q < last.length:=byOmega;have HSN:=Ac (show insL g.nodes.length last (roots.take (k+1))=xI (insL g.nodes.length last (roots.take k)) q (y+1 - q).toNat by
    rw[ahU hr]; unfold xK; simp[List.getD_eq_getElem?_getD,hy])
   have hil:=lF g.nodes.length last (roots.take k);clear hr hx hy hxl hll;generalize insL g.nodes.length last (roots.take k)=l0 at *;have HIL:=Ac hil;clear hil;go_wp2
   go_loopw [8] (fun i wr=>∃ j:Nat,(q:Int)+j≤max (y+1) q∧i = .int .i64 ((q+j:Nat):Int)∧Row wr w.heap.size 98 [.int .i64 g.au,.slice A g.nodes.length c,.slice Ai g.infos.length ci,.slice Ap par.length cp,.slice (some ⟨bl,ol,none⟩) last.length cl,.slice As sets.length cs]∧Row wr (w.heap.size+1) 4 (lV (xI l0 q j))∧Below w.heap.size w wr) (fun i _=>(y+1 - intOf i).toNat)
   case atStart=>exact⟨0,byOmega,rfl,hbx,hrow,hbel⟩
   case round =>
    clear hbx hrow hbel er;obtain⟨j,hj,rfl,hbx,hrow,hbel⟩:=hrel;have x4:=hbx.cell (i:=4) rfl;have el':=el;rw[← aJ hbel _ _ hbl] at el';have hlt2:=hrow.lt;by_cases hjy:((q+j:Nat):Int)≤y
    ·have hfl:(xI l0 q j).length=g.nodes.length:=by rw[xJ,HIL.out]
     obtain⟨z,hz⟩:=aC (l:=xI l0 q j) (k:=q+j) byOmega;have ec:=hrow.cell (i:=q+j) (v:=.bool z) (by simp[lV,hz]);have fc:=hrow.frozen (q+j);have hqj:q+j < g.nodes.length:=byOmega;clear hz hfl;have hdy:decide (((q+j:Nat):Int)≤y)=true:=decide_eq_true hjy;go_wp2
     go_roundw
     case rel =>
      refine⟨j+1,byOmega,by go_num,hbx.other ay _,?_,hbel.setCell ay _⟩;have:=hrow.set (q+j) (.bool true);simpa [lV,xI,List.map_set] using this
     case measure=>simp[intOf] <;> omega
    ·have hdy:decide (((q+j:Nat):Int)≤y)=false:=decide_eq_false hjy;have HJ:=Ac (show(y+1 - q).toNat=j by omega);go_wp2
     go_roundw
     case rel=>exact⟨k+1,byOmega,by go_num,hbx,by rw[HSN.out,HJ.out]; exact hrow,hbel⟩
     case measure=>simp[intOf] <;> omega
  ·go_wp2
   go_ret;rw[List.take_of_length_le byOmega] at hrow;have h1:=Row.bools (F:=fun b=>w.heap.size≤b) hrow byOmega (c:=g.nodes.length) (by rw[lF]; omega);rw[lF] at h1;exact⟨_,rfl,hbel,h1⟩
def Bl (w:World) (fid:FuncId) (caps:Array Value) (X:Int→Prop) (p:Int→Bool):Prop :=
 (∀ (args:Array Value) (w':World),(callFunc fid args).run Tryz.prog w' = .ok (.enter fid args) w') ∧
 ∀ (w':World) (x:Int),Below w.heap.size w w'→X x→Calls Tryz.prog fid (#[.int .i64 x]++caps) w' fun e w''=>e = .returned (.bool (p x))∧∃ m,w''=w'.drewN m
theorem Bl.at {w w':World} {fid:FuncId} {caps:Array Value} {X:Int→Prop} {p:Int→Bool} (h:Bl w fid caps X p) (hb:Below w.heap.size w w') {l:List Int} (hl:∀ x∈l,X x):CX w' fid caps l p :=
 ⟨h.1,fun n x hx=>(h.2 (w'.drewN n) x (aK hb n) (hl x hx)).mono fun e w'' ⟨he,m,hm⟩=>⟨he,n+m,by rw[hm,World.drewN_drewN]⟩⟩
def kJ (p:Int→Bool) (sets:List (List Int)) (k:Nat):List Int:=((sets.take k).zipIdx.filter fun q=>q.1.any p).map fun q=>(q.2:Int)
theorem aeB {p:Int→Bool} {sets:List (List Int)} {k:Nat} {l:List Int} (h:sets[k]? = some l):kJ p sets (k+1)=kJ p sets k++(if l.any p then [(k:Int)] else []):=by
 unfold kJ;rw[yV h,List.filter_append,List.map_append];cases h:l.any p <;> simp[h]
theorem qh (p:Int→Bool) (sets:List (List Int)) (k:Nat):(kJ p sets k).length≤k:=by
 unfold kJ;refine za1 ?_;simp;omega
def nO (p:Int→Bool) (sets:List (List Int)):List Int:=kJ p sets sets.length
theorem aaW (w:World) (F:Ag) (u:Value) (g:Gm) (par last:List Int) (sets:List (List Int)) (fid:FuncId) (caps:Array Value) (X:Int→Prop) (p:Int→Bool) (hv:Bz w F u g par last sets) (hl:sets.length≤1000) (hll:∀ l∈sets,l.length≤1000) (hX:∀ l∈sets,∀ x∈l,X x)
  (ha:Bl w fid caps X p) :
  Calls Tryz.prog 81 #[u,.func (.func fid) #[] caps] w (Ret w fun v w'=>Ah w' (fun b=>w.heap.size≤b) v (nO p sets)):=by
 obtain⟨vn,vi,vp,vl,vs,rfl,⟨A,c,rfl,hc,hN'⟩,⟨Ai,ci,rfl,hci,hI⟩,⟨Ap,cp,rfl,hcp,hP⟩,⟨Al,cl,rfl,hcl,hL⟩,⟨As,cs,rfl,hcs,hS⟩⟩:=hv;clear hN' hI hP hL;have HS:=Ac hS;clear hS;have HLL:=Ac hll;clear hll;have HX:=Ac hX;clear hX;have HA:=Ac ha;clear ha;go_in;go_wp2
 refine zaj ?_;intro W hW hbx hWb hWz;clear hW hWz hbx;go_loopw [5,6,7,11] (fun vo _ _ i wr=>∃ k:Nat,k≤sets.length∧i = .int .i64 k∧wr.ownsRow W.heap.size 3 1 vo (kJ p sets k).length ((kJ p sets k).map (Value.int .i64))∧Below W.heap.size W wr) (fun _ _ _ i _=>sets.length - (intOf i).toNat)
 case atStart=>exact⟨0,byOmega,rfl,World.ownsRow_nil _ _ _ _,Below.refl _ _⟩
 case round =>
  obtain⟨k,hk,rfl,hown,hbel⟩:=hrel;have HO:=Ac hown;clear hown;have hlen:=qh p sets k;by_cases hlt:k < sets.length
  ·obtain⟨b,o,rfl,hbF,hb,hx⟩:=HS.out byOmega;obtain⟨l,hl'⟩:=aC hlt;obtain⟨vl',ev,hvl⟩:=hx k l hl';rw[Nat.mul_one,← aJ hWb _ _ hb,← aJ hbel _ _ (by have:=hWb.size; omega)] at ev;have HST:=Ac (aeB (p:=p) hl');have hll:=HLL.out l (List.mem_of_getElem? hl');have HVL:=Ac ((hvl.on (Below.same' hWb F)).on (Below.same' hbel F));have HAA:=Ac (HA.out.at (hWb.trans (hbel.mono hWb.size)) (HX.out l (List.mem_of_getElem? hl')));clear hl' hx hvl;go_wp2_with fail
   refine(qo _ F _ l fid caps p HVL.out byOmega HAA.out).mono ?_;rintro e w2 ⟨rfl,n,hw2⟩;have HO2:=Ac (show w2.ownsRow W.heap.size 3 1 u5 (kJ p sets k).length ((kJ p sets k).map (Value.int .i64)) by rw[hw2]; exact HO.out);have fZ:Below W.heap.size W w2:=by rw[hw2];exact aK hbel n
   clear ev hw2 HO hbel;generalize l.any p=r at *;dsimp only;cases r
   ·go_wp2
    go_roundw
    case rel=>exact⟨k+1,byOmega,by go_num,by rw[HST.out]; simpa using HO2.out,fZ⟩
    case measure=>simp[intOf] <;> omega
   ·go_wp2_with (at_builtin; refine nC rfl _ _ rfl W.heap.size _ (kJ p sets k) rfl (HO2.out.alloc _) w2.heap.size k rfl (heap_alloc_new _ _) byOmega (by have:=fZ.size; simp; omega) ?_; intro gg cap w3 hown3 hgrow hat hlt3; have rO:Below W.heap.size W w3:=(fZ.alloc fZ.size _).grown hgrow (by have:=fZ.size; simp; omega) (fun k hk=>(HO2.out.lt k hk).1); have HO3:=Ac hown3; clear hown3 hgrow hat hlt3)
    go_roundw
    case rel=>exact⟨k+1,byOmega,by go_num,by rw[HST.out]; simpa using HO3.out,rO⟩
    case measure=>simp[intOf] <;> omega
  ·go_wp2
   go_ret;have hke:k=sets.length:=byOmega;subst hke;have hz:=hWb.size;exact⟨_,rfl,hWb.trans (hbel.mono hz),Own.ints (by unfold nO; simpa [Own] using HO.out) (fun b hb=>by have:=(HO.out.lt b hb).1; omega)⟩
def jr (inn:List Bool) (x:Int):Bool:=inn.getD x.toNat false
theorem aeC (w:World) (F:Ag) (bc:Nat) (vb:Value) (inn:List Bool) (x:Int) (hc:w.cell? ⟨bc,0,none⟩=some vb) (hv:AU w F vb inn) (hx:0≤x∧x < (inn.length:Int)) :
  Calls Tryz.prog 124 (#[.int .i64 x] ++ #[.pointer (some ⟨bc,0,none⟩)]) w fun e w'=>e = .returned (.bool (jr inn x))∧∃ m,w'=w.drewN m:=by
 obtain⟨A,c,rfl,hcc,hr⟩:=hv;obtain⟨q,rfl⟩:=Int.eq_ofNat_of_zero_le hx.1;obtain⟨b,o,rfl,_,hb,hxx⟩:=hr byOmega;obtain⟨y,hy⟩:=aC (l:=inn) (k:=q) byOmega;have ey:=hxx q y hy;unfold uJ at ey;rw[Nat.mul_one] at ey;have hq:q < inn.length:=byOmega;exact zam
theorem zI (w:World) (F:Ag) (bc:Nat) (vb:Value) (inn:List Bool) (hc:w.cell? ⟨bc,0,none⟩=some vb) (hb:bc < w.heap.size) (hv:AU w F vb inn):Bl w 124 #[.pointer (some ⟨bc,0,none⟩)] (fun x=>0≤x∧x < (inn.length:Int)) (jr inn) :=
 ⟨enters Tryz.func124 (by decide +kernel) (by decide +kernel),fun w' x hb' hx=>aeC w' F bc vb inn x (by rw[aJ hb' bc 0 hb]; exact hc) (hv.on (Below.same' hb' F)) hx⟩
theorem aeD (w:World) (F:Ag) (bc:Nat) (vb:Value) (inn:List Bool) (x:Int) (hc:w.cell? ⟨bc,0,none⟩=some vb) (hv:AU w F vb inn) (hx:0≤x∧x < (inn.length:Int)) :
  Calls Tryz.prog 82 (#[.int .i64 x] ++ #[.pointer (some ⟨bc,0,none⟩)]) w fun e w'=>e = .returned (.bool (jr inn x))∧∃ m,w'=w.drewN m:=by
 obtain⟨A,c,rfl,hcc,hr⟩:=hv;obtain⟨q,rfl⟩:=Int.eq_ofNat_of_zero_le hx.1;obtain⟨b,o,rfl,_,hb,hxx⟩:=hr byOmega;obtain⟨y,hy⟩:=aC (l:=inn) (k:=q) byOmega;have ey:=hxx q y hy;unfold uJ at ey;rw[Nat.mul_one] at ey;have hq:q < inn.length:=byOmega;exact zam
theorem zJ (w:World) (F:Ag) (bc:Nat) (vb:Value) (inn:List Bool) (hc:w.cell? ⟨bc,0,none⟩=some vb) (hb:bc < w.heap.size) (hv:AU w F vb inn):Bl w 82 #[.pointer (some ⟨bc,0,none⟩)] (fun x=>0≤x∧x < (inn.length:Int)) (jr inn) :=
 ⟨enters Tryz.func82 (by decide +kernel) (by decide +kernel),fun w' x hb' hx=>aeD w' F bc vb inn x (by rw[aJ hb' bc 0 hb]; exact hc) (hv.on (Below.same' hb' F)) hx⟩
def aeE (inn:List Bool) (sets:List (List Int)) (s:Int):Bool:=(sets.getD s.toNat []).all (jr inn)
def lW (inn:List Bool) (sets:List (List Int)):Bool:=(nO (jr inn) sets).all (aeE inn sets)
theorem xM {α:Type} {l:List α} {p:α→Bool} {k:Nat} {x:α} (h:l[k]? = some x) (hn:(l.take k).all p=true) (hx:p x=true):(l.take (k+1)).all p=true:=by
 rw[take_snoc h,List.all_append];simp[hn,hx]
theorem all_false {α:Type} {l:List α} {p:α→Bool} {x:α} (h:x∈l) (hx:p x=false):l.all p=false:=by
 rw[List.all_eq_false];exact⟨x,h,by simp[hx]⟩
theorem aeF {p:Int→Bool} {sets:List (List Int)}:∀ s∈nO p sets,0≤s∧s < (sets.length:Int):=by
 intro s hs;unfold nO kJ at hs;rw[List.mem_map] at hs;obtain⟨q,hq,rfl⟩:=hs;rw[List.mem_filter] at hq;have:=List.mem_zipIdx hq.1;simp at this;omega
theorem tq (w:World) (F:Ag) (u vr:Value) (g:Gm) (par last:List Int) (sets:List (List Int)) (roots:List Int) (hv:Bz w F u g par last sets) (hr:Ah w F vr roots) (hl:roots.length≤1000) (hN:g.nodes.length≤1000) (hll:last.length=g.nodes.length)
  (hin:∀ r∈roots,0≤r∧r < (g.nodes.length:Int)) (hla:∀ x∈last,x < (g.nodes.length:Int)) (hs:sets.length≤1000) (hsl:∀ l∈sets,l.length≤1000) (hsx:∀ l∈sets,∀ x∈l,0≤x∧x < (g.nodes.length:Int)) :
  Calls Tryz.prog 64 #[u,vr] w (Ret w fun v _=>v = .bool (lW (insL g.nodes.length last roots) sets)):=by
 have HV:=Ac hv;obtain⟨vn,vi,vp,vl,vs,rfl,⟨A,c,rfl,hc,hN'⟩,⟨Ai,ci,rfl,hci,hI⟩,⟨Ap,cp,rfl,hcp,hP⟩,⟨Al,cl,rfl,hcl,hL⟩,⟨As,cs,rfl,hcs,hS⟩⟩:=hv;clear hN' hI hP hL;have HS:=Ac hS;clear hS;have HR:=Ac hr;clear hr;have HLL:=Ac hll;clear hll;have HIN:=Ac hin;clear hin;have HLA:=Ac hla;clear hla;have HSL:=Ac hsl;clear hsl;have HSX:=Ac hsx;clear hsx;refine Z9 ?_;intro hmf;go_in;go_wp2_with fail
 refine zaj ?_;intro W hW hbx hWb hWz;clear hW hWz;refine(vY _ F _ _ g par last sets roots (HV.out.on (Below.same' hWb F)) (HR.out.on (Below.same' hWb F)) hl hN HLL.out HIN.out HLA.out).mono ?_;rintro e w1 ⟨vb,rfl,hb1,hvb⟩;have fQ:=hbx.below hb1 hbx.lt;have hB1:Below w.heap.size w w1:=hWb.trans (hb1.mono hWb.size);have hil:=lF g.nodes.length last roots;generalize hinn:insL g.nodes.length last roots=inn at *;have Ed:=Ac hinn;clear hinn;have HIL:=Ac hil;clear hil hbx hWb hb1;obtain⟨Ab,cb,rfl,hcb,hBb⟩:=hvb;have HVB:=Ac (show AU w1 (fun b=>W.heap.size≤b) (.slice Ab inn.length cb) inn from⟨_,_,rfl,hcb,hBb⟩);have HBB:=Ac hBb;clear hBb;have x0:=fQ.cell (i:=0) rfl;have x1:=fQ.cell (i:=1) rfl;have x2:=fQ.cell (i:=2) rfl;have x3:=fQ.cell (i:=3) rfl;have x4:=fQ.cell (i:=4) rfl;have x5:=fQ.cell (i:=5) rfl;have hlt1:=fQ.lt;dsimp only;go_wp2_with fail
 obtain⟨W2,hW2,hbc,nX,af6⟩:=aT w1 70 #[.slice Ab inn.length cb];rw[← hW2];clear hW2 af6 x0 x1 x2 x3 x4 x5;have hB2:Below w.heap.size w W2:=hB1.trans (nX.mono hB1.size);refine(aaW _ F _ g par last sets _ _ (fun x=>0≤x∧x < (inn.length:Int)) (jr inn) (HV.out.on (Below.same' hB2 F)) hs HSL.out (fun l hl x hx=>by have:=HSX.out l hl x hx; have:=HIL.out; omega) (zI W2 _ _ _ inn (hbc.cell rfl) hbc.lt (HVB.out.on (Below.same' nX _)))).mono ?_;rintro e w3 ⟨vo,rfl,hb3,hvo⟩;have HCL:=Ac (show lW inn sets=(nO (jr inn) sets).all (aeE inn sets) from rfl);have HSI:=Ac (aeF (p:=jr inn) (sets:=sets));have hlen:(nO (jr inn) sets).length≤1000:=by unfold nO;have:=qh (jr inn) sets sets.length;omega
 generalize nO (jr inn) sets=so at *;have o7:=(fQ.below nX fQ.lt).below hb3 (by have:=nX.size; omega);have hbc3:=hbc.below hb3 hbc.lt;have hB3:Below w.heap.size w w3:=hB2.trans (hb3.mono hB2.size);have hB13:Below w1.heap.size w1 w3:=nX.trans (hb3.mono nX.size);clear fQ hbc hB2 hb3 nX;obtain⟨Ao,co,rfl,hco,hOo⟩:=hvo;have HOO:=Ac hOo;clear hOo;have x5:=o7.cell (i:=5) rfl;have c5:=hbc3.cell (i:=0) rfl;dsimp only;go_wp2
 go_loop [7,9,17,27] (fun _ _ i _=>∃ k:Nat,k≤so.length∧i = .int .i64 k∧(so.take k).all (aeE inn sets)=true) (fun _ _ i _=>so.length - (intOf i).toNat)
 case atStart=>exact⟨0,byOmega,rfl,rfl⟩
 case round =>
  obtain⟨k,hk,rfl,hpre⟩:=hrel;have HP:=Ac hpre;clear hpre;by_cases hlt:k < so.length
  ·obtain⟨bo,oo,rfl,_,hbo,hxo⟩:=HOO.out byOmega;obtain⟨s,hs'⟩:=aC hlt;have es:=hxo k s hs';unfold iE at es;rw[Nat.mul_one] at es;obtain⟨hs0,hs1⟩:=HSI.out s (List.mem_of_getElem? hs');obtain⟨q,rfl⟩:=Int.eq_ofNat_of_zero_le hs0;have hqs:q < sets.length:=byOmega;obtain⟨bs,os,rfl,_,hbs,hxs⟩:=HS.out byOmega;obtain⟨l,hl'⟩:=aC hqs;obtain⟨vl',el,Av,cv,rfl,hcv,hAv⟩:=hxs q l hl';rw[Nat.mul_one,← aJ hB3 _ _ hbs] at el;have hl1:=HSL.out l (List.mem_of_getElem? hl');have HLX:=Ac (HSX.out l (List.mem_of_getElem? hl'));have HAA:=Ac (show aeE inn sets (q:Int)=l.all (jr inn) by unfold aeE; simp[List.getD_eq_getElem?_getD,hl']);have HSS:=Ac hs';have HAV:=Ac hAv;clear hs' hxo hxs hl' hAv;go_wp2
   go_loop [9,27] (fun _ i=>∃ j:Nat,j≤l.length∧i = .int .i64 j∧(l.take j).all (jr inn)=true) (fun _ i=>l.length - (intOf i).toNat)
   case atStart=>exact⟨0,byOmega,rfl,rfl⟩
   case round =>
    obtain⟨j,hj,rfl,hpre⟩:=hrel;have HPJ:=Ac hpre;clear hpre;by_cases hjt:j < l.length
    ·obtain⟨bv,ov,rfl,_,hbv,hxv⟩:=HAV.out byOmega;obtain⟨x,hx⟩:=aC hjt;have ex:=hxv j x hx;unfold iE at ex;rw[Nat.mul_one,← aJ hB3 _ _ hbv] at ex;obtain⟨hx0,hx1⟩:=HLX.out x (List.mem_of_getElem? hx);obtain⟨z,rfl⟩:=Int.eq_ofNat_of_zero_le hx0;have hzi:z < inn.length:=by have:=HIL.out;omega
     obtain⟨bb,ob,rfl,_,hbb,hxb⟩:=HBB.out byOmega;obtain⟨y,hy⟩:=aC hzi;have eb:=hxb z y hy;unfold uJ at eb;rw[Nat.mul_one,← aJ hB13 _ _ hbb] at eb;have HY:=Ac (show jr inn (z:Int)=y by unfold jr; simp[List.getD_eq_getElem?_getD,hy]);have HXJ:=Ac hx;clear hx hxv hxb hy;cases y
     ·have HF:=Ac (show lW inn sets=false by
       rw[HCL.out]; exact all_false (List.mem_of_getElem? HSS.out) (by rw[HAA.out]; exact all_false (List.mem_of_getElem? HXJ.out) HY.out))
      go_wp2
      go_ret;exact⟨_,rfl,hB3,by rw[Ed.out,HF.out]; rfl⟩
     ·go_wp2
      go_round
      case rel=>exact⟨j+1,byOmega,by go_num,xM HXJ.out HPJ.out HY.out⟩
      case measure=>simp[intOf] <;> omega
    ·go_wp2
     go_round
     case rel=>exact⟨k+1,byOmega,by go_num,xM HSS.out HP.out (by rw[HAA.out]; have:=HPJ.out; rwa [List.take_of_length_le byOmega] at this)⟩
     case measure=>simp[intOf] <;> omega
  ·have HF:=Ac (show lW inn sets=true by rw[HCL.out]; have:=HP.out; rwa [List.take_of_length_le byOmega] at this);go_wp2
   go_ret;exact⟨_,rfl,hB3,by rw[Ed.out,HF.out]; rfl⟩
structure D5 (g:Gm):Prop where
 last:∀ x∈(aQ g.nodes).2,x < (g.nodes.length:Int)
def CO (g:Gm):Prop:=bF g=0→D5 g
theorem dZ {g:Gm} (hsm:Small g):(aW g).length≤1000∧∀ l∈aW g,l.length≤1000:=by
 refine⟨by unfold aW; rw[bC]; have:=hsm.infos; omega,fun l hl=>?_⟩;have:=qL l hl;have:=hsm.nodes;omega
def kX (g:Gm) (roots:List Int):Bool:=decide (dD g roots=0)&&lW (insL g.nodes.length (aQ g.nodes).2 roots) (aW g)
theorem vZ {g:Gm} {roots:List Int} (h:dD g roots=0):bF g=0∧∀ r∈roots,0≤r∧r < (g.nodes.length:Int):=by
 unfold dD at h;split at h
 ·rename_i h1; exact absurd h h1
 ·rename_i h1
  refine⟨by simpa using h1,?_⟩;unfold nK at h;split at h
  ·omega
  ·split at h
   ·omega
   ·rename_i h2; exact sH (by simpa using h2)
theorem ru (w:World) (F:Ag) (u vr:Value) (g:Gm) (roots:List Int) (hg:AB w F u g) (hr:Ah w F vr roots) (hsm:Small g) (hl:roots.length≤1000) (fD:CO g) :
  Calls Tryz.prog 40 #[u,vr] w (Ret w fun v _=>v = .tuple #[.bool (kX g roots),.int .i64 (dD g roots)]):=by
 have HG:=Ac hg;obtain⟨vn,vi,rfl,⟨A,c,rfl,hc,hN⟩,⟨Ai,ci,rfl,hci,hI⟩⟩:=hg;clear hN hI;have HR:=Ac hr;clear hr;have hn:=hsm.nodes;have HS:=Ac hsm;clear hsm;have HFI:=Ac fD;clear fD;go_in;go_wp2_with fail
 refine zcZ ?_;rintro e w1 ⟨_,rfl,hb1,vv,rfl,⟨p0,A1,n1,c1,A2,n2,c2,A3,n3,c3,A4,n4,c4,A5,n5,c5,rfl⟩,hv2⟩;refine Ya ?_;intro hB;simp only[World.size_alloc] at hv2;clear hb1;have HV2:=Ac hv2;clear hv2;have HCO:=Ac (show kX g roots=(decide (dD g roots=0)&&lW (insL g.nodes.length (aQ g.nodes).2 roots) (aW g)) from rfl);have HOI:=Ac (fun h:dD g roots=0=>vZ h);generalize hoe:dD g roots=er at *;have HOE:=Ac hoe;clear hoe;dsimp only;by_cases he:er=0
 ·obtain⟨hf0,hin⟩:=HOI.out he;have fD:=HFI.out hf0;have HIN:=Ac hin;have HII:=Ac (jd hf0).infos;have HFL:=Ac fD.last;have HVX:=Ac (HV2.out he);have HE:=Ac (show decide (er=0)=true by simp[he]);subst he;clear hin hf0 fD;go_wp2_with fail
  obtain⟨W,hW,hbx,hWb,hWz⟩:=aT w1 98 #[.int .i64 p0,.slice A1 n1 c1,.slice A2 n2 c2,.slice A3 n3 c3,.slice A4 n4 c4,.slice A5 n5 c5];rw[← hW];clear hW hWz hbx;refine(tq _ (fun b=>F b∨w.heap.size+1≤b) _ _ g (aQ g.nodes).1 (aQ g.nodes).2 (aW g) roots (HVX.out.on (Below.same' hWb _)) ((HR.out.on (Below.same' (hB.trans (hWb.mono hB.size)) F)).keep (fun b hb _=>.inl hb) (Same.refl _ _)) hl byOmega (fH _ _).2 HIN.out HFL.out (dZ HS.out).1 (dZ HS.out).2 (fun l hl x hx=>mJ (Nat.le_refl _) l hl x hx)).mono ?_;rintro e w2 ⟨_,rfl,hb2,rfl⟩;dsimp only;go_wp2
  go_ret2;have hB1:=hB.trans (hWb.mono hB.size);exact⟨_,rfl,hB1.trans (hb2.mono hB1.size),by rw[HCO.out,HOE.out]; simp⟩
 ·refine zbI ?_;intro hd;have HF:=Ac (show decide (er=0)=false by simp[he]);clear he;go_wp2
  go_ret2;exact⟨_,rfl,hB.alloc hB.size _,by rw[HCO.out,HOE.out,HF.out]; rfl⟩
def yI (g:Gm) (roots:List Int):List Int:=if dD g roots=0 then afs (insL g.nodes.length (aQ g.nodes).2 roots) else []
def aaX (g:Gm) (roots:List Int):List Int:=if dD g roots=0 then nO (jr (insL g.nodes.length (aQ g.nodes).2 roots)) (aW g) else []
theorem aeG (w:World) (F:Ag) (u vr:Value) (g:Gm) (roots:List Int) (hg:AB w F u g) (hr:Ah w F vr roots) (hsm:Small g) (hl:roots.length≤1000) (fD:CO g) :
  Calls Tryz.prog 34 #[u,vr] w (Ret w (D7 w.heap.size (dD g roots) (yI g roots) (aaX g roots))):=by
 have HG:=Ac hg;obtain⟨vn,vi,rfl,⟨A,c,rfl,hc,hN⟩,⟨Ai,ci,rfl,hci,hI⟩⟩:=hg;clear hN hI;have HR:=Ac hr;clear hr;have hn:=hsm.nodes;have HS:=Ac hsm;clear hsm;have HFI:=Ac fD;clear fD;refine Z9 ?_;intro hmf;go_in;go_wp2_with fail
 refine zcZ ?_;rintro e w1 ⟨_,rfl,hb1,vv,rfl,⟨p0,A1,n1,c1,A2,n2,c2,A3,n3,c3,A4,n4,c4,A5,n5,c5,rfl⟩,hv2⟩;refine Ya ?_;intro hB;simp only[World.size_alloc] at hv2;clear hb1;have HV2:=Ac hv2;clear hv2;have HI1:=Ac (show yI g roots=if dD g roots=0 then afs (insL g.nodes.length (aQ g.nodes).2 roots) else [] from rfl);have HI2:=Ac (show aaX g roots=if dD g roots=0 then nO (jr (insL g.nodes.length (aQ g.nodes).2 roots)) (aW g) else [] from rfl);have HOI:=Ac (fun h:dD g roots=0=>vZ h);generalize hoe:dD g roots=er at *;have HOE:=Ac hoe;clear hoe;dsimp only;by_cases he:er=0
 ·obtain⟨hf0,hin⟩:=HOI.out he;have fD:=HFI.out hf0;have HIN:=Ac hin;have HII:=Ac (jd hf0).infos;have HFL:=Ac fD.last;have HVX:=Ac (HV2.out he);have HE:=Ac he;subst he;clear hin hf0 fD;go_wp2_with fail
  obtain⟨W,hW,hbx,hWb,hWz⟩:=aT w1 98 #[.int .i64 p0,.slice A1 n1 c1,.slice A2 n2 c2,.slice A3 n3 c3,.slice A4 n4 c4,.slice A5 n5 c5];rw[← hW];clear hW hWz;have hB1:=hB.trans (hWb.mono hB.size);refine(vY _ (fun b=>F b∨w.heap.size+1≤b) _ _ g (aQ g.nodes).1 (aQ g.nodes).2 (aW g) roots (HVX.out.on (Below.same' hWb _)) ((HR.out.on (Below.same' hB1 F)).keep (fun b hb _=>.inl hb) (Same.refl _ _)) hl byOmega (fH _ _).2 HIN.out HFL.out).mono ?_;rintro e w2 ⟨vb,rfl,hb2,hvb⟩;have hbx2:=hbx.below hb2 hbx.lt;have hB2:=hB1.trans (hb2.mono hB1.size);have HW2:=Ac (hWb.trans (hb2.mono hWb.size));have hlt2:=hbx2.lt;have hil:=lF g.nodes.length (aQ g.nodes).2 roots;have HM:=Ac (show afs (insL g.nodes.length (aQ g.nodes).2 roots)=mV (insL g.nodes.length (aQ g.nodes).2 roots) (insL g.nodes.length (aQ g.nodes).2 roots).length from rfl);generalize insL g.nodes.length (aQ g.nodes).2 roots=inn at *;have hil2:inn.length≤100:=byOmega;have HIL:=Ac hil;clear hil hbx hb2 hWb hB1 hB;obtain⟨Ab,cb,rfl,hcb,hBb⟩:=hvb;have HVB:=Ac (show AU w2 (fun b=>W.heap.size≤b) (.slice Ab inn.length cb) inn from⟨_,_,rfl,hcb,hBb⟩);have HBB:=Ac hBb;clear hBb;dsimp only;go_wp2
  obtain⟨W2,hW2,hbc,nX,af6⟩:=aT w2 70 #[.slice Ab inn.length cb];rw[← hW2];clear hW2 af6;have o7:=hbx2.below nX hbx2.lt;have hB3:=hB2.trans (nX.mono hB2.size);have hlt3:=hbc.lt;clear hbx2;go_loopw [4,9,10,25] (fun vo _ _ i wr=>∃ k:Nat,k≤inn.length∧i = .int .i64 k∧wr.ownsRow W2.heap.size 3 1 vo (mV inn k).length ((mV inn k).map (Value.int .i64))∧Below W2.heap.size W2 wr) (fun _ _ _ i _=>inn.length - (intOf i).toNat)
  case atStart=>exact⟨0,byOmega,rfl,World.ownsRow_nil _ _ _ _,Below.refl _ _⟩
  case round =>
   obtain⟨k,hk,rfl,hown,hbel⟩:=hrel;have HO:=Ac hown;clear hown;have hlen:=aaq inn k;by_cases hlt:k < inn.length
   ·obtain⟨bu,ou,rfl,_,hbu,hxu⟩:=HBB.out byOmega;obtain⟨y,hy⟩:=aC hlt;have ey:=hxu k y hy;unfold uJ at ey;rw[Nat.mul_one,← aJ nX _ _ hbu,← aJ hbel _ _ byOmega] at ey;have HST:=Ac (acT hy);clear hy hxu;cases y
    ·go_wp2
     go_roundw
     case rel=>exact⟨k+1,byOmega,by go_num,by rw[HST.out]; simpa using HO.out,hbel⟩
     case measure=>simp[intOf] <;> omega
    ·go_wp2_with (at_builtin; refine nC rfl _ _ rfl W2.heap.size _ (mV inn k) rfl (HO.out.alloc _) wr.heap.size k rfl (heap_alloc_new _ _) byOmega (by have:=hbel.size; simp; omega) ?_; intro gg cap w3 hown3 hgrow hat hlt3; have rO:Below W2.heap.size W2 w3:=(hbel.alloc hbel.size _).grown hgrow (by have:=hbel.size; simp; omega) (fun k hk=>(HO.out.lt k hk).1); have HO3:=Ac hown3; clear hown3 hgrow hat hlt3)
     go_roundw
     case rel=>exact⟨k+1,byOmega,by go_num,by rw[HST.out]; simpa using HO3.out,rO⟩
     case measure=>simp[intOf] <;> omega
   ·have adP:=o7.below hbel o7.lt;have hbc4:=hbc.below hbel hbc.lt;have x0:=adP.cell (i:=0) rfl;have x1:=adP.cell (i:=1) rfl;have x2:=adP.cell (i:=2) rfl;have x3:=adP.cell (i:=3) rfl;have x4:=adP.cell (i:=4) rfl;have x5:=adP.cell (i:=5) rfl;have hB4:=hB3.trans (hbel.mono hB3.size);have h24:Below w2.heap.size w2 wr:=nX.trans (hbel.mono nX.size);have h14:Below w1.heap.size w1 wr:=HW2.out.trans (h24.mono HW2.out.size);go_wp2_with fail
    refine(aaW _ (fun b=>F b∨w.heap.size+1≤b) _ g (aQ g.nodes).1 (aQ g.nodes).2 (aW g) _ _ (fun x=>0≤x∧x < (inn.length:Int)) (jr inn) (HVX.out.on (Below.same' h14 _)) (dZ HS.out).1 (dZ HS.out).2 (fun l hl x hx=>by have:=mJ (Nat.le_refl _) l hl x hx; have:=HIL.out; omega) (zJ wr _ _ _ inn (hbc4.cell rfl) hbc4.lt (HVB.out.on (Below.same' h24 _)))).mono ?_;rintro e w5 ⟨vo,rfl,hb5,hvo⟩;clear x0 x1 x2 x3 x4 x5;dsimp only;go_wp2
    go_ret3;have hke:k=inn.length:=byOmega;subst hke;have z3:=hB3.size;have z4:=hB4.size;have z5:=hbel.size;refine⟨_,rfl,hB4.trans (hb5.mono z4),u4,vo,by first | rfl | (rw[HOE.out]; rfl),?_,?_⟩
    ·rw[HI1.out,if_pos (by first | rfl | trivial),HM.out];exact(Own.ints (F:=fun b=>w.heap.size≤b) (by simpa [Own] using HO.out) (fun b hb=>by have:=(HO.out.lt b hb).1; omega)).on (Below.same' hb5 _)
    ·rw[HI2.out,if_pos (by first | rfl | trivial)];exact hvo.keep (fun b hb _=>by omega) (Same.refl _ _)
 ·refine zbI ?_;intro hd;have HNZ:=Ac he;clear he;go_wp2
  go_ret3;refine⟨_,rfl,hB.alloc hB.size _,.slice none 0 0,.slice none 0 0,by first | rfl | (rw[HOE.out]; rfl),?_,?_⟩
  ·rw[HI1.out,if_neg HNZ.out];exact oM _ _
  ·rw[HI2.out,if_neg HNZ.out];exact oM _ _
theorem Span.last {nodes:List Nd} {cs:List Int} {a b:Nat} (h:Span nodes cs a b):∀ c,cs.getLast? = some c→∃ k:Nat,c=k∧a≤k∧Span nodes [(k:Int)] k b:=by
 induction h with
 | nil a=>intro c hc; simp at hc
 | @cons a m b n cs hn h1 h2 ih1 ih2 =>
  intro c hc;cases cs with
  | nil =>
   simp at hc;cases h2;exact⟨a,hc.symm,Nat.le_refl _,.cons hn h1 (.nil _)⟩
  | cons d ds =>
   rw[List.getLast?_cons_cons] at hc;obtain⟨k,h3,h4,h5⟩:=ih2 c hc;have:=h1.le;exact⟨k,h3,byOmega,h5⟩
theorem Span.open {nodes:List Nd} {i e:Nat} {n:Nd} (h:Span nodes [(i:Int)] i e) (hn:nodes[i]? = some n):Span nodes n.next (i+1) e:=by
 generalize hl:[(i:Int)]=l at h;cases h with
 | nil=>cases hl
 | cons hn' h1 h2 =>
  injection hl with e1 e2
  subst e2;cases h2;rw[hn] at hn';cases hn';exact h1
theorem aaY (q:Nat) (cs:List Int) (s:List Int×List Int) {i:Nat} (h:i≠q):(fE q cs s).2[i]? = s.2[i]?:=by
 unfold fE;induction cs generalizing s with
 | nil=>rfl
 | cons c cs ih=>simp only[List.foldl_cons]; rw[ih]; exact List.getElem?_set_ne byOmega
theorem aeH (q:Nat) (cs:List Int) (s:List Int×List Int) (hq:q < s.2.length) (hc:∀ c∈cs,c.toNat≠q∧c.toNat < s.2.length):(fE q cs s).2[q]? = match cs.getLast? with | none=>s.2[q]? | some c=>s.2[c.toNat]?:=by
 unfold fE;induction cs generalizing s with
 | nil=>rfl
 | cons c cs ih =>
  simp only[List.foldl_cons];have hc0:=hc c ay;rw[ih _ (by simpa using hq) (fun d hd=>by simpa using hc d (List.mem_cons_of_mem _ hd))];cases cs with
  | nil =>
   show(s.2.set q (s.2.getD c.toNat 0))[q]? = s.2[c.toNat]?;rw[List.getElem?_set_self hq];simp[List.getD_eq_getElem?_getD,hc0.2]
  | cons d ds =>
   rw[List.getLast?_cons_cons];cases hl:(d :: ds).getLast? with
   | none=>simp at hl
   | some x =>
    have hx:=hc x (List.mem_cons_of_mem _ (List.mem_of_getLast? hl));show(s.2.set q _)[x.toNat]? = s.2[x.toNat]?;exact List.getElem?_set_ne byOmega
theorem aeI {g:Gm} (hg:Good g) (m:Nat):m≤g.nodes.length→∀ i,g.nodes.length - m≤i→i < g.nodes.length→∃ e,Span g.nodes [(i:Int)] i e∧i < e∧e≤g.nodes.length∧(iW g.nodes m).2[i]? = some ((e:Int) - 1):=by
 induction m with
 | zero=>intro _ i h1 h2; omega
 | succ m ih =>
  intro hm i h1 h2;have ih:=ih byOmega;have hlen:=fH g.nodes m;obtain⟨n,hn⟩:=aC (l:=g.nodes) (k:=g.nodes.length - 1 - m) byOmega;have hst:iW g.nodes (m+1)=fE (g.nodes.length - 1 - m) n.next ((iW g.nodes m).1,(iW g.nodes m).2.set (g.nodes.length - 1 - m) ((g.nodes.length - 1 - m:Nat):Int)):=by
   rw[iW,sW,hn]
  rw[hst];by_cases hi:i=g.nodes.length - 1 - m
  ·rw[← hi] at hn ⊢;obtain⟨e,hs,he1,he2⟩:=hg.span.sub i byOmega byOmega;refine⟨e,hs,he1,he2,?_⟩;have ho:=hs.open hn;rw[aeH _ _ _ (by simp[hlen.2]; omega) (fun c hc=>by have:=ho.mem c hc; simp[hlen.2]; omega)];cases hl:n.next.getLast? with
   | none =>
    have:n.next = []:=by simpa using hl
    rw[this] at ho;cases ho;simp[hlen.2,h2]
   | some c =>
    obtain⟨k,rfl,hk,hsk⟩:=ho.last c hl;obtain⟨e',hs',he1',he2',hv⟩:=ih k byOmega (by have:=ho.mem _ (List.mem_of_getLast? hl); omega);have:=hsk.unique hs';subst this;show(List.set _ i _)[(k:Int).toNat]? = _;rw[List.getElem?_set_ne aB];simpa using hv
  ·obtain⟨e,h3,h4,h5,h6⟩:=ih i byOmega h2;refine⟨e,h3,h4,h5,?_⟩;rw[aaY _ _ _ hi];show(List.set _ _ _)[i]? = _;rw[List.getElem?_set_ne byOmega];exact h6
theorem qB {g:Gm} (hg:Good g) {i:Nat} (h:i < g.nodes.length):∃ e,Span g.nodes [(i:Int)] i e∧i < e∧e≤g.nodes.length∧(aQ g.nodes).2[i]? = some ((e:Int) - 1):=aeI hg _ (Nat.le_refl _) i byOmega h
theorem fine {g:Gm}:CO g:=fun h=>⟨fun x hx=>by
 obtain⟨i,hi⟩:=List.getElem?_of_mem hx;have hlt:=aI hi;have hl:(aQ g.nodes).2.length=g.nodes.length:=(fH _ _).2;obtain⟨e,_,_,h3,h4⟩:=qB (jd h) (i:=i) byOmega;rw[hi] at h4; cases h4; omega⟩
def In (nodes:List Nd) (roots:List Int) (j:Nat):Prop:=∃ r:Nat,(r:Int)∈roots∧∃ e,Span nodes [(r:Int)] r e∧r≤j∧j < e
theorem ag1 {g:Gm} (hg:Good g) {roots:List Int} {j:Nat} (hj:j < g.nodes.length) (h:(j:Int)∈roots):In g.nodes roots j:=by
 obtain⟨e,h1,h2,_⟩:=hg.span.sub j byOmega hj;exact⟨j,h,e,h1,Nat.le_refl _,h2⟩
theorem ag2 {g:Gm} (hg:Good g) {roots:List Int} {j p:Nat} {n:Nd} (hj:j < g.nodes.length) (hp:g.nodes[p]? = some n) (hc:(j:Int)∈n.next):In g.nodes roots j↔(j:Int)∈roots∨In g.nodes roots p:=by
 constructor
 ·rintro⟨r,hr,e,hs,h1,h2⟩;by_cases hrj:r=j
  ·subst hrj;exact .inl hr
  ·right
   rcases hs.parent j h1 h2 with h3 | ⟨p',n',h3,h4,h5,h6⟩
   ·simp at h3;omega
   ·have hp':p'=p:=hg.span.once.2 _ p' p n' n byOmega byOmega byOmega (aI hp) h5 hp h6 hc;subst hp';exact⟨r,hr,e,hs,h3,byOmega⟩
 ·rintro(h | ⟨r,hr,e,hs,h1,h2⟩)
  ·exact ag1 hg hj h
  ·have:=hs.kids p n h1 h2 hp _ hc;exact⟨r,hr,e,hs,byOmega,byOmega⟩
theorem yJ {roots:List Int} {l:List Bool} {j:Nat} (hj:j < l.length) (hr:∀ r∈roots,0≤r):(uM roots l)[j]? = if (j:Int)∈roots then some true else l[j]?:=by
 unfold uM;induction roots generalizing l with
 | nil=>simp
 | cons c rs ih =>
  simp only[List.foldl_cons];rw[ih (by simpa using hj) (fun d hd=>hr d (List.mem_cons_of_mem _ hd))];have hc:=hr c ay;by_cases h1:(j:Int)∈rs
  ·rw[if_pos h1,if_pos (List.mem_cons_of_mem _ h1)]
  ·rw[if_neg h1];by_cases h2:(j:Int)=c
   ·rw[if_pos (by rw[h2]; simp),List.getElem?_set,if_pos byOmega,if_pos byOmega]
   ·rw[if_neg (by simp[h1,h2]),List.getElem?_set_ne byOmega]
theorem aks {g:Gm} (hg:Good g) {roots:List Int} (hr:∀ r∈roots,0≤r) (m:Nat):1≤m→m≤g.nodes.length →
  (∀ j,j < m→∃ b,(acM (rY g.nodes) (uM roots (List.replicate g.nodes.length false)) m)[j]? = some b∧(b=true↔In g.nodes roots j)) ∧
  ∀ j,m≤j→(acM (rY g.nodes) (uM roots (List.replicate g.nodes.length false)) m)[j]? = (uM roots (List.replicate g.nodes.length false))[j]?:=by
 induction m with
 | zero=>intro h; omega
 | succ m ih =>
  intro _ hm;by_cases h1:1≤m
  ·obtain⟨ih1,ih2⟩:=ih h1 byOmega;rw[ahi _ _ _ h1];generalize acM (rY g.nodes) (uM roots (List.replicate g.nodes.length false)) m=s at *;have hlen:m < s.length:=by
    have:=ih2 m (Nat.le_refl _);rw[yJ aB hr] at this;split at this
    ·exact aI this
    ·rw[List.getElem?_replicate,if_pos byOmega] at this;exact aI this
   obtain⟨p,n,hp1,hp2,hp3⟩:=aft hg h1 (j:=m) byOmega;have hpar:=adS hg byOmega hp2 hp3;unfold acL;constructor
   ·intro j hj;by_cases hjm:j=m
    ·subst hjm;rw[List.getElem?_set_self hlen];refine⟨_,rfl,?_⟩;rw[ag2 hg byOmega hp2 hp3];obtain⟨b,hb1,hb2⟩:=ih1 p hp1;have hmk:=ih2 j (Nat.le_refl _);rw[yJ aB hr] at hmk;simp only[List.getD_eq_getElem?_getD,hpar,Option.getD_some,Int.toNat_natCast,hb1,Bool.or_eq_true,hb2];rw[hmk];by_cases hin:(j:Int)∈roots
     ·simp[hin]
     ·rw[if_neg hin,List.getElem?_replicate,if_pos byOmega];simp[hin]
    ·rw[List.getElem?_set_ne byOmega];exact ih1 j byOmega
   ·intro j hj;rw[List.getElem?_set_ne byOmega];exact ih2 j byOmega
  ·obtain rfl:m=0:=byOmega;refine⟨fun j hj=>?_,fun j hj=>?_⟩
   ·obtain rfl:j=0:=byOmega;show ∃ b,(uM roots (List.replicate g.nodes.length false))[0]? = some b∧_;rw[yJ (by simpa using hg.pos) hr];by_cases hin:((0:Nat):Int)∈roots
    ·exact⟨true,by rw[if_pos hin],by simp; exact ag1 hg hg.pos hin⟩
    ·refine⟨false,by rw[if_neg hin,List.getElem?_replicate,if_pos hg.pos],?_⟩;simp;rintro⟨r,h1,e,h2,h3,h4⟩;obtain rfl:r=0:=byOmega;exact hin h1
   ·rfl
theorem ahV {g:Gm} (hg:Good g) {roots:List Int} (hr:∀ r∈roots,0≤r) {j:Nat} (hj:j < g.nodes.length):∃ b,(iR g.nodes roots)[j]? = some b∧(b=true↔In g.nodes roots j) :=
 (aks hg hr g.nodes.length hg.pos (Nat.le_refl _)).1 j hj
theorem xO (inn:List Bool) (l:List Int):decide (0 < oL inn l)=l.any (jr inn):=by
 rw[Bool.eq_iff_iff];unfold oL;simp only[decide_eq_true_eq,List.countP_pos_iff,List.any_eq_true];rfl
theorem aeJ (inn:List Bool) (l:List Int):decide (oL inn l=l.length)=l.all (jr inn):=by
 rw[Bool.eq_iff_iff];unfold oL;simp only[decide_eq_true_eq,List.countP_eq_length,List.all_eq_true];rfl
theorem ahW (inn:List Bool) (sets:List (List Int)) (k:Nat):kJ (jr inn) sets k=qw inn sets k:=by
 unfold kJ qw;congr 1
 apply List.filter_congr
 intro q _;exact(xO inn q.1).symm
theorem ahX {p:Int→Bool} {sets:List (List Int)} {s:Int}:s∈nO p sets↔∃ (q:Nat) (l:List Int),s=q∧sets[q]? = some l∧l.any p=true:=by
 unfold nO kJ;rw[List.take_length];simp only[List.mem_map,List.mem_filter,List.mem_zipIdx_iff_getElem?];constructor
 ·rintro⟨⟨l,q⟩,⟨h1,h2⟩,rfl⟩;exact⟨q,l,rfl,h1,h2⟩
 ·rintro⟨q,l,rfl,h1,h2⟩;exact⟨(l,q),⟨h1,h2⟩,rfl⟩
theorem lG {g:Gm} (h:bF g=0):cO g.au g.infos.length g.nodes=0∧jm g=0:=by
 unfold bF at h;split at h
 ·omega
 ·split at h
  ·rename_i h2; exact absurd h h2
  ·rename_i h2
   split at h
   ·omega
   ·split at h
    ·omega
    ·exact⟨by simpa using h2,h⟩
theorem wo {g:Gm} (h:bF g=0):∀ i∈g.infos,i.actions≤10:=by
 intro inf hin;obtain⟨s,hs⟩:=List.getElem?_of_mem hin;have hsl:s < g.infos.length:=aI hs;obtain⟨h2,h5⟩:=lG h;unfold jm at h5;split at h5
 ·omega
 rename_i ht
 split at h5
 ·omega
 rename_i hn
 have hm:=fM (jd h).infos hsl;have hne:(bQ g.nodes s g.nodes.length).length≠0:=fun e=>by
  apply hn
  unfold jc;exact List.any_eq_true.2 ⟨_,List.mem_of_getElem? hm,decide_eq_true e⟩
 obtain⟨x,hx⟩:=List.exists_mem_of_length_pos (Nat.pos_of_ne_zero hne);obtain⟨k,rfl,hk,hmv⟩:=gq.1 hx;unfold mv at hmv;split at hmv
 ·rename_i n hnk
  simp only[Bool.and_eq_true,decide_eq_true_eq] at hmv;have hmem:=List.mem_of_getElem? hnk;have e1:=iC h2 n hmem;unfold aU at e1;rw[if_neg byOmega,if_pos hmv.1] at e1;unfold dU at e1;split at e1
  ·omega
  ·rename_i h3
   have e2:dK g.infos n=false:=by
    cases hb:dK g.infos n with
    | false=>rfl
    | true=>exact absurd (List.any_eq_true.2 ⟨n,hmem,hb⟩) ht
   unfold dK at e2;rw[decide_eq_true hmv.1,Bool.true_and,Bool.or_eq_false_iff,hmv.2,List.getD_eq_getElem?_getD,hs] at e2;have e3:=of_decide_eq_false e2.2;simp only[Option.getD_some] at e3;omega
 ·cases hmv
theorem af7 {w:World} {b:Nat} {t:TypeId} {a0 a1 a2:Value} (h:Row w b t [a0,a1,a2]) (v0 v1 v2:Value):∃ W,W=(((w.setCell ⟨b,0,none⟩ v0).setCell ⟨b,1,none⟩ v1).setCell ⟨b,2,none⟩ v2) ∧
  Row W b t [v0,v1,v2]∧Wrote (fun k=>k=b) w W:=by
 refine⟨_,rfl,((h.set 0 v0).set 1 v1).set 2 v2,?_⟩;have h0:Wrote (fun k=>k=b) w w:=Wrote.refl _ _;exact((h0.setCell (p:=⟨b,0,none⟩) (.inl rfl) v0).setCell (p:=⟨b,1,none⟩) (.inl rfl) v1).setCell (p:=⟨b,2,none⟩) (.inl rfl) v2
theorem Below.wrote {w w':World} (h:Below w.heap.size w w') (K:Ag):Wrote K w w':=⟨h.os,h.tape,h.output,h.size,fun i hi _=>h.block i hi⟩
theorem Tryz.infoNode:(Tryz.prog.info? 61).map (fun i=>(i.zero,i.size,i.bytes))=some (some (.agg #[.int .i64 0,.int .i64 0,.int .i64 0,.slice none 0 0,.slice none 0 0,.slice none 0 0]),6,96):=ak
theorem aju (L:List NV):(L.flatMap NV.cells).length=L.length*6:=by
 induction L with
 | nil=>rfl
 | cons q L ih=>rw[List.flatMap_cons,List.length_append,ih]; simp[NV.cells]; omega
theorem aaZ {w:World} {base:Nat} {t:TypeId} {v:Value} {L:List NV} (h:w.ownsRow base t 6 v L.length (L.flatMap NV.cells)) {F:Ag} (hF:∀ b,v.ownBlock=some b→F b) (hL:∀ q∈L,q.fine w F):AP w F v (L.map NV.n):=by
 rcases h.2 with⟨rfl,h0⟩ | ⟨g,cap,cur,rfl,hb,hg,hnc,_,hsz,htake⟩
 ·exact zb1
 ·refine Lies.nodes ⟨(Array.getElem?_eq_some_iff.1 hg).1,fun i u hi=>?_⟩ (hF g rfl) hL hnc;rw[← htake,List.getElem?_take] at hi;split at hi
  ·simp[World.cell?,hg];simpa using hi
  ·cases hi
end Go.Proofs.YthmklhapjegfdaaGreatDoor
