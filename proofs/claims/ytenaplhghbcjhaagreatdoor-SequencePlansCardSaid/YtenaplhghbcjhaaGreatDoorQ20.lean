import Derived.Test.YtenaplhghbcjhaaGreatDoorQ09
import Derived.Test.YtenaplhghbcjhaaGreatDoorQ18
import Derived.Deep.CutRange
import Derived.Deep.AppendSrc
import Derived.Deep.LoopGhost
set_option linter.all false
set_option maxRecDepth 100000
set_option maxHeartbeats 0
namespace Go.Proofs.YtenaplhghbcjhaaGreatDoor
open Go.RowKit.Below renaming refl->GR
open Below renaming same'->GL
open Bool renaming and_eq_true->Ib
open Go.IntKind renaming i64->GU
open Go renaming Value->GN,World->GK
open Go.Value renaming int->GV,slice->Gw
open Int renaming eq_ofNat_of_zero_le->J4,toNat_natCast->Ic
open List renaming drop_eq_nil_of_le->Ip,getD_eq_getElem?_getD->GH,getElem?_of_mem->H9,getElem?_set_self->Hq,mem_of_getElem?->Gx,not_mem_nil->KI,range->Ig,replicate->GX
open Nat renaming le_refl->Gy,le_trans->He,zero_le->Hg
open Go.Proofs.Tryz renaming prog->GI
open List renaming getElem_toArray → lq1, getElem_cons_zero → lq2, getElem_cons_succ → lq3, setIfInBounds_toArray → lq4, set_cons_zero → lq5, set_cons_succ → lq6
open Go.RowKit
variable {i x:Int} {l:List Int} {c f q s:Nat}
def walkT (g:Gm):Int×Tri:=bP g.F7 (g.F7.length+1) 0 (-1) 0 ⟨GX g.F7.length 0,GX g.F7.length 0,GX g.F7.length 0⟩
def rO (g:Gm):Int :=
 if jE g then 2 else if dH g.aC g.F8.length g.F7≠0 then dH g.aC g.F8.length g.F7
 else if (walkT g).1≠g.F7.length then 9 else if 40 < maxL (walkT g).2.d then 5 else iV g
def Ez (u:GN) (g:Gm) (B:Nat) (v:GN) (w':GK):Prop:=∃ vp,v = .tuple #[vp,GV GU (rO g)] /\
 (rO g=0->∃ p bp bd bl A c Ai ci,vp = .pointer (some ⟨p,0,none⟩)/\u = .agg #[GV GU g.aC,Gw A g.F7.length c,Gw Ai g.F8.length ci]/\BD w' p bp bd bl g.aC A g.F7.length c Ai g.F8.length ci (walkT g).2/\B<=p/\B<=bp/\B<=bd/\B<=bl)
theorem abf {P:Program} (w:GK) {o:Oper} {a:Act} {K:Act->GK->Prop} {Q:Exit->Act->GK->Prop} (l c:Operand) (t:TypeId) (hop:o.op=Op.makeSlice t l c)
  (e:TypeId) (z:GN) (bytes:Nat) (ht:P.underlying t=some (.slice e)) (hinfo:(P.info? e).map (λi=>(i.zero,i.size,i.bytes))=some (some z,1,bytes)) (hz1:z.cells = #[z])
  (n:Nat) (hl:a.eval l = GV GU (n:Int)) (hc:a.eval c = GV GU (n:Int)) (hn:n<=1000000) (hb:bytes<=1000)
  (hK:∀ w1,Below w.heap.size w w1->w1.heap.size=w.heap.size+1->Row w1 w.heap.size e (GX n z)->K (a.put o.dst (Gw (some ⟨w.heap.size,0,none⟩) n n)) w1) :
  Oper.wp P o a w K Q:=by
 have hbytes:bytes*n<=281474976710656:=by
  exact zdE
 exact zaa
def afq (w:GK) (B x:Nat) (p:Int) (vn vi:GN):Hold :=
 ⟨λw'=>B<=w'.heap.size/\Below x w w'/\Row w' x 25 [GV GU p,vn,vi]/\∃ a b c,Row w' (x+1) 175 [GV GU p,vn,vi,a,b,c],
  λ_ _ ⟨h1,h2,h3,a,b,c,h4⟩ hb=>⟨He h1 hb.size,h2.trans (hb.mono (Nat.le_of_lt h3.lt)),h3.below hb h3.lt,a,b,c,h4.below hb h4.lt⟩⟩
def wY (x:Nat) (p:Int) (vn vi u:GN):Hold:=⟨λw'=>∃ b c,Row w' x 175 [GV GU p,vn,vi,u,b,c],λ_ _ ⟨b,c,h4⟩ hb=>⟨b,c,h4.below hb h4.lt⟩⟩
def wZ (x:Nat) (p:Int) (vn vi u v:GN):Hold:=⟨λw'=>∃ c,Row w' x 175 [GV GU p,vn,vi,u,v,c],λ_ _ ⟨c,h4⟩ hb=>⟨c,h4.below hb h4.lt⟩⟩
def aay (x:Nat) (p:Int) (vn vi u v z:GN):Hold:=⟨λw'=>Row w' x 175 [GV GU p,vn,vi,u,v,z],λ_ _ h4 hb=>h4.below hb h4.lt⟩
def fA (B x n:Nat) (p:Int) (vn vi:GN):Says where
 uses i:=match i with | 17=>[6] | 20=>[6,10] | 23=>[6,10,14] | _=>[]
 F i l:=match i with
  | 6 | 10 | 14=>Hold.made B 3 n (GX n (GV GU 0)) (l.getD 0 undef)
  | 15 | 18 | 21=>Hold.eq (.pointer (some ⟨x,0,none⟩)) (l.getD 0 undef)
  | 16=>Hold.eq (.pointer (some ⟨x,3,none⟩)) (l.getD 0 undef)
  | 19=>Hold.eq (.pointer (some ⟨x,4,none⟩)) (l.getD 0 undef)
  | 22=>Hold.eq (.pointer (some ⟨x,5,none⟩)) (l.getD 0 undef)
  | 17=>wY x p vn vi (l.getD 1 undef)
  | 20=>wZ x p vn vi (l.getD 1 undef) (l.getD 2 undef)
  | 23=>aay x p vn vi (l.getD 1 undef) (l.getD 2 undef) (l.getD 3 undef)
  | _=>Hold.tt
 cu:=[17,20,23]
 G j l w w':=match j with
  | 17=>w'=w.setCell ⟨x,3,none⟩ (l.getD 1 undef)
  | 20=>w'=w.setCell ⟨x,4,none⟩ (l.getD 2 undef)
  | 23=>w'=w.setCell ⟨x,5,none⟩ (l.getD 3 undef)
  | _=>False
 mks:=[6,10,14]
theorem aip (B x n:Nat) (p:Int) (vn vi:GN):∀ k∈(fA B x n p vn vi).mks,∀ e w,(fA B x n p vn vi).R k e w->∀ b,aat (e k)=some b->b < w.heap.size:=by
 intro k hk e w h;simp only[fA,List.mem_cons,KI,or_false] at hk;rcases hk with rfl | rfl | rfl
 ·exact afl (show(Hold.made B 3 n (GX n (GV GU 0)) (e 6)).p w from h)
 ·exact afl (show(Hold.made B 3 n (GX n (GV GU 0)) (e 10)).p w from h)
 ·exact afl (show(Hold.made B 3 n (GX n (GV GU 0)) (e 14)).p w from h)
theorem adU {B x n:Nat} {p:Int} {vn vi:GN} {w0:GK} (j:Nat) (hj:j∈(fA B (x+1) n p vn vi).cu) {E:List Nat} {e:Nat->GN} {w w':GK} (hE:∀ k∈E,k∈[6,10,14,15,16,17,18,19,20,21,22,23]) (hnE:j ∉ E)
  (hf:∀ i∈E,(fA B (x+1) n p vn vi).R i e w) (hS:(afq w0 B x p vn vi).p w) (hx:x+1 < B) (hG:(fA B (x+1) n p vn vi).G j ((j :: (fA B (x+1) n p vn vi).uses j).map e) w w') :
  (afq w0 B x p vn vi).p w'/\∀ i∈E,(fA B (x+1) n p vn vi).R i e w':=by
 obtain⟨s1,s2,s3,a,b,c,s4⟩:=hS;obtain⟨k,u,hk,rfl,hs4,h17,h20,h23⟩:∃ k u,k=3+(j - 17) / 3/\w'=w.setCell ⟨x+1,k,none⟩ u/\(∃ a b c,Row (w.setCell ⟨x+1,k,none⟩ u) (x+1) 175 [GV GU p,vn,vi,a,b,c]) /\
   (17∈E->(wY (x+1) p vn vi (e 6)).p (w.setCell ⟨x+1,k,none⟩ u))/\(20∈E->(wZ (x+1) p vn vi (e 6) (e 10)).p (w.setCell ⟨x+1,k,none⟩ u))/\(23∈E->(aay (x+1) p vn vi (e 6) (e 10) (e 14)).p (w.setCell ⟨x+1,k,none⟩ u)):=by
  have f17:17∈E->(wY (x+1) p vn vi (e 6)).p w:=hf 17;have f20:20∈E->(wZ (x+1) p vn vi (e 6) (e 10)).p w:=hf 20;have f23:23∈E->(aay (x+1) p vn vi (e 6) (e 10) (e 14)).p w:=hf 23;simp only[fA,List.mem_cons,KI,or_false] at hj;rcases hj with rfl | rfl | rfl
  ·exact⟨3,e 6,rfl,hG,⟨_,_,_,s4.set 3 _⟩,λh=>absurd h hnE,λh=>let ⟨c,h⟩:=f20 h; ⟨c,h.set 3 _⟩,λh=>(f23 h).set 3 _⟩
  ·exact⟨4,e 10,rfl,hG,⟨_,_,_,s4.set 4 _⟩,λh=>let ⟨b,c,h⟩:=f17 h; ⟨_,_,h.set 4 _⟩,λh=>absurd h hnE,λh=>(f23 h).set 4 _⟩
  ·exact⟨5,e 14,rfl,hG,⟨_,_,_,s4.set 5 _⟩,λh=>let ⟨b,c,h⟩:=f17 h; ⟨_,_,h.set 5 _⟩,λh=>let ⟨c,h⟩:=f20 h; ⟨_,h.set 5 _⟩,λh=>absurd h hnE⟩
 refine⟨⟨by simpa using s1,s2.setCell (p:=⟨x+1,k,none⟩) (Nat.le_succ x) _,s3.other (a:=⟨x+1,k,none⟩) (show x≠x+1 by omega) _,hs4⟩,λi hi=>?_⟩;have hi':=hE i hi;simp only[List.mem_cons,KI,or_false] at hi';rcases hi' with rfl | rfl | rfl | rfl | rfl | rfl | rfl | rfl | rfl | rfl | rfl | rfl
 ·exact zK hx (show(Hold.made B 3 n (GX n (GV GU 0)) (e 6)).p w from hf 6 hi)
 ·exact zK hx (show(Hold.made B 3 n (GX n (GV GU 0)) (e 10)).p w from hf 10 hi)
 ·exact zK hx (show(Hold.made B 3 n (GX n (GV GU 0)) (e 14)).p w from hf 14 hi)
 ·exact hf 15 hi
 ·exact hf 16 hi
 ·exact h17 hi
 ·exact hf 18 hi
 ·exact hf 19 hi
 ·exact h20 hi
 ·exact hf 21 hi
 ·exact hf 22 hi
 ·exact h23 hi
theorem zN (w:GK) (F:Gq) (u:GN) (g:Gm) (hg:AB w F u g) (hsm:Small g) :
  Calls GI 98 #[u] w (Ret w (Ez u g w.heap.size)):=by
 have HG:=Ag hg;obtain⟨vn,vi,rfl,⟨A,c,rfl,hc,hN⟩,⟨Ai,ci,rfl,hci,hI⟩⟩:=hg;have HN:=Ag hN;have HI:=Ag hI;clear hN hI;have hn:=hsm.F7;have hni:=hsm.F8;have HS:=Ag hsm;clear hsm;by_cases q0:g.aC < 1
 ·have HF:=Ag (show rO g=2 by unfold rO; rw[LH (by unfold jE; omega)]);go_in;go_wp2
  go_ret2;exact zaB
 have d0:decide (g.aC < 1)=false:=LJ FI;by_cases q1:4 < g.aC
 ·have HF:=Ag (show rO g=2 by unfold rO; rw[LH (by unfold jE; omega)]);go_in;go_wp2
  go_ret2;exact zaB
 have d1:decide ((4:Int) < g.aC)=false:=LJ FI;by_cases q2:g.F7.length < 1
 ·have HF:=Ag (show rO g=2 by unfold rO; rw[LH (by unfold jE; omega)]);go_in;go_wp2
  go_ret2;exact zaB
 have d2:decide ((g.F7.length:Int) < 1)=false:=LJ FI;have d3:decide ((2000:Int) < (g.F7.length:Int))=false:=LJ FI;have d4:decide ((200:Int) < (g.F8.length:Int))=false:=LJ FI;have HE:=Ag (show rO g=if dH g.aC g.F8.length g.F7≠0 then dH g.aC g.F8.length g.F7
   else if (walkT g).1≠g.F7.length then 9 else if 40 < maxL (walkT g).2.d then 5 else iV g by unfold rO; rw[LG (by unfold jE; omega)])
 obtain⟨b,o,rfl,hbF,hb,hcell⟩:=HN.o FI;have HC:=Ag hcell;clear hcell;go_in;go_wp2_with fail
 go_loopw [42] (λi wr=>∃ k:Nat,k<=g.F7.length/\i = GV GU k/\Row wr w.heap.size 25 [GV GU g.aC,Gw (some ⟨b,o,none⟩) g.F7.length c,Gw Ai g.F8.length ci]/\Row wr (w.heap.size+1) 175 [GV GU g.aC,Gw (some ⟨b,o,none⟩) g.F7.length c,Gw Ai g.F8.length ci,Gw none 0 0,Gw none 0 0,Gw none 0 0]/\Below w.heap.size w wr/\dH g.aC g.F8.length g.F7=dH g.aC g.F8.length (g.F7.drop k)) (λi _=>g.F7.length - (intOf i).toNat)
 case atStart =>
  refine⟨0,FI,rfl,(Row.new w _ _).alloc _,?_,?_,rfl⟩
  ·have:=Row.new (w.alloc (.cells #[GV GU g.aC,Gw (some ⟨b,o,none⟩) g.F7.length c,Gw Ai g.F8.length ci] 25)) 175 #[GV GU g.aC,Gw (some ⟨b,o,none⟩) g.F7.length c,Gw Ai g.F8.length ci,Gw none 0 0,Gw none 0 0,Gw none 0 0];simpa using this
  ·exact bJ _ _ _ 0
 case round =>
  obtain⟨k,hk,rfl,hbx,hwk,hbel,hval⟩:=hrel;have HV:=Ag hval;clear hval;by_cases hlt:k < g.F7.length
  ·obtain⟨x,hx⟩:=Gl hlt;obtain⟨e0,e1,e2,⟨v3,e3,i3⟩,⟨v4,e4,i4⟩,⟨v5,e5,i5⟩⟩:=HC.o k x hx;obtain⟨A3,c3,rfl,hc3,h3⟩:=i3;obtain⟨A4,c4,rfl,hc4,h4⟩:=i4;obtain⟨A5,c5,rfl,hc5,h5⟩:=i5;have V:=Ag (show Ce w F _ x from⟨_,_,_,rfl,⟨A3,c3,rfl,hc3,h3⟩,⟨A4,c4,rfl,hc4,h4⟩,⟨A5,c5,rfl,hc5,h5⟩⟩);clear h3 h4 h5;have M:=Gx hx;have HL:=Ag (show x.next.length < 1000000/\x.weights.length < 1000000/\x.pay.length < 1000000 from⟨by have:=HS.o.next x M; omega,by have:=HS.o.weights x M; omega,by have:=HS.o.pay x M; omega⟩);clear M;have HV2:=Ag (HV.o.trans (yU hx));clear hx;have hold:=aK hbel;have hwl:=hwk.lt;go_wp2_with fail
   obtain⟨W,hW,_,hWb,hWz⟩:=dI wr 51 #[GV GU x.kind,GV GU x.aH,GV GU x.info,Gw A3 x.next.length c3,Gw A4 x.weights.length c4,Gw A5 x.pay.length c5];rw[<-hW];clear hW;have lW:=hbx.below hWb hbx.lt;have akn:=hwk.below hWb hwk.lt;have yS:=hbel.trans (hWb.mono hbel.size);clear hbx hwk hbel hold;refine(ajW _ F (w.heap.size+1) _ g.aC g.F8.length x ⟨akn.cell rfl,_,_,akn.cell rfl⟩ (V.o.on (GL yS F)) HL.o FI FI akn.lt).mono ?_;rintro e w1 ⟨_,rfl,hb1,rfl⟩;have hbx2:=lW.below hb1 lW.lt;have hwk2:=akn.below hb1 akn.lt;have fC:=yS.trans (hb1.mono yS.size);clear lW akn yS hb1 hWb hWz;dsimp only;generalize aT g.aC g.F8.length x=er at *;by_cases he:er=0
   ·subst he;go_wp2
    go_roundw
    case rel=>exact⟨k+1,FI,by go_num,hbx2,hwk2,fC,by rw[HV2.o]; simp⟩
    case measure=>exact zMs
   ·have hd:(er != 0)=true:=by simp[he]
    have HF:=Ag (show rO g=er by rw[HE.o,HV2.o]; simp[he]);have HNZ:=Ag he;clear he;go_wp2
    go_ret2;exact⟨_,rfl,fC,.pointer none,by rw[HF.o]; rfl,by rw[HF.o]; intro h; exact absurd h HNZ.o⟩
  ·have HE2:=Ag (show rO g=if (walkT g).1≠g.F7.length then 9 else if 40 < maxL (walkT g).2.d then 5 else iV g by
    rw[HE.o,HV.o,Ip FI]; simp[dH])
   have HIN:=Ag (qZ (g:=g) (by rw[HV.o,Ip FI]; rfl));have hbl:=hbx.lt;have hwl:=hwk.lt;go_upto_region 11 with fail
   go_cut [] from 53 to 73 (λwx=>∃ bp bd bl,BD wx (w.heap.size+1) bp bd bl g.aC (some ⟨b,o,none⟩) g.F7.length c Ai g.F8.length ci ⟨GX g.F7.length 0,GX g.F7.length 0,GX g.F7.length 0⟩/\Row wx w.heap.size 25 [GV GU g.aC,Gw (some ⟨b,o,none⟩) g.F7.length c,Gw Ai g.F8.length ci]/\Below w.heap.size w wx/\w.heap.size+1 < bp/\w.heap.size+1 < bd/\w.heap.size+1 < bl/\bp≠bd/\bp≠bl/\bd≠bl)
   case first =>
    refine wp_region_held_drew (S:=λw'=>w'.cell? ⟨w.heap.size,1,none⟩=some (Gw (some ⟨b,o,none⟩) g.F7.length c)) aj (hbx.cell rfl) (λhHeld=>?_);refine tkm [0,1,2,3,4,5,7,8,9,11,12,13] ?_;obtain⟨w0,hw0⟩:=Gp wr.drew;have hbx0:Row w0 _ _ _:=hw0▸hbx.drew;have hwk0:Row w0 _ _ _:=hw0▸hwk.drew;have hB0:Below w.heap.size w w0:=hw0▸hbel.drew;rw[<-hw0] at hHeld ⊢;clear hw0 hbx hwk hbel hwl hbl;have hz0:=hwk0.lt;refine afk (js:=[6,10,14,15,16,17,18,19,20,21,22,23]) (afq w w0.heap.size w.heap.size g.aC (Gw (some ⟨b,o,none⟩) g.F7.length c) (Gw Ai g.F8.length ci)) (fA w0.heap.size (w.heap.size+1) g.F7.length g.aC (Gw (some ⟨b,o,none⟩) g.F7.length c) (Gw Ai g.F8.length ci)) aj aj ⟨Gy _,hB0,hbx0,_,_,_,hwk0⟩ (λ_ h=>h.2.2.1.cell rfl) (aip _ _ _ _ _ _) (λj hj E e _ w' hE hu hn hf hA hS hG=>adU j hj hE hn hf hS hz0 hG) ?_;refine AZ.cons (o:=_) rfl (λwk hS hf K hK=>?_) (λv6=>?_)
    ·exact Z7
    refine Zb ?_;refine AZ.cons (o:=_) rfl (λwk hS hf K hK=>?_) (λv10=>?_)
    ·exact Z7
    refine Zb ?_;refine AZ.cons (o:=_) rfl (λwk hS hf K hK=>?_) (λv14=>?_)
    ·exact Z7
    refine Zb ?_;refine AZ.cons (o:=_) rfl (λwk hS hf K hK=>?_) (λv15=>?_)
    ·go_simp;exact Y5
    refine Zb ?_;refine AZ.cons (o:=_) rfl (λwk hS hf K hK=>?_) (λv16=>?_)
    ·have f15:Hold.p (Hold.eq (.pointer (some ⟨w.heap.size+1,0,none⟩)) v15) wk:=hf 15 aA aj;obtain rfl:v15=_:=f15;go_simp;exact Y5
    refine Zb ?_;refine AZ.cons (o:=_) rfl (λwk hS hf K hK=>?_) (λv17=>?_)
    ·have f16:Hold.p (Hold.eq (.pointer (some ⟨w.heap.size+1,3,none⟩)) v16) wk:=hf 16 aA aj;have f6:Hold.p (Hold.made w0.heap.size 3 g.F7.length (GX g.F7.length (GV GU 0)) v6) wk:=hf 6 aA aj;obtain rfl:v16=_:=f16;obtain⟨b6,rfl,g6,r6⟩:=f6;obtain⟨_,_,_,x,y,z,hr⟩:=hS;have yy:=hr.cell (i:=3) rfl;have ff:=hr.frozen 3;go_simp;exact hK.out undef (wk.setCell ⟨w.heap.size+1,3,none⟩ (Gw (some ⟨b6,0,none⟩) g.F7.length g.F7.length)) ⟨rfl,⟨_,_,hr.set 3 _⟩,λh=>(by simp[fA] at h)⟩
    refine Zb ?_;refine AZ.cons (o:=_) rfl (λwk hS hf K hK=>?_) (λv18=>?_)
    ·go_simp;exact Y5
    refine Zb ?_;refine AZ.cons (o:=_) rfl (λwk hS hf K hK=>?_) (λv19=>?_)
    ·have f18:Hold.p (Hold.eq (.pointer (some ⟨w.heap.size+1,0,none⟩)) v18) wk:=hf 18 aA aj;obtain rfl:v18=_:=f18;go_simp;exact Y5
    refine Zb ?_;refine AZ.cons (o:=_) rfl (λwk hS hf K hK=>?_) (λv20=>?_)
    ·have f19:Hold.p (Hold.eq (.pointer (some ⟨w.heap.size+1,4,none⟩)) v19) wk:=hf 19 aA aj;have f10:Hold.p (Hold.made w0.heap.size 3 g.F7.length (GX g.F7.length (GV GU 0)) v10) wk:=hf 10 aA aj;have f17:Hold.p (wY (w.heap.size+1) g.aC (Gw (some ⟨b,o,none⟩) g.F7.length c) (Gw Ai g.F8.length ci) v6) wk:=hf 17 aA aj;obtain rfl:v19=_:=f19;obtain⟨b10,rfl,g10,r10⟩:=f10;obtain⟨y,z,hr⟩:=f17;have yy:=hr.cell (i:=4) rfl;have ff:=hr.frozen 4;go_simp;exact hK.out undef (wk.setCell ⟨w.heap.size+1,4,none⟩ (Gw (some ⟨b10,0,none⟩) g.F7.length g.F7.length)) ⟨rfl,⟨_,hr.set 4 _⟩,λh=>(by simp[fA] at h)⟩
    refine Zb ?_;refine AZ.cons (o:=_) rfl (λwk hS hf K hK=>?_) (λv21=>?_)
    ·go_simp;exact Y5
    refine Zb ?_;refine AZ.cons (o:=_) rfl (λwk hS hf K hK=>?_) (λv22=>?_)
    ·have f21:Hold.p (Hold.eq (.pointer (some ⟨w.heap.size+1,0,none⟩)) v21) wk:=hf 21 aA aj;obtain rfl:v21=_:=f21;go_simp;exact Y5
    refine Zb ?_;refine AZ.cons (o:=_) rfl (λwk hS hf K hK=>?_) (λv23=>?_)
    ·have f22:Hold.p (Hold.eq (.pointer (some ⟨w.heap.size+1,5,none⟩)) v22) wk:=hf 22 aA aj;have f14:Hold.p (Hold.made w0.heap.size 3 g.F7.length (GX g.F7.length (GV GU 0)) v14) wk:=hf 14 aA aj;have f20:Hold.p (wZ (w.heap.size+1) g.aC (Gw (some ⟨b,o,none⟩) g.F7.length c) (Gw Ai g.F8.length ci) v6 v10) wk:=hf 20 aA aj;obtain rfl:v22=_:=f22;obtain⟨b14,rfl,g14,r14⟩:=f14;obtain⟨z,hr⟩:=f20;have yy:=hr.cell (i:=5) rfl;have ff:=hr.frozen 5;go_simp;exact hK.out undef (wk.setCell ⟨w.heap.size+1,5,none⟩ (Gw (some ⟨b14,0,none⟩) g.F7.length g.F7.length)) ⟨rfl,hr.set 5 _,λh=>(by simp[fA] at h)⟩
    refine Zb ?_;refine AZ.nil (λwE hS hf hA=>?_);have f6:Hold.p (Hold.made w0.heap.size 3 g.F7.length (GX g.F7.length (GV GU 0)) v6) wE:=hf 6 aA;have f10:Hold.p (Hold.made w0.heap.size 3 g.F7.length (GX g.F7.length (GV GU 0)) v10) wE:=hf 10 aA;have f14:Hold.p (Hold.made w0.heap.size 3 g.F7.length (GX g.F7.length (GV GU 0)) v14) wE:=hf 14 aA;have f17:Hold.p (wY (w.heap.size+1) g.aC (Gw (some ⟨b,o,none⟩) g.F7.length c) (Gw Ai g.F8.length ci) v6) wE:=hf 17 aA;have f20:Hold.p (wZ (w.heap.size+1) g.aC (Gw (some ⟨b,o,none⟩) g.F7.length c) (Gw Ai g.F8.length ci) v6 v10) wE:=hf 20 aA;have f23:Hold.p (aay (w.heap.size+1) g.aC (Gw (some ⟨b,o,none⟩) g.F7.length c) (Gw Ai g.F8.length ci) v6 v10 v14) wE:=hf 23 aA;obtain⟨b6,rfl,g6,r6⟩:=f6;obtain⟨b10,rfl,g10,r10⟩:=f10;obtain⟨b14,rfl,g14,r14⟩:=f14;have rw6:Row wE (w.heap.size+1) _ _:=f23;have ao3:=ah8 hA (i:=6) (k:=10) aA aA (by simp[fA]) (by simp[fA]) au rfl rfl;have ao4:=ah8 hA (i:=6) (k:=14) aA aA (by simp[fA]) (by simp[fA]) au rfl rfl;have aot:=ah8 hA (i:=10) (k:=14) aA aA (by simp[fA]) (by simp[fA]) au rfl rfl;obtain⟨hzE,hBE,hbxE,_⟩:=hS;have HR:=Ag (show BD wE (w.heap.size+1) b6 b10 b14 g.aC (some ⟨b,o,none⟩) g.F7.length c Ai g.F8.length ci ⟨GX g.F7.length 0,GX g.F7.length 0,GX g.F7.length 0⟩ from⟨rw6,by simpa [mW] using r6,by simpa [mW] using r10,by simpa [mW] using r14⟩);have HBX:=Ag (And.intro hbxE hBE);clear hHeld hbx0 hwk0 hB0 hf hA hbxE hBE r6 r10 r14 rw6 f17 f20 f23;go_wp2_with fail
    go_meet
    exact⟨b6,b10,b14,HR.o,HBX.o.1,HBX.o.2,FI,FI,FI,ao3,ao4,aot⟩
   case rest =>
    obtain⟨bp,bd,bl,hwa,af8,bG,z1,z2,z3,z4,z5,z6⟩:=hcut;clear hbx hwk hbel;have hbl':=af8.lt;have x1:=af8.cell (i:=1) rfl;have HNO:=Ag (show Bz w F (Gw (some ⟨b,o,none⟩) g.F7.length c) g.F7 from⟨_,_,rfl,hc,HN.o⟩);have HIO:=Ag (show BA w F (Gw Ai g.F8.length ci) g.F8 from⟨_,_,rfl,hci,HI.o⟩);have HWA:=Ag hwa;clear hwa;have HG':=Ag (show ∀ k,(F k/\k < w.heap.size)->k≠bp/\k≠bd/\k≠bl from λk hk=>by omega);go_wp2_with fail
    refine(ajX g HS.o (w.heap.size+1) bp bd bl b o c Ai ci ⟨FI,FI,FI,z4,z5,z6⟩ hc (λk=>F k/\k < w.heap.size) HG'.o (g.F7.length+1) 0 (-1) 0 _ wc _ ⟨some ⟨b,o,none⟩,aA,λ_=>by simp⟩ ⟨aA,aA,aA⟩ (λ_=>HNO.o.keep (λk hk hl=>⟨hk,hl⟩) (GL bG F)) HWA.o FI FI FI FI).mono ?_;rintro e w2 ⟨vr,rfl,hrest,aou,hwr2⟩;have aov:=pG g.F7 (g.F7.length+1) 0 (-1) 0 ⟨GX g.F7.length 0,GX g.F7.length 0,GX g.F7.length 0⟩;refine zai ?_;intro hlen hT;rw[<-hT] at hrest aou aov hlen ⊢;clear hT;have hB2:Below w.heap.size w w2:=Wrote.below bG hwr2 (λk hk=>by omega) bG.size;have hbx2:=af8.wrote hwr2 FI;clear bG hwr2 af8 x1 HWA;obtain⟨T,hTT⟩:=Gp (walkT g);have HT:=Ag (show BD w2 (w.heap.size+1) bp bd bl g.aC (some ⟨b,o,none⟩) g.F7.length c Ai g.F8.length ci (walkT g).2 from aou);clear aou;have HLN:=Ag hlen;clear hlen;rw[<-hTT] at hrest aov HE2 ⊢;have HTT:=Ag hTT;clear hTT;obtain⟨rn,td⟩:=T;dsimp only at hrest aov HE2 ⊢;by_cases hng:rn < 0
    ·have HF:=Ag (show rO g=9 by rw[HE2.o,LH FI]);have hdn:decide (0<=rn)=false:=LJ FI;clear hrest;go_wp2
     go_ret2;exact zef
    ·obtain⟨q,rfl⟩:=J4 (show 0<=rn by omega);obtain⟨A',rfl,hA'⟩:=hrest FI;simp only[Ic] at hA' ⊢;have hdn:decide (0<=(q:Int))=true:=LK FI;by_cases hqn:q=g.F7.length
     ·subst hqn;have HF:=Ag (show rO g=if 40 < maxL td.d then 5 else iV g by rw[HE2.o,LG aA]);have hz:g.F7.length - g.F7.length=0:=FI;rw[hz];have ht2:td=(walkT g).2:=by rw[<-HTT.o]
      have x4:=HT.o.head.cell (i:=4) rfl;clear hA' hz;go_wp2_with fail
      have hdl:td.d.length=g.F7.length:=by rw[ht2];exact HLN.o.d
      have HID:=Ag (show AL w2 (λk=>k=bd) (Gw (some ⟨bd,0,none⟩) g.F7.length g.F7.length) td.d by
       have:=Row.ints (F:=λk=>k=bd) (show Row w2 bd 3 (td.d.map (Value.int .i64)) by rw[ht2]; exact HT.o.rd) rfl (c:=g.F7.length) FI;rwa [hdl] at this)
      have HT2:=Ag ht2;clear ht2;refine(anf w2 (λk=>k=bd) _ td.d HID.o FI FI).mono ?_;rintro e w3 ⟨rfl,rfl⟩;dsimp only;generalize maxL td.d=mx at *;by_cases hmx:40 < mx
      ·have HF2:=Ag (show rO g=5 by rw[HF.o,LH hmx]);go_wp2
       go_ret2;exact⟨_,rfl,hB2,.pointer none,by rw[HF2.o]; rfl,by rw[HF2.o]; intro h; simp at h⟩
      ·have HF2:=Ag (show rO g=iV g by rw[HF.o,LG hmx]);have hdm:decide (40 < mx)=false:=LJ hmx;clear hmx;go_wp2_with fail
       refine(ajY w3 F (w.heap.size+1) g _ _ _ _ (HT.o.head.cell rfl) (HT.o.head.cell rfl) HT.o.head.lt (HNO.o.on (GL hB2 F)) (HIO.o.on (GL hB2 F)) HS.o HIN.o FI).mono ?_;rintro e w4 ⟨_,rfl,hb4,rfl⟩;dsimp only;go_wp2
       go_ret2;refine⟨_,rfl,hB2.trans (hb4.mono hB2.size),.pointer (some ⟨w.heap.size+1,0,none⟩),by rw[HF2.o]; rfl,λ_=>?_⟩;have h:=HT.o;exact⟨w.heap.size+1,bp,bd,bl,_,_,_,_,rfl,rfl,⟨h.head.below hb4 h.head.lt,h.rp.below hb4 h.rp.lt,h.rd.below hb4 h.rd.lt,h.rl.below hb4 h.rl.lt⟩,FI,FI,FI,FI⟩
     ·have HF:=Ag (show rO g=9 by rw[HE2.o,LH FI]);have hdg:(0:Int) < ((g.F7.length - q:Nat):Int):=FI;clear hqn;go_wp2
      go_ret2;exact zef
theorem abg (w:GK) (F:Gq) (u:GN) (g:Gm) (hg:AB w F u g) (hsm:Small g) :
  Calls GI 50 #[u] w (Ret w λv _=>v = GV GU (rO g)):=by
 have HG:=Ag hg;obtain⟨vn,vi,rfl,⟨A,c,rfl,hc,hN⟩,⟨Ai,ci,rfl,hci,hI⟩⟩:=hg;clear hN hI;have HS:=Ag hsm;clear hsm;go_in;go_wp2_with fail
 refine(zN _ F _ g (HG.o.on (Same.alloc _ _ _)) HS.o).mono ?_;rintro e w1 ⟨v,rfl,hb1,vp,rfl,hv⟩;clear hv;have hB:Below w.heap.size w w1:=((GR w.heap.size w).alloc (Gy _) _).trans (hb1.mono aA);dsimp only;go_wp2
 go_ret;exact⟨_,rfl,hB,rfl⟩
def mv (F7:List Nd) (s i:Nat):Bool:=match F7[i]? with | some n=>decide (n.kind=2)&&decide (n.info.toNat=s) | none=>false
def dA (F7:List Nd) (s k:Nat):List Int:=((Ig k).filter (mv F7 s)).map λi:Nat=>(i:Int)
theorem xg (F7:List Nd) (s k:Nat):dA F7 s (k+1)=dA F7 s k++(if mv F7 s k then [(k:Int)] else []):=by grind [dA,List.range_succ]
theorem aiq (F7:List Nd) (ni:Nat) (hin:∀ n∈F7,n.kind=2->0<=n.info/\n.info < (ni:Int)) (k:Nat):∀ s,s < ni->(ig F7 ni k)[s]? = some (dA F7 s k):=by induction k <;> grind [ig,dA,xg,mv]
theorem jq {g:Gm} (hin:BO g) (hs:s < g.F8.length):(dK g)[s]? = some (dA g.F7 s g.F7.length):=aiq g.F7 g.F8.length hin _ s hs
theorem tq {F7:List Nd} {k:Nat}:x∈dA F7 s k↔∃ i:Nat,x=i/\i < k/\mv F7 s i=true:=by grind [dA]
theorem agM (F7:List Nd) (ni:Nat) (hin:∀ n∈F7,n.kind=2->0<=n.info/\n.info < (ni:Int)) (m:Nat):∀ k,k+m=F7.length->∀ s,s < ni ->
  (iM (F7.drop k) k (GX ni 0))[s]? = some (match (List.range' k m).find? (mv F7 s) with | some i=>(i:Int)+1 | none=>0):=by
 induction m with
 | zero=>grind [iM]
 | succ m ih =>
   intro k hk s hs;obtain⟨n,hn⟩:=Gl (l:=F7) (k:=k) FI;rw[aar hn];grind [List.range',mv,jo]
theorem kV {g:Gm} (hin:BO g) (hs:s < g.F8.length):(gy g)[s]? = some (match dA g.F7 s g.F7.length with | []=>0 | x :: _=>x+1):=by
 have h:=agM g.F7 g.F8.length hin g.F7.length 0 FI s hs;unfold gy;rw[List.drop_zero] at h;rw[h];congr 1;unfold dA;rw[<-List.range_eq_range',<-List.head?_filter];cases (Ig g.F7.length).filter (mv g.F7 s) <;> simp
theorem ab8 (g:Gm):(gy g).length=g.F8.length:=by grind [gy,jo]
theorem air {g:Gm} (hin:BO g):iV g=kR g:=by
 unfold iV kR;have hl:(dK g).length=g.F8.length:=dD _ _ _;have hfl:=ab8 g;have h1:(gy g).contains 0=nK (dK g):=by
   rw[Bool.eq_iff_iff];unfold nK;rw[List.any_eq_true,List.contains_iff_exists_mem_beq];constructor
   ·rintro⟨x,hx,h0⟩;obtain⟨s,hs⟩:=H9 hx;have hlt:s < g.F8.length:=by rw[<-hfl];exact Gn hs
    have:=kV hin hlt;rw[hs] at this;refine⟨_,Gx (jq hin hlt),?_⟩;have hx0:x=0:=by simpa using (beq_iff_eq.1 h0).symm
    subst hx0;cases hm:dA g.F7 s g.F7.length with
    | nil=>rfl
    | cons y l =>
      exfalso
      rw[hm] at this;have hy:y∈dA g.F7 s g.F7.length:=by rw[hm];simp
      obtain⟨i,rfl,_⟩:=tq.1 hy;grind
   ·rintro⟨l,hl',h0⟩;obtain⟨s,hs⟩:=H9 hl';have hlt:s < g.F8.length:=by rw[<-hl];exact Gn hs
    have h2:=jq hin hlt;rw[hs] at h2;cases h2;have h3:=kV hin hlt;grind
 rw[h1];split
 ·rfl
 ·cases hn:nK (dK g) with
  | true=>rfl
  | false =>
    have hne:∀ s,s < g.F8.length->∃ x l,dA g.F7 s g.F7.length=x :: l:=by
      intro s hs;have:=List.any_eq_false.1 hn _ (Gx (jq hin hs));cases hm:dA g.F7 s g.F7.length with
      | nil=>grind
      | cons x l=>grind
    have h2:gU (gy g) = !fH (dK g) g.F8.length:=by
      rw[Bool.eq_iff_iff,agd,Bool.not_eq_true',fH,List.any_eq_false];constructor
      ·intro h i hi;rw[List.mem_range'_1] at hi;obtain⟨x,l,hx⟩:=hne (i - 1) FI;obtain⟨y,l',hy⟩:=hne i FI;have f1:=kV hin (s:=i - 1) FI;have f2:=kV hin (s:=i) FI;rw[hx] at f1;rw[hy] at f2;have:=h (i - 1) _ _ f1 (by rw[show i - 1+1=i by omega]; exact f2);have s1:=jq hin (s:=i - 1) FI;have s2:=jq hin (s:=i) FI;rw[hx] at s1;rw[hy] at s2;simp[ku,GH,s1,s2];grind
      ·intro h k x y hx hy;have hk1:k+1 < g.F8.length:=by rw[<-hfl];exact Gn hy
       have:=h (k+1) (by rw[List.mem_range'_1]; omega);obtain⟨x',l,hx'⟩:=hne k FI;obtain⟨y',l',hy'⟩:=hne (k+1) FI;have f1:=kV hin (s:=k) FI;have f2:=kV hin (s:=k+1) FI;rw[hx'] at f1;rw[hy'] at f2;have s1:=jq hin (s:=k) FI;have s2:=jq hin (s:=k+1) FI;rw[hx'] at s1;rw[hy'] at s2;rw[hx] at f1;rw[hy] at f2;cases f1;cases f2;simp[ku,GH,s1,s2] at this;grind
    grind
structure Deep (a:Nat) (r:Int) (d d':List Int) (deep deep':Int):Prop where
 o:∀ i:Nat,i < a\/r<=(i:Int)->d'[i]? = d[i]?
 le:deep<=deep'
 below:∀ (i:Nat) x,a<=i->(i:Int) < r->d'[i]? = some x->x<=deep'
 hit:deep'=deep\/∃ (i:Nat),a<=i/\(i:Int) < r/\d'[i]? = some deep'
theorem Deep.refl (a:Nat) (d:List Int) (deep:Int):Deep a a d d deep deep:=⟨λ_ _=>rfl,FI,λi x h1 h2=>by omega,.inl rfl⟩
theorem Deep.trans {a m:Nat} {r:Int} {d d' d'':List Int} {y z:Int} (ham:a<=m) (hmr:(m:Int)<=r) (h:Deep a m d d' x y) (k:Deep m r d' d'' y z):Deep a r d d'' x z:=by
 refine⟨λi hi=>?_,Int.le_trans h.le k.le,λi v h1 h2 hv=>?_,?_⟩
 ·rw[k.o i FI,h.o i FI]
 ·by_cases hm:i < m
  ·rw[k.o i (.inl hm)] at hv;exact Int.le_trans (h.below i v h1 FI hv) k.le
  ·exact k.below i v FI h2 hv
 ·rcases k.hit with e | ⟨i,h1,h2,h3⟩
  ·rcases h.hit with e' | ⟨i,h1,h2,h3⟩
   ·left; omega
   ·right; exact⟨i,h1,FI,by rw[k.o i (.inl FI),h3,e]⟩
  grind
theorem aey {N:Nat} {rec:Nat->Tri->Int×Tri} {rec':Nat->Int->Int×Int} (hlen:∀ a t,Tri.Len N t->Tri.Len N (rec a t).2)
  (hb:∀ a t,(rec a t).1 = -1\/((a:Int) < (rec a t).1/\(rec a t).1<=N)) (hs:∀ a t d,(rec a t).1=(rec' a d).1)
  (hrec:∀ a t deep,a < N->Tri.Len N t->0<=(rec a t).1->Deep a (rec a t).1 t.d (rec a t).2.d deep (rec' a deep).2) :
  ∀ (cs:List Int) (x:Nat) (t:Tri) (deep:Int),x<=N->Tri.Len N t->0<=(eG rec cs x t).1->(x:Int)<=(eG rec cs x t).1/\Deep x (eG rec cs x t).1 t.d (eG rec cs x t).2.d deep (dG rec' cs x deep).2
 | [],x,t,deep,_,_,_=>⟨by simp[eG],by simpa [eG,dG] using Deep.refl x t.d deep⟩
 | c :: cs,x,t,deep,hx,ht,h=>by
  unfold eG at h ⊢;unfold dG;by_cases hc:c=x
  ·subst hc;simp only[ne_eq,not_true_eq_false,↓reduceIte,Ic] at h ⊢;rw[<-hs x t deep];by_cases hng:(rec x t).1 < 0
   ·rw[LH hng] at h; simp at h
   ·rw[LG hng] at h ⊢;rw[LG hng];rcases hb x t with hb1 | hb1
    ·omega
    ·have hr:=hrec x t deep FI ht FI;obtain⟨m,hm⟩:=J4 (show 0<=(rec x t).1 by omega);rw[hm] at h hr ⊢;rw[hm] at hb1;have ih:=aey hlen hb hs hrec cs m (rec x t).2 (rec' x deep).2 FI (hlen x t ht) h;exact⟨FI,hr.trans FI ih.1 ih.2⟩
  ·rw[LH hc] at h; simp at h
theorem abh (F7:List Nd):∀ (f a:Nat) (par dep:Int) (t:Tri) (deep:Int),Tri.Len F7.length t->0<=(bP F7 f a par dep t).1 ->
  Deep a (bP F7 f a par dep t).1 t.d (bP F7 f a par dep t).2.d deep (bT F7 f a dep deep).2
 | 0,_,_,_,_,_,_,h=>by simp[bP] at h
 | f+1,a,par,dep,t,deep,ht,h=>by
  unfold bP at h ⊢;unfold bT;cases hn:F7[a]? with
  | none=>rw[hn] at h; simp at h
  | some n =>
   rw[hn] at h;simp only at h ⊢;have ha:=Gn hn;have hk:=aey (N:=F7.length) (rec:=λa' t=>bP F7 f a' a (dep+1) t) (rec':=λa' d=>bT F7 f a' (dep+1) d)
    (λa' t h=>mV F7 f a' a (dep+1) t h) (λa' t=>pG F7 f a' a (dep+1) t) (λa' t d=>yA F7 f a' a (dep+1) t d)
    (λa' t d _ ht h=>abh F7 f a' a (dep+1) t d ht h) n.next (a+1) ⟨t.p.set a par,t.d.set a dep,t.l⟩ (max deep dep) FI ⟨by simp[ht.p],by simp[ht.d],ht.l⟩
   simp only[Int.natCast_add,Int.cast_ofNat_Int] at hk;by_cases hng:(eG (λa' t=>bP F7 f a' a (dep+1) t) n.next ((a:Int)+1) ⟨t.p.set a par,t.d.set a dep,t.l⟩).1 < 0
   ·rw[LH hng] at h; omega
   ·rw[LG hng] at h ⊢;obtain⟨h1,h2⟩:=hk FI;have h0:Deep a ((a+1:Nat):Int) t.d (t.d.set a dep) deep (max deep dep):=by
     refine⟨λi hi=>List.getElem?_set_ne FI,FI,λi x h1 h2 hx=>?_,?_⟩
     ·have:i=a:=FI;subst this;rw[Hq (by rw[ht.d]; exact ha)] at hx;cases hx;omega
     ·by_cases hd:dep<=deep
      ·left; omega
      ·right; exact⟨a,FI,FI,by rw[Hq (by rw[ht.d]; exact ha)]; congr 1; omega⟩
    exact h0.trans FI (by simpa using h1) (by simpa using h2)
theorem ais (l:List Int) (a:Int):a<=l.foldl max a/\∀ x∈l,x<=l.foldl max a:=by
 induction l generalizing a with
 | nil=>simp
 | cons y l ih=>grind
theorem agN (l:List Int) (a:Int):l.foldl max a=a\/l.foldl max a∈l:=by
 induction l generalizing a with
 | nil=>simp
 | cons y l ih=>grind
theorem ako {m:Int} (hm:m∈l) (hb:∀ x∈l,x<=m):maxL l=m:=by
 cases l with
 | nil=>cases hm
 | cons y l =>
   unfold maxL;have h1:=ais l y;grind [agN]
theorem yD (g:Gm):rO g=aQ g:=by
 unfold rO aQ;have hw:(walkT g).1=(bT g.F7 (g.F7.length+1) 0 0 0).1:=yA _ _ _ _ _ _ _;split
 ·rfl
 ·rename_i hsz
  split
  ·rfl
  ·rename_i hne
   rw[hw];split
   ·rfl
   ·rename_i hN
    have hin:BO g:=qZ (by simpa using hne);have hp:0 < g.F7.length:=by unfold jE at hsz;omega
    have hd:=abh g.F7 (g.F7.length+1) 0 (-1) 0 ⟨GX g.F7.length 0,GX g.F7.length 0,GX g.F7.length 0⟩ (-1) ⟨aA,aA,aA⟩;have hd0:=abh g.F7 (g.F7.length+1) 0 (-1) 0 ⟨GX g.F7.length 0,GX g.F7.length 0,GX g.F7.length 0⟩ 0 ⟨aA,aA,aA⟩;have hee:bT g.F7 (g.F7.length+1) 0 0 (-1)=bT g.F7 (g.F7.length+1) 0 0 0:=by grind [bT]
    rw[hee] at hd;refine zai ?_;intro hlen hT;rw[<-hT] at hd hd0 hlen;have hN':(walkT g).1=(g.F7.length:Int):=by rw[hw];simpa using hN
    rw[hN'] at hd hd0;have hd:=hd FI;have hle:=(hd0 FI).le;clear hd0;have hmax:maxL (walkT g).2.d=(bT g.F7 (g.F7.length+1) 0 0 0).2:=by
      generalize (bT g.F7 (g.F7.length+1) 0 0 0).2=mx at hd hle;have hb:∀ x∈(walkT g).2.d,x<=mx:=by
        intro x hx;obtain⟨i,hi⟩:=H9 hx;exact hd.below i x FI (by have:=Gn hi; rw[hlen.d] at this; omega) hi
      rcases hd.hit with e | ⟨i,_,_,hi⟩
      ·omega
      ·exact ako (Gx hi) hb
    rw[hmax,air hin]
theorem dP {g:Gm} (h:aQ g=0):dH g.aC g.F8.length g.F7=0/\kR g=0:=by grind [aQ]
theorem dJ {g:Gm} (h:aQ g=0):∀ i∈g.F8,i.actions<=10:=by
 intro inf hin;obtain⟨s,hs⟩:=H9 hin;have hsl:s < g.F8.length:=Gn hs;obtain⟨h2,h5⟩:=dP h;unfold kR at h5;split at h5
 ·omega
 rename_i ht
 split at h5
 ·omega
 rename_i hn
 have hm:=jq (gQ h).F8 hsl;have hne:(dA g.F7 s g.F7.length).length≠0:=λe=>by
  apply hn
  unfold nK;exact List.any_eq_true.2 ⟨_,Gx hm,LK e⟩
 obtain⟨x,hx⟩:=List.exists_mem_of_length_pos (Nat.pos_of_ne_zero hne);obtain⟨k,rfl,hk,hmv⟩:=tq.1 hx;unfold mv at hmv;split at hmv
 ·rename_i n hnk
  simp only[Ib,decide_eq_true_eq] at hmv;have hmem:=Gx hnk;have e1:=gJ h2 n hmem;unfold aT at e1;rw[LG FI,LH hmv.1] at e1;unfold dX at e1;split at e1
  ·omega
  ·rename_i h3
   have e2:dV g.F8 n=false:=by
     cases hb:dV g.F8 n with
     | false=>rfl
     | true=>exact absurd (List.any_eq_true.2 ⟨n,hmem,hb⟩) ht
   unfold dV at e2;grind
 ·cases hmv
structure Fl where
 kind:Int
 node:Int
 info:Int
 other:Int
def iq (g:Gm) (i:Int):Nat->Nat->Option Nat
 | 0,_=>none
 | f+1,c=>match (dO g.F7)[c]? with
  | some p=>if 0<=p then (if (g.F7.getD p.toNat default).kind=2/\(g.F7.getD p.toNat default).info=i then some p.toNat else iq g i f p.toNat) else none
  | none=>none
theorem aaz {g:Gm} (hg:Good g):∀ f,iq g i f 0=none
 | 0=>rfl
 | f+1=>by
  obtain⟨p,hp,h | ⟨q,n,_,h,_⟩⟩:=hg.par hg.pos
  ·rw[iq,hp]; simp only; rw[LG FI]
  ·omega
theorem aaA {g:Gm} {n:Nd} (hp:(dO g.F7)[c]? = some (q:Int)) (hn:g.F7[q]? = some n) (h:n.kind=2/\n.info=i):iq g i (f+1) c=some q:=by grind [iq]
theorem ac0 {g:Gm} {n:Nd} (hp:(dO g.F7)[c]? = some (q:Int)) (hn:g.F7[q]? = some n) (h:¬ (n.kind=2/\n.info=i)):iq g i (f+1) c=iq g i f q:=by grind [iq]
def abj (i c:Int):Option Nat->List Fl
 | some a=>[⟨1,c,i,a⟩]
 | none=>[]
def uP (g:Gm) (i pl:Int) (first c:Nat):List Fl:=if jB g pl c=jB g pl first then [] else [⟨2,c,i,first⟩]
def tu (g:Gm) (i pl:Int) (first c:Nat):List Fl:=abj i c (iq g i g.F7.length c)++uP g i pl first c
def iW (g:Gm) (i pl:Int) (l:List Int):Nat->List Fl
 | 0=>[]
 | k+1=>iW g i pl l k++tu g i pl (l.getD 0 0).toNat (l.getD k 0).toNat
def kW (g:Gm):Nat->List Fl
 | 0=>[]
 | i+1=>kW g i++iW g i (g.F8.getD i default).aH ((dK g).getD i []) ((dK g).getD i []).length
def abk (g:Gm):List Fl:=kW g g.F8.length
theorem agO {g:Gm} {pl:Int} {first:Nat}:(tu g i pl first c).length<=2:=by
 unfold tu abj uP;grind
theorem abO {g:Gm} {i pl:Int} {l:List Int}:∀ k,(iW g i pl l k).length<=2*k
 | 0=>Gy _
 | k+1=>by
  have h1:=abO (g:=g) (i:=i) (pl:=pl) (l:=l) k;have h2:=agO (g:=g) (i:=i) (pl:=pl) (first:=(l.getD 0 0).toNat) (c:=(l.getD k 0).toNat);rw[iW,List.length_append]; omega
theorem aaB {g:Gm} (hg:Good g) (hl:(dK g)[s]? = some l):l.length<=g.F7.length/\∀ x∈l,∃ (j:Nat) (n:Nd),x=(j:Int)/\g.F7[j]? = some n/\n.kind=2/\n.info=(s:Int):=by
 have hs:s < g.F8.length:=by have h1:=Gn hl;rwa [show(dK g).length=g.F8.length from dD _ _ _] at h1
 rw[jq hg.F8 hs] at hl;cases hl;unfold dA;refine⟨?_,λx hx=>?_⟩
 ·grind
 ·obtain⟨j,hj,rfl⟩:=List.mem_map.1 hx;obtain⟨h1,h2⟩:=List.mem_filter.1 hj;unfold mv at h2;cases hn:g.F7[j]? with
  | none=>grind
  | some n =>
    rw[hn] at h2;simp only[Ib,decide_eq_true_eq] at h2;have h3:=hg.F8 n (Gx hn) h2.1;grind
theorem ait {g:Gm} (hg:Good g) (hs:Small g):(abk g).length<=20000:=by
 have key:∀ i,(kW g i).length<=200*i:=by
   intro i;induction i with
   | zero=>exact Gy _
   | succ i ih =>
     have h1:=abO (g:=g) (i:=i) (pl:=(g.F8.getD i default).aH) (l:=(dK g).getD i []) ((dK g).getD i []).length;have h2:((dK g).getD i []).length<=100:=by
       rw[GH];cases hl:(dK g)[i]? with
       | none=>grind
       | some l =>
         have h3:=(aaB hg hl).1;have h4:=hs.F7;grind
     grind [kW]
 have h1:=key g.F8.length;have h2:=hs.F8;grind [abk]
theorem Below.wrote {w w':GK} (h:Below w.heap.size w w') (K:Gq):Wrote K w w':=⟨h.os,h.tape,h.output,h.size,λi hi _=>h.block i hi⟩
theorem put_any (w:GK) (rb mb c k:Nat) (z:Int) (F:Gq) (L:List RV) (hr:Row w rb 62 [Gw (some ⟨mb,0,none⟩) L.length c]) (hm:AO w mb 74 F L) (hk:k < L.length) (hz1:-1000000000000<=z) (hz2:z<=1000000000000) (hF:∀ b,w.heap.size<=b->F b) :
  Calls GI 24 #[.pointer (some ⟨rb,0,none⟩),GV GU (k:Int),GV GU z] w λe w'=>e = .returned (.tuple #[])/\∃ q:RV,q.r=ay (z:Rat)/\AO w' mb 74 F (L.set k q)/\Wrote (λb=>b=mb) w w':=by
 have HM:=Ag hm;have r0:=hr.cell (i:=0) rfl;have hmb:=hm.row.lt;have hki:(k:Int) < (L.length:Int):=FI;have hB:=GR w.heap.size w;have hz0:=Gy w.heap.size;clear hm;go_in;refine aP (λw'=>w'.cell? ⟨rb,0,none⟩=some (Gw (some ⟨mb,0,none⟩) L.length c)) 7 1 aj rfl aj r0 λhHeld=>?_
 refine Zo ?_;have hb:Below w.heap.size w w.drew:=aG (GR _ w) 1;replace r0:=ah r0 hb;replace HM:=Ag (HM.o.below hb);replace hz0:=He hz0 hb.size;refine ZM ?_;clear hB;intro hB;clear hb;generalize w.drew=wn at *;refine tkm [0,1,2,3,4] ?_;refine tk2 5 aj rfl λK hK=>?_
 go_simp;refine(lG wn z hz1 hz2).mono ?_;rintro e wn ⟨u,rfl,hb,hu⟩;obtain⟨A1,c1,B1,d1,rfl,bH⟩:=hu.opened;have HFI:=Ag (bH.keep (λb hb _=>(⟨hF b FI,FI⟩:F b/\b≠mb)) (Same.refl _ _));clear hu bH;replace r0:=ah r0 hb;replace HM:=Ag (HM.o.below hb);replace hz0:=He hz0 hb.size;refine YQ ?_;clear hB hb;intro hB;clear hHeld;refine hK.out _ _ r0 (λhHeld=>?_);clear hK K;refine Zb ?_;refine tkm [6] ?_;refine Zp ?_;clear hHeld;obtain⟨q0,hq0⟩:=Gl hk;have c0:wn.cell? ⟨mb,k*3,none⟩=some (.bool q0.r.neg):=HM.o.cell (j:=0) hq0 FI rfl;have c1':=HM.o.cell (j:=1) hq0 FI rfl;have c2':=HM.o.cell (j:=2) hq0 FI rfl;have f0:=HM.o.row.frozen (k*3);have f1:=HM.o.row.frozen (k*3+1);have f2:=HM.o.row.frozen (k*3+2);obtain⟨q,hq⟩:∃ q:RV,q=⟨ay (z:Rat),Gw A1 (ay (z:Rat)).num.length c1,Gw B1 (ay (z:Rat)).den.length d1⟩:=⟨_,rfl⟩;have hqf:=HFI.o;rw[<-hq] at hqf;obtain⟨W,hW,hm,hwB,hwS,hwz,hwb⟩:=HM.o.set k q hqf;have HM2:=Ag hm;have HWR:=Ag (show Wrote (λb=>b=mb) w W from⟨(hwB 0 wn (Hg _) (GR _ _)).os.trans hB.os,(hwB 0 wn (Hg _) (GR _ _)).tape.trans hB.tape,(hwB 0 wn (Hg _) (GR _ _)).output.trans hB.output,FI,λi hi hn=>(hwb i hn).trans (hB.block i hi)⟩);have HQ:=Ag (show q.r=ay (z:Rat) by rw[hq]);rw[hq] at hW;have HW:=Ag hW;clear hm hwB hwS hwz hwb hW hqf hq hq0 r0;go_wp2
 rw[<-HW.o];unfold AY;go_end0;exact⟨rfl,q,HQ.o,HM2.o,HWR.o⟩
