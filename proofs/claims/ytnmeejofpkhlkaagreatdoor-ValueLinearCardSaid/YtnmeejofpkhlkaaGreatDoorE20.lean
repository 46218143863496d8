/- Part of a claim. -/
import Derived.Test.YtnmeejofpkhlkaaGreatDoorE09
import Derived.Test.YtnmeejofpkhlkaaGreatDoorE18
import Derived.Deep.CutRange
import Derived.Deep.AppendSrc
import Derived.Deep.LoopGhost
set_option linter.all false
set_option maxRecDepth 100000
set_option maxHeartbeats 12800000
namespace Go.Proofs.YtnmeejofpkhlkaaGreatDoor
open Below renaming same'->FZ
open Bool renaming and_eq_true->GN
open Go.IntKind renaming i64->F5
open Go renaming Value->F7,World->FW
open Go.Value renaming int->F6,slice->FQ
open Int renaming eq_ofNat_of_zero_le->J5,toNat_natCast->Gu
open List renaming drop_eq_nil_of_le->GU,eq_nil_of_length_eq_zero->Hq,foldl_cons->Iw,getD_eq_getElem?_getD->FU,getElem?_of_mem->Gz,getElem?_set_ne->Ia,getElem?_set_self->Ib,length_append->Gn,mem_cons->Il,mem_cons_of_mem->GI,mem_of_getElem?->FT,not_mem_nil->Ho,range->Ir,replicate->F8
open Nat renaming le_refl->FV,le_trans->Gf
open Go.Proofs.Tryz renaming prog->FY
open Lib renaming hid → Ac
open List renaming getElem_toArray → lq1, getElem_cons_zero → lq2, getElem_cons_succ → lq3, setIfInBounds_toArray → lq4, set_cons_zero → lq5, set_cons_succ → lq6
open Go.RowKit
variable {i x:Int} {l:List Int} {c f q s:Nat} {t:TypeId}
def walkT (g:Gm):Int×Tri:=dJ g.Fg (g.Fg.length+1) 0 (-1) 0 ⟨F8 g.Fg.length 0,F8 g.Fg.length 0,F8 g.Fg.length 0⟩
def tY (g:Gm):Int :=
 if jH g then 2 else if dA g.ay g.Fh.length g.Fg≠0 then dA g.ay g.Fh.length g.Fg
 else if (walkT g).1≠g.Fg.length then 9 else if 40 < maxL (walkT g).2.d then 5 else jq g
def DX (u:F7) (g:Gm) (B:Nat) (v:F7) (w':FW):Prop:=∃ vp,v = .tuple #[vp,F6 F5 (tY g)] /\
 (tY g=0->∃ p bp bd bl A c Ai ci,vp = .pointer (some ⟨p,0,none⟩)/\u = .agg #[F6 F5 g.ay,FQ A g.Fg.length c,FQ Ai g.Fh.length ci]/\BG w' p bp bd bl g.ay A g.Fg.length c Ai g.Fh.length ci (walkT g).2/\B<=p/\B<=bp/\B<=bd/\B<=bl)
theorem ifT {c:Bool} {p q:Prop} (h:c=true) (hp:p):if c=true then p else q:=by rw[L8 h]; exact hp
theorem oP {P:Program} (w:FW) {o:Oper} {a:Act} {K:Act->FW->Prop} {Q:Exit->Act->FW->Prop} (l c:Operand) (t:TypeId) (hop:o.op=Op.makeSlice t l c)
  (e:TypeId) (z:F7) (bytes:Nat) (ht:P.underlying t=some (.slice e)) (hinfo:(P.info? e).map (λi=>(i.zero,i.size,i.bytes))=some (some z,1,bytes)) (hz1:z.cells = #[z])
  (n:Nat) (hl:a.eval l = F6 F5 (n:Int)) (hc:a.eval c = F6 F5 (n:Int)) (hn:n<=1000000) (hb:bytes<=1000)
  (hK:∀ w1,Below w.heap.size w w1->w1.heap.size=w.heap.size+1->Row w1 w.heap.size e (F8 n z)->K (a.put o.dst (FQ (some ⟨w.heap.size,0,none⟩) n n)) w1) :
  Oper.wp P o a w K Q:=by
 have hbytes:bytes*n<=281474976710656:=by
  exact zde
 exact zab
def ae9 (w:FW) (B x:Nat) (p:Int) (vn vi:F7):Hold :=
 ⟨λw'=>B<=w'.heap.size/\Below x w w'/\Row w' x 27 [F6 F5 p,vn,vi]/\∃ a b c,Row w' (x+1) 208 [F6 F5 p,vn,vi,a,b,c],
  λ_ _ ⟨h1,h2,h3,a,b,c,h4⟩ hb=>⟨Gf h1 hb.size,h2.trans (hb.mono (Nat.le_of_lt h3.lt)),h3.below hb h3.lt,a,b,c,h4.below hb h4.lt⟩⟩
def wJ (x:Nat) (p:Int) (vn vi u:F7):Hold:=⟨λw'=>∃ b c,Row w' x 208 [F6 F5 p,vn,vi,u,b,c],λ_ _ ⟨b,c,h4⟩ hb=>⟨b,c,h4.below hb h4.lt⟩⟩
def wK (x:Nat) (p:Int) (vn vi u v:F7):Hold:=⟨λw'=>∃ c,Row w' x 208 [F6 F5 p,vn,vi,u,v,c],λ_ _ ⟨c,h4⟩ hb=>⟨c,h4.below hb h4.lt⟩⟩
def zW (x:Nat) (p:Int) (vn vi u v z:F7):Hold:=⟨λw'=>Row w' x 208 [F6 F5 p,vn,vi,u,v,z],λ_ _ h4 hb=>h4.below hb h4.lt⟩
def fZ (B x n:Nat) (p:Int) (vn vi:F7):Says where
 uses i:=match i with | 17=>[6] | 20=>[6,10] | 23=>[6,10,14] | _=>[]
 F i l:=match i with
  | 6 | 10 | 14=>Hold.made B 3 n (F8 n (F6 F5 0)) (l.getD 0 undef)
  | 15 | 18 | 21=>Hold.eq (.pointer (some ⟨x,0,none⟩)) (l.getD 0 undef)
  | 16=>Hold.eq (.pointer (some ⟨x,3,none⟩)) (l.getD 0 undef)
  | 19=>Hold.eq (.pointer (some ⟨x,4,none⟩)) (l.getD 0 undef)
  | 22=>Hold.eq (.pointer (some ⟨x,5,none⟩)) (l.getD 0 undef)
  | 17=>wJ x p vn vi (l.getD 1 undef)
  | 20=>wK x p vn vi (l.getD 1 undef) (l.getD 2 undef)
  | 23=>zW x p vn vi (l.getD 1 undef) (l.getD 2 undef) (l.getD 3 undef)
  | _=>Hold.tt
 cu:=[17,20,23]
 G j l w w':=match j with
  | 17=>w'=w.setCell ⟨x,3,none⟩ (l.getD 1 undef)
  | 20=>w'=w.setCell ⟨x,4,none⟩ (l.getD 2 undef)
  | 23=>w'=w.setCell ⟨x,5,none⟩ (l.getD 3 undef)
  | _=>False
 mks:=[6,10,14]
theorem ah3 (B x n:Nat) (p:Int) (vn vi:F7):∀ k∈(fZ B x n p vn vi).mks,∀ e w,(fZ B x n p vn vi).R k e w->∀ b,zQ (e k)=some b->b < w.heap.size:=by
 intro k hk e w h;simp only[fZ,Il,Ho,or_false] at hk;rcases hk with rfl | rfl | rfl
 ·exact ae3 (show(Hold.made B 3 n (F8 n (F6 F5 0)) (e 6)).p w from h)
 ·exact ae3 (show(Hold.made B 3 n (F8 n (F6 F5 0)) (e 10)).p w from h)
 ·exact ae3 (show(Hold.made B 3 n (F8 n (F6 F5 0)) (e 14)).p w from h)
theorem adB {B x n:Nat} {p:Int} {vn vi:F7} {w0:FW} (j:Nat) (hj:j∈(fZ B (x+1) n p vn vi).cu) {E:List Nat} {e:Nat->F7} {w w':FW} (hE:∀ k∈E,k∈[6,10,14,15,16,17,18,19,20,21,22,23]) (hnE:j ∉ E)
  (hf:∀ i∈E,(fZ B (x+1) n p vn vi).R i e w) (hS:(ae9 w0 B x p vn vi).p w) (hx:x+1 < B) (hG:(fZ B (x+1) n p vn vi).G j ((j :: (fZ B (x+1) n p vn vi).uses j).map e) w w') :
  (ae9 w0 B x p vn vi).p w'/\∀ i∈E,(fZ B (x+1) n p vn vi).R i e w':=by
 obtain⟨s1,s2,s3,a,b,c,s4⟩:=hS;obtain⟨k,u,hk,rfl,hs4,h17,h20,h23⟩:∃ k u,k=3+(j - 17) / 3/\w'=w.setCell ⟨x+1,k,none⟩ u/\(∃ a b c,Row (w.setCell ⟨x+1,k,none⟩ u) (x+1) 208 [F6 F5 p,vn,vi,a,b,c]) /\
   (17∈E->(wJ (x+1) p vn vi (e 6)).p (w.setCell ⟨x+1,k,none⟩ u))/\(20∈E->(wK (x+1) p vn vi (e 6) (e 10)).p (w.setCell ⟨x+1,k,none⟩ u))/\(23∈E->(zW (x+1) p vn vi (e 6) (e 10) (e 14)).p (w.setCell ⟨x+1,k,none⟩ u)):=by
  have f17:17∈E->(wJ (x+1) p vn vi (e 6)).p w:=hf 17;have f20:20∈E->(wK (x+1) p vn vi (e 6) (e 10)).p w:=hf 20;have f23:23∈E->(zW (x+1) p vn vi (e 6) (e 10) (e 14)).p w:=hf 23;simp only[fZ,Il,Ho,or_false] at hj;rcases hj with rfl | rfl | rfl
  ·exact⟨3,e 6,rfl,hG,⟨_,_,_,s4.set 3 _⟩,λh=>absurd h hnE,λh=>let ⟨c,h⟩:=f20 h; ⟨c,h.set 3 _⟩,λh=>(f23 h).set 3 _⟩
  ·exact⟨4,e 10,rfl,hG,⟨_,_,_,s4.set 4 _⟩,λh=>let ⟨b,c,h⟩:=f17 h; ⟨_,_,h.set 4 _⟩,λh=>absurd h hnE,λh=>(f23 h).set 4 _⟩
  ·exact⟨5,e 14,rfl,hG,⟨_,_,_,s4.set 5 _⟩,λh=>let ⟨b,c,h⟩:=f17 h; ⟨_,_,h.set 5 _⟩,λh=>let ⟨c,h⟩:=f20 h; ⟨_,h.set 5 _⟩,λh=>absurd h hnE⟩
 refine⟨⟨by simpa using s1,s2.setCell (p:=⟨x+1,k,none⟩) (Nat.le_succ x) _,s3.other (a:=⟨x+1,k,none⟩) (show x≠x+1 by omega) _,hs4⟩,λi hi=>?_⟩;have hi':=hE i hi;simp only[Il,Ho,or_false] at hi';rcases hi' with rfl | rfl | rfl | rfl | rfl | rfl | rfl | rfl | rfl | rfl | rfl | rfl
 ·exact yS hx (show(Hold.made B 3 n (F8 n (F6 F5 0)) (e 6)).p w from hf 6 hi)
 ·exact yS hx (show(Hold.made B 3 n (F8 n (F6 F5 0)) (e 10)).p w from hf 10 hi)
 ·exact yS hx (show(Hold.made B 3 n (F8 n (F6 F5 0)) (e 14)).p w from hf 14 hi)
 ·exact hf 15 hi
 ·exact hf 16 hi
 ·exact h17 hi
 ·exact hf 18 hi
 ·exact hf 19 hi
 ·exact h20 hi
 ·exact hf 21 hi
 ·exact hf 22 hi
 ·exact h23 hi
theorem ah4 (w:FW) (F:FI) (u:F7) (g:Gm) (hg:AA w F u g) (hsm:Small g) :
  Calls FY 125 #[u] w (Ret w (DX u g w.heap.size)):=by
 have HG:=Ac hg;obtain⟨vn,vi,rfl,⟨A,c,rfl,hc,hN⟩,⟨Ai,ci,rfl,hci,hI⟩⟩:=hg;have HN:=Ac hN;have HI:=Ac hI;clear hN hI;have hn:=hsm.Fg;have hni:=hsm.Fh;have HS:=Ac hsm;clear hsm;by_cases q0:g.ay < 1
 ·have HF:=Ac (show tY g=2 by unfold tY; rw[L8 (by unfold jH; omega)]);go_in;go_wp2
  go_ret2;exact zaE
 have d0:decide (g.ay < 1)=false:=L9 EN;by_cases q1:4 < g.ay
 ·have HF:=Ac (show tY g=2 by unfold tY; rw[L8 (by unfold jH; omega)]);go_in;go_wp2
  go_ret2;exact zaE
 have d1:decide ((4:Int) < g.ay)=false:=L9 EN;by_cases q2:g.Fg.length < 1
 ·have HF:=Ac (show tY g=2 by unfold tY; rw[L8 (by unfold jH; omega)]);go_in;go_wp2
  go_ret2;exact zaE
 have d2:decide ((g.Fg.length:Int) < 1)=false:=L9 EN;have d3:decide ((2000:Int) < (g.Fg.length:Int))=false:=L9 EN;have d4:decide ((200:Int) < (g.Fh.length:Int))=false:=L9 EN;have HE:=Ac (show tY g=if dA g.ay g.Fh.length g.Fg≠0 then dA g.ay g.Fh.length g.Fg
   else if (walkT g).1≠g.Fg.length then 9 else if 40 < maxL (walkT g).2.d then 5 else jq g by unfold tY; rw[L6 (by unfold jH; omega)])
 obtain⟨b,o,rfl,hbF,hb,hcell⟩:=HN.out EN;have HC:=Ac hcell;clear hcell;go_in;go_wp2_with fail
 go_loopw [42] (λi wr=>∃ k:Nat,k<=g.Fg.length/\i = F6 F5 k/\Row wr w.heap.size 27 [F6 F5 g.ay,FQ (some ⟨b,o,none⟩) g.Fg.length c,FQ Ai g.Fh.length ci]/\Row wr (w.heap.size+1) 208 [F6 F5 g.ay,FQ (some ⟨b,o,none⟩) g.Fg.length c,FQ Ai g.Fh.length ci,FQ none 0 0,FQ none 0 0,FQ none 0 0]/\Below w.heap.size w wr/\dA g.ay g.Fh.length g.Fg=dA g.ay g.Fh.length (g.Fg.drop k)) (λi _=>g.Fg.length - (intOf i).toNat)
 case atStart =>
  refine⟨0,EN,rfl,(Row.new w _ _).alloc _,?_,?_,rfl⟩
  ·have:=Row.new (w.alloc (.cells #[F6 F5 g.ay,FQ (some ⟨b,o,none⟩) g.Fg.length c,FQ Ai g.Fh.length ci] 27)) 208 #[F6 F5 g.ay,FQ (some ⟨b,o,none⟩) g.Fg.length c,FQ Ai g.Fh.length ci,FQ none 0 0,FQ none 0 0,FQ none 0 0];simpa using this
  ·exact bJ _ _ _ 0
 case round =>
  obtain⟨k,hk,rfl,hbx,hwk,hbel,hval⟩:=hrel;have HV:=Ac hval;clear hval;by_cases hlt:k < g.Fg.length
  ·obtain⟨x,hx⟩:=FC hlt;obtain⟨e0,e1,e2,⟨v3,e3,i3⟩,⟨v4,e4,i4⟩,⟨v5,e5,i5⟩⟩:=HC.out k x hx;obtain⟨A3,c3,rfl,hc3,h3⟩:=i3;obtain⟨A4,c4,rfl,hc4,h4⟩:=i4;obtain⟨A5,c5,rfl,hc5,h5⟩:=i5;have V:=Ac (show Bf w F _ x from⟨_,_,_,rfl,⟨A3,c3,rfl,hc3,h3⟩,⟨A4,c4,rfl,hc4,h4⟩,⟨A5,c5,rfl,hc5,h5⟩⟩);clear h3 h4 h5;have M:=FT hx;have HL:=Ac (show x.next.length < 1000000/\x.weights.length < 1000000/\x.pay.length < 1000000 from⟨by have:=HS.out.next x M; omega,by have:=HS.out.weights x M; omega,by have:=HS.out.pay x M; omega⟩);clear M;have HV2:=Ac (HV.out.trans (xW hx));clear hx;have hold:=aS hbel;have hwl:=hwk.lt;go_wp2_with fail
   obtain⟨W,hW,_,hWb,hWz⟩:=fV wr 127 #[F6 F5 x.kind,F6 F5 x.aC,F6 F5 x.info,FQ A3 x.next.length c3,FQ A4 x.weights.length c4,FQ A5 x.pay.length c5];rw[<-hW];clear hW;have jh:=hbx.below hWb hbx.lt;have akl:=hwk.below hWb hwk.lt;have tK:=hbel.trans (hWb.mono hbel.size);clear hbx hwk hbel hold;refine(ajW _ F (w.heap.size+1) _ g.ay g.Fh.length x ⟨akl.cell rfl,_,_,akl.cell rfl⟩ (V.out.on (FZ tK F)) HL.out EN EN akl.lt).mono ?_;rintro e w1 ⟨_,rfl,hb1,rfl⟩;have hbx2:=jh.below hb1 jh.lt;have hwk2:=akl.below hb1 akl.lt;have jo:=tK.trans (hb1.mono tK.size);clear jh akl tK hb1 hWb hWz;dsimp only;generalize aQ g.ay g.Fh.length x=er at *;by_cases he:er=0
   ·subst he;go_wp2
    go_roundw
    case rel=>exact⟨k+1,EN,by go_num,hbx2,hwk2,jo,by rw[HV2.out]; simp⟩
    case measure=>simp[intOf]; omega
   ·have hd:(er != 0)=true:=by simp[he]
    have HF:=Ac (show tY g=er by rw[HE.out,HV2.out]; simp[he]);have HNZ:=Ac he;clear he;go_wp2
    go_ret2;exact⟨_,rfl,jo,.pointer none,by rw[HF.out]; rfl,by rw[HF.out]; intro h; exact absurd h HNZ.out⟩
  ·have HE2:=Ac (show tY g=if (walkT g).1≠g.Fg.length then 9 else if 40 < maxL (walkT g).2.d then 5 else jq g by
    rw[HE.out,HV.out,GU EN]; simp[dA])
   have HIN:=Ac (oJ (g:=g) (by rw[HV.out,GU EN]; rfl));have hbl:=hbx.lt;have hwl:=hwk.lt;go_upto_region 11 with fail
   go_cut [] from 53 to 73 (λwx=>∃ bp bd bl,BG wx (w.heap.size+1) bp bd bl g.ay (some ⟨b,o,none⟩) g.Fg.length c Ai g.Fh.length ci ⟨F8 g.Fg.length 0,F8 g.Fg.length 0,F8 g.Fg.length 0⟩/\Row wx w.heap.size 27 [F6 F5 g.ay,FQ (some ⟨b,o,none⟩) g.Fg.length c,FQ Ai g.Fh.length ci]/\Below w.heap.size w wx/\w.heap.size+1 < bp/\w.heap.size+1 < bd/\w.heap.size+1 < bl/\bp≠bd/\bp≠bl/\bd≠bl)
   case first =>
    refine wp_region_held_drew (S:=λw'=>w'.cell? ⟨w.heap.size,1,none⟩=some (FQ (some ⟨b,o,none⟩) g.Fg.length c)) ak (hbx.cell rfl) (λhHeld=>?_);refine tkm [0,1,2,3,4,5,7,8,9,11,12,13] ?_;obtain⟨w0,hw0⟩:=FH wr.drew;have hbx0:Row w0 _ _ _:=hw0▸hbx.drew;have hwk0:Row w0 _ _ _:=hw0▸hwk.drew;have hB0:Below w.heap.size w w0:=hw0▸hbel.drew;rw[<-hw0] at hHeld ⊢;clear hw0 hbx hwk hbel hwl hbl;have hz0:=hwk0.lt;refine ae2 (js:=[6,10,14,15,16,17,18,19,20,21,22,23]) (ae9 w w0.heap.size w.heap.size g.ay (FQ (some ⟨b,o,none⟩) g.Fg.length c) (FQ Ai g.Fh.length ci)) (fZ w0.heap.size (w.heap.size+1) g.Fg.length g.ay (FQ (some ⟨b,o,none⟩) g.Fg.length c) (FQ Ai g.Fh.length ci)) ak ak ⟨FV _,hB0,hbx0,_,_,_,hwk0⟩ (λ_ h=>h.2.2.1.cell rfl) (ah3 _ _ _ _ _ _) (λj hj E e _ w' hE hu hn hf hA hS hG=>adB j hj hE hn hf hS hz0 hG) ?_;refine AY.cons (o:=_) rfl (λwk hS hf K hK=>?_) (λv6=>?_)
    ·exact zat
    refine Zb ?_;refine AY.cons (o:=_) rfl (λwk hS hf K hK=>?_) (λv10=>?_)
    ·exact zat
    refine Zb ?_;refine AY.cons (o:=_) rfl (λwk hS hf K hK=>?_) (λv14=>?_)
    ·exact zat
    refine Zb ?_;refine AY.cons (o:=_) rfl (λwk hS hf K hK=>?_) (λv15=>?_)
    ·go_simp;exact Y7
    refine Zb ?_;refine AY.cons (o:=_) rfl (λwk hS hf K hK=>?_) (λv16=>?_)
    ·have f15:Hold.p (Hold.eq (.pointer (some ⟨w.heap.size+1,0,none⟩)) v15) wk:=hf 15 aF ak;obtain rfl:v15=_:=f15;go_simp;exact Y7
    refine Zb ?_;refine AY.cons (o:=_) rfl (λwk hS hf K hK=>?_) (λv17=>?_)
    ·have f16:Hold.p (Hold.eq (.pointer (some ⟨w.heap.size+1,3,none⟩)) v16) wk:=hf 16 aF ak;have f6:Hold.p (Hold.made w0.heap.size 3 g.Fg.length (F8 g.Fg.length (F6 F5 0)) v6) wk:=hf 6 aF ak;obtain rfl:v16=_:=f16;obtain⟨b6,rfl,g6,r6⟩:=f6;obtain⟨_,_,_,x,y,z,hr⟩:=hS;have yy:=hr.cell (i:=3) rfl;have ff:=hr.frozen 3;go_simp;exact hK.out undef (wk.setCell ⟨w.heap.size+1,3,none⟩ (FQ (some ⟨b6,0,none⟩) g.Fg.length g.Fg.length)) ⟨rfl,⟨_,_,hr.set 3 _⟩,λh=>(by simp[fZ] at h)⟩
    refine Zb ?_;refine AY.cons (o:=_) rfl (λwk hS hf K hK=>?_) (λv18=>?_)
    ·go_simp;exact Y7
    refine Zb ?_;refine AY.cons (o:=_) rfl (λwk hS hf K hK=>?_) (λv19=>?_)
    ·have f18:Hold.p (Hold.eq (.pointer (some ⟨w.heap.size+1,0,none⟩)) v18) wk:=hf 18 aF ak;obtain rfl:v18=_:=f18;go_simp;exact Y7
    refine Zb ?_;refine AY.cons (o:=_) rfl (λwk hS hf K hK=>?_) (λv20=>?_)
    ·have f19:Hold.p (Hold.eq (.pointer (some ⟨w.heap.size+1,4,none⟩)) v19) wk:=hf 19 aF ak;have f10:Hold.p (Hold.made w0.heap.size 3 g.Fg.length (F8 g.Fg.length (F6 F5 0)) v10) wk:=hf 10 aF ak;have f17:Hold.p (wJ (w.heap.size+1) g.ay (FQ (some ⟨b,o,none⟩) g.Fg.length c) (FQ Ai g.Fh.length ci) v6) wk:=hf 17 aF ak;obtain rfl:v19=_:=f19;obtain⟨b10,rfl,g10,r10⟩:=f10;obtain⟨y,z,hr⟩:=f17;have yy:=hr.cell (i:=4) rfl;have ff:=hr.frozen 4;go_simp;exact hK.out undef (wk.setCell ⟨w.heap.size+1,4,none⟩ (FQ (some ⟨b10,0,none⟩) g.Fg.length g.Fg.length)) ⟨rfl,⟨_,hr.set 4 _⟩,λh=>(by simp[fZ] at h)⟩
    refine Zb ?_;refine AY.cons (o:=_) rfl (λwk hS hf K hK=>?_) (λv21=>?_)
    ·go_simp;exact Y7
    refine Zb ?_;refine AY.cons (o:=_) rfl (λwk hS hf K hK=>?_) (λv22=>?_)
    ·have f21:Hold.p (Hold.eq (.pointer (some ⟨w.heap.size+1,0,none⟩)) v21) wk:=hf 21 aF ak;obtain rfl:v21=_:=f21;go_simp;exact Y7
    refine Zb ?_;refine AY.cons (o:=_) rfl (λwk hS hf K hK=>?_) (λv23=>?_)
    ·have f22:Hold.p (Hold.eq (.pointer (some ⟨w.heap.size+1,5,none⟩)) v22) wk:=hf 22 aF ak;have f14:Hold.p (Hold.made w0.heap.size 3 g.Fg.length (F8 g.Fg.length (F6 F5 0)) v14) wk:=hf 14 aF ak;have f20:Hold.p (wK (w.heap.size+1) g.ay (FQ (some ⟨b,o,none⟩) g.Fg.length c) (FQ Ai g.Fh.length ci) v6 v10) wk:=hf 20 aF ak;obtain rfl:v22=_:=f22;obtain⟨b14,rfl,g14,r14⟩:=f14;obtain⟨z,hr⟩:=f20;have yy:=hr.cell (i:=5) rfl;have ff:=hr.frozen 5;go_simp;exact hK.out undef (wk.setCell ⟨w.heap.size+1,5,none⟩ (FQ (some ⟨b14,0,none⟩) g.Fg.length g.Fg.length)) ⟨rfl,hr.set 5 _,λh=>(by simp[fZ] at h)⟩
    refine Zb ?_;refine AY.nil (λwE hS hf hA=>?_);have f6:Hold.p (Hold.made w0.heap.size 3 g.Fg.length (F8 g.Fg.length (F6 F5 0)) v6) wE:=hf 6 aF;have f10:Hold.p (Hold.made w0.heap.size 3 g.Fg.length (F8 g.Fg.length (F6 F5 0)) v10) wE:=hf 10 aF;have f14:Hold.p (Hold.made w0.heap.size 3 g.Fg.length (F8 g.Fg.length (F6 F5 0)) v14) wE:=hf 14 aF;have f17:Hold.p (wJ (w.heap.size+1) g.ay (FQ (some ⟨b,o,none⟩) g.Fg.length c) (FQ Ai g.Fh.length ci) v6) wE:=hf 17 aF;have f20:Hold.p (wK (w.heap.size+1) g.ay (FQ (some ⟨b,o,none⟩) g.Fg.length c) (FQ Ai g.Fh.length ci) v6 v10) wE:=hf 20 aF;have f23:Hold.p (zW (w.heap.size+1) g.ay (FQ (some ⟨b,o,none⟩) g.Fg.length c) (FQ Ai g.Fh.length ci) v6 v10 v14) wE:=hf 23 aF;obtain⟨b6,rfl,g6,r6⟩:=f6;obtain⟨b10,rfl,g10,r10⟩:=f10;obtain⟨b14,rfl,g14,r14⟩:=f14;have rw6:Row wE (w.heap.size+1) _ _:=f23;have aoI:=ahO hA (i:=6) (k:=10) aF aF (by simp[fZ]) (by simp[fZ]) aA rfl rfl;have aoJ:=ahO hA (i:=6) (k:=14) aF aF (by simp[fZ]) (by simp[fZ]) aA rfl rfl;have an7:=ahO hA (i:=10) (k:=14) aF aF (by simp[fZ]) (by simp[fZ]) aA rfl rfl;obtain⟨hzE,hBE,hbxE,_⟩:=hS;have HR:=Ac (show BG wE (w.heap.size+1) b6 b10 b14 g.ay (some ⟨b,o,none⟩) g.Fg.length c Ai g.Fh.length ci ⟨F8 g.Fg.length 0,F8 g.Fg.length 0,F8 g.Fg.length 0⟩ from⟨rw6,by simpa [iZ] using r6,by simpa [iZ] using r10,by simpa [iZ] using r14⟩);have HBX:=Ac (And.intro hbxE hBE);clear hHeld hbx0 hwk0 hB0 hf hA hbxE hBE r6 r10 r14 rw6 f17 f20 f23;go_wp2_with fail
    go_meet
    exact⟨b6,b10,b14,HR.out,HBX.out.1,HBX.out.2,EN,EN,EN,aoI,aoJ,an7⟩
   case rest =>
    obtain⟨bp,bd,bl,hwa,afR,aZ,z1,z2,z3,z4,z5,z6⟩:=hcut;clear hbx hwk hbel;have ajL:=afR.lt;have x1:=afR.cell (i:=1) rfl;have HNO:=Ac (show Bq w F (FQ (some ⟨b,o,none⟩) g.Fg.length c) g.Fg from⟨_,_,rfl,hc,HN.out⟩);have HIO:=Ac (show Bv w F (FQ Ai g.Fh.length ci) g.Fh from⟨_,_,rfl,hci,HI.out⟩);have HWA:=Ac hwa;clear hwa;have HG':=Ac (show ∀ k,(F k/\k < w.heap.size)->k≠bp/\k≠bd/\k≠bl from λk hk=>by omega);go_wp2_with fail
    refine(ajX g HS.out (w.heap.size+1) bp bd bl b o c Ai ci ⟨EN,EN,EN,z4,z5,z6⟩ hc (λk=>F k/\k < w.heap.size) HG'.out (g.Fg.length+1) 0 (-1) 0 _ wc _ ⟨some ⟨b,o,none⟩,aF,λ_=>by simp⟩ ⟨aF,aF,aF⟩ (λ_=>HNO.out.keep (λk hk hl=>⟨hk,hl⟩) (FZ aZ F)) HWA.out EN EN EN EN).mono ?_;rintro e w2 ⟨vr,rfl,hrest,an8,hwr2⟩;have an9:=rZ g.Fg (g.Fg.length+1) 0 (-1) 0 ⟨F8 g.Fg.length 0,F8 g.Fg.length 0,F8 g.Fg.length 0⟩;refine zal ?_;intro hlen hT;rw[<-hT] at hrest an8 an9 hlen ⊢;clear hT;have hB2:Below w.heap.size w w2:=Wrote.below aZ hwr2 (λk hk=>by omega) aZ.size;have hbx2:=afR.wrote hwr2 EN;clear aZ hwr2 afR x1 HWA;obtain⟨T,hTT⟩:=FH (walkT g);have HT:=Ac (show BG w2 (w.heap.size+1) bp bd bl g.ay (some ⟨b,o,none⟩) g.Fg.length c Ai g.Fh.length ci (walkT g).2 from an8);clear an8;have HLN:=Ac hlen;clear hlen;rw[<-hTT] at hrest an9 HE2 ⊢;have HTT:=Ac hTT;clear hTT;obtain⟨rn,td⟩:=T;dsimp only at hrest an9 HE2 ⊢;by_cases hng:rn < 0
    ·have HF:=Ac (show tY g=9 by rw[HE2.out,L8 EN]);have hdn:decide (0<=rn)=false:=L9 EN;clear hrest;go_wp2
     go_ret2;exact zdQ
    ·obtain⟨q,rfl⟩:=J5 (show 0<=rn by omega);obtain⟨A',rfl,hA'⟩:=hrest EN;simp only[Gu] at hA' ⊢;have hdn:decide (0<=(q:Int))=true:=Mc EN;by_cases hqn:q=g.Fg.length
     ·subst hqn;have HF:=Ac (show tY g=if 40 < maxL td.d then 5 else jq g by rw[HE2.out,L6 aF]);have hz:g.Fg.length - g.Fg.length=0:=EN;rw[hz];have ht2:td=(walkT g).2:=by rw[<-HTT.out]
      have x4:=HT.out.head.cell (i:=4) rfl;clear hA' hz;go_wp2_with fail
      have hdl:td.d.length=g.Fg.length:=by rw[ht2];exact HLN.out.d
      have HID:=Ac (show Aj w2 (λk=>k=bd) (FQ (some ⟨bd,0,none⟩) g.Fg.length g.Fg.length) td.d by
       have:=Row.ints (F:=λk=>k=bd) (show Row w2 bd 3 (td.d.map (Value.int .i64)) by rw[ht2]; exact HT.out.rd) rfl (c:=g.Fg.length) EN;rwa [hdl] at this)
      have HT2:=Ac ht2;clear ht2;refine(amU w2 (λk=>k=bd) _ td.d HID.out EN EN).mono ?_;rintro e w3 ⟨rfl,rfl⟩;dsimp only;generalize maxL td.d=mx at *;by_cases hmx:40 < mx
      ·have HF2:=Ac (show tY g=5 by rw[HF.out,L8 hmx]);go_wp2
       go_ret2;exact⟨_,rfl,hB2,.pointer none,by rw[HF2.out]; rfl,by rw[HF2.out]; intro h; simp at h⟩
      ·have HF2:=Ac (show tY g=jq g by rw[HF.out,L6 hmx]);have hdm:decide (40 < mx)=false:=L9 hmx;clear hmx;go_wp2_with fail
       refine(ajY w3 F (w.heap.size+1) g _ _ _ _ (HT.out.head.cell rfl) (HT.out.head.cell rfl) HT.out.head.lt (HNO.out.on (FZ hB2 F)) (HIO.out.on (FZ hB2 F)) HS.out HIN.out EN).mono ?_;rintro e w4 ⟨_,rfl,hb4,rfl⟩;dsimp only;go_wp2
       go_ret2;refine⟨_,rfl,hB2.trans (hb4.mono hB2.size),.pointer (some ⟨w.heap.size+1,0,none⟩),by rw[HF2.out]; rfl,λ_=>?_⟩;have h:=HT.out;exact⟨w.heap.size+1,bp,bd,bl,_,_,_,_,rfl,rfl,⟨h.head.below hb4 h.head.lt,h.rp.below hb4 h.rp.lt,h.rd.below hb4 h.rd.lt,h.rl.below hb4 h.rl.lt⟩,EN,EN,EN,EN⟩
     ·have HF:=Ac (show tY g=9 by rw[HE2.out,L8 EN]);have hdg:(0:Int) < ((g.Fg.length - q:Nat):Int):=EN;clear hqn;go_wp2
      go_ret2;exact zdQ
theorem akm (w:FW) (F:FI) (u:F7) (g:Gm) (hg:AA w F u g) (hsm:Small g) :
  Calls FY 73 #[u] w (Ret w λv _=>v = F6 F5 (tY g)):=by
 have HG:=Ac hg;obtain⟨vn,vi,rfl,⟨A,c,rfl,hc,hN⟩,⟨Ai,ci,rfl,hci,hI⟩⟩:=hg;clear hN hI;have HS:=Ac hsm;clear hsm;go_in;go_wp2_with fail
 refine(ah4 _ F _ g (HG.out.on (Same.alloc _ _ _)) HS.out).mono ?_;rintro e w1 ⟨v,rfl,hb1,vp,rfl,hv⟩;clear hv;have hB:Below w.heap.size w w1:=((Below.refl w.heap.size w).alloc (FV _) _).trans (hb1.mono aF);dsimp only;go_wp2
 go_ret;exact⟨_,rfl,hB,rfl⟩
def mv (Fg:List Nd) (s i:Nat):Bool:=match Fg[i]? with | some n=>decide (n.kind=2)&&decide (n.info.toNat=s) | none=>false
def bU (Fg:List Nd) (s k:Nat):List Int:=((Ir k).filter (mv Fg s)).map λi:Nat=>(i:Int)
theorem wL (Fg:List Nd) (s k:Nat):bU Fg s (k+1)=bU Fg s k++(if mv Fg s k then [(k:Int)] else []):=by
 unfold bU;rw[List.range_succ,List.filter_append,List.map_append];cases h:mv Fg s k <;> simp[h]
theorem ah5 (Fg:List Nd) (ni:Nat) (hin:∀ n∈Fg,n.kind=2->0<=n.info/\n.info < (ni:Int)) (k:Nat):∀ s,s < ni->(iq Fg ni k)[s]? = some (bU Fg s k):=by
 induction k with
 | zero=>intro s hs; simp[iq,bU,hs]
 | succ k ih =>
  intro s hs;rw[wL];cases hn:Fg[k]? with
  | none =>
   have:mv Fg s k=false:=by simp[mv,hn]
   rw[this];simp only[iq,hn];rw[ih s hs];simp
  | some n =>
   by_cases hk:n.kind=2
   ·have hb:=hin n (FT hn) hk;have hlt:n.info.toNat < ni:=EN;rw[aa5 hn hk (ih _ hlt)];by_cases he:n.info.toNat=s
    ·subst he;have:mv Fg n.info.toNat k=true:=by simp[mv,hn,hk]
     rw[this,Ib (by rw[fE]; exact hlt)];simp
    ·have:mv Fg s k=false:=by simp[mv,hn,he]
     rw[this,Ia he,ih s hs];simp
   ·have:mv Fg s k=false:=by simp[mv,hn,hk]
    rw[aa6 hn hk,this,ih s hs];simp
theorem ji {g:Gm} (hin:BN g) (hs:s < g.Fh.length):(dK g)[s]? = some (bU g.Fg s g.Fg.length):=ah5 g.Fg g.Fh.length hin _ s hs
theorem sH {Fg:List Nd} {k:Nat}:x∈bU Fg s k↔∃ i:Nat,x=i/\i < k/\mv Fg s i=true:=by
 unfold bU;simp only[List.mem_map,List.mem_filter,List.mem_range];constructor
 ·rintro⟨i,⟨h1,h2⟩,rfl⟩;exact⟨i,rfl,h1,h2⟩
 ·rintro⟨i,rfl,h1,h2⟩;exact⟨i,⟨h1,h2⟩,rfl⟩
theorem agB (Fg:List Nd) (ni:Nat) (hin:∀ n∈Fg,n.kind=2->0<=n.info/\n.info < (ni:Int)) (m:Nat):∀ k,k+m=Fg.length->∀ s,s < ni ->
  (jf (Fg.drop k) k (F8 ni 0))[s]? = some (match (List.range' k m).find? (mv Fg s) with | some i=>(i:Int)+1 | none=>0):=by
 induction m with
 | zero =>
  intro k hk s hs;rw[GU EN];simp[jf,hs]
 | succ m ih =>
  intro k hk s hs;obtain⟨n,hn⟩:=FC (l:=Fg) (k:=k) EN;rw[zM hn];have hr:List.range' k (m+1)=k :: List.range' (k+1) m:=by rw[List.range'_succ]
  rw[hr,List.find?_cons];by_cases hkd:n.kind=2
  ·have hb:=hin n (FT hn) hkd;rw[L8 hkd];by_cases he:n.info.toNat=s
   ·subst he;have:mv Fg n.info.toNat k=true:=by simp[mv,hn,hkd]
    rw[this,Ib (by rw[jK]; simp; omega)]
   ·have:mv Fg s k=false:=by simp[mv,hn,he]
    rw[this,Ia he];exact ih (k+1) EN s hs
  ·have:mv Fg s k=false:=by simp[mv,hn,hkd]
   rw[L6 hkd,this];exact ih (k+1) EN s hs
theorem lJ {g:Gm} (hin:BN g) (hs:s < g.Fh.length):(gY g)[s]? = some (match bU g.Fg s g.Fg.length with | []=>0 | x :: _=>x+1):=by
 have h:=agB g.Fg g.Fh.length hin g.Fg.length 0 EN s hs;unfold gY;rw[List.drop_zero] at h;rw[h];congr 1;unfold bU;rw[<-List.range_eq_range',<-List.head?_filter];cases (Ir g.Fg.length).filter (mv g.Fg s) <;> simp
theorem abE (g:Gm):(gY g).length=g.Fh.length:=by unfold gY; rw[jK]; simp
theorem ah6 {g:Gm} (hin:BN g):jq g=kL g:=by
 unfold jq kL;have hl:(dK g).length=g.Fh.length:=fE _ _ _;have hfl:=abE g;have h1:(gY g).contains 0=lG (dK g):=by
  rw[Bool.eq_iff_iff];unfold lG;rw[List.any_eq_true,List.contains_iff_exists_mem_beq];constructor
  ·rintro⟨x,hx,h0⟩;obtain⟨s,hs⟩:=Gz hx;have hlt:s < g.Fh.length:=by rw[<-hfl];exact FD hs
   have:=lJ hin hlt;rw[hs] at this;refine⟨_,FT (ji hin hlt),?_⟩;have hx0:x=0:=by simpa using (beq_iff_eq.1 h0).symm
   subst hx0;cases hm:bU g.Fg s g.Fg.length with
   | nil=>rfl
   | cons y l =>
    exfalso
    rw[hm] at this;have hy:y∈bU g.Fg s g.Fg.length:=by rw[hm];simp
    obtain⟨i,rfl,_⟩:=sH.1 hy;simp at this;omega
  ·rintro⟨l,hl',h0⟩;obtain⟨s,hs⟩:=Gz hl';have hlt:s < g.Fh.length:=by rw[<-hl];exact FD hs
   have h2:=ji hin hlt;rw[hs] at h2;cases h2;have h3:=lJ hin hlt;have hnil:bU g.Fg s g.Fg.length = []:=Hq (by simpa using h0);rw[hnil] at h3;exact⟨0,FT h3,aF⟩
 rw[h1];split
 ·rfl
 ·cases hn:lG (dK g) with
  | true=>rfl
  | false =>
   have hne:∀ s,s < g.Fh.length->∃ x l,bU g.Fg s g.Fg.length=x :: l:=by
    intro s hs;have:=List.any_eq_false.1 hn _ (FT (ji hin hs));cases hm:bU g.Fg s g.Fg.length with
    | nil=>rw[hm] at this; simp at this
    | cons x l=>exact⟨x,l,rfl⟩
   have h2:iD (gY g) = !fB (dK g) g.Fh.length:=by
    rw[Bool.eq_iff_iff,afU,Bool.not_eq_true',fB,List.any_eq_false];constructor
    ·intro h i hi;rw[List.mem_range'_1] at hi;obtain⟨x,l,hx⟩:=hne (i - 1) EN;obtain⟨y,l',hy⟩:=hne i EN;have f1:=lJ hin (s:=i - 1) EN;have f2:=lJ hin (s:=i) EN;rw[hx] at f1;rw[hy] at f2;have:=h (i - 1) _ _ f1 (by rw[show i - 1+1=i by omega]; exact f2);have s1:=ji hin (s:=i - 1) EN;have s2:=ji hin (s:=i) EN;rw[hx] at s1;rw[hy] at s2;simp[jS,FU,s1,s2];simp at this;exact this
    ·intro h k x y hx hy;have hk1:k+1 < g.Fh.length:=by rw[<-hfl];exact FD hy
     have:=h (k+1) (by rw[List.mem_range'_1]; omega);obtain⟨x',l,hx'⟩:=hne k EN;obtain⟨y',l',hy'⟩:=hne (k+1) EN;have f1:=lJ hin (s:=k) EN;have f2:=lJ hin (s:=k+1) EN;rw[hx'] at f1;rw[hy'] at f2;have s1:=ji hin (s:=k) EN;have s2:=ji hin (s:=k+1) EN;rw[hx'] at s1;rw[hy'] at s2;rw[hx] at f1;rw[hy] at f2;cases f1;cases f2;simp[jS,FU,s1,s2] at this;simpa using this
   rw[h2];cases fB (dK g) g.Fh.length <;> rfl
structure Deep (a:Nat) (r:Int) (d d':List Int) (deep deep':Int):Prop where
 out:∀ i:Nat,i < a\/r<=(i:Int)->d'[i]? = d[i]?
 le:deep<=deep'
 below:∀ (i:Nat) x,a<=i->(i:Int) < r->d'[i]? = some x->x<=deep'
 hit:deep'=deep\/∃ (i:Nat),a<=i/\(i:Int) < r/\d'[i]? = some deep'
theorem Deep.refl (a:Nat) (d:List Int) (deep:Int):Deep a a d d deep deep:=⟨λ_ _=>rfl,EN,λi x h1 h2=>by omega,.inl rfl⟩
theorem Deep.trans {a m:Nat} {r:Int} {d d' d'':List Int} {y z:Int} (ham:a<=m) (hmr:(m:Int)<=r) (h:Deep a m d d' x y) (k:Deep m r d' d'' y z):Deep a r d d'' x z:=by
 refine⟨λi hi=>?_,Int.le_trans h.le k.le,λi v h1 h2 hv=>?_,?_⟩
 ·rw[k.out i EN,h.out i EN]
 ·by_cases hm:i < m
  ·rw[k.out i (.inl hm)] at hv;exact Int.le_trans (h.below i v h1 EN hv) k.le
  ·exact k.below i v EN h2 hv
 ·rcases k.hit with e | ⟨i,h1,h2,h3⟩
  ·rcases h.hit with e' | ⟨i,h1,h2,h3⟩
   ·left; omega
   ·right; exact⟨i,h1,EN,by rw[k.out i (.inl EN),h3,e]⟩
  ·right; exact⟨i,EN,h2,h3⟩
theorem aee {N:Nat} {rec:Nat->Tri->Int×Tri} {rec':Nat->Int->Int×Int} (hlen:∀ a t,Tri.Len N t->Tri.Len N (rec a t).2)
  (hb:∀ a t,(rec a t).1 = -1\/((a:Int) < (rec a t).1/\(rec a t).1<=N)) (hs:∀ a t d,(rec a t).1=(rec' a d).1)
  (hrec:∀ a t deep,a < N->Tri.Len N t->0<=(rec a t).1->Deep a (rec a t).1 t.d (rec a t).2.d deep (rec' a deep).2) :
  ∀ (cs:List Int) (x:Nat) (t:Tri) (deep:Int),x<=N->Tri.Len N t->0<=(iw rec cs x t).1->(x:Int)<=(iw rec cs x t).1/\Deep x (iw rec cs x t).1 t.d (iw rec cs x t).2.d deep (bK rec' cs x deep).2
 | [],x,t,deep,_,_,_=>⟨by simp[iw],by simpa [iw,bK] using Deep.refl x t.d deep⟩
 | c :: cs,x,t,deep,hx,ht,h=>by
  unfold iw at h ⊢;unfold bK;by_cases hc:c=x
  ·subst hc;simp only[ne_eq,not_true_eq_false,↓reduceIte,Gu] at h ⊢;rw[<-hs x t deep];by_cases hng:(rec x t).1 < 0
   ·rw[L8 hng] at h; simp at h
   ·rw[L6 hng] at h ⊢;rw[L6 hng];rcases hb x t with hb1 | hb1
    ·omega
    ·have hr:=hrec x t deep EN ht EN;obtain⟨m,hm⟩:=J5 (show 0<=(rec x t).1 by omega);rw[hm] at h hr ⊢;rw[hm] at hb1;have ih:=aee hlen hb hs hrec cs m (rec x t).2 (rec' x deep).2 EN (hlen x t ht) h;exact⟨EN,hr.trans EN ih.1 ih.2⟩
  ·rw[L8 hc] at h; simp at h
theorem aaK (Fg:List Nd):∀ (f a:Nat) (par dep:Int) (t:Tri) (deep:Int),Tri.Len Fg.length t->0<=(dJ Fg f a par dep t).1 ->
  Deep a (dJ Fg f a par dep t).1 t.d (dJ Fg f a par dep t).2.d deep (bP Fg f a dep deep).2
 | 0,_,_,_,_,_,_,h=>by simp[dJ] at h
 | f+1,a,par,dep,t,deep,ht,h=>by
  unfold dJ at h ⊢;unfold bP;cases hn:Fg[a]? with
  | none=>rw[hn] at h; simp at h
  | some n =>
   rw[hn] at h;simp only at h ⊢;have ha:=FD hn;have hk:=aee (N:=Fg.length) (rec:=λa' t=>dJ Fg f a' a (dep+1) t) (rec':=λa' d=>bP Fg f a' (dep+1) d)
    (λa' t h=>qQ Fg f a' a (dep+1) t h) (λa' t=>rZ Fg f a' a (dep+1) t) (λa' t d=>xw Fg f a' a (dep+1) t d)
    (λa' t d _ ht h=>aaK Fg f a' a (dep+1) t d ht h) n.next (a+1) ⟨t.p.set a par,t.d.set a dep,t.l⟩ (max deep dep) EN ⟨by simp[ht.p],by simp[ht.d],ht.l⟩
   simp only[Int.natCast_add,Int.cast_ofNat_Int] at hk;by_cases hng:(iw (λa' t=>dJ Fg f a' a (dep+1) t) n.next ((a:Int)+1) ⟨t.p.set a par,t.d.set a dep,t.l⟩).1 < 0
   ·rw[L8 hng] at h; omega
   ·rw[L6 hng] at h ⊢;obtain⟨h1,h2⟩:=hk EN;have h0:Deep a ((a+1:Nat):Int) t.d (t.d.set a dep) deep (max deep dep):=by
     refine⟨λi hi=>Ia EN,EN,λi x h1 h2 hx=>?_,?_⟩
     ·have:i=a:=EN;subst this;rw[Ib (by rw[ht.d]; exact ha)] at hx;cases hx;omega
     ·by_cases hd:dep<=deep
      ·left; omega
      ·right; exact⟨a,EN,EN,by rw[Ib (by rw[ht.d]; exact ha)]; congr 1; omega⟩
    exact h0.trans EN (by simpa using h1) (by simpa using h2)
theorem ah7 (l:List Int) (a:Int):a<=l.foldl max a/\∀ x∈l,x<=l.foldl max a:=by
 induction l generalizing a with
 | nil=>simp
 | cons y l ih =>
  obtain⟨h1,h2⟩:=ih (max a y);simp only[Iw];refine⟨EN,λx hx=>?_⟩;rcases List.mem_cons.1 hx with rfl | hx
  ·omega
  ·exact h2 x hx
theorem agC (l:List Int) (a:Int):l.foldl max a=a\/l.foldl max a∈l:=by
 induction l generalizing a with
 | nil=>simp
 | cons y l ih =>
  simp only[Iw];rcases ih (max a y) with h | h
  ·rw[h];by_cases hay:y<=a
   ·left; omega
   ·right; rw[show max a y=y by omega]; simp
  ·right; exact GI _ h
theorem akn {m:Int} (hm:m∈l) (hb:∀ x∈l,x<=m):maxL l=m:=by
 cases l with
 | nil=>cases hm
 | cons y l =>
  unfold maxL;have h1:=ah7 l y;have h2:=agC l y;have h3:m<=l.foldl max y:=by
   rcases List.mem_cons.1 hm with rfl | h
   ·exact h1.1
   ·exact h1.2 m h
  have h4:l.foldl max y<=m:=by
   rcases h2 with h | h
   ·rw[h];exact hb y aF
   ·exact hb _ (GI _ h)
  show l.foldl max y=m;omega
theorem anh (g:Gm):tY g=bF g:=by
 unfold tY bF;have hw:(walkT g).1=(bP g.Fg (g.Fg.length+1) 0 0 0).1:=xw _ _ _ _ _ _ _;split
 ·rfl
 ·rename_i hsz
  split
  ·rfl
  ·rename_i hne
   rw[hw];split
   ·rfl
   ·rename_i hN
    have hin:BN g:=oJ (by simpa using hne);have hp:0 < g.Fg.length:=by unfold jH at hsz;omega
    have hd:=aaK g.Fg (g.Fg.length+1) 0 (-1) 0 ⟨F8 g.Fg.length 0,F8 g.Fg.length 0,F8 g.Fg.length 0⟩ (-1) ⟨aF,aF,aF⟩;have hd0:=aaK g.Fg (g.Fg.length+1) 0 (-1) 0 ⟨F8 g.Fg.length 0,F8 g.Fg.length 0,F8 g.Fg.length 0⟩ 0 ⟨aF,aF,aF⟩;have hee:bP g.Fg (g.Fg.length+1) 0 0 (-1)=bP g.Fg (g.Fg.length+1) 0 0 0:=by
     obtain⟨n0,hn0⟩:=FC hp;unfold bP;rw[hn0];rfl
    rw[hee] at hd;refine zal ?_;intro hlen hT;rw[<-hT] at hd hd0 hlen;have hN':(walkT g).1=(g.Fg.length:Int):=by rw[hw];simpa using hN
    rw[hN'] at hd hd0;have hd:=hd EN;have hle:=(hd0 EN).le;clear hd0;have hmax:maxL (walkT g).2.d=(bP g.Fg (g.Fg.length+1) 0 0 0).2:=by
     generalize (bP g.Fg (g.Fg.length+1) 0 0 0).2=mx at hd hle;have hb:∀ x∈(walkT g).2.d,x<=mx:=by
      intro x hx;obtain⟨i,hi⟩:=Gz hx;exact hd.below i x EN (by have:=FD hi; rw[hlen.d] at this; omega) hi
     rcases hd.hit with e | ⟨i,_,_,hi⟩
     ·omega
     ·exact akn (FT hi) hb
    rw[hmax,ah6 hin]
theorem jr {g:Gm} (h:bF g=0):dA g.ay g.Fh.length g.Fg=0/\kL g=0:=by
 unfold bF at h;split at h
 ·omega
 ·split at h
  ·rename_i h2; exact absurd h h2
  ·rename_i h2
   split at h
   ·omega
   ·split at h
    ·omega
    ·exact⟨by simpa using h2,h⟩
theorem mQ {g:Gm} (h:bF g=0):∀ i∈g.Fh,i.actions<=10:=by
 intro inf hin;obtain⟨s,hs⟩:=Gz hin;have hsl:s < g.Fh.length:=FD hs;obtain⟨h2,h5⟩:=jr h;unfold kL at h5;split at h5
 ·omega
 rename_i ht
 split at h5
 ·omega
 rename_i hn
 have hm:=ji (iO h).Fh hsl;have hne:(bU g.Fg s g.Fg.length).length≠0:=λe=>by
  apply hn
  unfold lG;exact List.any_eq_true.2 ⟨_,FT hm,Mc e⟩
 obtain⟨x,hx⟩:=List.exists_mem_of_length_pos (Nat.pos_of_ne_zero hne);obtain⟨k,rfl,hk,hmv⟩:=sH.1 hx;unfold mv at hmv;split at hmv
 ·rename_i n hnk
  simp only[GN,decide_eq_true_eq] at hmv;have hmem:=FT hnk;have e1:=jD h2 n hmem;unfold aQ at e1;rw[L6 EN,L8 hmv.1] at e1;unfold fA at e1;split at e1
  ·omega
  ·rename_i h3
   have e2:eH g.Fh n=false:=by
    cases hb:eH g.Fh n with
    | false=>rfl
    | true=>exact absurd (List.any_eq_true.2 ⟨n,hmem,hb⟩) ht
   unfold eH at e2;rw[Mc hmv.1,Bool.true_and,Bool.or_eq_false_iff,hmv.2,FU,hs] at e2;have e3:=of_decide_eq_false e2.2;simp only[Option.getD_some] at e3;omega
 ·cases hmv
theorem set3 {w:FW} {b:Nat} {a0 a1 a2:F7} (h:Row w b t [a0,a1,a2]) (v0 v1 v2:F7):∃ W,W=(((w.setCell ⟨b,0,none⟩ v0).setCell ⟨b,1,none⟩ v1).setCell ⟨b,2,none⟩ v2) /\
  Row W b t [v0,v1,v2]/\Wrote (λk=>k=b) w W:=by
 refine⟨_,rfl,((h.set 0 v0).set 1 v1).set 2 v2,?_⟩;have h0:Wrote (λk=>k=b) w w:=Wrote.refl _ _;exact((h0.setCell (p:=⟨b,0,none⟩) (.inl rfl) v0).setCell (p:=⟨b,1,none⟩) (.inl rfl) v1).setCell (p:=⟨b,2,none⟩) (.inl rfl) v2
theorem Below.wrote {w w':FW} (h:Below w.heap.size w w') (K:FI):Wrote K w w':=⟨h.os,h.tape,h.output,h.size,λi hi _=>h.block i hi⟩
theorem alY (L:List NV):(L.flatMap NV.cells).length=L.length*6:=by
 induction L with
 | nil=>rfl
 | cons q L ih=>rw[List.flatMap_cons,Gn,ih]; simp[NV.cells]; omega
theorem ah8 {w:FW} {base:Nat} {v:F7} {L:List NV} (h:w.ownsRow base t 6 v L.length (L.flatMap NV.cells)) {F:FI} (hF:∀ b,v.ownBlock=some b->F b) (hL:∀ q∈L,q.fine w F):Bq w F v (L.map NV.n):=by
 rcases h.2 with⟨rfl,h0⟩ | ⟨g,cap,cur,rfl,hb,hg,hnc,_,hsz,htake⟩
 ·have:L = []:=Hq h0;subst this;exact YN
 ·refine Lies.Fg ⟨(Array.getElem?_eq_some_iff.1 hg).1,λi u hi=>?_⟩ (hF g rfl) hL hnc;rw[<-htake,List.getElem?_take] at hi;split at hi
  ·simp[World.cell?,hg];simpa using hi
  ·cases hi
structure Fl where
 kind:Int
 node:Int
 info:Int
 other:Int
def iP (g:Gm) (i:Int):Nat->Nat->Option Nat
 | 0,_=>none
 | f+1,c=>match (iI g.Fg)[c]? with
  | some p=>if 0<=p then (if (g.Fg.getD p.toNat default).kind=2/\(g.Fg.getD p.toNat default).info=i then some p.toNat else iP g i f p.toNat) else none
  | none=>none
theorem zX {g:Gm} (hg:Good g):∀ f,iP g i f 0=none
 | 0=>rfl
 | f+1=>by
  obtain⟨p,hp,h | ⟨q,n,_,h,_⟩⟩:=hg.par hg.pos
  ·rw[iP,hp]; simp only; rw[L6 EN]
  ·omega
theorem zY {g:Gm} {n:Nd} (hp:(iI g.Fg)[c]? = some (q:Int)) (hn:g.Fg[q]? = some n) (h:n.kind=2/\n.info=i):iP g i (f+1) c=some q:=by
 rw[iP,hp];simp only;refine zdd ?_;exact L8 h
theorem acI {g:Gm} {n:Nd} (hp:(iI g.Fg)[c]? = some (q:Int)) (hn:g.Fg[q]? = some n) (h:¬ (n.kind=2/\n.info=i)):iP g i (f+1) c=iP g i f q:=by
 rw[iP,hp];simp only;refine zdd ?_;exact L6 h
def aaL (i c:Int):Option Nat->List Fl
 | some a=>[⟨1,c,i,a⟩]
 | none=>[]
def tZ (g:Gm) (i pl:Int) (first c:Nat):List Fl:=if gG g pl c=gG g pl first then [] else [⟨2,c,i,first⟩]
def sJ (g:Gm) (i pl:Int) (first c:Nat):List Fl:=aaL i c (iP g i g.Fg.length c)++tZ g i pl first c
def jy (g:Gm) (i pl:Int) (l:List Int):Nat->List Fl
 | 0=>[]
 | k+1=>jy g i pl l k++sJ g i pl (l.getD 0 0).toNat (l.getD k 0).toNat
def lK (g:Gm):Nat->List Fl
 | 0=>[]
 | i+1=>lK g i++jy g i (g.Fh.getD i default).aC ((dK g).getD i []) ((dK g).getD i []).length
def aaM (g:Gm):List Fl:=lK g g.Fh.length
theorem agD {g:Gm} {pl:Int} {first:Nat}:(sJ g i pl first c).length<=2:=by
 unfold sJ aaL tZ;rw[Gn];split <;> split <;> simp
theorem abl {g:Gm} {i pl:Int} {l:List Int}:∀ k,(jy g i pl l k).length<=2*k
 | 0=>FV _
 | k+1=>by
  have h1:=abl (g:=g) (i:=i) (pl:=pl) (l:=l) k;have h2:=agD (g:=g) (i:=i) (pl:=pl) (first:=(l.getD 0 0).toNat) (c:=(l.getD k 0).toNat);rw[jy,Gn]; omega
theorem abN {g:Gm} (hg:Good g) (hl:(dK g)[s]? = some l):l.length<=g.Fg.length/\∀ x∈l,∃ (j:Nat) (n:Nd),x=(j:Int)/\g.Fg[j]? = some n/\n.kind=2/\n.info=(s:Int):=by
 have hs:s < g.Fh.length:=by have h1:=FD hl;rwa [show(dK g).length=g.Fh.length from fE _ _ _] at h1
 rw[ji hg.Fh hs] at hl;cases hl;unfold bU;refine⟨?_,λx hx=>?_⟩
 ·rw[List.length_map];refine Gf (List.length_filter_le _ _) ?_;simp
 ·obtain⟨j,hj,rfl⟩:=List.mem_map.1 hx;obtain⟨h1,h2⟩:=List.mem_filter.1 hj;unfold mv at h2;cases hn:g.Fg[j]? with
  | none=>rw[hn] at h2; cases h2
  | some n =>
   rw[hn] at h2;simp only[GN,decide_eq_true_eq] at h2;have h3:=hg.Fh n (FT hn) h2.1;exact⟨j,n,rfl,hn,h2.1,by have:=h2.2; omega⟩
theorem ah9 {g:Gm} (hg:Good g) (hs:Small g):(aaM g).length<=20000:=by
 have key:∀ i,(lK g i).length<=200*i:=by
  intro i;induction i with
  | zero=>exact FV _
  | succ i ih =>
   have h1:=abl (g:=g) (i:=i) (pl:=(g.Fh.getD i default).aC) (l:=(dK g).getD i []) ((dK g).getD i []).length;have h2:((dK g).getD i []).length<=100:=by
    rw[FU];cases hl:(dK g)[i]? with
    | none=>exact Nat.zero_le _
    | some l =>
     have h3:=(abN hg hl).1;have h4:=hs.Fg;show l.length<=100;omega
   rw[lK,Gn];omega
 have h1:=key g.Fh.length;have h2:=hs.Fh;unfold aaM;omega
end Go.Proofs.YtnmeejofpkhlkaaGreatDoor
