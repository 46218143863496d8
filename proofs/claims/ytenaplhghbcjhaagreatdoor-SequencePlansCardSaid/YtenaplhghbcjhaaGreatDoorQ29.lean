import Derived.Test.YtenaplhghbcjhaaGreatDoorQ22
import Derived.Deep.Cut
import Derived.Test.YtenaplhghbcjhaaGreatDoorQ28
set_option linter.all false
set_option maxRecDepth 100000
set_option maxHeartbeats 0
namespace Go.Proofs.YtenaplhghbcjhaaGreatDoor
open Go.RowKit.Below renaming refl->GR
open Go.IntKind renaming i64->GU
open Go renaming Value->GN,World->GK
open Go.Value renaming int->GV,slice->Gw
open Go.IntWalk renaming i64_in->IY
open List renaming append_assoc->IU,append_nil->IV
open Nat renaming le_refl->Gy,mul_one->Ho
open Option.some renaming injEq->JD
open Go.World renaming alloc->G5
open Go.RowKit
variable {F G:Gq} {base n:Nat} {α:Type} {et:TypeId}
theorem bQ {w:GK} {b o:Nat} {v:GN} (h:w.cell? ⟨b,o,none⟩=some v) (ob:Obj):(w.alloc ob).cell? ⟨b,o,none⟩=some v:=ah h ((GR _ _).alloc (Gy _) _)
theorem iU {w:GK} {A:Option Addr} {c:Nat} {l:List Int} (h:AL w F (Gw A n c) l) (hl:0 < l.length):∃ b o,A=some ⟨b,o,none⟩/\F b/\b < w.heap.size/\∀ (k:Nat) (x:Int),l[k]? = some x->w.cell? ⟨b,o+k,none⟩=some (GV GU x):=by
 obtain⟨A',c',he,_,hx⟩:=h;grind [lU]
open List renaming getElem_toArray → lq1, getElem_cons_zero → lq2, getElem_cons_succ → lq3, setIfInBounds_toArray → lq4, set_cons_zero → lq5, set_cons_succ → lq6
def F9 (w:GK) (_:Gq) (b o:Nat) (x:Int×Int):Prop:=w.cell? ⟨b,o,none⟩=some (GV GU x.1)/\w.cell? ⟨b,o+1,none⟩=some (GV GU x.2)
def AA (w:GK) (F:Gq) (v:GN) (l:List (Int×Int)):Prop:=Cc 2 F9 w F v l
theorem AA.keep {w w':GK} {v:GN} {l:List (Int×Int)} (h:AA w F v l) (hFG:∀ b,F b->b < w.heap.size->G b) (hs:Same F w w'):AA w' G v l :=
 Cc.keep h hFG hs.size λ_ _ _ _ hb hl hx=>⟨by rw[hs.cell hb hl]; exact hx.1,by rw[hs.cell hb hl]; exact hx.2⟩
theorem AA.on {w w':GK} {v:GN} {l:List (Int×Int)} (h:AA w F v l) (hs:Same F w w'):AA w' F v l:=h.keep (λ_ h _=>h) hs
theorem AA.nil (w:GK) (F:Gq):AA w F (Gw none 0 0) []:=⟨none,0,rfl,Gy _,λh=>absurd h aA⟩
def kH:Knd (Int×Int) where
 n:=2
 cells q:=[GV GU q.1,GV GU q.2]
 fine _ _ _:=True
 len _:=rfl
 pos:=au
 one _ u hu:=by
  simp only[List.mem_cons,List.not_mem_nil,or_false] at hu;rcases hu with rfl | rfl <;> rfl
 keep _ _ _:=trivial
theorem OwnSl.pairs {w:GK} {v:GN} {L:List (Int×Int)} (h:OwnSl kH w base et F v L) (hG:∀ b,base<=b->G b):AA w G v L:=by
 rcases h.at with⟨rfl,rfl⟩ | ⟨g,cap,rfl,hb,hg,hcap,hf,hx⟩
 ·grind [AA.nil]
 ·exact⟨_,cap,rfl,hcap,λ_=>⟨g,0,rfl,hG g hb,hg,λk q hq=>⟨hx k q hq 0 _ rfl,hx k q hq 1 _ rfl⟩⟩⟩
theorem OwnSl.apart {K:Knd α} {w:GK} {nb:Nat} {t:TypeId} {v:GN} {L:List α} {vs:List GN} (h:OwnSl K w base et F v L) (hr:Row w nb t vs) (hne:et≠t):v.ownBlock≠some nb:=by
 rcases h.row.2 with⟨rfl,_⟩ | ⟨g,cap,cur,rfl,_,hg,_⟩
 ·intro e;cases e
 ·intro e;have e:some g=some nb:=e;grind [Row]
theorem AA.open {w:GK} {v:GN} {l:List (Int×Int)} (h:AA w F v l):∃ A c,v = Gw A l.length c:=by obtain⟨A,c,h,_⟩:=h; exact⟨A,c,h⟩
theorem Tryz.infoPair:(Tryz.prog.info? 92).map (λi=>(i.zero,i.size,i.bytes))=some (some (.agg #[GV GU 0,GV GU 0]),2,16):=aj
theorem ach (w:GK) (F:Gq) (v:GN) (g:Gm) (node:Nat) (pl:Int) (hg:AB w F v g) (hsm:Small g) (hgd:Good g) (hno:node < g.F7.length) :
  Calls Tryz.prog 110 #[v,GV GU (node:Int),GV GU pl] w (Ret w λu w'=>AA w' (λb=>w.heap.size<=b) u (jB g pl node)):=by
 have HG:=Ag hg;have HS:=Ag hsm;have HGD:=Ag hgd;have hn100:=hsm.F7;obtain⟨vn,vi,rfl,⟨A,c,rfl,hc,hN⟩,⟨Ai,ci,rfl,hci,_⟩⟩:=hg;obtain⟨b,q,rfl,hFb,hbl,hcell⟩:=hN hgd.pos;have HC:=Ag hcell;clear hN hcell hsm hgd;go_in;go_wp2_with fail
 generalize hW:G5 _ _=W;obtain⟨rx,hB,hz⟩:=aI hW;clear hW;have hz2:=hB.size;refine zaG ?_;clear HG;intro HG x0 x1 x2;clear rx hz;go_wp2_with fail
 refine(yR W F _ g HG.o HS.o HGD.o.pos HGD.o.ahL).mono ?_;rintro e w1 ⟨u,rfl,hb1,hu⟩;have hB1:=hB.trans (hb1.mono hB.size);have y1:=ah x1 hb1;have hz3:=hb1.size;have HPL:=Ag (gY g.F7);obtain⟨akx,xI⟩:=Gp (dO g.F7);have HPE:=Ag xI;rw[<-xI] at hu;obtain⟨Ap,cp,rfl,hcp,hx⟩:=hu;obtain⟨bp,op,rfl,hbp,hbpl,hpc⟩:=hx (by rw[xI,HPL.o]; exact HGD.o.pos);have hpl:akx.length=g.F7.length:=by rw[xI,HPL.o]
 rw[hpl];have HPC:=Ag hpc;clear hb1 hB hx hpc xI hcp x0 x1 x2 hpl;dsimp only;go_wp2_with fail
 go_loopw [8,9] (λbv av wr=>∃ (c f:Nat) (L:List (Int×Int)),c < g.F7.length/\c<=f/\av = GV GU (c:Int)/\L++jS g pl f c=jS g pl g.F7.length node/\L.length+100*c<=100*node/\OwnSl kH wr w1.heap.size 92 (λ_=>True) bv L/\Below w1.heap.size w1 wr) (λ_ av _=>(intOf av).toNat)
 case atStart=>exact⟨node,g.F7.length,[],hno,FI,rfl,rfl,aA,OwnSl.nil _ _ _ _ _,GR _ _⟩
 case round =>
  obtain⟨ch,f,L,hch,hcf,rfl,hw,hLl,hown,hbel⟩:=hrel;have HW:=Ag hw;have HO:=Ag hown;clear hw hown;obtain⟨p,hp,hcase⟩:=HGD.o.par hch;rw[<-HPE.o] at hp;have ep:=HPC.o ch p hp;unfold lU at ep;rw[Ho] at ep;replace ep:=ah ep hbel;have HPP:=Ag hp;clear hp;rcases hcase with⟨h0,rfl⟩ | ⟨pq,n,rfl,hpq,hni,_⟩
  ·subst h0;rw[Nat.add_zero] at ep;have hend:L=jS g pl g.F7.length node:=by rw[<-HW.o,nM HGD.o,IV]
   have HE:=Ag hend;have hLl2:L.length<=10000:=FI;obtain⟨Al,cl,rfl,hcl,hxl⟩:=HO.o.pairs (G:=λ_=>True) (λ_ _=>trivial);have HXL:=Ag hxl;obtain⟨wp,rfl⟩:∃ wp:GK,wp=wr:=⟨_,rfl⟩;have hw0:IntKind.i64.wrap ((L.length:Int) - 1)=(L.length:Int) - 1:=IY _ FI;have hBp:=hB1.trans (hbel.mono hB1.size);clear hend HO hxl HW hLl hcl;go_wp2_with fail
   go_loopw [12,13] (λov zv wr=>∃ (i:Nat) (z:Int),i<=L.length/\zv = GV GU z/\z=(i:Int) - 1/\OwnSl kH wr wp.heap.size 92 (λ_=>True) ov (L.reverse.take (L.length - i))/\Below wp.heap.size wp wr) (λ_ zv _=>(intOf zv+1).toNat)
   case atStart=>exact⟨L.length,(L.length:Int) - 1,FI,rfl,rfl,by rw[Nat.sub_self,List.take_zero]; exact OwnSl.nil _ _ _ _ _,GR _ _⟩
   case round =>
    clear hw0;obtain⟨i,z,hi,rfl,hz,hown,anD⟩:=hrel;have HO:=Ag hown;clear hown;rcases Nat.eq_zero_or_pos i with h0 | h0
    ·subst h0;have t0:decide ((0:Int)<=z)=false:=LJ FI;clear hz;go_wp2
     go_ret;refine⟨_,rfl,hBp.trans (anD.mono hBp.size),?_⟩;have h5:=HO.o.pairs (G:=λb=>w.heap.size<=b) (λb hb=>by have:=hbel.size; omega);rw[Nat.sub_zero,List.take_of_length_le aA,HE.o] at h5;exact h5
    ·obtain⟨i',hii⟩:∃ j,i=j+1:=⟨i - 1,FI⟩;subst hii;obtain rfl:z=(i':Int):=FI;have t0:decide ((0:Int)<=(i':Int))=true:=LK FI;have hw2:IntKind.i64.wrap ((i':Int) - 1)=(i':Int) - 1:=IY _ FI;obtain⟨bl,ol,rfl,_,agK,hcl⟩:=HXL.o FI;obtain⟨x,hx⟩:=Gl (l:=L) (k:=i') FI;obtain⟨r0,r1⟩:=hcl i' x hx;replace r0:=ah r0 anD;replace r1:=ah r1 anD;have HX:=Ag (show L.reverse[L.length - (i'+1)]? = some x by rw[List.getElem?_reverse FI,show L.length - 1 - (L.length - (i'+1))=i' by omega]; exact hx);have hlen:(L.reverse.take (L.length - (i'+1))).length=L.length - (i'+1):=by rw[List.length_take,List.length_reverse];omega
     have HLN:=Ag hlen;clear hcl hx hz h0 hlen;go_wp2_with (at_builtin; refine je (K:=kH) (F:=λ_=>True) rfl _ _ 159 92 16 _ Tryz.underlying159 Tryz.infoPair rfl au rfl wp.heap.size (Gy _) u12 (L.reverse.take (L.length - (i'+1))) rfl x _ rfl (by rw[HLN.o]; omega) rfl HO.o trivial anD ?_; intro g' cap w' hown' bG hlt' _; have HO':=Ag hown'; clear hown')
     go_roundw
     case rel =>
      refine⟨i',(i':Int) - 1,FI,rfl,rfl,?_,bG⟩;have h5:=HO'.o;rw[HLN.o,<-Gv HX.o] at h5;rw[show L.length - i'=L.length - (i'+1)+1 by omega];exact h5
     case measure=>simp[intOf] <;> omega
  ·have al8:pq < g.F7.length:=Gn hni;obtain⟨f',rfl⟩:∃ k,f=k+1:=⟨f - 1,FI⟩;have hws:=HW.o;rw[kT HGD.o hch (by rw[<-HPE.o]; exact HPP.o) hni,<-IU] at hws;have HWS:=Ag hws;have hnx:=HS.o.next n (List.mem_of_getElem? hni);have hne:=HC.o pq n hni;refine zaE ?_;intro n0 n1 n2 v3 n3 h3 v4 n4 h4 v5 n5 h5;have H3:=Ag h3;obtain⟨A3,c3,rfl,_,_⟩:=h3;obtain⟨A4,c4,rfl,_,_⟩:=h4;obtain⟨A5,c5,rfl,_,_⟩:=h5;have hBr:=hB1.trans (hbel.mono hB1.size);replace n0:=ah n0 hBr;replace n1:=ah n1 hBr;replace n2:=ah n2 hBr;replace n3:=ah n3 hBr;replace n4:=ah n4 hBr;replace n5:=ah n5 hBr;have z1:=ah y1 hbel;have HX:=Ag hni;clear hne hni hws HW;go_wp2_with fail
   refine aP (λw'=>w'.cell? ⟨w.heap.size,1,none⟩=some (Gw (some ⟨b,q,none⟩) g.F7.length c)/\w'.cell? ⟨bp,op+ch,none⟩=some (GV GU (pq:Int))/\w'.cell? ⟨b,q+pq*6,none⟩=some (GV GU n.kind)/\w'.cell? ⟨b,q+pq*6+1,none⟩=some (GV GU n.aH)/\w'.cell? ⟨b,q+pq*6+2,none⟩=some (GV GU n.info)/\w'.cell? ⟨b,q+pq*6+3,none⟩=some (Gw A3 n.next.length c3)/\w'.cell? ⟨b,q+pq*6+4,none⟩=some (Gw A4 n.weights.length c4)/\w'.cell? ⟨b,q+pq*6+5,none⟩=some (Gw A5 n.pay.length c5)) 9 1 aj rfl aj ⟨z1,ep,n0,n1,n2,n3,n4,n5⟩ λhHeld=>?_
   refine Zo ?_;have hb:Below wr.heap.size wr wr.drew:=aG (GR _ wr) 1;replace z1:=ah z1 hb;replace ep:=ah ep hb;replace n0:=ah n0 hb;replace n1:=ah n1 hb;replace n2:=ah n2 hb;replace n3:=ah n3 hb;replace n4:=ah n4 hb;replace n5:=ah n5 hb;replace HO:=Ag (HO.o.below hb);replace hbel:=hbel.trans (hb.mono hbel.size);clear hb;generalize wr.drew=wn at *;refine tkm [0,1,2,3,4,5,6,7] ?_;refine tk2 8 aj rfl λK hK=>?_
   go_simp;refine hK.out _ _ ⟨bQ z1 _,bQ ep _,bQ n0 _,bQ n1 _,bQ n2 _,bQ n3 _,bQ n4 _,bQ n5 _⟩ (λhHeld=>?_);clear hK K;refine Zb ?_;refine Zp ?_;clear hHeld;go_wp2
   generalize hW1:G5 _ _=W1;obtain⟨rn,hb,hz1⟩:=aI hW1;unfold AY;refine Z4 ?_;obtain⟨nb,hnb⟩:=Gp wn.heap.size;have k3:w1.heap.size<=nb:=by rw[hnb];exact hbel.size
   rw[<-hnb] at rn ⊢;replace z1:=ah z1 hb;replace ep:=ah ep hb;replace n0:=ah n0 hb;replace n1:=ah n1 hb;replace n2:=ah n2 hb;replace n3:=ah n3 hb;replace n4:=ah n4 hb;replace n5:=ah n5 hb;replace HO:=Ag (HO.o.below hb);replace hbel:=hbel.trans (hb.mono hbel.size);clear hb;have k4:nb < W1.heap.size:=rn.lt;have HRN:=Ag rn;obtain⟨lim,hlim⟩:=Gp W1.heap.size;clear hz1 hnb hW1 rn z1 ep n0 n1 n2 n3 n4 n5;go_wp2_with fail
   go_loopw [8,11] (λbv jv wr=>∃ (j:Nat) (M:List (Int×Int)),j<=n.next.length/\jv = GV GU (j:Int)/\M=L++gu pl n ch j/\OwnSl kH wr w1.heap.size 92 (λ_=>True) bv M/\Row wr nb 51 [GV GU n.kind,GV GU n.aH,GV GU n.info,Gw A3 n.next.length c3,Gw A4 n.weights.length c4,Gw A5 n.pay.length c5]/\Below w1.heap.size w1 wr) (λ_ jv _=>n.next.length - (intOf jv).toNat)
   case atStart=>exact⟨0,L,FI,rfl,by rw[aan,IV],HO.o,HRN.o,hbel⟩
   case round =>
    clear HO HRN hbel hlim k4;obtain⟨j,M,hj,rfl,hM,hown,rn,hbel⟩:=hrel;have HM:=Ag hM;have HO:=Ag hown;have n0:=rn.cell (i:=0) rfl;have n1:=rn.cell (i:=1) rfl;have n2:=rn.cell (i:=2) rfl;have n3:=rn.cell (i:=3) rfl;have hsl:=wP (pl:=pl) (n:=n) (c:=ch) (j:=j);have hMl:M.length=L.length+(gu pl n ch j).length:=by rw[hM,List.length_append]
    have hMb:M.length<=20000:=FI;have HML:=Ag hMl;clear hM hown hMl;by_cases hjt:j < n.next.length
    case neg =>
     have HE:=Ag (show M=L++gu pl n ch n.next.length by rw[HM.o,show j=n.next.length by omega]);replace HML:=Ag (show M.length<=L.length+100 by rw[HML.o]; omega);clear hsl;have ep:=HPC.o ch pq HPP.o;unfold lU at ep;rw[Ho] at ep;replace ep:=ah ep hbel;go_wp2_with fail
     go_roundw
     case rel=>exact⟨pq,f',M,FI,FI,rfl,by rw[HE.o]; exact HWS.o,by have:=HML.o; omega,HO.o,hbel⟩
     case measure=>exact zMs
    by_cases hk:n.kind=2/\n.aH=pl
    case neg =>
     have HE:=Ag (show M=L++gu pl n ch n.next.length by rw[HM.o,kS hk,kS hk]);replace HML:=Ag (show M.length=L.length by rw[HM.o,kS hk,IV]);by_cases hk2:n.kind=2
     case neg =>
      have t1:(n.kind==2)=false:=by simpa using hk2
      clear hk hk2 hsl;have ep:=HPC.o ch pq HPP.o;unfold lU at ep;rw[Ho] at ep;replace ep:=ah ep hbel;go_wp2_with fail
      go_roundw
      case rel=>exact⟨pq,f',M,FI,FI,rfl,by rw[HE.o]; exact HWS.o,by have:=HML.o; omega,HO.o,hbel⟩
      case measure=>exact zMs
     have t1:(n.kind==2)=true:=by simp[hk2]
     have t2:(n.aH==pl)=false:=by simp;exact λe=>hk ⟨hk2,e⟩
     clear hk hk2 hsl;have ep:=HPC.o ch pq HPP.o;unfold lU at ep;rw[Ho] at ep;replace ep:=ah ep hbel;go_wp2_with fail
     go_roundw
     case rel=>exact⟨pq,f',M,FI,FI,rfl,by rw[HE.o]; exact HWS.o,by have:=HML.o; omega,HO.o,hbel⟩
     case measure=>exact zMs
    have t1:(n.kind==2)=true:=by simp[hk.1]
    have t2:(n.aH==pl)=true:=by simp[hk.2]
    have HK:=Ag hk;clear hk;obtain⟨x,hx⟩:=Gl hjt;obtain⟨b3,o3,rfl,_,hb3,rQ⟩:=iU H3.o FI;have ec:=ah (rQ j x hx) (hB1.trans (hbel.mono hB1.size));clear rQ hsl;by_cases hxc:x=(ch:Int)
    case neg =>
     have t3:(x==(ch:Int))=false:=by simpa using hxc
     have HS1:=Ag (abG (pl:=pl) hx hxc);clear hxc hx;go_wp2_with fail
     go_roundw
     case rel=>exact⟨j+1,M,FI,by go_num,by rw[HM.o,HS1.o],HO.o,rn,hbel⟩
     case measure=>exact zMs
    have t3:(x==(ch:Int))=true:=by simp[hxc]
    have HS1:=Ag (acD HK.o (show n.next[j]? = some (ch:Int) by rw[hx,hxc]));clear hxc hx;go_wp2_with (at_builtin; refine je (K:=kH) (F:=λ_=>True) rfl _ _ 159 92 16 _ Tryz.underlying159 Tryz.infoPair rfl au rfl w1.heap.size (Gy _) u8 M rfl (n.info,(j:Int)) _ rfl FI rfl HO.o trivial hbel ?_; intro g' cap w' hown' bG hlt' hsm'; have HO':=Ag hown'; have HRN:=Ag (rn.of_block (hsm'.2 nb (HO.o.apart rn au) rn.lt)); clear hown')
    go_roundw
    case rel=>exact⟨j+1,_,FI,by go_num,by rw[HM.o,HS1.o,IU],HO'.o,HRN.o,bG⟩
    case measure=>exact zMs
theorem OwnSl.fz {K:Knd α} {w:GK} {g cap:Nat} {L:List α} (h:OwnSl K w base et F (Gw (some ⟨g,0,none⟩) n cap) L) (i:Nat):w.frozen? ⟨g,i,none⟩=false:=by
 rcases h.row.2 with⟨h',_⟩ | ⟨g',cap',cur,h',hb,hg,_⟩
 ·simp at h'
 ·simp only[Value.slice.injEq,JD,Addr.mk.injEq,and_true,true_and] at h';obtain⟨rfl,_,rfl⟩:=h';simp[World.frozen?,hg]
def Gf (C:MC) (n:Nd):Prop:=n.kind=3/\n.aH=0/\n.info=0/\n.next = []/\n.weights = []/\(n.pay.length:Int)=C.aC/\(∀ x∈n.pay,-3<=x/\x<=3)/\(C.zero=true->C.aC=2->∃ x,n.pay = [x,-x])
def Gg (C:MC) (V:List View) (I:List Inf) (level:Nat) (seen:List (List Int)) (n:Nd):Prop :=
 level < C.levels.length/\1<=n.next.length/\n.next.length<=3/\n.pay = [] /\
  (((C.levels.getD level default).aH < 0/\n.kind=1/\n.aH=0/\n.info=0/\n.weights.length=n.next.length/\∀ x∈n.weights,1<=x/\x<=3) \/
  (0<=(C.levels.getD level default).aH/\n.kind=2/\n.aH=(C.levels.getD level default).aH/\n.weights = []/\∃ x:Nat,n.info=(x:Int)/\I[x]? = some ⟨n.aH,n.next.length⟩/\V[x]? = some ⟨n.aH,level,seen.getD n.aH.toNat [],x⟩))
inductive Bt (C:MC) (V:List View) (I:List Inf) (N:List Nd):Nat->List (List (List Int))->List Int->Nat->Nat->Prop
 | nil (level a:Nat):Bt C V I N level [] [] a a
 | fin {level a b:Nat} {n:Nd} {seen:List (List Int)} {ss:List (List (List Int))} {cs:List Int}:N[a]? = some n->Gf C n->Bt C V I N level ss cs (a+1) b->Bt C V I N level (seen :: ss) ((a:Int) :: cs) a b
 | mid {level a m b:Nat} {n:Nd} {seen:List (List Int)} {ss:List (List (List Int))} {cs:List Int}:N[a]? = some n->Gg C V I level seen n ->
   Bt C V I N (level+1) ((List.range n.next.length).map λk=>ao7 (C.levels.getD level default) k seen) n.next (a+1) m->Bt C V I N level ss cs m b->Bt C V I N level (seen :: ss) ((a:Int) :: cs) a b
section
variable {C:MC} {V V':List View} {I I':List Inf} {N N':List Nd}
end
section
variable {O:List (Nat×Nat)} {N:List Nd} {cr:List Nat}
end
section
variable {C:MC} {V:List View} {cr:List Nat} {g:Gm}
end
section
variable {C:MC} {M:ML} {Fd Fe:Gq} {vv vn vi vv' vn' vi':GN} {Lv:List VV} {Ln:List NV} {s:MS} {W W':GK}
end
section
variable {C:MC} {M:ML} {Fe:Gq} {vv vn vi:GN} {Lv:List VV} {Ln:List NV} {s s':MS} {hd:Nd} {p:Place} {base yb xb:Nat} {un uw:GN} {nx ws:List Int} {W W':GK}
end
theorem Below.wr {K:Gq} {B:Nat} {a w w':GK} (h:Below B a w) (hw:Wrote K w w') (hB:B<=w.heap.size) (hK:∀ b,K b->B<=b):Below B a w' :=
 ⟨hw.os.trans h.os,hw.tape.trans h.tape,hw.output.trans h.output,Nat.le_trans h.size hw.size,λi hi=>(hw.block i (Nat.lt_of_lt_of_le hi hB) (λe=>by have:=hK i e; omega)).trans (h.block i hi)⟩
