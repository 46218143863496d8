/- parlourref17.ValuesOf. -/
import Derived.Test.YthmklhapjegfdaaGreatDoorX22
import Derived.Test.YthmklhapjegfdaaGreatDoorX28
import Derived.Test.YthmklhapjegfdaaGreatDoorX21
import Derived.Deep.Cut
set_option linter.all false
set_option maxRecDepth 100000
set_option maxHeartbeats 12800000
namespace Go.Proofs.YthmklhapjegfdaaGreatDoor
open Lib renaming hid → Ag
open Go.RowKit
theorem iL {w:World} {b o:Nat} {v:Value} (h:w.cell? ⟨b,o,none⟩=some v) (ob:Obj):(w.alloc ob).cell? ⟨b,o,none⟩=some v:=ah h ((Below.refl _ _).alloc (Nat.le_refl _) _)
theorem uM {w:World} {F:Aj} {A:Option Addr} {n c:Nat} {l:List Int} (h:AQ w F (.slice A n c) l) (hl:0 < l.length):∃ b o,A=some ⟨b,o,none⟩∧F b∧b < w.heap.size∧∀ (k:Nat) (x:Int),l[k]? = some x→w.cell? ⟨b,o+k,none⟩=some (.int .i64 x):=by
 obtain⟨A',c',he,_,hx⟩:=h;simp only[Value.slice.injEq] at he;obtain⟨rfl,_,rfl⟩:=he;obtain⟨b3,o3,h1,h2,h3,h4⟩:=hx hl;exact⟨b3,o3,h1,h2,h3,fun k x hk=>by have:=h4 k x hk; unfold kX at this; rw[Nat.mul_one] at this; exact this⟩
open List renaming getElem_toArray → lq1, getElem_cons_zero → lq2, getElem_cons_succ → lq3, setIfInBounds_toArray → lq4, set_cons_zero → lq5, set_cons_succ → lq6
def EM (w:World) (_:Aj) (b o:Nat) (x:Int×Int):Prop:=w.cell? ⟨b,o,none⟩=some (.int .i64 x.1)∧w.cell? ⟨b,o+1,none⟩=some (.int .i64 x.2)
def AO (w:World) (F:Aj) (v:Value) (l:List (Int×Int)):Prop:=BN 2 EM w F v l
theorem AO.keep {w w':World} {F G:Aj} {v:Value} {l:List (Int×Int)} (h:AO w F v l) (hFG:∀ b,F b→b < w.heap.size→G b) (hs:Same F w w'):AO w' G v l :=
 BN.keep h hFG hs.size fun _ _ _ _ hb hl hx=>⟨by rw[hs.cell hb hl]; exact hx.1,by rw[hs.cell hb hl]; exact hx.2⟩
theorem AO.on {w w':World} {F:Aj} {v:Value} {l:List (Int×Int)} (h:AO w F v l) (hs:Same F w w'):AO w' F v l:=h.keep (fun _ h _=>h) hs
theorem AO.nil (w:World) (F:Aj):AO w F (.slice none 0 0) []:=⟨none,0,rfl,Nat.le_refl _,fun h=>absurd h aA⟩
def qw:Knd (Int×Int) where
 n:=2
 cells q:=[.int .i64 q.1,.int .i64 q.2]
 fine _ _ _:=True
 len _:=rfl
 pos:=ay
 one _ u hu:=by
  simp only[List.mem_cons,List.not_mem_nil,or_false] at hu;rcases hu with rfl | rfl <;> rfl
 keep _ _ _:=trivial
theorem AP.pairs {w:World} {base:Nat} {et:TypeId} {F G:Aj} {v:Value} {L:List (Int×Int)} (h:AP qw w base et F v L) (hG:∀ b,base≤b→G b):AO w G v L:=by
 rcases h.at with⟨rfl,rfl⟩ | ⟨g,cap,rfl,hb,hg,hcap,hf,hx⟩
 ·exact AO.nil _ _
 ·exact⟨_,cap,rfl,hcap,fun _=>⟨g,0,rfl,hG g hb,hg,fun k q hq=>⟨hx k q hq 0 _ rfl,hx k q hq 1 _ rfl⟩⟩⟩
theorem AP.apart {α:Type} {K:Knd α} {w:World} {base nb:Nat} {et t:TypeId} {F:Aj} {v:Value} {L:List α} {vs:List Value} (h:AP K w base et F v L) (hr:Row w nb t vs) (hne:et≠t):v.ownBlock≠some nb:=by
 rcases h.row.2 with⟨rfl,_⟩ | ⟨g,cap,cur,rfl,_,hg,_⟩
 ·intro e;cases e
 ·intro e;have e:some g=some nb:=e;cases e;unfold Row at hr;rw[hr] at hg;cases hg;exact hne rfl
theorem AO.open {w:World} {F:Aj} {v:Value} {l:List (Int×Int)} (h:AO w F v l):∃ A c,v = .slice A l.length c:=by
 obtain⟨A,c,h,_⟩:=h;exact⟨A,c,h⟩
theorem Tryz.infoPair:(Tryz.prog.info? 188).map (fun i=>(i.zero,i.size,i.bytes))=some (some (.agg #[.int .i64 0,.int .i64 0]),2,16):=aj
theorem ac2 (w:World) (F:Aj) (v:Value) (g:Gm) (node:Nat) (pl:Int) (hg:AU w F v g) (hsm:Small g) (hgd:Good g) (hno:node < g.nodes.length) :
  Calls Tryz.prog 138 #[v,.int .i64 (node:Int),.int .i64 pl] w (Ret w fun u w'=>AO w' (fun b=>w.heap.size≤b) u (jr g pl node)):=by
 have HG:=Ag hg;have HS:=Ag hsm;have HGD:=Ag hgd;have hn100:=hsm.nodes;obtain⟨vn,vi,rfl,⟨A,c,rfl,hc,hN⟩,⟨Ai,ci,rfl,hci,_⟩⟩:=hg;obtain⟨b,q,rfl,hFb,hbl,hcell⟩:=hN hgd.pos;have HC:=Ag hcell;clear hN hcell hsm hgd;go_in;go_wp2_with fail
 obtain⟨W,hW,rx,hB,hz⟩:=aN w 25 #[.int .i64 g.aF,.slice (some ⟨b,q,none⟩) g.nodes.length c,.slice Ai g.infos.length ci];rw[← hW];clear hW;have hz2:=hB.size;refine zcV ?_;clear HG;intro HG;refine Ze ?_;intro x0 x1 x2;clear rx hz;go_wp2_with fail
 refine(uX W F _ g HG.out HS.out HGD.out.pos HGD.out.ae2).mono ?_;rintro e w1 ⟨u,rfl,hb1,hu⟩;have hB1:=hB.trans (hb1.mono hB.size);have y1:=ah x1 hb1;have hz3:=hb1.size;have HPL:=Ag (fU g.nodes);obtain⟨ahq,tN⟩:=named (dK g.nodes);have HPE:=Ag tN;rw[← tN] at hu;obtain⟨Ap,cp,rfl,hcp,hx⟩:=hu;obtain⟨bp,op,rfl,hbp,hbpl,hpc⟩:=hx (by rw[tN,HPL.out]; exact HGD.out.pos);have hpl:ahq.length=g.nodes.length:=by rw[tN,HPL.out]
 rw[hpl];have HPC:=Ag hpc;clear hb1 hB hx hpc tN hcp x0 x1 x2 hpl;dsimp only;go_wp2_with fail
 go_loopw [8,9] (fun bv av wr=>∃ (c f:Nat) (L:List (Int×Int)),c < g.nodes.length∧c≤f∧av = .int .i64 (c:Int)∧L++jB g pl f c=jB g pl g.nodes.length node∧L.length+100*c≤100*node∧AP qw wr w1.heap.size 188 (fun _=>True) bv L∧Below w1.heap.size w1 wr) (fun _ av _=>(intOf av).toNat)
 case atStart=>exact⟨node,g.nodes.length,[],hno,byOmega,rfl,rfl,aA,AP.nil _ _ _ _ _,Below.refl _ _⟩
 case round =>
  obtain⟨ch,f,L,hch,hcf,rfl,hw,hLl,hown,hbel⟩:=hrel;have HW:=Ag hw;have HO:=Ag hown;clear hw hown;obtain⟨p,hp,hcase⟩:=HGD.out.par hch;rw[← HPE.out] at hp;have ep:=HPC.out ch p hp;unfold kX at ep;rw[Nat.mul_one] at ep;replace ep:=ah ep hbel;have HPP:=Ag hp;clear hp;rcases hcase with⟨h0,rfl⟩ | ⟨pq,n,rfl,hpq,hni,_⟩
  ·subst h0;rw[Nat.add_zero] at ep;have hend:L=jB g pl g.nodes.length node:=by rw[← HW.out,iq HGD.out,List.append_nil]
   have HE:=Ag hend;have hLl2:L.length≤10000:=byOmega;obtain⟨Al,cl,rfl,hcl,hxl⟩:=HO.out.pairs (G:=fun _=>True) (fun _ _=>trivial);have HXL:=Ag hxl;obtain⟨wp,rfl⟩:∃ wp:World,wp=wr:=⟨_,rfl⟩;have hw0:IntKind.i64.wrap ((L.length:Int) - 1)=(L.length:Int) - 1:=IntWalk.i64_in _ byOmega;have hBp:=hB1.trans (hbel.mono hB1.size);clear hend HO hxl HW hLl hcl;go_wp2_with fail
   go_loopw [12,13] (fun ov zv wr=>∃ (i:Nat) (z:Int),i≤L.length∧zv = .int .i64 z∧z=(i:Int) - 1∧AP qw wr wp.heap.size 188 (fun _=>True) ov (L.reverse.take (L.length - i))∧Below wp.heap.size wp wr) (fun _ zv _=>(intOf zv+1).toNat)
   case atStart=>exact⟨L.length,(L.length:Int) - 1,byOmega,rfl,rfl,by rw[Nat.sub_self,List.take_zero]; exact AP.nil _ _ _ _ _,Below.refl _ _⟩
   case round =>
    clear hw0;obtain⟨i,z,hi,rfl,hz,hown,ajK⟩:=hrel;have HO:=Ag hown;clear hown;rcases Nat.eq_zero_or_pos i with h0 | h0
    ·subst h0;have t0:decide ((0:Int)≤z)=false:=decide_eq_false byOmega;clear hz;go_wp2
     go_ret;refine⟨_,rfl,hBp.trans (ajK.mono hBp.size),?_⟩;have h5:=HO.out.pairs (G:=fun b=>w.heap.size≤b) (fun b hb=>by have:=hbel.size; omega);rw[Nat.sub_zero,List.take_of_length_le aA,HE.out] at h5;exact h5
    ·obtain⟨i',hii⟩:∃ j,i=j+1:=⟨i - 1,byOmega⟩;subst hii;obtain rfl:z=(i':Int):=byOmega;have t0:decide ((0:Int)≤(i':Int))=true:=decide_eq_true byOmega;have hw2:IntKind.i64.wrap ((i':Int) - 1)=(i':Int) - 1:=IntWalk.i64_in _ byOmega;obtain⟨bl,ol,rfl,_,ajH,hcl⟩:=HXL.out byOmega;obtain⟨x,hx⟩:=aB (l:=L) (k:=i') byOmega;obtain⟨r0,r1⟩:=hcl i' x hx;replace r0:=ah r0 ajK;replace r1:=ah r1 ajK;have HX:=Ag (show L.reverse[L.length - (i'+1)]? = some x by rw[List.getElem?_reverse byOmega,show L.length - 1 - (L.length - (i'+1))=i' by omega]; exact hx);have hlen:(L.reverse.take (L.length - (i'+1))).length=L.length - (i'+1):=by rw[List.length_take,List.length_reverse];omega
     have HLN:=Ag hlen;clear hcl hx hz h0 hlen;go_wp2_with (at_builtin; refine fV (K:=qw) (F:=fun _=>True) rfl _ _ 186 188 16 _ Tryz.underlying186 Tryz.infoPair rfl ay rfl wp.heap.size (Nat.le_refl _) u12 (L.reverse.take (L.length - (i'+1))) rfl x _ rfl (by rw[HLN.out]; omega) rfl HO.out trivial ajK ?_; intro g' cap w' hown' bD hlt' _; have HO':=Ag hown'; clear hown')
     go_roundw
     case rel =>
      refine⟨i',(i':Int) - 1,byOmega,rfl,rfl,?_,bD⟩;have h5:=HO'.out;rw[HLN.out,← take_snoc HX.out] at h5;rw[show L.length - i'=L.length - (i'+1)+1 by omega];exact h5
     case measure=>simp[intOf] <;> omega
  ·have aiN:pq < g.nodes.length:=aK hni;obtain⟨f',rfl⟩:∃ k,f=k+1:=⟨f - 1,byOmega⟩;have hws:=HW.out;rw[jO HGD.out hch (by rw[← HPE.out]; exact HPP.out) hni,← List.append_assoc] at hws;have HWS:=Ag hws;have hnx:=HS.out.next n (List.mem_of_getElem? hni);have hne:=HC.out pq n hni;have n0:=hne.c0;have n1:=hne.c1;have n2:=hne.c2;obtain⟨v3,n3,h3⟩:=hne.c3;obtain⟨v4,n4,h4⟩:=hne.c4;obtain⟨v5,n5,h5⟩:=hne.c5;have H3:=Ag h3;obtain⟨A3,c3,rfl,_,_⟩:=h3;obtain⟨A4,c4,rfl,_,_⟩:=h4;obtain⟨A5,c5,rfl,_,_⟩:=h5;have hBr:=hB1.trans (hbel.mono hB1.size);replace n0:=ah n0 hBr;replace n1:=ah n1 hBr;replace n2:=ah n2 hBr;replace n3:=ah n3 hBr;replace n4:=ah n4 hBr;replace n5:=ah n5 hBr;have z1:=ah y1 hbel;have HX:=Ag hni;clear hne hni hws HW;go_wp2_with fail
   refine bJ (fun w'=>w'.cell? ⟨w.heap.size,1,none⟩=some (.slice (some ⟨b,q,none⟩) g.nodes.length c)∧w'.cell? ⟨bp,op+ch,none⟩=some (.int .i64 (pq:Int))∧w'.cell? ⟨b,q+pq*6,none⟩=some (.int .i64 n.kind)∧w'.cell? ⟨b,q+pq*6+1,none⟩=some (.int .i64 n.aJ)∧w'.cell? ⟨b,q+pq*6+2,none⟩=some (.int .i64 n.info)∧w'.cell? ⟨b,q+pq*6+3,none⟩=some (.slice A3 n.next.length c3)∧w'.cell? ⟨b,q+pq*6+4,none⟩=some (.slice A4 n.weights.length c4)∧w'.cell? ⟨b,q+pq*6+5,none⟩=some (.slice A5 n.pay.length c5)) 9 1 aj rfl aj ?_;have hHeld:(fun w':World=>w'.cell? ⟨w.heap.size,1,none⟩=some (.slice (some ⟨b,q,none⟩) g.nodes.length c)∧w'.cell? ⟨bp,op+ch,none⟩=some (.int .i64 (pq:Int))∧w'.cell? ⟨b,q+pq*6,none⟩=some (.int .i64 n.kind)∧w'.cell? ⟨b,q+pq*6+1,none⟩=some (.int .i64 n.aJ)∧w'.cell? ⟨b,q+pq*6+2,none⟩=some (.int .i64 n.info)∧w'.cell? ⟨b,q+pq*6+3,none⟩=some (.slice A3 n.next.length c3)∧w'.cell? ⟨b,q+pq*6+4,none⟩=some (.slice A4 n.weights.length c4)∧w'.cell? ⟨b,q+pq*6+5,none⟩=some (.slice A5 n.pay.length c5)) wr.drew:=⟨z1,ep,n0,n1,n2,n3,n4,n5⟩;refine ZJ ?_;have hb:Below wr.heap.size wr wr.drew:=aH (Below.refl _ wr) 1;replace z1:=ah z1 hb;replace ep:=ah ep hb;replace n0:=ah n0 hb;replace n1:=ah n1 hb;replace n2:=ah n2 hb;replace n3:=ah n3 hb;replace n4:=ah n4 hb;replace n5:=ah n5 hb;replace HO:=Ag (HO.out.below hb);replace hbel:=hbel.trans (hb.mono hbel.size);clear hb;generalize wr.drew=wn at *;refine tkm [0,1,2,3,4,5,6,7] ?_;refine tk2 8 aj rfl fun K hK=>?_
   go_simp;refine hK.out _ _ ⟨iL z1 _,iL ep _,iL n0 _,iL n1 _,iL n2 _,iL n3 _,iL n4 _,iL n5 _⟩ (fun hHeld=>?_);clear hK K;refine Zb ?_;refine ZF ?_;clear hHeld;go_wp2
   obtain⟨W1,hW1,rn,hb,hz1⟩:=aN wn 61 #[.int .i64 n.kind,.int .i64 n.aJ,.int .i64 n.info,.slice A3 n.next.length c3,.slice A4 n.weights.length c4,.slice A5 n.pay.length c5];rw[← hW1];unfold Bv;refine Yi ?_;obtain⟨nb,hnb⟩:=named wn.heap.size;have k3:w1.heap.size≤nb:=by rw[hnb];exact hbel.size
   rw[← hnb] at rn ⊢;replace z1:=ah z1 hb;replace ep:=ah ep hb;replace n0:=ah n0 hb;replace n1:=ah n1 hb;replace n2:=ah n2 hb;replace n3:=ah n3 hb;replace n4:=ah n4 hb;replace n5:=ah n5 hb;replace HO:=Ag (HO.out.below hb);replace hbel:=hbel.trans (hb.mono hbel.size);clear hb;have k4:nb < W1.heap.size:=rn.lt;have HRN:=Ag rn;obtain⟨lim,hlim⟩:=named W1.heap.size;clear hz1 hnb hW1 rn z1 ep n0 n1 n2 n3 n4 n5;go_wp2_with fail
   go_loopw [8,11] (fun bv jv wr=>∃ (j:Nat) (M:List (Int×Int)),j≤n.next.length∧jv = .int .i64 (j:Int)∧M=L++fK pl n ch j∧AP qw wr w1.heap.size 188 (fun _=>True) bv M∧Row wr nb 61 [.int .i64 n.kind,.int .i64 n.aJ,.int .i64 n.info,.slice A3 n.next.length c3,.slice A4 n.weights.length c4,.slice A5 n.pay.length c5]∧Below w1.heap.size w1 wr) (fun _ jv _=>n.next.length - (intOf jv).toNat)
   case atStart=>exact⟨0,L,byOmega,rfl,by rw[xG,List.append_nil],HO.out,HRN.out,hbel⟩
   case round =>
    clear HO HRN hbel hlim k4;obtain⟨j,M,hj,rfl,hM,hown,rn,hbel⟩:=hrel;have HM:=Ag hM;have HO:=Ag hown;have n0:=rn.cell (i:=0) rfl;have n1:=rn.cell (i:=1) rfl;have n2:=rn.cell (i:=2) rfl;have n3:=rn.cell (i:=3) rfl;have hsl:=sS (pl:=pl) (n:=n) (c:=ch) (j:=j);have hMl:M.length=L.length+(fK pl n ch j).length:=by rw[hM,List.length_append]
    have hMb:M.length≤20000:=byOmega;have HML:=Ag hMl;clear hM hown hMl;by_cases hjt:j < n.next.length
    case neg =>
     have HE:=Ag (show M=L++fK pl n ch n.next.length by rw[HM.out,show j=n.next.length by omega]);replace HML:=Ag (show M.length≤L.length+100 by rw[HML.out]; omega);clear hsl;have ep:=HPC.out ch pq HPP.out;unfold kX at ep;rw[Nat.mul_one] at ep;replace ep:=ah ep hbel;go_wp2_with fail
     go_roundw
     case rel=>exact⟨pq,f',M,byOmega,byOmega,rfl,by rw[HE.out]; exact HWS.out,by have:=HML.out; omega,HO.out,hbel⟩
     case measure=>simp[intOf]; omega
    by_cases hk:n.kind=2∧n.aJ=pl
    case neg =>
     have HE:=Ag (show M=L++fK pl n ch n.next.length by rw[HM.out,lD hk,lD hk]);replace HML:=Ag (show M.length=L.length by rw[HM.out,lD hk,List.append_nil]);by_cases hk2:n.kind=2
     case neg =>
      have t1:(n.kind==2)=false:=by simpa using hk2
      clear hk hk2 hsl;have ep:=HPC.out ch pq HPP.out;unfold kX at ep;rw[Nat.mul_one] at ep;replace ep:=ah ep hbel;go_wp2_with fail
      go_roundw
      case rel=>exact⟨pq,f',M,byOmega,byOmega,rfl,by rw[HE.out]; exact HWS.out,by have:=HML.out; omega,HO.out,hbel⟩
      case measure=>simp[intOf]; omega
     have t1:(n.kind==2)=true:=by simp[hk2]
     have t2:(n.aJ==pl)=false:=by simp;exact fun e=>hk ⟨hk2,e⟩
     clear hk hk2 hsl;have ep:=HPC.out ch pq HPP.out;unfold kX at ep;rw[Nat.mul_one] at ep;replace ep:=ah ep hbel;go_wp2_with fail
     go_roundw
     case rel=>exact⟨pq,f',M,byOmega,byOmega,rfl,by rw[HE.out]; exact HWS.out,by have:=HML.out; omega,HO.out,hbel⟩
     case measure=>simp[intOf]; omega
    have t1:(n.kind==2)=true:=by simp[hk.1]
    have t2:(n.aJ==pl)=true:=by simp[hk.2]
    have HK:=Ag hk;clear hk;obtain⟨x,hx⟩:=aB hjt;obtain⟨b3,o3,rfl,_,hb3,aa5⟩:=uM H3.out byOmega;have ec:=ah (aa5 j x hx) (hB1.trans (hbel.mono hB1.size));clear aa5 hsl;by_cases hxc:x=(ch:Int)
    case neg =>
     have t3:(x==(ch:Int))=false:=by simpa using hxc
     have HS1:=Ag (zq (pl:=pl) hx hxc);clear hxc hx;go_wp2_with fail
     go_roundw
     case rel=>exact⟨j+1,M,byOmega,by go_num,by rw[HM.out,HS1.out],HO.out,rn,hbel⟩
     case measure=>simp[intOf]; omega
    have t3:(x==(ch:Int))=true:=by simp[hxc]
    have HS1:=Ag (aaE HK.out (show n.next[j]? = some (ch:Int) by rw[hx,hxc]));clear hxc hx;go_wp2_with (at_builtin; refine fV (K:=qw) (F:=fun _=>True) rfl _ _ 186 188 16 _ Tryz.underlying186 Tryz.infoPair rfl ay rfl w1.heap.size (Nat.le_refl _) u8 M rfl (n.info,(j:Int)) _ rfl byOmega rfl HO.out trivial hbel ?_; intro g' cap w' hown' bD hlt' hsm'; have HO':=Ag hown'; have HRN:=Ag (rn.of_block (hsm'.2 nb (HO.out.apart rn ay) rn.lt)); clear hown')
    go_roundw
    case rel=>exact⟨j+1,_,byOmega,by go_num,by rw[HM.out,HS1.out,List.append_assoc],HO'.out,HRN.out,bD⟩
    case measure=>simp[intOf]; omega
end Go.Proofs.YthmklhapjegfdaaGreatDoor
