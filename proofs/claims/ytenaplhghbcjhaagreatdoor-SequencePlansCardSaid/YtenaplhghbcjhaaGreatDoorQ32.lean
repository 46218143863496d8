import Derived.Test.YtenaplhghbcjhaaGreatDoorQ31
import Derived.Deep.CutBlock
import Derived.Test.YtenaplhghbcjhaaGreatDoorQ25
import Derived.BigQuiet
set_option linter.all false
set_option maxRecDepth 100000
set_option maxHeartbeats 0
namespace Go.Proofs.YtenaplhghbcjhaaGreatDoor
open And renaming intro->Iu
open Go.RowKit.Below renaming refl->GR
open Below renaming same'->GL
open Bool renaming true_and->Ld
open Go.IntKind renaming i64->GU
open Go renaming Value->GN,World->GK
open Go.Value renaming bool->G7,int->GV,slice->Gw
open Int renaming toNat_natCast->Ic
open Go.IntWalk renaming i64_in->IY
open List renaming all_eq_true->Jz,append_assoc->IU,append_nil->IV,ext_getElem?->IW,getD_eq_getElem?_getD->GH,getElem?_eq_none->Ij,getElem?_map->GY,getElem?_of_mem->H9,getElem?_range->Kq,getElem?_replicate->I4,getElem?_set_ne->G6,getElem?_set_self->Hq,length_append->G9,length_map->Gz,length_reverse->JZ,length_set->Hy,map->Iq,map_append->Hf,mem_map_of_mem->IL,mem_of_getElem?->Gx,range->Ig,replicate->GX,replicate_succ->KX,take_of_length_le->G8
open Nat renaming add_zero->Jb,eq_zero_or_pos->H6,le_refl->Gy,le_trans->He,lt_of_lt_of_le->Hz,mul_one->Ho,zero_add->I5,zero_le->Hg,zero_mul->Jc
open Option renaming getD_some->Jt
open Same renaming refl->GZ,setCell->J5
open Go.Proofs.Tryz renaming prog->GI,underlying63->KC
open Go.World renaming alloc->G5,block_lt_of_cell?->Hl,cell?_alloc_lt->Lm,cell?_of_block->Hu
open Wrote renaming below->Ht,refl->Ir,setCell->KL
open List renaming getElem_toArray → lq1, getElem_cons_zero → lq2, getElem_cons_succ → lq3, setIfInBounds_toArray → lq4, set_cons_zero → lq5, set_cons_succ → lq6
open Go.RowKit
variable {F G:Gq} {info pl:Int} {cs l:List Int} {xs:List Rat} {N N0 a b base bd bi bp bs c ci d i j k m o p q s:Nat} {Ai:Option Addr} {et t:TypeId}
def FlE (w:GK) (_:Gq) (b o:Nat) (x:Fl):Prop:=w.cell? ⟨b,o,none⟩=some (GV GU x.kind)/\w.cell? ⟨b,o+1,none⟩=some (GV GU x.node)/\w.cell? ⟨b,o+2,none⟩=some (GV GU x.info)/\w.cell? ⟨b,o+3,none⟩=some (GV GU x.other)
def Fv (w:GK) (F:Gq) (v:GN) (l:List Fl):Prop:=Cc 4 FlE w F v l
def flK:Knd Fl where
 n:=4
 cells q:=[GV GU q.kind,GV GU q.node,GV GU q.info,GV GU q.other]
 fine _ _ _:=True
 len _:=rfl
 pos:=au
 one _ u hu:=by
  simp only[List.mem_cons,List.not_mem_nil,or_false] at hu;rcases hu with rfl | rfl | rfl | rfl <;> rfl
 keep _ _ _:=trivial
theorem OwnSl.fls {w:GK} {v:GN} {L:List Fl} (h:OwnSl flK w base et F v L) (hG:∀ b,base<=b->G b):Fv w G v L:=by
 rcases h.at with⟨rfl,rfl⟩ | ⟨g,cap,rfl,hb,hg,hcap,hf,hx⟩
 ·exact zck
 ·exact⟨_,cap,rfl,hcap,λ_=>⟨g,0,rfl,hG g hb,hg,λk q hq=>⟨hx k q hq 0 _ rfl,hx k q hq 1 _ rfl,hx k q hq 2 _ rfl,hx k q hq 3 _ rfl⟩⟩⟩
theorem Tryz.infoFlaw:(Tryz.prog.info? 194).map (λi=>(i.zero,i.size,i.bytes))=some (some (.agg #[GV GU 0,GV GU 0,GV GU 0,GV GU 0]),4,32):=aj
theorem akA (w:GK) (F:Gq) (v:GN) (g:Gm) (hg:AB w F v g) (hsm:Small g) (hgd:Good g) :
  Calls GI 143 #[v] w (Ret w λu w'=>Fv w' (λb=>w.heap.size<=b) u (abk g)):=by
 have HG:=Ag hg;have HS:=Ag hsm;have HGD:=Ag hgd;have hn100:=hsm.F7;have hi100:=hsm.F8;obtain⟨vn,vi,rfl,⟨A,c,rfl,hc,hN⟩,⟨Ai,ci,rfl,hci,hI⟩⟩:=hg;obtain⟨b,q,rfl,hFb,hbl,hcell⟩:=hN hgd.pos;have HC:=Ag hcell;have HI:=Ag hI;clear hN hcell hsm hgd hI;go_in;go_wp2_with fail
 generalize hW:G5 _ _=W;obtain⟨rx,hB,hz⟩:=aI hW;clear hW;have hz2:=hB.size;refine zaG ?_;clear HG;intro HG x0 x1 x2;clear rx hz;go_wp2_with fail
 refine(yR W F _ g HG.o HS.o HGD.o.pos HGD.o.ahL).mono ?_;rintro e w1 ⟨u,rfl,hb1,hu⟩;replace hB:=hB.trans (hb1.mono hB.size);replace x0:=ah x0 hb1;replace x1:=ah x1 hb1;replace x2:=ah x2 hb1;replace HG:=Ag (HG.o.on (GL hb1 F));have HPL:=Ag (gY g.F7);obtain⟨akx,xI⟩:=Gp (dO g.F7);have HPE:=Ag xI;rw[<-xI] at hu;obtain⟨Ap,cp,rfl,hcp,hx⟩:=hu;obtain⟨bp,op,rfl,hbp,hbpl,hpc⟩:=hx (by rw[xI,HPL.o]; exact HGD.o.pos);have hpl:akx.length=g.F7.length:=by rw[xI,HPL.o]
 rw[hpl];have HPC:=Ag hpc;clear hb1 hx hpc xI hcp hpl;dsimp only;go_wp2_with fail
 refine(zB w1 F _ g HG.o HS.o HGD.o.F8).mono ?_;rintro e w2 ⟨u,rfl,hb1,hu⟩;replace hB:=hB.trans (hb1.mono hB.size);replace x0:=ah x0 hb1;replace x1:=ah x1 hb1;replace x2:=ah x2 hb1;replace HG:=Ag (HG.o.on (GL hb1 F));have hz3:=hb1.size;have HB1:=Ag hb1;have HSL:=Ag (show(dK g).length=g.F8.length from dD _ _ _);obtain⟨sets,amf⟩:=Gp (dK g);have HSE:=Ag amf;rw[<-amf] at hu HSL;obtain⟨As,cs,rfl,hcs,hx⟩:=hu;rw[HSL.o];have HSC:=Ag hx;clear hb1 hx amf hcs;dsimp only;go_wp2_with fail
 go_loopw [3,6] (λov iv wr=>∃ (i:Nat) (L:List Fl),i<=g.F8.length/\iv = GV GU (i:Int)/\L=kW g i/\L.length<=200*i/\OwnSl flK wr w2.heap.size 194 (λ_=>True) ov L/\Below w2.heap.size w2 wr) (λ_ iv _=>g.F8.length - (intOf iv).toNat)
 case atStart=>exact⟨0,[],FI,rfl,rfl,aA,OwnSl.nil _ _ _ _ _,GR _ _⟩
 case round =>
  obtain⟨i,L,hi,rfl,hL,hLl,hown,hbel⟩:=hrel;have HL:=Ag hL;have HO:=Ag hown;clear hL hown;by_cases hlt:i < g.F8.length
  case neg =>
   go_wp2_with fail
   go_ret;refine⟨_,rfl,hB.trans (hbel.mono hB.size),?_⟩;have h5:=HO.o.fls (G:=λb=>w.heap.size<=b) (λb hb=>by have:=hB.size; omega);rw[HL.o,show i=g.F8.length by omega] at h5;exact h5
  obtain⟨inf,bU⟩:=Gl hlt;obtain⟨bi,oi,rfl,_,hbil,amg⟩:=HI.o FI;obtain⟨f0,f1⟩:=amg i inf bU;replace f0:=ah f0 (hB.trans (hbel.mono hB.size));obtain⟨l,hl⟩:=Gl (l:=sets) (k:=i) (by rw[HSL.o]; exact hlt);obtain⟨bs,os,rfl,_,hbsl,hsc⟩:=HSC.o (by rw[HSL.o]; omega);obtain⟨ul,hul,hil⟩:=hsc i l hl;have hll:=(aaB HGD.o (by rw[<-HSE.o]; exact hl)).1;have HIN:=Ag (aaB HGD.o (by rw[<-HSE.o]; exact hl)).2;have y2:=ah x2 hbel;rw[Ho] at hul;have HIL:=Ag hil;obtain⟨Al,cl,rfl,_,_⟩:=hil;have HUL:=Ag hul;replace hul:=ah hul hbel;have HFI:=Ag (show kW g (i+1)=kW g i++iW g i inf.aH l l.length by
   rw[kW,GH (l:=g.F8),bU,GH,<-HSE.o,hl]; rfl)
  have HHL:=Ag hl;clear amg bU hsc hl f1;go_wp2_with fail
  go_loopw [3,8] (λov kv wr=>∃ (k:Nat) (M:List Fl),k<=l.length/\kv = GV GU (k:Int)/\M=L++iW g i inf.aH l k/\M.length<=200*i+2*k/\OwnSl flK wr w2.heap.size 194 (λ_=>True) ov M/\Below w2.heap.size w2 wr) (λ_ kv _=>l.length - (intOf kv).toNat)
  case atStart=>exact⟨0,L,FI,rfl,by rw[iW,IV],FI,HO.o,hbel⟩
  case round =>
   clear HO hbel y2 f0 hul;obtain⟨k,M,hk,rfl,hM,hMl,hown,hbel⟩:=hrel;have HM:=Ag hM;have HO:=Ag hown;clear hM hown;have hul:=ah HUL.o hbel;by_cases hkt:k < l.length
   case neg =>
    go_wp2_with fail
    go_roundw
    case rel=>exact⟨i+1,M,FI,by go_num,by rw[HFI.o,<-HL.o,HM.o,show k=l.length by omega],FI,HO.o,hbel⟩
    case measure=>exact zMs
   obtain⟨x,hx⟩:=Gl hkt;obtain⟨j,nj,rfl,hnj,_,_⟩:=HIN.o x (Gx hx);obtain⟨bl2,ol2,rfl,_,agK,afx⟩:=iU HIL.o FI;have HCL:=Ag afx;have hj:j < g.F7.length:=Gn hnj;have hk0:=ah (afx k _ hx) hbel;obtain⟨p0,hp0⟩:=Gl (l:=akx) (k:=j) (by rw[HPE.o,HPL.o]; exact hj);have ep:=HPC.o j p0 hp0;unfold lU at ep;rw[Ho] at ep;replace ep:=ah (ah ep HB1.o) hbel;have HPJ:=Ag hp0;have HFK:=Ag (show iW g i inf.aH l (k+1)=iW g i inf.aH l k++(abj i j (iq g i g.F7.length j)++uP g i inf.aH (l.getD 0 0).toNat j) by
    rw[iW,GH (i:=k),hx]; rfl)
   have HX:=Ag hx;clear afx hp0 hx;go_upto_block 4 with fail
   go_cut [3] from 47 to 76 (λv3 wx=>∃ M',M'=M++abj i j (iq g i g.F7.length j)/\M'.length<=M.length+1/\OwnSl flK wx w2.heap.size 194 (λ_=>True) v3 M'/\Below w2.heap.size w2 wx)
   case first =>
    clear hul hk0;go_wp2_with fail
    clear ep;go_loopw [3,10] (λov av wr=>∃ (ch f:Nat) (p:Int),ch < g.F7.length/\ch<=f/\akx[ch]? = some p/\av = GV GU p/\iq g i f ch=iq g i g.F7.length j/\OwnSl flK wr w2.heap.size 194 (λ_=>True) ov M/\Below w2.heap.size w2 wr) (λ_ av _=>(intOf av+1).toNat)
    case atStart=>exact⟨j,g.F7.length,p0,hj,FI,HPJ.o,rfl,rfl,HO.o,hbel⟩
    case round =>
     clear HO hbel;obtain⟨ch,f,p,hch,hcf,hp,rfl,hag,hown,hbel⟩:=hrel;have HO:=Ag hown;have HAG:=Ag hag;have HPC2:=Ag hp;clear hown hag;obtain⟨p',hp',hcase⟩:=HGD.o.par hch;rw[<-HPE.o,hp] at hp';cases hp';clear hp;rcases hcase with⟨h0,rfl⟩ | ⟨pq,n,rfl,hpq,hni,_⟩
     ·subst h0;have t0:decide ((0:Int)≤-1)=false:=rfl;have HAN:=Ag (show iq g i g.F7.length j=none by rw[<-HAG.o]; exact aaz HGD.o f);go_wp2_with fail
      go_meet
      exact⟨M,by rw[HAN.o]; exact(IV _).symm,FI,HO.o,hbel⟩
     ·have t0:decide ((0:Int)<=(pq:Int))=true:=LK FI;have al8:pq < g.F7.length:=Gn hni;obtain⟨f',rfl⟩:∃ k,f=k+1:=⟨f - 1,FI⟩;have hne:=HC.o pq n hni;have hBr:=hB.trans (hbel.mono hB.size);have n0:=ah hne.c0 hBr;have n2:=ah hne.c2 hBr;have y1:=ah x1 hbel;have HNI:=Ag hni;clear hne hni hBr;by_cases hkd:n.kind=2/\n.info=(i:Int)
      ·have t1:(n.kind==2)=true:=by simp[hkd.1]
       have t2:(n.info==(i:Int))=true:=by simp[hkd.2]
       have HAN:=Ag (show iq g i g.F7.length j=some pq by rw[<-HAG.o]; exact aaA (by rw[<-HPE.o]; exact HPC2.o) HNI.o hkd);clear hkd;go_wp2_with (at_builtin; refine je (K:=flK) (F:=λ_=>True) rfl _ _ 191 194 32 _ Tryz.underlying191 Tryz.infoFlaw rfl au rfl w2.heap.size (Gy _) u3 M rfl ⟨1,(j:Int),(i:Int),(pq:Int)⟩ _ rfl FI rfl HO.o trivial hbel ?_; intro g' cap w' hown' bG hlt' hsm'; have HO':=Ag hown'; clear hown')
       go_meet
       exact⟨M ++ [⟨1,(j:Int),(i:Int),(pq:Int)⟩],by rw[HAN.o]; rfl,aA,HO'.o,bG⟩
      ·have HAN:=Ag (show iq g i f' pq=iq g i g.F7.length j by rw[<-HAG.o]; exact(ac0 (by rw[<-HPE.o]; exact HPC2.o) HNI.o hkd).symm);obtain⟨p1,hp1⟩:=Gl (l:=akx) (k:=pq) (by rw[HPE.o,HPL.o]; exact al8);have ep:=HPC.o pq p1 hp1;unfold lU at ep;rw[Ho] at ep;replace ep:=ah (ah ep HB1.o) hbel;have hp1b:=yX HGD.o pq p1 al8 (by rw[<-HPE.o]; exact hp1);have HP1:=Ag hp1;clear hp1;by_cases hk2:n.kind=2
       ·have t1:(n.kind==2)=true:=by simp[hk2]
        have t2:(n.info==(i:Int))=false:=by simp;exact λe=>hkd ⟨hk2,e⟩
        clear hkd hk2;go_wp2_with fail
        go_roundw
        case rel=>exact⟨pq,f',p1,al8,FI,HP1.o,rfl,HAN.o,HO.o,hbel⟩
        case measure=>exact zMs
       ·have t1:(n.kind==2)=false:=by simpa using hk2
        clear hkd hk2;go_wp2_with fail
        go_roundw
        case rel=>exact⟨pq,f',p1,al8,FI,HP1.o,rfl,HAN.o,HO.o,hbel⟩
        case measure=>exact zMs
   case rest =>
    obtain⟨M',hM',hMl',hown',bG⟩:=hcut;have HM':=Ag hM';have HO':=Ag hown';clear hM' hown' HO hbel hul hk0 ep;obtain⟨x00,h00⟩:=Gl (l:=l) (k:=0) FI;obtain⟨j0,n00,rfl,hn00,_,_⟩:=HIN.o x00 (Gx h00);have hj0:j0 < g.F7.length:=Gn hn00;have z0:=ah (HCL.o 0 _ h00) bG;rw[Jb] at z0;have hul:=ah HUL.o bG;have HFW:=Ag (show uP g i inf.aH (l.getD 0 0).toNat j=uP g i inf.aH j0 j by rw[GH,h00]; rfl);have HGc:=Ag (HG.o.on (GL bG F));have y0:=ah x0 bG;have y1:=ah x1 bG;have y2:=ah x2 bG;have hkl:0 < l.length:=FI;obtain⟨pl,hpl⟩:=Gp inf.aH;have HPLR:=Ag hpl;rw[<-hpl] at HFW ⊢;clear h00 hn00 hpl;go_wp2_with fail
    refine wp_region_held_drew (S:=λw'=>w'.cell? ⟨w.heap.size,0,none⟩=some (GV GU g.aC)/\w'.cell? ⟨w.heap.size,1,none⟩=some (Gw (some ⟨b,q,none⟩) g.F7.length c)/\w'.cell? ⟨w.heap.size,2,none⟩=some (Gw (some ⟨bi,oi,none⟩) g.F8.length ci)/\w'.cell? ⟨bs,os+i,none⟩=some (Gw (some ⟨bl2,ol2,none⟩) l.length cl)/\w'.cell? ⟨bl2,ol2,none⟩=some (GV GU (j0:Int))) aj ⟨y0,y1,y2,hul,z0⟩ (λhHeld=>?_);have hb:Below wc.heap.size wc wc.drew:=aG (GR _ wc) 1;refine YX ?_;clear y0 y1 y2 hul z0 HGc HO' bG hb;intro y0 y1 y2 hul z0 HGc HO' bG;generalize wc.drew=wn at *;refine tkm [0,1,2,4,5,6,7,8,9,10,11] ?_;refine tk2 3 aj rfl λK hK=>?_
    go_simp;refine(ach wn F _ g j pl HGc.o HS.o HGD.o hj).mono ?_;rintro e wn ⟨v1,rfl,hb,hu⟩;have HV1:=Ag (AA.keep (G:=λ_=>True) hu (λ_ _ _=>trivial) (GZ _ _));clear hu;refine YX ?_;clear y0 y1 y2 hul z0 HGc HO' bG hb;intro y0 y1 y2 hul z0 HGc HO' bG;dsimp only;clear hHeld;refine hK.out _ _ ⟨y0,y1,y2,hul,z0⟩ (λhHeld=>?_);clear hK K;refine Zb ?_;refine tk2 12 aj rfl λK hK=>?_
    go_simp;refine(ach wn F _ g j0 pl HGc.o HS.o HGD.o hj0).mono ?_;rintro e wn ⟨v2,rfl,hb,hu⟩;have HV2:=Ag (AA.keep (G:=λ_=>True) hu (λ_ _ _=>trivial) (GZ _ _));clear hu;replace HV1:=Ag (AA.on HV1.o (GL hb _));refine YX ?_;clear y0 y1 y2 hul z0 HGc HO' bG hb;intro y0 y1 y2 hul z0 HGc HO' bG;dsimp only;clear hHeld;refine hK.out _ _ ⟨y0,y1,y2,hul,z0⟩ (λhHeld=>?_);clear hK K;refine Zb ?_;obtain⟨eqB,heqB⟩:=Gp (decide (jB g pl j=jB g pl j0));have HEQ:=Ag heqB;have HWL:=Ag (acF HGD.o HS.o pl hj);clear heqB;refine tk2 13 aj rfl λK hK=>?_
    go_simp;refine(amd wn (λ_=>True) _ _ _ _ HV1.o HV2.o (by have:=HWL.o; omega)).mono ?_;rintro e wn ⟨v3,rfl,hb,rfl⟩;rw[<-HEQ.o];clear HV1 HV2;refine YX ?_;clear y0 y1 y2 hul z0 HGc HO' bG hb;intro y0 y1 y2 hul z0 HGc HO' bG;dsimp only;clear hHeld;refine hK.out _ _ ⟨y0,y1,y2,hul,z0⟩ (λhHeld=>?_);clear hK K;refine Zb ?_;refine tkm [14] ?_;refine Z8 ?_;clear hHeld;obtain rfl:=HPLR.o;cases eqB with
    | true =>
     have HW:=Ag (show uP g i inf.aH j0 j = [] by unfold uP; rw[LH (of_decide_eq_true HEQ.o.symm)]);go_wp2_with fail
     go_roundw
     case rel =>
      refine⟨k+1,M',FI,by go_num,?_,FI,HO'.o,bG⟩;rw[HFK.o,HFW.o,HW.o,IV,HM'.o,HM.o,IU]
     case measure=>exact zMs
    | false =>
     have HW:=Ag (show uP g i inf.aH j0 j = [⟨2,(j:Int),(i:Int),(j0:Int)⟩] by unfold uP; rw[LG (of_decide_eq_false HEQ.o.symm)]);go_wp2_with (at_builtin; refine je (K:=flK) (F:=λ_=>True) rfl _ _ 191 194 32 _ Tryz.underlying191 Tryz.infoFlaw rfl au rfl w2.heap.size (Gy _) u3 M' rfl ⟨2,(j:Int),(i:Int),(j0:Int)⟩ _ rfl FI rfl HO'.o trivial bG ?_; intro g' cap w' hown2 fC hlt2 hsm2; have HO2:=Ag hown2; clear hown2)
     go_roundw
     case rel =>
      refine⟨k+1,M' ++ [⟨2,(j:Int),(i:Int),(j0:Int)⟩],FI,by go_num,?_,by rw[G9]; simp; omega,HO2.o,fC⟩;rw[HFK.o,HFW.o,HW.o,HM'.o,HM.o,IU,IU]
     case measure=>exact zMs
def aeA (g:Gm) (pl:Int):Bool:=!(abk g).any λf=>decide ((g.F8.getD f.info.toNat default).aH=pl)
theorem aiA {g:Gm}:∀ f∈abk g,∃ i:Nat,f.info=(i:Int)/\i < g.F8.length:=by
 have h1:∀ (i:Int) (pl:Int) (l:List Int) (k:Nat),∀ f∈iW g i pl l k,f.info=i:=by
   intro i pl l k;induction k with
   | zero=>intro f hf; cases hf
   | succ k ih =>
     intro f hf;rw[iW] at hf;rcases List.mem_append.1 hf with hf | hf
     ·exact ih f hf
     ·unfold tu abj uP at hf;grind
 have h2:∀ n,∀ f∈kW g n,∃ i:Nat,f.info=(i:Int)/\i < n:=by
   intro n;induction n with
   | zero=>intro f hf; cases hf
   | succ n ih=>grind [kW]
 exact h2 _
theorem agV (w:GK) (F:Gq) (v:GN) (g:Gm) (pl:Int) (hg:AB w F v g) (hsm:Small g) (hgd:Good g) :
  Calls GI 108 #[v,GV GU pl] w (Ret w λu _=>u = G7 (aeA g pl)):=by
 have HG:=Ag hg;have HS:=Ag hsm;have HGD:=Ag hgd;have hi100:=hsm.F8;obtain⟨vn,vi,rfl,⟨A,c,rfl,hc,_⟩,⟨Ai,ci,rfl,hci,hI⟩⟩:=hg;have HI:=Ag hI;clear hsm hgd hI;go_in;go_wp2_with fail
 generalize hW:G5 _ _=W;obtain⟨rx,hB,hz⟩:=aI hW;clear hW;refine zaG ?_;clear HG;intro HG x0 x1 x2;clear rx hz;go_wp2_with fail
 refine(akA W F _ g HG.o HS.o HGD.o).mono ?_;rintro e w1 ⟨u,rfl,hb1,hu⟩;replace hB:=hB.trans (hb1.mono hB.size);replace x2:=ah x2 hb1;have HFI:=Ag (aiA (g:=g));have hLb:=ait HGD.o HS.o;obtain⟨pb,hpb⟩:=Gp (aeA g pl);have HPB0:=Ag hpb;obtain⟨L,hL⟩:=Gp (abk g);unfold aeA at hpb;rw[<-hL] at hu hpb HFI hLb;have HPB:=Ag hpb;obtain⟨Af,cf,rfl,hcf,hx⟩:=hu;have HX:=Ag hx;clear hb1 x0 x1 hpb hL hx;dsimp only;go_wp2_with fail
 go_loopw [6] (λiv wr=>∃ (i:Nat),i<=L.length/\iv = GV GU (i:Int)/\(∀ f∈L.take i,(g.F8.getD f.info.toNat default).aH≠pl)/\Below w1.heap.size w1 wr) (λiv _=>L.length - (intOf iv).toNat)
 case atStart=>exact⟨0,FI,rfl,λf hf=>by simp at hf,GR _ _⟩
 case round =>
  obtain⟨i,hi,rfl,hno,hbel⟩:=hrel;have HNO:=Ag hno;clear hno;by_cases hlt:i < L.length
  ·obtain⟨f,hf⟩:=Gl hlt;obtain⟨bf,of',rfl,_,hbf,aoy⟩:=HX.o FI;obtain⟨s,hs,hsl⟩:=HFI.o f (Gx hf);have c2:=(aoy i f hf).2.2.1;rw[hs] at c2;obtain⟨inf,bU⟩:=Gl hsl;obtain⟨bi,oi,rfl,_,hbil,amg⟩:=HI.o FI;have f0:=(amg s inf bU).c0;replace f0:=ah (ah f0 hB) hbel;replace c2:=ah c2 hbel;have y2:=ah x2 hbel;have HGE:=Ag (show(g.F8.getD f.info.toNat default).aH=inf.aH by rw[hs,Ic,GH,bU]; rfl);have HF:=Ag hf;clear aoy amg bU hs hf;by_cases hp:inf.aH=pl
   ·have t1:(inf.aH==pl)=true:=by simp[hp]
    have HE:=Ag (show pb=false by
     rw[HPB.o,Bool.not_eq_false',List.any_eq_true];exact⟨f,Gx HF.o,by rw[HGE.o]; exact LK hp⟩)
    clear hp;go_wp2_with fail
    go_quiet (fail)
    go_wp2
    go_ret;exact⟨_,rfl,hB.trans ((aG hbel _).mono hB.size),by rw[<-HPB0.o,HE.o]; rfl⟩
   ·have t1:(inf.aH==pl)=false:=by simpa using hp
    have HN:=Ag hp;clear hp;go_wp2_with fail
    go_quiet (fail)
    go_wp2
    go_roundw
    case rel =>
     refine⟨i+1,FI,by go_num,λx hx=>?_,aG hbel _⟩;rw[Gv HF.o] at hx;rcases List.mem_append.1 hx with hx | hx
     ·exact HNO.o x hx
     ·rw[List.mem_singleton.1 hx,HGE.o];exact HN.o
    case measure=>exact zMs
  ·have HE:=Ag (show pb=true by
    rw[HPB.o,Bool.not_eq_true',List.any_eq_false];intro f hf;have:=HNO.o f (by rw[G8 FI]; exact hf);simpa using this)
   go_wp2
   go_ret;exact⟨_,rfl,hB.trans (hbel.mono hB.size),by rw[<-HPB0.o,HE.o]; rfl⟩
structure FK (F7:List Nd) (q:Int) (cs:List Int) (a:Nat) (r:Int) (p p':List Int):Prop where
 o:∀ i:Nat,i < a\/r<=(i:Int)->p'[i]? = p[i]?
 inn:∀ i:Nat,a<=i->(i:Int) < r->((i:Int)∈cs/\p'[i]? = some q)\/∃ (m:Nat) (n:Nd),F7[m]? = some n/\(i:Int)∈n.next/\p'[i]? = some (m:Int)
theorem agW {F7:List Nd} {q:Int} {rec:Nat->Tri->Int×Tri} (hlen:∀ a t,Tri.Len F7.length t->Tri.Len F7.length (rec a t).2)
  (hb:∀ a t,(rec a t).1 = -1\/((a:Int) < (rec a t).1/\(rec a t).1<=F7.length))
  (hrec:∀ a t,a < F7.length->Tri.Len F7.length t->0<=(rec a t).1->FK F7 q [(a:Int)] a (rec a t).1 t.p (rec a t).2.p) :
  ∀ (cs:List Int) (x:Nat) (t:Tri),x<=F7.length->Tri.Len F7.length t->0<=(eG rec cs x t).1->(x:Int)<=(eG rec cs x t).1/\FK F7 q cs x (eG rec cs x t).1 t.p (eG rec cs x t).2.p
 | [],x,t,_,_,_=>⟨by simp[eG],⟨λ_ _=>by simp[eG],λi h1 h2=>by simp[eG] at h2; omega⟩⟩
 | c :: cs,x,t,hx,ht,h=>by
  unfold eG at h ⊢;by_cases hc:c=x
  ·subst hc;simp only[ne_eq,not_true_eq_false,↓reduceIte,Ic] at h ⊢;by_cases hng:(rec x t).1 < 0
   ·rw[LH hng] at h; simp at h
   ·rw[LG hng] at h ⊢;rcases hb x t with hb1 | hb1
    ·omega
    ·have hr:=hrec x t FI ht FI;obtain⟨m,hm⟩:=Int.eq_ofNat_of_zero_le (show 0<=(rec x t).1 by omega);rw[hm] at h hr ⊢;rw[hm] at hb1;obtain⟨ih1,ih2⟩:=agW hlen hb hrec cs m (rec x t).2 FI (hlen x t ht) h;refine⟨FI,λi hi=>?_,λi h1 h2=>?_⟩
     ·rw[ih2.o i FI,hr.o i FI]
     ·by_cases hmi:i < m
      ·have e:=ih2.o i (.inl hmi);rw[e];rcases hr.inn i h1 FI with⟨h3,h4⟩ | h3
       ·exact .inl ⟨by rw[List.mem_singleton.1 h3]; simp,h4⟩
       ·exact .inr h3
      ·rcases ih2.inn i FI h2 with⟨h3,h4⟩ | h3
       ·exact .inl ⟨List.mem_cons_of_mem _ h3,h4⟩
       ·exact .inr h3
  ·rw[LH hc] at h; simp at h
theorem agX (F7:List Nd):∀ (f a:Nat) (par dep:Int) (t:Tri),Tri.Len F7.length t->0<=(bP F7 f a par dep t).1 ->
  FK F7 par [(a:Int)] a (bP F7 f a par dep t).1 t.p (bP F7 f a par dep t).2.p
 | 0,_,_,_,_,_,h=>by simp[bP] at h
 | f+1,a,par,dep,t,ht,h=>by
  unfold bP at h ⊢;cases hn:F7[a]? with
  | none=>rw[hn] at h; simp at h
  | some n =>
   rw[hn] at h;simp only at h ⊢;have ha:=Gn hn;have hk:=agW (F7:=F7) (q:=(a:Int)) (rec:=λa' t=>bP F7 f a' a (dep+1) t)
    (λa' t h=>mV F7 f a' a (dep+1) t h) (λa' t=>pG F7 f a' a (dep+1) t)
    (λa' t _ ht h=>agX F7 f a' a (dep+1) t ht h) n.next (a+1) ⟨t.p.set a par,t.d.set a dep,t.l⟩ FI ⟨by simp[ht.p],by simp[ht.d],ht.l⟩
   simp only[Int.natCast_add,Int.cast_ofNat_Int] at hk;by_cases hng:(eG (λa' t=>bP F7 f a' a (dep+1) t) n.next ((a:Int)+1) ⟨t.p.set a par,t.d.set a dep,t.l⟩).1 < 0
   ·rw[LH hng] at h; omega
   ·rw[LG hng] at h ⊢;obtain⟨h1,h2⟩:=hk FI;have h1':(a:Int)+1<=(eG (λa' t=>bP F7 f a' a (dep+1) t) n.next ((a:Int)+1) ⟨t.p.set a par,t.d.set a dep,t.l⟩).1:=by simpa using h1
    refine⟨λi hi=>?_,λi h3 h4=>?_⟩
    ·have:=h2.o i (by simp only[] at hi ⊢; omega);simp only at this ⊢;rw[this,G6 FI]
    ·by_cases hia:i=a
     ·subst hia;have:=h2.o i (.inl FI);simp only at this ⊢;refine .inl ⟨aA,?_⟩;rw[this,Hq (by rw[ht.p]; exact ha)]
     ·rcases h2.inn i FI h4 with⟨h5,h6⟩ | h5
      ·exact .inr ⟨a,n,hn,h5,h6⟩
      ·exact .inr h5
theorem akB (g:Gm):Tri.Len g.F7.length (walkT g).2:=mV _ _ _ _ _ _ ⟨aA,aA,aA⟩
theorem zi {g:Gm} (h:aQ g=0):(walkT g).2.p=dO g.F7:=by
 have hg:=gQ h;have hlen:=akB g;have hN:(walkT g).1=(g.F7.length:Int):=by
   rw[<-yD] at h;grind [rO]
 have hk:=agX g.F7 (g.F7.length+1) 0 (-1) 0 ⟨GX g.F7.length 0,GX g.F7.length 0,GX g.F7.length 0⟩ ⟨aA,aA,aA⟩;have hT:walkT g=bP g.F7 (g.F7.length+1) 0 (-1) 0 ⟨GX g.F7.length 0,GX g.F7.length 0,GX g.F7.length 0⟩:=rfl;rw[<-hT,hN] at hk;have hk:=hk FI;refine IW λi=>?_
 by_cases hi:i < g.F7.length
 ·rcases hk.inn i (Hg _) FI with⟨h1,h2⟩ | ⟨m,n,h1,h2,h3⟩
  ·have h0:i=0:=by have:=List.mem_singleton.1 h1;omega
   subst h0;rw[h2];obtain⟨p,hp,⟨_,rfl⟩ | ⟨q,n,_,h3,_⟩⟩:=hg.par hi
   all_goals grind
  ·rw[h3,pz hg hi h1 h2]
 ·rw[Ij (by rw[hlen.p]; omega),Ij (by rw[gY]; omega)]
def pY (g:Gm) (pl:Int) (l:List Int):Bool:=l.all λx=>decide (jB g pl x.toNat=jB g pl (l.getD 0 0).toNat)
def oL (g:Gm) (pl:Int):Nat->Bool
 | 0=>true
 | i+1=>oL g pl i&&(!decide ((g.F8.getD i default).aH=pl)||pY g pl ((dK g).getD i []))
def aaE (g:Gm) (pl:Int):Bool:=oL g pl g.F8.length
theorem aaF {g:Gm} {pl:Int} {i:Nat} (h:oL g pl i=false):∀ k,i<=k->oL g pl k=false
 | 0,hk=>by
  obtain rfl:i=0:=FI;exact h
 | k+1,hk=>by
  by_cases e:i=k+1
  ·subst e; exact h
  ·rw[oL,aaF h k FI,Bool.false_and]
theorem abQ {g:Gm} {pl:Int}:∀ {k:Nat},oL g pl k=true↔∀ i,i < k->(g.F8.getD i default).aH=pl->pY g pl ((dK g).getD i [])=true
 | 0=>by simp[oL]
 | k+1=>by
  rw[oL,Bool.and_eq_true,abQ (k:=k),Bool.or_eq_true,Bool.not_eq_true',decide_eq_false_iff_not];constructor
  ·rintro⟨h1,h2⟩ i hi hp;by_cases e:i=k
   ·subst e;rcases h2 with h2 | h2
    ·exact absurd hp h2
    ·exact h2
   ·exact h1 i FI hp
  ·intro h;refine⟨λi hi hp=>h i FI hp,?_⟩;by_cases hp:(g.F8.getD k default).aH=pl
   ·exact .inr (h k FI hp)
   ·exact .inl hp
theorem agY {n:Nd} (h:n.kind=2/\n.aH=pl) (hc:(c:Int)∈n.next):0 < (gu pl n c n.next.length).length:=by
 unfold gu;rw[LH h,Gz];obtain⟨k,hk⟩:=H9 hc;exact List.length_pos_of_mem (a:=k) (List.mem_filter.2 ⟨List.mem_range.2 (Gn hk),by simp[hk]⟩)
theorem aeB {g:Gm} (hg:Good g) {i pl:Int} (hpl:∀ (j:Nat) (n:Nd),g.F7[j]? = some n->n.kind=2->n.info=i->n.aH=pl):∀ (f c a:Nat),c < g.F7.length->iq g i f c=some a ->
  (jB g pl a).length < (jB g pl c).length/\∃ n,g.F7[a]? = some n/\n.kind=2/\n.info=i
 | 0,c,a,_,h=>by cases h
 | f+1,c,a,hc,h=>by
  obtain⟨p,hp,h0 | ⟨q,n,rfl,hq,hn,hm⟩⟩:=hg.par hc
  ·obtain⟨rfl,_⟩:=h0; rw[aaz hg] at h; cases h
  ·have hw:=acE hg (pl:=pl) hc hp hn hq;by_cases hk:n.kind=2/\n.info=i
   ·rw[aaA hp hn hk] at h;cases h
    have:=agY (c:=c) ⟨hk.1,hpl _ n hn hk.1 hk.2⟩ hm;refine⟨?_,n,hn,hk⟩;rw[hw,G9,JZ]; omega
   ·rw[ac0 hp hn hk] at h;obtain⟨h1,h2⟩:=aeB hg hpl f q a FI h;refine⟨?_,h2⟩;rw[hw,G9]; omega
theorem tK {g:Gm} {i pl:Int} {l:List Int} {f:Fl}:∀ {k:Nat},f∈iW g i pl l k↔∃ j,j < k/\f∈tu g i pl (l.getD 0 0).toNat (l.getD j 0).toNat
 | 0=>by simp[iW]
 | k+1=>by
  rw[iW,List.mem_append,tK (k:=k)];constructor
  ·rintro(⟨j,h1,h2⟩ | h)
   ·exact⟨j,FI,h2⟩
   ·exact⟨k,FI,h⟩
  ·rintro⟨j,h1,h2⟩;by_cases e:j=k
   ·subst e; exact .inr h2
   ·exact .inl ⟨j,FI,h2⟩
theorem xJ {g:Gm} {f:Fl}:∀ {k:Nat},f∈kW g k↔∃ i:Nat,i < k/\f∈iW g i (g.F8.getD i default).aH ((dK g).getD i []) ((dK g).getD i []).length
 | 0=>by simp[kW]
 | k+1=>by
  rw[kW,List.mem_append,xJ (k:=k)];constructor
  ·rintro(⟨j,h1,h2⟩ | h)
   ·exact⟨j,FI,h2⟩
   ·exact⟨k,FI,h⟩
  ·rintro⟨j,h1,h2⟩;by_cases e:j=k
   ·subst e; exact .inr h2
   ·exact .inl ⟨j,FI,h2⟩
theorem ac6 {g:Gm} {i:Int} {f:Fl} (hf:f∈iW g i pl l k):f.info=i:=by
 obtain⟨j,_,h⟩:=tK.1 hf;unfold tu abj uP at h;grind
theorem qQ {g:Gm} (h:aQ g=0) (hi:i < g.F8.length):((dK g).getD i [])=dA g.F7 i g.F7.length /\
  (∀ (j:Nat) (n:Nd),g.F7[j]? = some n->n.kind=2->n.info=(i:Int)->n.aH=(g.F8.getD i default).aH/\(j:Int)∈(dK g).getD i []) /\
  (∀ x∈(dK g).getD i [],∃ (j:Nat) (n:Nd),x=(j:Int)/\g.F7[j]? = some n/\n.kind=2/\n.info=(i:Int)):=by
 have hg:=gQ h;have h1:=jq hg.F8 hi;have h2:((dK g).getD i [])=dA g.F7 i g.F7.length:=by rw[GH,h1];rfl
 refine⟨h2,λj n hn hk hin=>⟨?_,?_⟩,λx hx=>?_⟩
 ·obtain⟨inf,h3,_,h4⟩:=mD h (Gx hn) hk;grind
 ·rw[h2];refine tq.2 ⟨j,rfl,Gn hn,?_⟩;unfold mv;grind
 ·exact(aaB hg (l:=(dK g).getD i []) (by rw[h2]; exact h1)).2 x hx
theorem amh {g:Gm} (h:aQ g=0) (pl:Int):aaE g pl=aeA g pl:=by
 have hg:=gQ h;rw[Bool.eq_iff_iff];unfold aaE aeA;rw[abQ,Bool.not_eq_true',List.any_eq_false];constructor
 ·intro hw f hf hp;obtain⟨i,hi,hfi⟩:=xJ.1 hf;have bU:=ac6 hfi;rw[bU,Ic] at hp;have hp:=of_decide_eq_true hp;rw[hp] at hfi;obtain⟨h2,h3,h4⟩:=qQ h hi;have hall:=hw i hi hp;unfold pY at hall;rw[Jz] at hall;obtain⟨k,hk,hfk⟩:=tK.1 hfi;generalize (dK g).getD i []=l at *;obtain⟨x,hx⟩:=Gl hk;have ex:l.getD k 0=x:=by rw[GH,hx];rfl
  rw[ex] at hfk;have hwx:=of_decide_eq_true (hall x (Gx hx));obtain⟨j,n,rfl,hn,_,_⟩:=h4 x (Gx hx);rw[Ic] at hfk hwx;unfold tu at hfk;rcases List.mem_append.1 hfk with hfk | hfk
  ·cases ha:iq g i g.F7.length j with
   | none=>rw[ha] at hfk; cases hfk
   | some a =>
    obtain⟨h5,m,h6,h7,h8⟩:=aeB hg (pl:=pl) (λj n hn hk hin=>by rw[(h3 j n hn hk hin).1,hp]) _ j a (Gn hn) ha;have hwa:=of_decide_eq_true (hall (a:Int) (h3 a m h6 h7 h8).2);rw[Ic] at hwa;rw[hwa,hwx] at h5;omega
  ·unfold uP at hfk;rw[LH hwx] at hfk;cases hfk
 ·intro hno i hi hp;unfold pY;rw[Jz];intro x hx;obtain⟨k,hk⟩:=H9 hx;by_cases hw:jB g pl x.toNat=jB g pl (((dK g).getD i []).getD 0 0).toNat
  ·exact LK hw
  ·exfalso
   refine hno ⟨2,x.toNat,i,(((dK g).getD i []).getD 0 0).toNat⟩ (xJ.2 ⟨i,hi,tK.2 ⟨k,Gn hk,?_⟩⟩) ?_
   ·unfold tu uP;rw[GH (l:=(dK g).getD i []) (i:=k),hk,hp];simp only[Jt];rw[LG hw];exact List.mem_append_right _ aA
   ·show decide ((g.F8.getD ((i:Int)).toNat default).aH=pl)=true;rw[Ic];exact LK hp
theorem Span.incr {F7:List Nd} (h:Span F7 cs a b):cs.Pairwise (· < ·):=by
 induction h with
 | nil a=>exact List.Pairwise.nil
 | cons hn h1 h2 _ ih2 =>
  refine List.Pairwise.cons (λc hc=>?_) ih2;have e1:=h1.le;have e2:=(h2.mem c hc).1;omega
theorem Span.nexts {F7:List Nd} (h:Span F7 cs a b):∀ p n,a<=p->p < b->F7[p]? = some n->n.next.Pairwise (· < ·):=by induction h <;> grind [Span.incr]
theorem xK {g:Gm} (hg:Good g) {n:Nd} (hn:g.F7[q]? = some n) (h:n.kind=2/\n.aH=pl) (hj:n.next[j]? = some (c:Int)):gu pl n c n.next.length = [(n.info,(j:Int))]:=by
 have hinc:=hg.span.nexts q n (Hg _) (Gn hn) hn;have hjl:=Gn hj;have key:∀ k,k<=n.next.length->gu pl n c k=if j < k then [(n.info,(j:Int))] else []:=by
   intro k;induction k with
   | zero=>grind [aan]
   | succ k ih=>grind [acD,List.pairwise_iff_getElem,abG]
 grind
def lastStep (l:List (Int×Int)):Int×Int:=l.getLast?.getD (-1,-1)
def jh (g:Gm) (pl:Int) (c:Nat):Int×Int:=lastStep (jB g pl c)
theorem vS {g:Gm} (hg:Good g) (pl:Int):jh g pl 0=(-1,-1):=by unfold jh; rw[aa4 hg]; rfl
theorem abm {g:Gm} (hg:Good g) {n:Nd} (hn:g.F7[q]? = some n) (hj:n.next[j]? = some (c:Int)):jh g pl c=if n.kind=2/\n.aH=pl then (n.info,(j:Int)) else jh g pl q:=by
 have hm:=Gx hj;have hqc:=hg.span.kids q n (Hg _) (Gn hn) hn _ hm;have hc:c < g.F7.length:=FI;have hp:=pz hg hc hn hm;unfold jh;rw[acE hg hc hp hn FI];grind [xK,lastStep,kS]
def iO (g:Gm) (i:Nat):Nat:=(((dK g).getD i []).getD 0 0).toNat
def aU (g:Gm):List (Int×Int):=(Ig g.F8.length).map λi=>jh g (g.F8.getD i default).aH (iO g i)
theorem xM {g:Gm} (hi:i < g.F8.length):(aU g)[i]? = some (jh g (g.F8.getD i default).aH (iO g i)):=by grind [aU]
theorem aS (g:Gm):(aU g).length=g.F8.length:=by unfold aU; simp
theorem zQ {g:Gm} (hg:Good g) (pl:Int):∀ (b c:Nat),c<=b->c < g.F7.length->jh g pl c=(-1,-1)\/∃ (q j:Nat) (n:Nd),q < c/\g.F7[q]? = some n/\n.kind=2/\n.aH=pl/\j < n.next.length/\jh g pl c=(n.info,(j:Int))
 | 0,c,hb,_=>by
  obtain rfl:c=0:=FI;exact .inl (vS hg pl)
 | b+1,c,hb,hc=>by
  obtain⟨p,hp,h0 | ⟨q,n,rfl,hq,hn,hm⟩⟩:=hg.par hc
  ·rw[h0.1]; exact .inl (vS hg pl)
  ·obtain⟨j,hj⟩:=H9 hm;have e:=abm hg (pl:=pl) hn hj;by_cases hk:n.kind=2/\n.aH=pl
   ·rw[LH hk] at e;exact .inr ⟨q,j,n,hq,hn,hk.1,hk.2,Gn hj,e⟩
   ·rw[LG hk] at e;rcases zQ hg pl b q FI FI with h | ⟨q',j',n',h1,h2,h3,h4,h5,h6⟩
    ·exact .inl (by rw[e,h])
    ·exact .inr ⟨q',j',n',FI,h2,h3,h4,h5,by rw[e,h6]⟩
theorem kJ {g:Gm} (h:aQ g=0) (hi:i < g.F8.length):∃ n,g.F7[iO g i]? = some n/\n.kind=2/\n.info=(i:Int)/\n.aH=(g.F8.getD i default).aH/\(dK g).getD i []≠[]/\((dK g).getD i []).getD 0 0=(iO g i:Int):=by
 obtain⟨h2,h3,h4⟩:=qQ h hi;obtain⟨_,h5⟩:=dP h;have hm:=jq (gQ h).F8 hi;have hne:(dK g).getD i []≠[]:=by
   intro e;unfold kR at h5;have:nK (dK g)=true:=by
     unfold nK;exact List.any_eq_true.2 ⟨_,Gx hm,by rw[<-h2,e]; rfl⟩
   grind
 have hfo:iO g i=(((dK g).getD i []).getD 0 0).toNat:=rfl;generalize (dK g).getD i []=l at *;cases l with
 | nil=>grind
 | cons x t =>
   obtain⟨j,n,rfl,hn,hk,hin⟩:=h4 x aA;have e:iO g i=j:=by rw[hfo];simp
   grind
theorem zk {F7:List Nd} {s:Nat}:∀ {k:Nat} {x:Int},x∈dA F7 s k->(dA F7 s k).getD 0 0<=x
 | 0,x,h=>by simp[dA] at h
 | k+1,x,h=>by
  rw[xg] at h ⊢;rcases List.mem_append.1 h with h | h
  ·have h1:=zk h;cases hm:dA F7 s k with
   | nil=>rw[hm] at h; cases h
   | cons y t=>rw[hm] at h1; exact h1
  ·split at h
   ·rename_i hv
    rw[LH hv];rw[List.mem_singleton.1 h];cases hm:dA F7 s k with
    | nil=>simp
    | cons y t =>
     obtain⟨i,rfl,hi,_⟩:=tq.1 (show y∈dA F7 s k by rw[hm]; simp);simp; omega
   ·cases h
theorem aiB {g:Gm} (h:aQ g=0) {n:Nd} (hi:i < g.F8.length) (hn:g.F7[j]? = some n) (hk:n.kind=2) (hin:n.info=(i:Int)):iO g i<=j:=by
 obtain⟨h2,h3,_⟩:=qQ h hi;have h4:=(h3 j n hn hk hin).2;rw[h2] at h4;have h5:=zk h4;grind [kJ]
theorem aaG {g:Gm} (h:aQ g=0) {i:Nat}:∀ {k:Nat},i<=k->k < g.F8.length->iO g i<=iO g k
 | 0,h1,_=>by
  obtain rfl:i=0:=FI;exact Gy _
 | k+1,h1,h2=>by
  by_cases e:i=k+1
  ·subst e; exact Gy _
  ·refine He (aaG h (k:=k) FI FI) ?_;obtain⟨_,h5⟩:=dP h;have h6:fH (dK g) g.F8.length=false:=by
    unfold kR at h5;split at h5
    ·omega
    ·split at h5
     ·omega
     ·split at h5
      ·omega
      ·rename_i c; simpa using c
   unfold fH at h6;have h7:=List.any_eq_false.1 h6 (k+1) (by rw[List.mem_range'_1]; omega);unfold ku at h7;rw[Nat.add_sub_cancel] at h7;have h8:¬ ((dK g).getD (k+1) []).getD 0 0 < ((dK g).getD k []).getD 0 0:=λe=>h7 (LK e)
   unfold iO;omega
structure Ups (up:List (Int×Int)) (acts:Nat->Int):Prop where
 ok:∀ (k:Nat) (s:Int×Int),up[k]? = some s->s.1 < 0\/(0<=s.1/\s.1 < (k:Int)/\0<=s.2/\s.2 < acts s.1.toNat)
theorem zS {g:Gm} (h:aQ g=0):Ups (aU g) (λi=>(g.F8.getD i default).actions):=by
 refine⟨λk s hs=>?_⟩;have hk:k < g.F8.length:=by have:=Gn hs;rwa [aS] at this
 rw[xM hk] at hs;cases hs;have hg:=gQ h;obtain⟨n,hn,hkd,hin,hpl,_⟩:=kJ h hk;rcases zQ hg (g.F8.getD k default).aH _ (iO g k) (Gy _) (Gn hn) with e | ⟨q,j,m,h1,h2,h3,h4,h5,h6⟩
 ·grind
 ·right
  rw[h6];have hi:=hg.F8 m (Gx h2) h3;obtain⟨inf,e1,e2,_⟩:=mD h (Gx h2) h3;have hm:(m.info.toNat:Int)=m.info:=FI;refine⟨hi.1,?_,FI,?_⟩
  ·rcases Nat.lt_or_ge m.info.toNat k with h7 | h7
   ·grind
   ·exfalso
    have a1:=aaG h h7 FI;have a2:=aiB h (i:=m.info.toNat) FI h2 h3 FI;omega
  grind
structure Dw (w:GK) (N0 p:Nat) (g:Gm) (b o c:Nat) (Ai:Option Addr) (ci bp:Nat):Prop where
 hp:p < N0
 hb:b < N0
 hbp:bp < N0
 size:N0<=w.heap.size
 c0:w.cell? ⟨p,0,none⟩=some (GV GU g.aC)
 c1:w.cell? ⟨p,1,none⟩=some (Gw (some ⟨b,o,none⟩) g.F7.length c)
 c2:w.cell? ⟨p,2,none⟩=some (Gw Ai g.F8.length ci)
 c3:w.cell? ⟨p,3,none⟩=some (Gw (some ⟨bp,0,none⟩) g.F7.length g.F7.length)
 node:∀ k n,g.F7[k]? = some n->DW w (λb=>b < N0) b (o+k*6) n
 par:∀ (k:Nat) (x:Int),(dO g.F7)[k]? = some x->w.cell? ⟨bp,k,none⟩=some (GV GU x)
 info:BA w (λb=>b < N0) (Gw Ai g.F8.length ci) g.F8
theorem Below.ao9 {w w':GK} (h:Below N0 w w'):Same (λb=>b < N0) w w':=⟨h.size,λb hb _=>h.block b hb⟩
theorem Dw.below {w w':GK} {g:Gm} (h:Dw w N0 p g b o c Ai ci bp) (k:Below N0 w w'):Dw w' N0 p g b o c Ai ci bp :=
 have hs:=Below.ao9 k;have hz:=h.size;⟨h.hp,h.hb,h.hbp,He h.size k.size,(aK k _ _ h.hp).trans h.c0,(aK k _ _ h.hp).trans h.c1,(aK k _ _ h.hp).trans h.c2,(aK k _ _ h.hp).trans h.c3,
  λj n hn=>(h.node j n hn).keep (λ_ h _=>h) hs h.hb (Hz h.hb hz),λj x hx=>(aK k _ _ h.hbp).trans (h.par j x hx),h.info.on hs⟩
def akC (g:Gm) (i:Nat):Nd:=g.F7.getD i default
def tN (g:Gm) (pl:Int) (q c:Nat):List (Nat×Nat):=if (akC g q).kind=2/\(akC g q).aH=pl then [(q,(akC g q).next.idxOf (c:Int))] else []
def jT (g:Gm) (pl:Int):Nat->Nat->List (Nat×Nat)
 | 0,_=>[]
 | f+1,c=>match (dO g.F7)[c]? with
  | some p=>if 0<=p then tN g pl p.toNat c++jT g pl f p.toNat else []
  | none=>[]
def kK (g:Gm) (pl:Int) (c:Nat):List (Nat×Nat):=jT g pl g.F7.length c
theorem qH {g:Gm} (hg:Good g):∀ f,jT g pl f 0 = []
 | 0=>rfl
 | f+1=>by
  obtain⟨p,hp,h | ⟨q,n,_,h,_⟩⟩:=hg.par hg.pos
  ·rw[jT,hp]; simp only; rw[LG FI]
  ·omega
theorem qI {g:Gm} {f:Nat} (hp:(dO g.F7)[c]? = some (q:Int)):jT g pl (f+1) c=tN g pl q c++jT g pl f q:=by grind [jT]
def jJ (g:Gm) (x:Nat×Nat):Int×Int:=((akC g x.1).info,(x.2:Int))
theorem xO {g:Gm} {n:Nd} (hn:g.F7[q]? = some n):akC g q=n:=by grind [akC]
theorem abR {g:Gm} (hg:Good g) {pl:Int}:∀ (f c:Nat),c < g.F7.length->(jT g pl f c).map (jJ g)=jS g pl f c
 | 0,_,_=>rfl
 | f+1,c,hc=>by
  obtain⟨p,hp,h0 | ⟨q,n,rfl,hq,hn,hm⟩⟩:=hg.par hc
  ·rw[h0.1,qH hg,nM hg]; rfl
  ·rw[qI hp,kT hg hc hp hn,Hf,abR hg f q FI];congr 1
   unfold tN;rw[xO hn];by_cases hk:n.kind=2/\n.aH=pl
   ·have hj:n.next[n.next.idxOf (c:Int)]? = some (c:Int):=by
     have hl:=List.idxOf_lt_length_of_mem hm;rw[List.getElem?_eq_getElem hl,List.getElem_idxOf hl]
    rw[LH hk,xK hg hn hk hj];show[jJ g _]=_;unfold jJ;rw[xO hn]
   ·rw[LG hk,kS hk];rfl
theorem aiC {g:Gm} (hg:Good g) (hc:c < g.F7.length):((kK g pl c).map (jJ g)).reverse=jB g pl c:=by grind [kK,jB,abR]
theorem zT {g:Gm} (hg:Good g) {pl:Int}:∀ (f c:Nat),c < g.F7.length->∀ x∈jT g pl f c,x.1 < g.F7.length
 | 0,_,_,x,h=>by cases h
 | f+1,c,hc,x,h=>by
  obtain⟨p,hp,h0 | ⟨q,n,rfl,hq,hn,hm⟩⟩:=hg.par hc
  ·rw[h0.1,qH hg] at h; cases h
  ·rw[qI hp] at h;rcases List.mem_append.1 h with h | h
   ·unfold tN at h;split at h
    ·rw[List.mem_singleton.1 h]; exact Gn hn
    ·cases h
   ·exact zT hg f q FI x h
theorem abS {g:Gm} (hg:Good g) {pl:Int}:∀ (f c:Nat),c < g.F7.length->(jT g pl f c).length<=c
 | 0,_,_=>Hg _
 | f+1,c,hc=>by
  obtain⟨p,hp,h0 | ⟨q,n,rfl,hq,hn,hm⟩⟩:=hg.par hc
  ·rw[h0.1,qH hg]; exact Hg _
  ·have h1:=abS hg (pl:=pl) f q FI;have h2:(tN g pl q c).length<=1:=by unfold tN; split <;> simp
   rw[qI hp,G9]; omega
structure FM (N0:Nat) (fid:FuncId) (caps:Array GN) (all:List (Nat×Nat)) (J Jx:List (Nat×Nat)->GK->Prop):Prop where
 enters:∀ (args:Array GN) (w':GK),(callFunc fid args).run GI w' = .ok (.enter fid args) w'
 calls:∀ (pre:List (Nat×Nat)) (x:Nat×Nat) (W:GK),(∃ rest,pre++x :: rest=all)->J pre W->Calls GI fid (#[GV GU (x.1:Int),GV GU (x.2:Int)]++caps) W λe W'=>Below N0 W W'/\((e = .returned (G7 true)/\J (pre ++ [x]) W')\/(e = .returned (G7 false)/\Jx (pre ++ [x]) W'))
 keep:∀ (pre:List (Nat×Nat)) (W W':GK),J pre W->Below W.heap.size W W'->J pre W'
theorem aeC (w:GK) (N0 p:Nat) (g:Gm) (b o c:Nat) (Ai:Option Addr) (ci bp:Nat) (node:Nat) (pl:Int) (fid:FuncId) (caps:Array GN) (J Jx:List (Nat×Nat)->GK->Prop)
  (hw:Dw w N0 p g b o c Ai ci bp) (hgd:Good g) (hsm:Small g) (hno:node < g.F7.length) (hse:FM N0 fid caps (kK g pl node) J Jx) (h0:J [] w) :
  Calls GI 182 #[.pointer (some ⟨p,0,none⟩),GV GU (node:Int),GV GU pl,.func (.func fid) #[] caps] w λe w'=>e = .returned (.tuple #[])/\Below N0 w w'/\(J (kK g pl node) w'\/∃ pre,Jx pre w'):=by
 have hcf:=hse.enters;have HSE:=Ag hse;have HGD:=Ag hgd;have HSM:=Ag hsm;have HW:=Ag hw;have HJ0:=Ag h0;have hn100:=hsm.F7;clear hse hgd hsm h0;obtain⟨x0,hx0,aoz⟩:=HGD.o.par hno;have e0:=hw.par node x0 hx0;have c3:=hw.c3;have HX0:=Ag hx0;clear hx0 aoz hw;go_in;go_wp2_with fail
 go_loopw [1,8] (λnv av wr=>∃ (ch f:Nat) (at':Int) (pre:List (Nat×Nat)),ch < g.F7.length/\ch<=f/\nv = GV GU (ch:Int)/\av = GV GU at'/\(dO g.F7)[ch]? = some at'/\pre++jT g pl f ch=kK g pl node/\J pre wr/\Below N0 w wr) (λnv _ _=>(intOf nv).toNat)
 case atStart=>exact⟨node,g.F7.length,x0,[],hno,FI,rfl,rfl,HX0.o,rfl,HJ0.o,GR _ _⟩
 case round =>
  clear e0 c3;obtain⟨ch,f,at',pre,hch,aoy,rfl,rfl,hpar,hpre,hJ,hB⟩:=hrel;obtain⟨wa,rfl⟩:=Gp wr;have HWA:=Ag (HW.o.below hB);have CP:=Ag hpre;have HJ:=Ag hJ;have Ei:=Ag hpar;have HB:=Ag hB;clear hpre hJ hB;obtain⟨p',hp',hcase⟩:=HGD.o.par hch;rw[hpar] at hp';cases hp';clear hpar;rcases hcase with⟨rfl,rfl⟩ | ⟨q,n,rfl,hq,hn,hm⟩
  ·have HE:=Ag (show pre=kK g pl node by have:=CP.o; rwa [qH HGD.o,IV] at this);go_wp2
   go_end0
   exact⟨rfl,HB.o,.inl (by rw[<-HE.o]; exact HJ.o)⟩
  ·obtain⟨f',rfl⟩:∃ k,f=k+1:=⟨f - 1,FI⟩;have hws:=CP.o;rw[qI Ei.o] at hws;have HWS:=Ag hws;have hne:=HWA.o.node q n hn;refine zaE ?_;intro n0 n1 n2 v3 n3 h3 v4 n4 h4 v5 n5 h5;have H3:=Ag h3;obtain⟨A3,c3,rfl,_,_⟩:=h3;obtain⟨A4,c4,rfl,_,_⟩:=h4;obtain⟨A5,c5,rfl,_,_⟩:=h5;have c1:=HWA.o.c1;have hqN:=Gn hn;have HM:=Ag hm;have HN:=Ag hn;have hnx:=HSM.o.next n (Gx hn);obtain⟨xq,hxq⟩:=Gl (l:=dO g.F7) (k:=q) (by rw[gY]; exact hqN);have ep:=HWA.o.par q xq hxq;have c3':=HWA.o.c3;have HXQ:=Ag hxq;obtain⟨W1,hW1,rn,hb,hz1⟩:=dW wa 51 #[GV GU n.kind,GV GU n.aH,GV GU n.info,Gw A3 n.next.length c3,Gw A4 n.weights.length c4,Gw A5 n.pay.length c5];have hbN:Below N0 wa W1:=hb.mono HWA.o.size;have HB1:=Ag (HB.o.trans hbN);have HJ1:=Ag (HSE.o.keep _ _ _ HJ.o hb);have ep1:=ah ep hb;have c31:=ah c3' hb;have H31:=Ag (H3.o.on (GL hb _));clear hne hws hm hn hxq hz1;by_cases hk:n.kind=2/\n.aH=pl
   case neg =>
    have HE:=Ag (show pre++jT g pl f' q=kK g pl node by have:=HWS.o; unfold tN at this; rw[xO HN.o,LG hk] at this; exact this);by_cases hk2:n.kind=2
    case neg =>
     have t1:(n.kind==2)=false:=by simpa using hk2
     clear hk hk2;go_wp2_with fail
     rw[<-hW1];clear c1 c3' ep n0 n1 n2 n3 n4 n5 rn hW1;go_quiet (fail)
     go_wp2
     go_roundw
     case rel=>exact⟨q,f',xq,pre,hqN,FI,rfl,rfl,HXQ.o,by rw[show pre=pre from rfl]; exact HE.o,HSE.o.keep _ _ _ HJ1.o (aG (GR _ _) _),aG HB1.o _⟩
     case measure=>exact zMs
    have t1:(n.kind==2)=true:=by simp[hk2]
    have t2:(n.aH==pl)=false:=by simp;exact λe=>hk ⟨hk2,e⟩
    clear hk hk2;go_wp2_with fail
    rw[<-hW1];clear c1 c3' ep n0 n1 n2 n3 n4 n5 rn hW1;go_quiet (fail)
    go_wp2
    go_roundw
    case rel=>exact⟨q,f',xq,pre,hqN,FI,rfl,rfl,HXQ.o,by rw[show pre=pre from rfl]; exact HE.o,HSE.o.keep _ _ _ HJ1.o (aG (GR _ _) _),aG HB1.o _⟩
    case measure=>exact zMs
   have t1:(n.kind==2)=true:=by simp[hk.1]
   have t2:(n.aH==pl)=true:=by simp[hk.2]
   have HE:=Ag (show(pre ++ [(q,n.next.idxOf (ch:Int))])++jT g pl f' q=kK g pl node by have:=HWS.o; unfold tN at this; rw[xO HN.o,LH hk,<-IU] at this; exact this);clear hk;go_wp2_with fail
   rw[<-hW1];clear hW1;refine(aee W1 _ _ n.next (ch:Int) H31.o FI).mono ?_;rintro e w2 ⟨rfl,rfl⟩;rw[LH HM.o];dsimp only;go_wp2_with fail
   refine(HSE.o.calls pre (q,n.next.idxOf (ch:Int)) w2 ⟨jT g pl f' q,by rw[<-HE.o,IU]; rfl⟩ HJ1.o).mono ?_;have HWB:=Ag (HWA.o.below hbN);clear c1 c3' ep n0 n1 n2 n3 n4 n5 rn ep1 c31;rintro e w3 ⟨hb3,⟨rfl,hJ3⟩ | ⟨rfl,hJ3⟩⟩
   ·have HW3:=Ag (HWB.o.below hb3);have ep:=HW3.o.par q xq HXQ.o;have c3:=HW3.o.c3;have HJ3:=Ag hJ3;have HB3:=Ag (HB1.o.trans hb3);clear hJ3 hb3 hb hbN;dsimp only;go_wp2_with fail
    go_quiet (fail)
    go_wp2
    go_roundw
    case rel=>exact⟨q,f',xq,pre ++ [(q,n.next.idxOf (ch:Int))],hqN,FI,rfl,rfl,HXQ.o,HE.o,HSE.o.keep _ _ _ HJ3.o (aG (GR _ _) _),aG HB3.o _⟩
    case measure=>exact zMs
   ·have HJ3:=Ag hJ3;have HB3:=Ag (HB1.o.trans hb3);clear hJ3 hb3 hb hbN;dsimp only;go_wp2
    refine bodyPost_ret (results_none rfl _ _ _) rfl ?_;exact⟨rfl,HB3.o,.inr ⟨_,HJ3.o⟩⟩
theorem agZ (w:GK) (F:Gq) (v1 v2:GN) (l1 l2:List (Int×Int)) (h1:AA w F v1 l1) (h2:AA w F v2 l2) (hb1:l1.length<=1000000) :
  Calls GI 194 #[v1,v2] w (Ret w λv _=>v = G7 (decide (l1=l2))):=by
 have H1:=Ag h1;have H2:=Ag h2;obtain⟨A1,c1,rfl,hc1,hx1⟩:=h1;obtain⟨A2,c2,rfl,hc2,hx2⟩:=h2;have HX1:=Ag hx1;have HX2:=Ag hx2;clear hx1 hx2;by_cases q0:l1.length=l2.length
 case neg =>
  exact ZK
 refine zdK ?_;intro d0 Q0;clear q0;go_in;go_wp2
 go_loopw [13] (λi wr=>∃ k:Nat,k<=l1.length/\i = GV GU k/\l1.take k=l2.take k/\Below w.heap.size w wr) (λi _=>l1.length - (intOf i).toNat)
 case atStart=>exact⟨0,FI,rfl,aA,GR _ _⟩
 case round =>
  obtain⟨k,hk,rfl,hpre,hbel⟩:=hrel;have HP:=Ag hpre;clear hpre;by_cases hlt:k < l1.length
  ·have hk2:k < l2.length:=by have:=Q0.o;omega
   obtain⟨⟨xp,xa⟩,hr1⟩:=Gl hlt;obtain⟨⟨yp,ya⟩,hr2⟩:=Gl hk2;obtain⟨b1,o1,rfl,_,_,ame⟩:=HX1.o FI;obtain⟨b2,o2,rfl,_,_,afx⟩:=HX2.o FI;obtain⟨x0,x1⟩:=ame k _ hr1;obtain⟨y0,y1⟩:=afx k _ hr2;replace x0:=ah x0 hbel;replace x1:=ah x1 hbel;replace y0:=ah y0 hbel;replace y1:=ah y1 hbel;dsimp only at x0 x1 y0 y1;have HR1:=Ag hr1;have HR2:=Ag hr2;clear ame afx hr1 hr2;by_cases he:xp=yp/\xa=ya
   ·obtain⟨rfl,rfl⟩:=he;have heq:=λw=>nC w xp xa xp xa
    go_wp2
    go_quiet (fail)
    go_wp2
    go_roundw
    case rel=>exact⟨k+1,FI,by go_num,by rw[Gv HR1.o,Gv HR2.o,HP.o],aG hbel _⟩
    case measure=>exact zMs
   ·have HF:=Ag (show decide (l1=l2)=false by
     simp only[decide_eq_false_iff_not]; rintro rfl; have h3:=HR1.o; rw[HR2.o] at h3; cases h3; exact he ⟨rfl,rfl⟩)
    by_cases h1:xp=yp
    ·subst h1;have hne:(xa==ya)=false:=by simp;exact λh2=>he ⟨rfl,h2⟩
     clear he;have heq:=λw=>nC w xp xa xp ya
     go_wp2
     go_quiet (fail)
     exact zbV
    ·have hne:(xp==yp)=false:=by simp[h1]
     clear he h1;have heq:=λw=>nC w xp xa yp ya
     go_wp2
     go_quiet (fail)
     exact zbV
  ·go_wp2
   go_ret;refine zaI ?_;have h3:=HP.o;have h4:=Q0.o;have h5:l1=l2:=by
    exact zad
   simp[h5]
theorem aiD (w:GK) (F:Gq) (v1 v2:GN) (l1 l2:List (Int×Int)) (h1:AA w F v1 l1) (h2:AA w F v2 l2) (hb1:l1.length<=1000000) :
  Calls GI 184 #[v1,v2] w (Ret w λv _=>v = G7 (decide (l1=l2))):=by
 have H1:=Ag h1;have H2:=Ag h2;clear h1 h2;go_in;go_wp2_with fail
 refine(agZ w F v1 v2 l1 l2 H1.o H2.o hb1).mono ?_;rintro e w1 ⟨_,rfl,hb,rfl⟩;dsimp only;go_wp2
 go_ret;exact⟨_,rfl,hb,rfl⟩
def Dj (L M:List (Int×Int)) (k:Nat):Prop:=M.length=L.length/\∀ i,i < L.length->M[i]? = if i < k\/L.length<=i+k then L[L.length - 1 - i]? else L[i]?
theorem Dj.start (L:List (Int×Int)):Dj L L 0:=⟨rfl,λi hi=>by rw[LG FI]⟩
theorem Dj.done {L M:List (Int×Int)} (h:Dj L M k) (hk:L.length<=2*k+1):M=L.reverse:=by
 refine IW λi=>?_
 by_cases hi:i < L.length
 ·rw[h.2 i hi,List.getElem?_reverse hi];grind
 ·rw[Ij (by rw[h.1]; omega),Ij (by rw[JZ]; omega)]
theorem Dj.step {L M:List (Int×Int)} {x y:Int×Int} (h:Dj L M k) (hk:2*k+1 < L.length) (hx:M[k]? = some x) (hy:M[L.length - 1 - k]? = some y):Dj L ((M.set k y).set (L.length - 1 - k) x) (k+1):=by
 refine⟨by rw[Hy,Hy,h.1],λi hi=>?_⟩;have e1:=h.2 k FI;rw[LG FI,hx] at e1;have e2:=h.2 (L.length - 1 - k) FI;rw[LG FI,hy] at e2;by_cases h1:i=L.length - 1 - k
 ·grind
 ·rw[G6 (Ne.symm h1)];by_cases h2:i=k
  ·grind
  ·rw[G6 (Ne.symm h2),h.2 i hi];grind
def qw (L:List (Int×Int)):List GN:=L.flatMap kH.cells
theorem yH {L:List (Int×Int)} {rest:List GN} {x:Int×Int} (h:L[i]? = some x):(qw L++rest)[i*2]? = some (GV GU x.1)/\(qw L++rest)[i*2+1]? = some (GV GU x.2):=by
 induction L generalizing i with
 | nil=>simp at h
 | cons y L ih =>
  cases i with
  | zero=>simp at h; subst h; exact⟨rfl,rfl⟩
  | succ i =>
   have:=ih (i:=i) (by simpa using h);rw[show(i+1)*2=i*2+1+1 by omega];exact this
theorem abn {L:List (Int×Int)} {rest:List GN} (h:i < L.length) (x:Int×Int):((qw L++rest).set (i*2) (GV GU x.1)).set (i*2+1) (GV GU x.2)=qw (L.set i x)++rest:=by
 induction L generalizing i with
 | nil=>simp at h
 | cons y L ih =>
  cases i with
  | zero=>rfl
  | succ i =>
   have:=ih (i:=i) (by simpa using h);rw[show(i+1)*2=i*2+1+1 by omega];show _ :: _ :: ((qw L++rest).set (i*2) _).set (i*2+1) _=_ :: _ :: (qw (L.set i x)++rest);rw[this]
theorem ag0 (w:GK) (g cap:Nat) (L:List (Int×Int)) (rest:List GN) (hr:Row w g 92 (qw L++rest)) (hl:L.length<=100000) (hc:L.length<=cap) :
  Calls GI 193 #[Gw (some ⟨g,0,none⟩) L.length cap] w λe w'=>e = .returned (.tuple #[])/\Row w' g 92 (qw L.reverse++rest)/\Wrote (λb=>b=g) w w':=by
 obtain⟨n,hn⟩:=Gp L.length;rw[<-hn] at hl hc ⊢;have HN:=Ag hn;have HR:=Ag hr;have hw0:IntKind.i64.wrap ((n:Int) - 1)=(n:Int) - 1:=IY _ FI;clear hn hr;go_in;go_wp2_with fail
 go_loopw [2,3] (λiv jv wr=>∃ (k:Nat) (jz:Int) (M:List (Int×Int)),k<=n/\iv = GV GU (k:Int)/\jv = GV GU jz/\jz=(n:Int) - 1 - k/\Dj L M k/\Row wr g 92 (qw M++rest)/\Wrote (λb=>b=g) w wr) (λiv _ _=>n - (intOf iv).toNat)
 case atStart=>exact⟨0,(n:Int) - 1,L,Hg _,rfl,rfl,FI,Dj.start L,HR.o,Ir _ _⟩
 case round =>
  obtain⟨k,jz,M,hk,rfl,rfl,hjz,hrev,hrow,hwr⟩:=hrel;clear hw0 HR;have HV:=Ag hrev;have HW:=Ag hwr;clear hrev hwr;by_cases hlt:2*k+1 < n
  ·obtain⟨j,hj⟩:∃ j:Nat,j=n - 1 - k:=⟨_,rfl⟩;obtain rfl:jz=(j:Int):=FI;have hMl:M.length=n:=by rw[HV.o.1];exact HN.o.symm
   obtain⟨x,hx⟩:=Gl (l:=M) (k:=k) FI;obtain⟨y,hy⟩:=Gl (l:=M) (k:=j) FI;obtain⟨a0,a1⟩:=yH (rest:=rest) hx;obtain⟨b0,b1⟩:=yH (rest:=rest) hy;have x0:=hrow.cell a0;have x1:=hrow.cell a1;have y0:=hrow.cell b0;have y1:=hrow.cell b1;have f0:=hrow.frozen (k*2);have f1:=hrow.frozen (k*2+1);have g0:=hrow.frozen (j*2);have g1:=hrow.frozen (j*2+1);have HX:=Ag hx;have HY:=Ag hy;have AV:=Ag hrow;have HML:=Ag hMl;have HJ:=Ag hj;have t0:decide (k < j)=true:=LK FI;have hjn:j < n:=FI;have hkn:k < n:=FI;have hne:k≠j:=FI;have hwj:IntKind.i64.wrap ((j:Int) - 1)=(j:Int) - 1:=IY _ FI;clear hx hy a0 a1 b0 b1 hrow hMl hj hjz;go_wp2_with fail
   go_region
   go_wp2
   go_roundw
   case rel =>
    have hj:=HJ.o;have hML:=HML.o;have hLn:=HN.o;have hr:=((((AV.o.set (k*2) (GV GU y.1)).set (k*2+1) (GV GU y.2)).set (j*2) (GV GU x.1)).set (j*2+1) (GV GU x.2)).drew;rw[abn FI y,abn (by rw[Hy]; omega) x] at hr;refine⟨k+1,(j:Int) - 1,(M.set k y).set j x,FI,by go_num,rfl,FI,?_,hr,((((HW.o.setCell (p:=⟨g,k*2,none⟩) (.inl rfl) _).setCell (p:=⟨g,k*2+1,none⟩) (.inl rfl) _).setCell (p:=⟨g,j*2,none⟩) (.inl rfl) _).setCell (p:=⟨g,j*2+1,none⟩) (.inl rfl) _).drew⟩;have h5:=HV.o.step (by rw[<-hLn]; omega) HX.o (by rw[<-hLn,<-hj]; exact HY.o);rwa [<-hLn,<-hj] at h5
   case measure=>exact zMs
  ·have t0:decide ((k:Int) < jz)=false:=LJ FI;have HD:=Ag (HV.o.done (by rw[<-HN.o]; omega));go_wp2
   go_end0
   exact⟨rfl,by rw[<-HD.o]; exact hrow,HW.o⟩
def Dx (cs:List GN) (N:Nat) (T:Nat->Nat->Int×Int):Prop:=cs.length=N*8/\∀ c p,c < N->p < 4->cs[c*8+p*2]? = some (GV GU (T c p).1)/\cs[c*8+p*2+1]? = some (GV GU (T c p).2)
theorem Dx.zero (N:Nat):Dx (GX (N*8) (GV GU 0)) N (λ_ _=>(0,0)) :=
 ⟨aA,λc p hc hp=>⟨by rw[I4,LH FI],by rw[I4,LH FI]⟩⟩
def ac7 (T:Nat->Nat->Int×Int) (d q:Nat) (x:Int×Int):Nat->Nat->Int×Int:=λc p=>if c=d/\p=q then x else T c p
def ag1 (T:Nat->Nat->Int×Int) (d s:Nat):Nat->Nat->Int×Int:=λc p=>if c=d then T s p else T c p
theorem Dx.put {cs:List GN} {T:Nat->Nat->Int×Int} (h:Dx cs N T) (hd:d < N) (hq:q < 4) (x:Int×Int):Dx ((cs.set (d*8+q*2) (GV GU x.1)).set (d*8+q*2+1) (GV GU x.2)) N (ac7 T d q x):=by
 refine⟨by simp[h.1],λc p hc hp=>?_⟩;obtain⟨h1,h2⟩:=h.2 c p hc hp;grind [ac7]
def set8 (cs:List GN) (d:Nat) (a b c e:Int×Int):List GN :=
 (((((((cs.set (d*8) (GV GU a.1)).set (d*8+1) (GV GU a.2)).set (d*8+2) (GV GU b.1)).set (d*8+3) (GV GU b.2)).set (d*8+4) (GV GU c.1)).set (d*8+5) (GV GU c.2)).set (d*8+6) (GV GU e.1)).set (d*8+7) (GV GU e.2)
theorem Dx.copy {cs:List GN} {T:Nat->Nat->Int×Int} (h:Dx cs N T) (hd:d < N):Dx (set8 cs d (T s 0) (T s 1) (T s 2) (T s 3)) N (ag1 T d s):=by
 have h0:=((((h.put hd (q:=0) FI (T s 0)).put hd (q:=1) FI (T s 1)).put hd (q:=2) FI (T s 2)).put hd (q:=3) FI (T s 3));have e:ac7 (ac7 (ac7 (ac7 T d 0 (T s 0)) d 1 (T s 1)) d 2 (T s 2)) d 3 (T s 3)=λc p=>if c=d/\p < 4 then T s p else T c p:=by grind [ac7]
 rw[e] at h0;refine⟨h0.1,λc p hc hp=>?_⟩;have h5:=h0.2 c p hc hp;dsimp only at h5;unfold ag1;by_cases hcd:c=d
 ·rw[LH ⟨hcd,hp⟩] at h5;rw[LH hcd];exact h5
 ·rw[LG FI] at h5;rw[LG hcd];exact h5
def Dc (g:Gm) (i j:Nat) (T:Nat->Nat->Int×Int):Prop:=∀ c,c < g.F7.length->(c=0\/(∃ (q:Nat) (n:Nd),q < i/\g.F7[q]? = some n/\(c:Int)∈n.next)\/(∃ (n:Nd) (k:Nat),g.F7[i]? = some n/\k < j/\n.next[k]? = some (c:Int)))->∀ p:Nat,p < 4->T c p=jh g p c
theorem Dc.start {g:Gm} (hg:Good g) {T:Nat->Nat->Int×Int} (h:∀ p,p < 4->T 0 p=(-1,-1)):Dc g 0 0 T:=by
 intro c hc hq p hp;grind [vS]
theorem Dc.next {g:Gm} {n:Nd} {T:Nat->Nat->Int×Int} (h:Dc g i n.next.length T) (hn:g.F7[i]? = some n):Dc g (i+1) 0 T:=by
 intro c hc hq p hp;refine h c hc ?_ p hp;grind [H9]
theorem Dc.done {g:Gm} (hg:Good g) {T:Nat->Nat->Int×Int} (h:Dc g g.F7.length 0 T) (hc:c < g.F7.length) (hp:p < 4):T c p=jh g p c:=by
 refine h c hc ?_ p hp;by_cases h0:c=0
 ·exact .inl h0
 ·obtain⟨q,n,h1,h2,h3⟩:=lX hg FI hc;grind
theorem Dc.self {g:Gm} (hg:Good g) {T:Nat->Nat->Int×Int} (h:Dc g i j T) (hi:i < g.F7.length) (hp:p < 4):T i p=jh g p i:=by
 refine h i hi ?_ p hp;by_cases h0:i=0
 ·exact .inl h0
 ·obtain⟨q,n,h1,h2,h3⟩:=lX hg FI hi;grind
theorem Dc.kid {g:Gm} (hg:Good g) {n:Nd} {T T':Nat->Nat->Int×Int} (h:Dc g i j T) (hn:g.F7[i]? = some n) (hd:n.next[j]? = some (d:Int))
  (h1:∀ c p,c≠d->T' c p=T c p) (h2:∀ p:Nat,p < 4->T' d p=if n.kind=2/\n.aH=(p:Int) then (n.info,(j:Int)) else T i p):Dc g i (j+1) T':=by
 intro c hc hq p hp;by_cases e:c=d
 ·subst e;rw[h2 p hp,abm hg hn hd,h.self hg (Gn hn) hp]
 ·rw[h1 c p e];refine h c hc ?_ p hp;grind
def nD (g:Gm) (s m:Nat):Option Nat:=(List.range' m (g.F7.length - m)).find? (mv g.F7 s)
theorem adZ (g:Gm) (s:Nat):nD g s g.F7.length=none:=by grind [nD]
theorem xP (g:Gm) (s m:Nat) (hm:m < g.F7.length):nD g s m=if mv g.F7 s m then some m else nD g s (m+1):=by
 unfold nD;rw[show g.F7.length - m=(g.F7.length - (m+1))+1 by omega,List.range'_succ,List.find?_cons];grind
theorem ac8 {g:Gm} (h:aQ g=0) (hs:s < g.F8.length):nD g s 0=some (iO g s):=by
 obtain⟨h2,_,_⟩:=qQ h hs;obtain⟨_,_,_,_,_,hne,h6⟩:=kJ h hs;rw[h2] at hne h6;unfold nD;rw[Nat.sub_zero,<-List.range_eq_range',<-List.head?_filter];unfold dA at hne h6;cases hl:(Ig g.F7.length).filter (mv g.F7 s) with
 | nil=>grind
 | cons x t =>
   rw[hl] at h6;have h7:((x:Nat):Int)=(iO g s:Int):=h6;show some x=_;congr 1;omega
def CJ (g:Gm) (m:Nat) (O:List (Int×Int)):Prop:=O.length=g.F8.length/\∀ s,s < g.F8.length->O[s]? = some (match nD g s m with | some c=>jh g (g.F8.getD s default).aH c | none=>(0,0))
theorem CJ.start (g:Gm):CJ g g.F7.length (GX g.F8.length (0,0)) :=
 ⟨aA,λs hs=>by rw[adZ,I4,LH hs]⟩
theorem CJ.skip {g:Gm} {n:Nd} {O:List (Int×Int)} (h:CJ g (m+1) O) (hn:g.F7[m]? = some n) (hk:n.kind≠2):CJ g m O:=by
 refine⟨h.1,λs hs=>?_⟩;have:mv g.F7 s m=false:=by unfold mv;rw[hn];simp[hk]
 rw[xP g s m (Gn hn),this];exact h.2 s hs
theorem CJ.put {g:Gm} {n:Nd} {O:List (Int×Int)} (h:CJ g (m+1) O) (hn:g.F7[m]? = some n) (hk:n.kind=2) (hs:n.info=(s:Int)) (hsl:s < g.F8.length) (x:Int×Int) (hx:x=jh g (g.F8.getD s default).aH m):CJ g m (O.set s x):=by
 refine⟨by rw[Hy]; exact h.1,λs' hs'=>?_⟩;rw[xP g s' m (Gn hn)];by_cases e:s'=s
 ·subst e;have:mv g.F7 s' m=true:=by unfold mv;rw[hn];simp[hk,hs]
  rw[this,Hq (by rw[h.1]; exact hsl),LH rfl,hx]
 ·have:mv g.F7 s' m=false:=by unfold mv;rw[hn];simp[hk,hs];exact Ne.symm e
  rw[this,G6 (Ne.symm e)];exact h.2 s' hs'
theorem CJ.done {g:Gm} (hf:aQ g=0) {O:List (Int×Int)} (h:CJ g 0 O):O=aU g:=by
 refine IW λi=>?_
 by_cases hi:i < g.F8.length
 ·rw[h.2 i hi,ac8 hf hi,xM hi]
 ·rw[Ij (by rw[h.1]; omega),Ij (by rw[aS]; omega)]
def lN (g:Gm) (k:Nat):Bool:=(Ig k).all λp=>aaE g (p:Int)
theorem vT (g:Gm) (k:Nat):lN g (k+1)=(lN g k&&aaE g (k:Int)):=by grind [lN]
theorem zl {g:Gm} (h:lN g k=false) (hm:k<=m):lN g m=false:=by induction m <;> grind [vT]
def lH (g:Gm):Int:=if lN g g.aC.toNat then 0 else 13
def jy (g:Gm):List (Int×Int):=if lN g g.aC.toNat then aU g else []
theorem OwnSl.anE {w:GK} {v:GN} {L:List (Int×Int)} (h:OwnSl kH w base et F v L):(v = Gw none 0 0/\L = [])\/∃ g cap rest,v = Gw (some ⟨g,0,none⟩) L.length cap/\base<=g/\L.length<=cap/\Row w g et (qw L++rest):=by
 rcases h.row.2 with⟨rfl,h0⟩ | ⟨g,cap,cur,rfl,hb,hg,hnc,_,hsz,ht⟩
 ·grind
 ·refine .inr ⟨g,cap,cur.toList.drop (L.length*kH.n),rfl,hb,hnc,?_⟩;unfold Row qw;rw[hg,<-ht,List.take_append_drop]
theorem Row.pairs {w:GK} {g:Nat} {L:List (Int×Int)} {rest:List GN} (h:Row w g et (qw L++rest)) (hG:G g) (hc:L.length<=c):AA w G (Gw (some ⟨g,0,none⟩) L.length c) L :=
 ⟨_,c,rfl,hc,λ_=>⟨g,0,rfl,hG,h.lt,λk x hk=>by
  obtain⟨h1,h2⟩:=yH (rest:=rest) hk;exact⟨by rw[I5]; exact h.cell h1,by rw[I5]; exact h.cell h2⟩⟩⟩
structure Ea (w0:GK) (N0 p:Nat) (g:Gm) (b o c:Nat) (Ai:Option Addr) (ci bp:Nat) (pre:List (Nat×Nat)) (W:GK):Prop where
 wk:Dw W N0 p g b o c Ai ci bp
 low:N0<=w0.heap.size
 box:W.cell? ⟨w0.heap.size,0,none⟩=some (.pointer (some ⟨p,0,none⟩))
 o:∃ ov,Row W (w0.heap.size+1) 159 [ov]/\OwnSl kH W (w0.heap.size+2) 92 (λ_=>False) ov (pre.map (jJ g))
 bel:Below w0.heap.size w0 W
theorem Ea.below {w0 W W':GK} {g:Gm} {pre:List (Nat×Nat)} (h:Ea w0 N0 p g b o c Ai ci bp pre W) (k:Below W.heap.size W W'):Ea w0 N0 p g b o c Ai ci bp pre W':=by
 obtain⟨ov,h1,h2⟩:=h.o;exact⟨h.wk.below (k.mono h.wk.size),h.low,ah h.box k,⟨ov,h1.below k h1.lt,h2.below k⟩,h.bel.trans (k.mono h.bel.size)⟩
theorem ami (w0 W:GK) (N0 p:Nat) (g:Gm) (b o c:Nat) (Ai:Option Addr) (ci bp:Nat) (pre:List (Nat×Nat)) (x:Nat×Nat) (n:Nd) (hn:g.F7[x.1]? = some n) (hp:pre.length<=1000) (hJ:Ea w0 N0 p g b o c Ai ci bp pre W) :
  Calls GI 192 #[GV GU (x.1:Int),GV GU (x.2:Int),.pointer (some ⟨w0.heap.size+1,0,none⟩),.pointer (some ⟨w0.heap.size,0,none⟩)] W λe W'=>Below N0 W W'/\(e = .returned (G7 true)/\Ea w0 N0 p g b o c Ai ci bp (pre ++ [x]) W'):=by
 have HJ:=Ag hJ;obtain⟨k,a⟩:=x;have hk:=Gn hn;have c1:=hJ.wk.c1;have n2:=(hJ.wk.node k n hn).c2;have hbx:=hJ.box;obtain⟨ov,hrow,hown⟩:=hJ.o;have hcu:=hrow.cell (i:=0) rfl;have hcf:=hrow.frozen 0;have HO:=Ag hown;have HN:=Ag hn;have hz:=hJ.bel.size;have hlow:=hJ.low;have hlt:=hrow.lt;have HUB:=Ag (λb (e:ov.ownBlock=some b)=>HO.o.row.lt b e);clear hown hJ hn;dsimp only at n2 hk;go_in;go_wp2_with fail
 refine aP (λw'=>w'.cell? ⟨w0.heap.size+1,0,none⟩=some ov/\w'.cell? ⟨w0.heap.size,0,none⟩=some (.pointer (some ⟨p,0,none⟩))/\w'.cell? ⟨p,1,none⟩=some (Gw (some ⟨b,o,none⟩) g.F7.length c)/\w'.cell? ⟨b,o+k*6+2,none⟩=some (GV GU n.info)) 14 1 aj rfl aj ⟨hcu,hbx,c1,n2⟩ λhHeld=>?_
 refine Zo ?_;refine Yx ?_;intro hb;obtain⟨wn,hwn⟩:=Gp W.drew;rw[<-hwn] at hb hHeld ⊢;replace HO:=Ag (HO.o.below hb);replace HJ:=Ag (HJ.o.below hb);replace hrow:=hrow.below hb hrow.lt;have hB0:=hb.mono (show N0<=W.heap.size by omega);have hz2:=hb.size;obtain⟨hcu,hbx,c1,n2⟩:=id hHeld;clear hb hwn;refine tkm [0,1,2,3,4,5,6,7,8,9,10,11] ?_;refine tk2 12 aj rfl λK hK=>?_
 go_simp;refine hK.out _ _ ⟨ah hcu ((GR _ _).alloc (Gy _) _),ah hbx ((GR _ _).alloc (Gy _) _),ah c1 ((GR _ _).alloc (Gy _) _),ah n2 ((GR _ _).alloc (Gy _) _)⟩ (λhHeld=>?_);clear hK K;refine Zb ?_;refine tk2 13 aj rfl λK hK=>?_
 refine mQ (K:=kH) (F:=λ_=>False) rfl _ _ 159 92 16 _ Tryz.underlying159 Tryz.infoPair rfl au rfl (w0.heap.size+2) (by omega:w0.heap.size+2<=wn.heap.size) ov (pre.map (jJ g)) rfl (n.info,(a:Int)) _ rfl (by rw[Gz]; omega) rfl HO.o trivial (GR _ _) ?_;intro gg cap w5 hown5 oh adX jr;have xu:Row w5 (w0.heap.size+1) _ _:=hrow.of_block (jr.2 _ (λe=>by have:=(HUB.o _ e).1; omega) hrow.lt);have hpN:=HJ.o.wk.hp;have hbN:=HJ.o.wk.hb;have hne:∀ blk,blk < w0.heap.size+2->ov.ownBlock≠some blk:=λblk h e=>by have:=(HUB.o _ e).1;omega
 have aix:=xu.cell (i:=0) rfl; have aow:=xu.frozen 0;have hbx5:=(Hu (jr.2 w0.heap.size (hne _ FI) (Hl _ _ hbx))).trans hbx;have c15:=(Hu (jr.2 p (hne _ FI) (Hl _ _ c1))).trans c1;have n25:=(Hu (jr.2 b (hne _ FI) (Hl _ _ n2))).trans n2;have hB5:Below N0 wn w5:=oh.mono FI;have HB5:=Ag (hB0.trans hB5);have HJ5:=Ag (show ∀ W6,W6=w5.setCell ⟨w0.heap.size+1,0,none⟩ (Gw (some ⟨gg,0,none⟩) ((pre.map (jJ g)).length+1) cap)->Below N0 w5 W6/\Ea w0 N0 p g b o c Ai ci bp (pre ++ [(k,a)]) W6 from by
  rintro W6 rfl;have hb6:Below w0.heap.size w5 (w5.setCell ⟨w0.heap.size+1,0,none⟩ (Gw (some ⟨gg,0,none⟩) ((pre.map (jJ g)).length+1) cap)):=(GR _ _).setCell (p:=⟨w0.heap.size+1,0,none⟩) aA _;have e:(pre ++ [(k,a)]).map (jJ g)=pre.map (jJ g) ++ [(n.info,(a:Int))]:=by
   rw[Hf];show _ ++ [jJ g (k,a)]=_;unfold jJ;rw[xO HN.o]
  refine⟨hb6.mono hlow,(HJ.o.wk.below hB5).below (hb6.mono hlow),hlow,(aK (((GR (w0.heap.size+1) w5).setCell (p:=⟨w0.heap.size+1,0,none⟩) (Gy _) _)) _ _ FI).trans hbx5,⟨_,xu.set 0 _,?_⟩,(HJ.o.bel.trans (oh.mono FI)).trans hb6⟩;rw[e];exact hown5.same (J5 _ w5 (p:=⟨w0.heap.size+1,0,none⟩) (λh=>h.elim id λh=>by have h:w0.heap.size+2<=w0.heap.size+1:=h; omega) _))
 clear hown5 oh adX jr hcu hbx c1 n2 hrow xu hB5 hB0;refine hK.out _ _ ⟨aix,hbx5,c15,n25⟩ (λhHeld=>?_);clear hK K;refine Zb ?_;refine Zp ?_;clear hHeld;go_wp2
 unfold AY;refine Z4 ?_;go_wp2
 go_ret;obtain⟨h1,h2⟩:=HJ5.o _ (by rw[Gz]);exact⟨HB5.o.trans h1,rfl,h2⟩
theorem reverse_nil (w:GK):Calls GI 193 #[Gw none 0 0] w λe w'=>e = .returned (.tuple #[])/\w'=w:=by
 have hw0:IntKind.i64.wrap ((0:Int) - 1) = -1:=by rfl
 go_in;go_wp2_with fail
 go_loopw [2,3] (λiv jv wr=>iv = GV GU 0/\jv = GV GU (-1)/\wr=w) (λ_ _ _=>0)
 case atStart=>exact⟨rfl,rfl,rfl⟩
 case round =>
  obtain⟨rfl,rfl,rfl⟩:=hrel;go_wp2
  go_end0
  exact⟨rfl,rfl⟩
theorem ag2 (w:GK) (N0 p:Nat) (g:Gm) (b o c:Nat) (Ai:Option Addr) (ci bp:Nat) (node:Nat) (pl:Int) (hw:Dw w N0 p g b o c Ai ci bp) (hgd:Good g) (hsm:Small g) (hno:node < g.F7.length) :
  Calls GI 181 #[.pointer (some ⟨p,0,none⟩),GV GU (node:Int),GV GU pl] w (Ret w λu w'=>AA w' (λb=>w.heap.size<=b) u (jB g pl node)):=by
 refine Z9 ?_;intro hmf;have HW:=Ag hw;have HGD:=Ag hgd;have HSM:=Ag hsm;have hn100:=hsm.F7;have HWL:=Ag (aiC hgd (pl:=pl) hno);have HLN:=Ag (show(kK g pl node).length<=1000 from by have:=abS hgd (pl:=pl) g.F7.length node hno; unfold kK; omega);clear hw hgd hsm;go_in;go_wp2_with fail
 generalize hW:G5 _ _=W;obtain⟨rx,ry,hB,hz⟩:=gW hW;clear hW;have HJ0:=Ag (show Ea w N0 p g b o c Ai ci bp [] W from⟨HW.o.below (hB.mono HW.o.size),HW.o.size,rx.cell (i:=0) rfl,⟨_,ry,OwnSl.nil _ _ _ _ _⟩,hB⟩);have HSE:=Ag (show FM N0 192 #[.pointer (some ⟨w.heap.size+1,0,none⟩),.pointer (some ⟨w.heap.size,0,none⟩)] (kK g pl node) (Ea w N0 p g b o c Ai ci bp) (λ_ _=>False) from
  ⟨enters Tryz.func192 (by decide +kernel) (by decide +kernel),λpre x W ⟨rest,he⟩ hJ=>by
   have hx:x∈kK g pl node:=by rw[<-he];simp
   obtain⟨n,hn⟩:=Gl (zT HGD.o _ _ hno x hx);have hl:pre.length<=1000:=by have h1:=HLN.o;rw[<-he,G9] at h1;omega
   exact(ami w W N0 p g b o c Ai ci bp pre x n hn hl hJ).mono λe W' h=>⟨h.1,.inl h.2⟩,
  λpre W W' h k=>h.below k⟩)
 have hw1:=HW.o.below (hB.mono HW.o.size);clear rx ry hz;refine(aeC W N0 p g b o c Ai ci bp node pl _ _ _ _ hw1 HGD.o HSM.o hno HSE.o HJ0.o).mono ?_;rintro e w1 ⟨rfl,hb1,hJ | ⟨pre,h⟩⟩
 case inr=>exact h.elim
 obtain⟨ov,hrow,hown⟩:=hJ.o;have hbel:=hJ.bel;have hL:((kK g pl node).map (jJ g)).reverse=jB g pl node:=HWL.o;have hln:((kK g pl node).map (jJ g)).length<=1000:=by rw[Gz];exact HLN.o
 generalize (kK g pl node).map (jJ g)=L at hown hL hln;clear hJ HJ0 HSE HWL HLN hw1 hb1 hB;have hc:=hrow.cell (i:=0) rfl;dsimp only;rcases hown.anE with⟨rfl,rfl⟩ | ⟨gb,cap,rest,rfl,hgb,hcap,hr⟩
 ·clear hown;go_wp2_with fail
  refine(reverse_nil w1).mono ?_;rintro e w2 ⟨rfl,rfl⟩;dsimp only;go_wp2
  go_ret;exact⟨_,rfl,hbel,by rw[<-hL]; exact AA.nil _ _⟩
 ·have HR:=Ag hr;have HL:=Ag hL;have AV:=Ag hrow;clear hown hr hL hrow;go_wp2_with fail
  refine(ag0 w1 gb cap L rest HR.o FI hcap).mono ?_;rintro e w2 ⟨rfl,hr2,hw2⟩;have hc2:=(AV.o.wrote hw2 FI).cell (i:=0) rfl;have HB2:=Ag (Ht hbel hw2 (λb hb=>by omega) hbel.size);have HR2:=Ag hr2;clear hw2 hr2 hc;dsimp only;go_wp2
  go_ret;refine⟨_,rfl,HB2.o,?_⟩;have h5:=HR2.o.pairs (G:=λb=>w.heap.size<=b) FI (c:=cap) (by rw[JZ]; exact hcap);rw[JZ,HL.o] at h5;exact h5
theorem ag3 (w:GK) (N0 p:Nat) (g:Gm) (b o c:Nat) (Ai:Option Addr) (ci bp:Nat) (hw:Dw w N0 p g b o c Ai ci bp) (hsm:Small g) (hin:BO g) :
  Calls GI 164 #[.pointer (some ⟨p,0,none⟩)] w (Ret w λv w'=>BL w' (λb=>w.heap.size<=b) v (dK g)):=by
 have HN:=Ag hw.node;have c1:=hw.c1;have c2:=hw.c2;have hn:=hsm.F7;have hni:=hsm.F8;have HIN:=Ag hin;clear hin;have hbw:b < w.heap.size:=Hz hw.hb hw.size;have hpw:p < w.heap.size:=Hz hw.hp hw.size;clear hw;go_in;go_wp2_with (at_make; refine fG _ rfl _ _ 157 rfl 49 (Gw none 0 0) 24 Tryz.underlying157 Tryz.infoInts rfl g.F8.length rfl rfl FI FI ?_; intro w1 hb1 hz1 hrow1; have c1':=ah c1 hb1)
 go_loopw [19] (λi wr=>∃ (k:Nat) (vs:List GN),k<=g.F7.length/\i = GV GU k/\Row wr w.heap.size 49 vs/\OwnRows wr (w.heap.size+1) 3 vs (ig g.F7 g.F8.length k)/\Below w.heap.size w wr) (λi _=>g.F7.length - (intOf i).toNat)
 case atStart=>exact⟨0,_,FI,rfl,hrow1,OwnRows.start _ _ _ _,hb1⟩
 case round =>
  obtain⟨k,vs,hk,rfl,hrow,hown,hbel⟩:=hrel;clear c1' hrow1 hb1 hz1;by_cases hlt:k < g.F7.length
  ·obtain⟨n,hn'⟩:=Gl hlt;obtain⟨e0,e1,e2,⟨v3,e3,A3,c3,rfl,hc3,i3⟩,⟨v4,e4,A4,c4,rfl,hc4,i4⟩,⟨v5,e5,A5,c5,rfl,hc5,i5⟩⟩:=HN.o k n hn';clear i3 i4 i5;have HX:=Ag hn';clear hn';have hold:=aK hbel;have hlr:=hrow.lt;by_cases hkd:n.kind=2
   ·refine zcN ?_;clear hkd;intro hin0 hin1 hd HKD l hl v hv;have hll:=zy l (Gx hl);have HO:=Ag (hown.own _ v l hv hl);have HL:=Ag hl;clear hl;have HV:=Ag hv;clear hv;go_wp2
    refine zb1 ?_;intro W hW;have cx:W.cell? ⟨wr.heap.size,2,none⟩=some (GV GU n.info):=by rw[hW];simp
    have hWz:W.heap.size=wr.heap.size+1:=by rw[hW];simp
    have hWo:OwnRows W (w.heap.size+1) 3 vs (ig g.F7 g.F8.length k):=by rw[hW];exact hown.alloc _
    have hWw:Row W w.heap.size 49 vs:=by rw[hW];exact hrow.alloc _
    have hWb:Below w.heap.size w W:=by rw[hW];exact hbel.alloc hbel.size _
    have rv:=hWw.cell HV.o;have fv:=hWw.frozen n.info.toNat;have HOW:=Ag (hWo.own _ v l HV.o HL.o);have hWlt:wr.heap.size < W.heap.size:=FI;have HHW:=Ag hWz;have hWle:w.heap.size+1 < W.heap.size:=FI;clear hW hWz hrow hown hbel hold e0 e1 e2 e3 e4 e5 hlr;have HWR:=Ag (Iu hWw (Iu hWo hWb));clear hWw hWo hWb;refine agb (λw'=>w'.cell? ⟨wr.heap.size,2,none⟩=some (GV GU n.info)/\w'.cell? ⟨w.heap.size,n.info.toNat,none⟩=some v) 11 aj rfl rfl aj aj aj aj ⟨cx,rv⟩ ?_;have hHeld:(λw':GK=>w'.cell? ⟨wr.heap.size,2,none⟩=some (GV GU n.info)/\w'.cell? ⟨w.heap.size,n.info.toNat,none⟩=some v) W.drew:=⟨cx,rv⟩;refine Zo ?_;refine tkm [0,1,2,3,4,5,6,7,8] ?_;refine tk2 9 aj rfl λK hK=>?_
    go_simp;refine hK.out _ _ ⟨by rw[World.cell?_drew,Lm _ _ _ aB]; exact cx,by rw[World.cell?_drew,Lm _ _ _ aB]; exact rv⟩ (λhHeld=>?_);clear hK K;refine zaN ?_;refine tk2 10 aj rfl λK hK=>?_
    refine aaj (by rfl) _ _ (by rfl) (w.heap.size+1) v l (by rfl) (HOW.o.alloc _) W.heap.size k (by rfl) (heap_alloc_new W _) FI aB ?_;intro gg cap w1 hown1 hgrow hat hlt1;have hnb:∀ b,v.ownBlock=some b->w.heap.size+1<=b:=λb hb=>(HOW.o.lt b hb).1
    have hHG:∀ b,b < w.heap.size+1->w1.heap[b]? = W.heap[b]?:=λb hb=>by
     exact zdT
    obtain⟨hWw,hWo,hWb⟩:=HWR.o;have k2:Row w1 w.heap.size _ _:=hWw.of_block (hHG _ FI);refine zcA ?_;intro k3 k4 rv1 fv1;have KK:=Ag (Iu k2 (Iu k3 k4));refine hK.out _ _ ⟨?_,rv1⟩ (λhHeld=>?_)
    ·refine zdq ?_;exact cx
    clear hK K k2 k3 k4 hWw hWo hWb hHG hgrow hown1 hat cx rv fv;refine zaN ?_;refine Z8 ?_;refine zdr ?_;go_wp2
    refine zdr ?_;go_wp2
    go_roundw
    case rel =>
     obtain⟨k2,k3,k4⟩:=KK.o;refine⟨k+1,_,FI,by go_num,k2.set _ _,?_,k4.setCell aA _⟩;rw[abB HX.o HKD.o HL.o];exact k3.setCell aA _
    case measure=>exact zMs
   ·have hd:(n.kind==2)=false:=by simp[hkd]
    have HKD:=Ag hkd;clear hkd;go_wp2
    go_roundw
    case rel =>
     refine⟨k+1,vs,FI,by go_num,hrow.alloc _,?_,hbel.alloc hbel.size _⟩;rw[abC HX.o HKD.o];exact hown.alloc _
    case measure=>exact zMs
  ·go_wp2
   go_ret;refine zaI ?_;have hke:k=g.F7.length:=FI;subst hke;exact zb9
theorem ac9 (W:GK) (bq:Nat) (b0:Bool) (k a b c:Int) (hq:Row W bq 4 [G7 b0]) :
  Calls GI 163 #[.agg #[GV GU k,GV GU a,GV GU b,GV GU c],.pointer (some ⟨bq,0,none⟩)] W λe W'=>e = .returned (G7 (k != 2))/\Row W' bq 4 [G7 (k != 2)]/\Wrote (λx=>x=bq) W W':=by
 have q0:=hq.cell (i:=0) rfl;have f0:=hq.frozen 0;have hlt:=hq.lt;have HQ:=Ag hq;clear hq;go_in;go_wp2
 go_ret;exact⟨rfl,(HQ.o.set 0 _).alloc _,((Ir (λx=>x=bq) W).setCell (p:=⟨bq,0,none⟩) (.inl rfl) _).alloc _⟩
structure Cj (wi:GK) (N0 p:Nat) (g:Gm) (b o c:Nat) (Ai:Option Addr) (ci bp bs bi bd:Nat) (info d:Int) (W:GK):Prop where
 wk:Dw W N0 p g b o c Ai ci bp
 low:N0<=wi.heap.size
 hbd:wi.heap.size<=bd
 box:W.cell? ⟨bs,0,none⟩=some (.pointer (some ⟨p,0,none⟩))
 inf:W.cell? ⟨bi,0,none⟩=some (GV GU info)
 hbs:bs < wi.heap.size
 hbi:bi < wi.heap.size
 row:Row W bd 3 [GV GU d]
 bel:Below wi.heap.size wi W
theorem Cj.below {wi:GK} {g:Gm} {d:Int} {W W':GK} (h:Cj wi N0 p g b o c Ai ci bp bs bi bd info d W) (k:Below W.heap.size W W'):Cj wi N0 p g b o c Ai ci bp bs bi bd info d W' :=
 ⟨h.wk.below (k.mono h.wk.size),h.low,h.hbd,ah h.box k,ah h.inf k,h.hbs,h.hbi,h.row.below k h.row.lt,h.bel.trans (k.mono h.bel.size)⟩
theorem Cj.put {wi:GK} {g:Gm} {d:Int} {W:GK} (h:Cj wi N0 p g b o c Ai ci bp bs bi bd info d W) (d':Int):Cj wi N0 p g b o c Ai ci bp bs bi bd info d' (W.setCell ⟨bd,0,none⟩ (GV GU d')):=by
 have hb:Below wi.heap.size W (W.setCell ⟨bd,0,none⟩ (GV GU d')):=(GR _ _).setCell (p:=⟨bd,0,none⟩) h.hbd _;exact⟨h.wk.below (hb.mono h.low),h.low,h.hbd,(aK hb _ _ h.hbs).trans h.box,(aK hb _ _ h.hbi).trans h.inf,h.hbs,h.hbi,h.row.set 0 _,h.bel.trans hb⟩
theorem akD (wi W:GK) (N0 p:Nat) (g:Gm) (b o c:Nat) (Ai:Option Addr) (ci bp bs bi bd:Nat) (info:Int) (x:Nat×Nat) (n:Nd) (hn:g.F7[x.1]? = some n) (hJ:Cj wi N0 p g b o c Ai ci bp bs bi bd info (-1) W) :
  Calls GI 183 #[GV GU (x.1:Int),GV GU (x.2:Int),.pointer (some ⟨bs,0,none⟩),.pointer (some ⟨bi,0,none⟩),.pointer (some ⟨bd,0,none⟩)] W λe W'=>Below N0 W W' /\
   ((e = .returned (G7 true)/\Cj wi N0 p g b o c Ai ci bp bs bi bd info (-1) W')\/(e = .returned (G7 false)/\∃ d,Cj wi N0 p g b o c Ai ci bp bs bi bd info d W')):=by
 obtain⟨k,a⟩:=x;have HJ:=Ag hJ;have hk:=Gn hn;have c1:=hJ.wk.c1;have n2:=(hJ.wk.node k n hn).c2;have hbx:=hJ.box;have hin:=hJ.inf;have hd0:=hJ.row.cell (i:=0) rfl;have hdf:=hJ.row.frozen 0;have hz:=hJ.bel.size;have hlow:=hJ.low;have hbd:=hJ.hbd;dsimp only at n2 hk;clear hJ hn;by_cases he:n.info=info
 ·subst he;have t0:(n.info==n.info)=true:=aA;have t1:decide ((k:Int) < 0)=false:=LJ FI;go_in;go_wp2_with fail
  go_quiet (fail)
  go_wp2
  go_ret;exact⟨(aG (GR N0 W) _).setCell (p:=⟨bd,0,none⟩) (by show N0<=bd; omega) _,.inr ⟨rfl,(k:Int),(HJ.o.below (aG (GR _ W) _)).put _⟩⟩
 ·have t0:(n.info==info)=false:=by simpa using he
  clear he;go_in;go_wp2_with fail
  go_quiet (fail)
  go_wp2
  go_ret;exact⟨aG (GR N0 W) _,.inl ⟨rfl,HJ.o.below (aG (GR _ W) _)⟩⟩
theorem Dw.infoAt {w:GK} {g:Gm} (h:Dw w N0 p g b o c Ai ci bp) {inf:Inf} (hi:g.F8[i]? = some inf):∃ bI oI,Ai=some ⟨bI,oI,none⟩/\bI < N0/\bI < w.heap.size/\w.cell? ⟨bI,oI+i*2,none⟩=some (GV GU inf.aH)/\w.cell? ⟨bI,oI+i*2+1,none⟩=some (GV GU inf.actions):=by
 obtain⟨A',c',e,_,hx⟩:=h.info;injection e with e1 e2 e3
 subst e1;obtain⟨bI,oI,rfl,hF,hb,hc⟩:=hx (by have:=Gn hi; omega);exact⟨bI,oI,rfl,hF,hb,(hc i inf hi).c0,(hc i inf hi).c1⟩
theorem ag4 {g:Gm} (h:∀ x∈l,jB g pl x.toNat=jB g pl (l.getD 0 0).toNat):pY g pl l=true:=by grind [pY]
theorem afy {g:Gm} {x:Int} (hx:x∈l) (h:jB g pl x.toNat≠jB g pl (l.getD 0 0).toNat):pY g pl l=false:=by grind [pY]
theorem amj (w:GK) (N0 p:Nat) (g:Gm) (b o c:Nat) (Ai:Option Addr) (ci bp bq i:Nat) (inf:Inf) (pl:Int) (F:Gq) (vl:GN) (l:List Int) (hw:Dw w N0 p g b o c Ai ci bp) (hgd:Good g) (hsm:Small g)
  (hi:g.F8[i]? = some inf) (hpl:inf.aH=pl) (hq:Row w bq 4 [G7 true]) (hq0:N0<=bq) (hF:¬ F bq) (hl:AL w F vl l) (hne:l≠[]) (hin:∀ x∈l,∃ j:Nat,x=(j:Int)/\j < g.F7.length) (hll:l.length<=1000) :
  Calls GI 165 #[.agg #[.pointer (some ⟨p,0,none⟩),.func (.func 163) #[] #[.pointer (some ⟨bq,0,none⟩)]],GV GU (i:Int),vl] w λe w'=>e = .returned (G7 (pY g pl l))/\Row w' bq 4 [G7 (pY g pl l)]/\Wrote (λx=>x=bq) w w':=by
 refine Z9 ?_;intro hmf;have hcr:=λargs w=>enters Tryz.func163 (by decide +kernel) (by decide +kernel) args w
 subst hpl;have HW:=Ag hw;have HGD:=Ag hgd;have HSM:=Ag hsm;have HQ:=Ag hq;have HL:=Ag hl;have HIN:=Ag hin;have HI:=Ag hi;have HF:=Ag hF;have HNE:=Ag hne;have hil:=Gn hi;have hni:=hsm.F8;have hbq:=hq.lt;clear hw hgd hsm hq hin hi hF hne;obtain⟨Al,cl,rfl,hcl,hx⟩:=hl;have hlp:0 < l.length:=by
  cases l with
  | nil=>exact absurd rfl HNE.o
  | cons x t=>simp
 obtain⟨bl,ol,rfl,hFl,hbl,hlc⟩:=hx hlp;have HLC:=Ag hlc;have hlq:bl≠bq:=λe=>HF.o (e▸hFl)
 clear hx hlc;go_in
 go_upto_region 1 with(fail)
 generalize hW:G5 _ _=W;obtain⟨rs,ri,hB,hz⟩:=gW hW;clear hW;have s0:=rs.cell (i:=0) rfl;have i0:=ri.cell (i:=0) rfl;have hWW:=HW.o.below (hB.mono HW.o.size);obtain⟨bI,oI,rfl,hbI,hbI2,p0,_⟩:=hWW.infoAt HI.o;have c2:=hWW.c2;obtain⟨x0,hx0⟩:=Gl hlp;obtain⟨j0,hxj,hj0⟩:=HIN.o x0 (Gx hx0);subst hxj;have l0:=HLC.o 0 _ hx0;unfold lU at l0;rw[Jc,Jb] at l0;replace l0:=ah l0 hB;have HX0:=Ag (show l.getD 0 0=(j0:Int) by rw[GH,hx0]; rfl);have HWW:=Ag hWW;have HRS:=Ag rs;have HRI:=Ag ri;have HB:=Ag hB;clear rs ri hWW hB hx0;go_wp2_with fail
 go_quiet (fail)
 go_wp2_with fail
 obtain⟨wd,hwd⟩:=Gp (W.drewN nq);have hbd:Below W.heap.size W wd:=by rw[hwd];exact aG (GR _ W) nq
 rw[<-hwd];clear hwd;replace s0:=ah s0 hbd;replace i0:=ah i0 hbd;replace l0:=ah l0 hbd;replace HWW:=Ag (HWW.o.below (hbd.mono HWW.o.size));replace HRS:=Ag (HRS.o.below hbd HRS.o.lt);replace HRI:=Ag (HRI.o.below hbd HRI.o.lt);replace HB:=Ag (HB.o.trans (hbd.mono HB.o.size));have hzd:=hbd.size;clear hbd p0 c2;refine wp_region_held_drew (S:=λw'=>w'.cell? ⟨w.heap.size,0,none⟩=some (.pointer (some ⟨p,0,none⟩))/\w'.cell? ⟨bl,ol,none⟩=some (GV GU (j0:Int))) aj ⟨s0,l0⟩ (λhHeld=>?_);have hb:Below wd.heap.size wd wd.drew:=aG (GR _ wd) 1;replace s0:=ah s0 hb;replace i0:=ah i0 hb;replace l0:=ah l0 hb;replace HWW:=Ag (HWW.o.below (hb.mono HWW.o.size));replace HRS:=Ag (HRS.o.below hb HRS.o.lt);replace HRI:=Ag (HRI.o.below hb HRI.o.lt);replace HB:=Ag (HB.o.trans (hb.mono HB.o.size));replace hzd:=He hzd hb.size;clear hb;generalize wd.drew=wn at *;refine tkm [0,1,2,3,4,5] ?_;refine tk2 6 aj rfl λK hK=>?_
 go_simp;refine(ag2 _ N0 p g b o c _ ci bp j0 inf.aH HWW.o HGD.o HSM.o hj0).mono ?_;rintro e wn ⟨u1,rfl,hb,hu1⟩;have HU1:=Ag (AA.keep (G:=λb=>w.heap.size < b) hu1 (λb hb _=>by omega) (GZ _ _));obtain⟨A1,c1,rfl⟩:=hu1.open;clear hu1;replace s0:=ah s0 hb;replace i0:=ah i0 hb;replace l0:=ah l0 hb;replace HWW:=Ag (HWW.o.below (hb.mono HWW.o.size));replace HRS:=Ag (HRS.o.below hb HRS.o.lt);replace HRI:=Ag (HRI.o.below hb HRI.o.lt);replace HB:=Ag (HB.o.trans (hb.mono HB.o.size));replace hzd:=He hzd hb.size;clear hb;dsimp only;clear hHeld;refine hK.out _ _ ⟨s0,l0⟩ (λhHeld=>?_);clear hK K;refine Zb ?_
 refine tkm [7] ?_;refine wpAnyH_done aj ?_ _;clear hHeld;obtain⟨w1,rfl⟩:=Gp wn;have s1:=HRS.o.cell (i:=1) rfl;have HQ1:=Ag (HQ.o.below HB.o hbq);have HLC1:=Ag (show ∀ (k:Nat) (x:Int),l[k]? = some x->w1.cell? ⟨bl,ol+k,none⟩=some (GV GU x) from λk x hx=>by
  have h1:=HLC.o k x hx;unfold lU at h1;rw[Ho] at h1;exact(HB.o.cell (p:=⟨bl,ol+k,none⟩) hbl).trans h1)
 have hzw:=HB.o.size;have hN0:=HW.o.size;clear l0;go_wp2_with fail
 go_loopw [31] (λiv wr=>∃ k:Nat,k<=l.length/\iv = GV GU (k:Int)/\(∀ x∈l.take k,jB g inf.aH x.toNat=jB g inf.aH j0)/\Row wr bq 4 [G7 true]/\Wrote (λx=>x=bq) w1 wr) (λiv _=>l.length - (intOf iv).toNat)
 case atStart=>exact⟨0,Hg _,rfl,λx hx=>by simp at hx,HQ1.o,Ir _ _⟩
 case round =>
  obtain⟨k,hk,rfl,hall,hqa,hwr⟩:=hrel;obtain⟨wa,rfl⟩:=Gp wr;have DJ:=Ag hall;have HWR:=Ag hwr;have HQA:=Ag hqa;have HLOW:=Ag (Ht (GR N0 w1) hwr (λb hb=>by omega) FI);clear hall hwr hqa HQ1;have s0a:=(HWR.o.cell w.heap.size 0 FI FI).trans s0;have s1a:=(HWR.o.cell w.heap.size 1 FI FI).trans s1;have i0a:=(HWR.o.cell (w.heap.size+1) 0 FI FI).trans i0;have hza:=HWR.o.size;by_cases hlt:k < l.length
  ·obtain⟨x,hx⟩:=Gl hlt;obtain⟨j,hxj,hj⟩:=HIN.o x (Gx hx);subst hxj;have lx:=(HWR.o.cell bl (ol+k) FI FI).trans (HLC1.o k _ hx);have HX:=Ag hx;have HS0:=Ag s0;have HI0:=Ag i0;have HS1:=Ag s1;clear hx s0 i0 s1;have s0o:=λob=>bQ s0a ob
   go_wp2_with fail
   clear s0o;generalize hW1:G5 _ _=W1;obtain⟨rd,hbd,hz1⟩:=aI hW1;clear hW1;have HSJ:=Ag (show Cj wa N0 p g b o c (some ⟨bI,oI,none⟩) ci bp w.heap.size (w.heap.size+1) wa.heap.size (i:Int) (-1) W1 from⟨(HWW.o.below HLOW.o).below (hbd.mono FI),FI,Gy _,ah s0a hbd,ah i0a hbd,FI,FI,rd,hbd⟩);have HSE:=Ag (show FM N0 183 #[.pointer (some ⟨w.heap.size,0,none⟩),.pointer (some ⟨w.heap.size+1,0,none⟩),.pointer (some ⟨wa.heap.size,0,none⟩)] (kK g inf.aH j) (λ_ V=>Cj wa N0 p g b o c (some ⟨bI,oI,none⟩) ci bp w.heap.size (w.heap.size+1) wa.heap.size (i:Int) (-1) V) (λ_ V=>∃ d,Cj wa N0 p g b o c (some ⟨bI,oI,none⟩) ci bp w.heap.size (w.heap.size+1) wa.heap.size (i:Int) d V) from
    ⟨enters Tryz.func183 (by decide +kernel) (by decide +kernel),λpre x V ⟨rest,he⟩ hJ=>by
     have hx:x∈kK g inf.aH j:=by rw[<-he];simp
     obtain⟨n,hn⟩:=Gl (zT HGD.o _ _ hj x hx);exact akD wa V N0 p g b o c _ ci bp _ _ _ _ x n hn hJ,λpre V V' h k=>h.below k⟩)
   clear rd hz1;refine(aeC W1 N0 p g b o c _ ci bp j inf.aH _ _ _ _ HSJ.o.wk HGD.o HSM.o hj HSE.o HSJ.o).mono ?_;rintro e w2 ⟨rfl,hb2,hJ⟩;obtain⟨d,hJ⟩:∃ d,Cj wa N0 p g b o c (some ⟨bI,oI,none⟩) ci bp w.heap.size (w.heap.size+1) wa.heap.size (i:Int) d w2:=hJ.elim (λh=>⟨_,h⟩) (λ⟨_,h⟩=>h);have d0:=hJ.row.cell (i:=0) rfl;have i02:=hJ.inf;have s12:=ah s1a hJ.bel;have HQ2:=Ag (HQA.o.below hJ.bel HQA.o.lt);have HW2:=Ag (HWR.o.trans (show Wrote (λx=>x=bq) wa w2 from⟨hJ.bel.os,hJ.bel.tape,hJ.bel.output,hJ.bel.size,λb hb _=>hJ.bel.block b hb⟩));clear hJ hb2 HSE HSJ hbd s0a s1a i0a lx HQA HWR HLOW;dsimp only;go_upto_region 8 with(fail)
   go_cut [52] from 41 to 52 (λv52 wx=>v52 = G7 false/\Row wx bq 4 [G7 true]/\Wrote (λx=>x=bq) w1 wx)
   case first =>
    by_cases hd:0<=d
    ·have t0:decide (0<=d)=true:=LK hd;clear hd;go_wp2_with fail
     refine(ac9 w2 bq true 1 (j:Int) (i:Int) d HQ2.o).mono ?_;rintro e w3 ⟨rfl,hq3,hw3⟩;have HQ3:=Ag (show Row w3 bq 4 [G7 true] from hq3);have HW3:=Ag (HW2.o.trans hw3);clear hq3 hw3 HQ2 HW2;dsimp only;go_wp2_with fail
     go_meet
     exact⟨rfl,HQ3.o,HW3.o⟩
    ·have t0:decide (0<=d)=false:=LJ hd;clear hd;go_wp2_with fail
     go_meet
     exact⟨rfl,HQ2.o,HW2.o⟩
   case rest =>
    obtain⟨rfl,hqc,hwc⟩:=hcut;have s0c:=(hwc.cell w.heap.size 0 FI FI).trans HS0.o;have s1c:=(hwc.cell w.heap.size 1 FI FI).trans HS1.o;have i0c:=(hwc.cell (w.heap.size+1) 0 FI FI).trans HI0.o;have HWC:=Ag (HWW.o.below (Ht (GR N0 w1) hwc (λb hb=>by omega) FI));have HUC:=Ag (AA.on HU1.o (hwc.same (λb hb=>by omega)));have HQC:=Ag hqc;have HWRC:=Ag hwc;have hzc:=hwc.size;clear HQ2 HW2 d0 i02 s12 hqc hwc;go_wp2_with fail
    refine(ag2 wc N0 p g b o c _ ci bp j inf.aH HWC.o HGD.o HSM.o hj).mono ?_;rintro e w4 ⟨u2,rfl,hb4,hu2⟩;have HU2:=Ag (AA.keep (G:=λb=>w.heap.size < b) hu2 (λb hb _=>by omega) (GZ _ _));obtain⟨A2,c2,rfl⟩:=hu2.open;have HB4:=Ag hb4;clear hu2 hb4;dsimp only;go_wp2_with fail
    refine(aiD w4 (λb=>w.heap.size < b) _ _ (jB g inf.aH j) (jB g inf.aH j0) HU2.o (AA.on HUC.o (GL HB4.o _)) (by have:=acF HGD.o HSM.o inf.aH hj; omega)).mono ?_;rintro e w5 ⟨_,rfl,hb5,rfl⟩;have hb:=HB4.o.trans (hb5.mono HB4.o.size);have HQ5:=Ag (HQC.o.below hb HQC.o.lt);have HW5:=Ag (HWRC.o.trans (show Wrote (λx=>x=bq) wc w5 from⟨hb.os,hb.tape,hb.output,hb.size,λb' hb' _=>hb.block b' hb'⟩));clear hb hb5 HB4 HU2 HUC HWRC HQC s0c s1c i0c;dsimp only;by_cases akE:jB g inf.aH j=jB g inf.aH j0
    ·rw[LK akE];have HWE:=Ag akE;clear akE;go_wp2_with fail
     go_roundw
     case rel =>
      refine⟨k+1,FI,by go_num,λy hy=>?_,HQ5.o,HW5.o⟩;rw[Gv HX.o] at hy;rcases List.mem_append.1 hy with hy | hy
      ·exact DJ.o y hy
      ·rw[List.mem_singleton.1 hy,Ic];exact HWE.o
     case measure=>exact zMs
    ·have hwf:=afy (Gx HX.o) (show jB g inf.aH ((j:Int)).toNat≠jB g inf.aH (l.getD 0 0).toNat by rw[HX0.o,Ic,Ic]; exact akE);have HWF:=Ag hwf;rw[LJ akE];have s1e:=(HW5.o.cell w.heap.size 1 FI FI).trans HS1.o;have i0e:=(HW5.o.cell (w.heap.size+1) 0 FI FI).trans HI0.o;have l0e:=(HW5.o.cell bl ol FI FI).trans (show w1.cell? ⟨bl,ol,none⟩=some (GV GU (j0:Int)) by
      have h1:=HLC1.o 0 (j0:Int) (by obtain⟨y,hy⟩:=Gl hlp; have h2:=HX0.o; rw[GH,hy] at h2; rw[hy]; exact congrArg some h2);rwa [Jb] at h1)
     clear akE hwf;go_wp2_with fail
     refine wp_region_held_drew (S:=λw'=>w'.cell? ⟨w.heap.size,1,none⟩=some (.func (.func 163) #[] #[.pointer (some ⟨bq,0,none⟩)])/\w'.cell? ⟨w.heap.size+1,0,none⟩=some (GV GU (i:Int))/\w'.cell? ⟨bl,ol,none⟩=some (GV GU (j0:Int))) aj ⟨s1e,i0e,l0e⟩ (λhHeld=>?_);obtain⟨w6,hw6⟩:=Gp w5.drew;have HQ6:=Ag (show Row w6 bq 4 [G7 true] by rw[hw6]; exact HQ5.o.drew);have HW6:=Ag (show Wrote (λx=>x=bq) w1 w6 by rw[hw6]; exact HW5.o.drew);rw[<-hw6] at hHeld ⊢;obtain⟨s1f,i0f,l0f⟩:=id hHeld;clear hw6 HQ5 HW5 s1e i0e l0e;refine tkm [0,1,2,3,4,5,6,7] ?_;refine tk2 8 aj rfl λK hK=>?_
     go_simp;refine(ac9 w6 bq true 2 (j:Int) (i:Int) (j0:Int) HQ6.o).mono ?_;rintro e w7 ⟨rfl,hq7,hw7⟩;have hz6:=HW6.o.size;have HQ7:=Ag (show Row w7 bq 4 [G7 false] from hq7);have HW7:=Ag (HW6.o.trans hw7);dsimp only;clear hHeld;refine hK.out _ _ ⟨(hw7.cell w.heap.size 1 FI FI).trans s1f,(hw7.cell (w.heap.size+1) 0 FI FI).trans i0f,(hw7.cell bl ol FI FI).trans l0f⟩ (λhHeld=>?_);clear hK K;refine Zb ?_;clear s1f i0f l0f hq7 hw7 HQ6 HW6;refine tkm [9] ?_;refine Z8 ?_;clear hHeld;go_wp2
     go_ret;exact⟨by rw[HWF.o]; rfl,by rw[HWF.o]; exact HQ7.o,(show Wrote (λx=>x=bq) w w1 from⟨HB.o.os,HB.o.tape,HB.o.output,HB.o.size,λb' hb' _=>HB.o.block b' hb'⟩).trans HW7.o⟩
  ·have hwt:=ag4 (g:=g) (pl:=inf.aH) (l:=l) (λx hx=>by rw[HX0.o,Ic]; exact DJ.o x (by rw[G8 FI]; exact hx));have HWT:=Ag hwt;clear hwt s0 s1 i0 s0a s1a i0a;go_wp2
   go_ret;exact⟨by rw[HWT.o]; rfl,by rw[HWT.o]; exact HQA.o,(show Wrote (λx=>x=bq) w w1 from⟨HB.o.os,HB.o.tape,HB.o.output,HB.o.size,λb' hb' _=>HB.o.block b' hb'⟩).trans HWR.o⟩
theorem BL.at {w:GK} {v:GN} {m:List (List Int)} (h:BL w F v m) (hk:m[k]? = some l):∃ b o c u,v = Gw (some ⟨b,o,none⟩) m.length c/\F b/\b < w.heap.size/\w.cell? ⟨b,o+k,none⟩=some u/\AL w F u l:=by
 obtain⟨A,c,rfl,hc,hr⟩:=h;obtain⟨b,o,rfl,hF,hb,hcell⟩:=hr (by have:=Gn hk; omega);obtain⟨u,e0,i⟩:=hcell k l hk;grind
theorem apa {w w1:GK} {g:Gm} {v:GN} (hf:aQ g=0) (hg:Bz w F v g.F7) (hN:∃ A c,v = Gw A g.F7.length c) {vi:GN} (hi:BA w F vi g.F8) (hb:Below w.heap.size w w1) {bl:Nat} {A:Option Addr}
  (hv:v = Gw A g.F7.length c) (hvi:vi = Gw Ai g.F8.length ci) (hw:BD w1 p bp bd bl g.aC A g.F7.length c Ai g.F8.length ci (walkT g).2):∃ b o,A=some ⟨b,o,none⟩/\Dw w1 w1.heap.size p g b o c Ai ci bp:=by
 have hgd:=gQ hf;subst hv;subst hvi;obtain⟨A',c',e,_,hx⟩:=hg;injection e with e1 e2 e3
 subst e1;obtain⟨b,o,rfl,hF,hbl,hc⟩:=hx hgd.pos;have hz:=hb.size;refine⟨b,o,rfl,⟨hw.head.lt,FI,hw.rp.lt,Gy _,hw.head.cell (i:=0) rfl,hw.head.cell (i:=1) rfl,hw.head.cell (i:=2) rfl,hw.head.cell (i:=3) rfl,λk n hn=>(hc k n hn).keep (λb _ hl=>by omega) (GL hb F) hF hbl,λk x hx=>?_,hi.keep (λb _ hl=>by omega) (GL hb F)⟩⟩;rw[<-zi hf] at hx;exact hw.rp.cell (by unfold mW; rw[GY,hx]; rfl)
theorem afz (w:GK) (F:Gq) (u:GN) (g:Gm) (pl:Int) (hg:AB w F u g) (hsm:Small g) (hf:aQ g=0) (hp0:0<=pl) (hp1:pl < g.aC) :
  Calls GI 146 #[u,GV GU pl] w (Ret w λv _=>v = .tuple #[G7 (aaE g pl),GV GU 0]):=by
 refine Z9 ?_;intro hmf;have HG:=Ag hg;have HSM:=Ag hsm;have HF:=Ag hf;have hni:=hsm.F8;have hgd:=gQ hf;have HGD:=Ag hgd;have hwr:IntKind.i64.wrap (g.aC - 1)=g.aC - 1:=IY _ (by have:=(nS hf).2; have:=(nS hf).1; omega);obtain⟨vn,vi,rfl,hN,hI⟩:=hg;have HN:=Ag hN;have HI:=Ag hI;obtain⟨A,c,rfl,hc,_⟩:=hN;obtain⟨Ai,ci,rfl,hci,_⟩:=hI;clear hsm hf hgd;go_in;go_wp2_with fail
 generalize hW:G5 _ _=W;obtain⟨rx,hB,hz⟩:=aI hW;clear hW hz;replace HG:=Ag (HG.o.on (GL hB F));replace HN:=Ag (HN.o.on (GL hB F));replace HI:=Ag (HI.o.on (GL hB F));refine Zd ?_;intro x0 x1 x2;go_wp2_with fail
 clear x0 x1 x2;refine(zN W F _ g HG.o HSM.o).mono ?_;rintro e w1 ⟨_,rfl,hb,vp,rfl,hok⟩;have he:rO g=0:=by rw[yD];exact HF.o
 obtain⟨p,bp,bd,bl,A',c',Ai',ci',rfl,e,hwk,h1,h2,h3,h4⟩:=hok he;injection e with e
 obtain⟨e1,e2⟩:Value.slice A g.F7.length c = Gw A' g.F7.length c'/\Value.slice Ai g.F8.length ci = Gw Ai' g.F8.length ci':=by simpa using e
 injection e1 with e11 _ e13
 injection e2 with e21 _ e23
 subst e11;subst e13;subst e21;subst e23;obtain⟨b,o,rfl,hWK⟩:=apa HF.o HN.o ⟨_,_,rfl⟩ HI.o hb rfl rfl hwk;rw[he];refine Ya ?_;clear rx hB;intro rx hB;have HWK:=Ag hWK;obtain⟨N0,hN0⟩:=Gp w1.heap.size;rw[<-hN0] at HWK;have hN1:N0<=w1.heap.size:=FI;have hN2:w1.heap.size<=N0:=FI;have hxl:=rx.lt;have x0:=rx.cell (i:=0) rfl;clear hb hok e hwk h1 h2 h3 h4 hWK he hN0;dsimp only;go_wp2_with fail
 generalize hW2:G5 _ _=W2;obtain⟨ry,hb2,_⟩:=aI hW2;have hwi:iT 0 (g.aC - 1) [pl]=0:=by
  unfold iT outside;rw[LG];simp;omega
 refine(rC W2 (λ_=>True) _ 0 (g.aC - 1) [pl] (Row.ints (l:=[pl]) ry trivial (Gy _)) aA).mono ?_;rintro e w3 ⟨_,rfl,hb3,rfl⟩;rw[hwi];have hb:=hb2.trans (hb3.mono hb2.size);refine Ya ?_;clear rx hB;intro rx hB;replace HWK:=Ag (HWK.o.below (hb.mono hN1));have hz3:=hb.size;have hxl3:=rx.lt;clear hb hb2 hb3 ry hW2 hwi x0;dsimp only;go_wp2_with fail
 generalize hW4:G5 _ _=W4;obtain⟨rq,rs,hb4,hz4⟩:=gW hW4;obtain⟨bq,hbq⟩:=Gp w3.heap.size;obtain⟨bk,hbk⟩:=Gp (w3.heap.size+1);rw[<-hbk,<-hbq] at rs;rw[<-hbq] at rq;rw[<-hbk,<-hbq];have hqk:bq < bk:=FI;have hqN:N0<=bq:=FI;have hxq:w.heap.size < bq:=FI;have hkW:bk < W4.heap.size:=FI;replace rx:=rx.below hb4 rx.lt;replace hB:=hB.trans (hb4.mono hB.size);replace HWK:=Ag (HWK.o.below (hb4.mono FI));clear hW4 hb4 hz4 hbq hbk;refine(ag3 W4 N0 p g b o c Ai ci bp HWK.o HSM.o HGD.o.F8).mono ?_;rintro e w5 ⟨vs,rfl,hb,hvs⟩;replace rx:=rx.below hb rx.lt;replace rq:=rq.below hb rq.lt;replace rs:=rs.below hb rs.lt;refine ZM ?_;clear hB;intro hB;replace HWK:=Ag (HWK.o.below (hb.mono FI));have hz5:=hb.size;have HVS:=Ag (BL.keep (G:=λb=>bk < b) hvs (λb hb _=>by omega) (GZ _ _));obtain⟨As,cs,rfl,hcs,_⟩:=hvs;have hsl:(dK g).length=g.F8.length:=dD _ _ _;rw[hsl] at hcs;rw[hsl];have HRQ:=Ag rq;have HRS:=Ag rs;have HSL:=Ag hsl;clear hb rx rq hsl hcs;dsimp only;go_wp2_with fail
 go_loopw [36] (λiv wr=>∃ k:Nat,k<=g.F8.length/\iv = GV GU (k:Int)/\oL g pl k=true/\Row wr bq 4 [G7 true]/\Wrote (λx=>x=bq) w5 wr) (λiv _=>g.F8.length - (intOf iv).toNat)
 case atStart=>exact⟨0,Hg _,rfl,rfl,HRQ.o,Ir _ _⟩
 case round =>
  obtain⟨k,hk,rfl,hpt,hqa,hwr⟩:=hrel;obtain⟨wa,rfl⟩:=Gp wr;have HPT:=Ag hpt;have HQA:=Ag hqa;have HWR:=Ag hwr;have HBA:=Ag (Ht hB hwr (λb hb=>by omega) hB.size);have q0:=hqa.cell (i:=0) rfl;clear hpt hqa hwr HRQ;by_cases hlt:k < g.F8.length
  ·obtain⟨inf,bU⟩:=Gl hlt;have HWA:=Ag (HWK.o.below (Ht (GR N0 w5) HWR.o (λb hb=>by omega) FI));obtain⟨bI,oI,rfl,hbI,hbI2,p0,_⟩:=HWA.o.infoAt bU;have c2:=HWA.o.c2;obtain⟨l,hl⟩:=Gl (l:=dK g) (k:=k) (by rw[HSL.o]; exact hlt);obtain⟨bs,os,cs',uv,e,hFs,hbs,hcell,hints⟩:=HVS.o.at hl;injection e with e1 e2 e3
   subst e1;clear e2 e3;have s0:=(HWR.o.cell bs (os+k) hbs FI).trans hcell;have k0:=(HWR.o.cell bk 0 FI FI).trans (rs.cell (i:=0) rfl);have k1:=(HWR.o.cell bk 1 FI FI).trans (rs.cell (i:=1) rfl);have HINT:=Ag (hints.on (HWR.o.same (F:=λb=>bk < b) (λb hb=>by omega)));have hld:(dK g).getD k []=l:=by rw[GH,hl];rfl
   obtain⟨_,_,hsn⟩:=qQ HF.o hlt;obtain⟨_,_,_,_,_,hne,_⟩:=kJ HF.o hlt;rw[hld] at hsn hne;have HLN:=Ag (show l.length<=1000 by have h1:=(aaB HGD.o hl).1; have h2:=HSM.o.F7; omega);have HSN:=Ag hsn;have HNE:=Ag hne;have Df:=Ag bU;have HLD:=Ag hld;obtain⟨Al,cl,rfl,_,_⟩:=hints;clear hcell hl hld hsn hne bU;by_cases hpl:inf.aH=pl
   ·have t0:(inf.aH==pl)=true:=by simp[hpl]
    have HPL:=Ag hpl;clear hpl;go_wp2_with fail
    refine(amj wa N0 p g b o c _ ci bp bq k inf pl (λb=>bk < b) _ l HWA.o HGD.o HSM.o Df.o HPL.o HQA.o hqN FI HINT.o HNE.o (λx hx=>by obtain⟨j,n,rfl,hn,_⟩:=HSN.o x hx; exact⟨j,rfl,Gn hn⟩) HLN.o).mono ?_;rintro e w6 ⟨rfl,hq6,hw6⟩;have hpn:oL g pl (k+1)=pY g pl l:=by
     rw[oL,HPT.o,Ld,GH,Df.o,HLD.o];simp[HPL.o]
    have HW6:=Ag (HWR.o.trans hw6);clear c2 p0 s0 k0 k1 q0 hw6;dsimp only;generalize pY g pl l=wo at *;cases wo
    ·have Eh:=Ag (show aaE g pl=false from aaF hpn _ FI);have HB6:=Ag (Ht hB HW6.o (λb hb=>by omega) hB.size);have q6:=hq6.cell (i:=0) rfl;clear hpn;go_wp2_with fail
     go_ret2;exact⟨_,rfl,HB6.o,by rw[Eh.o]; rfl⟩
    ·have HPN:=Ag hpn;have HQ6:=Ag hq6;clear hpn;go_wp2_with fail
     go_roundw
     case rel=>exact⟨k+1,FI,by go_num,HPN.o,HQ6.o,HW6.o⟩
     case measure=>exact zMs
   ·have t0:(inf.aH==pl)=false:=by simpa using hpl
    have hpn:oL g pl (k+1)=true:=by
     rw[oL,HPT.o,Ld,GH,Df.o];simp[hpl]
    have HPN:=Ag hpn;clear hpl hpn;go_wp2_with fail
    go_roundw
    case rel=>exact⟨k+1,FI,by go_num,HPN.o,HQA.o,HWR.o⟩
    case measure=>exact zMs
  ·have hfin:aaE g pl=true:=by unfold aaE;rw[<-HPT.o];congr 1;omega
   have Eh:=Ag hfin;clear hfin;go_wp2
   go_ret2;exact⟨_,rfl,HBA.o,by rw[Eh.o]; rfl⟩
theorem afA (w:GK) (p bp N:Nat) (h:w.cell? ⟨p,3,none⟩=some (Gw (some ⟨bp,0,none⟩) N N)) :
  Calls GI 167 #[.pointer (some ⟨p,0,none⟩)] w λe w'=>e = .returned (Gw (some ⟨bp,0,none⟩) N N)/\w'=w:=by
 exact zbo
theorem akF (w:GK) (F:Gq) (u:GN) (g:Gm) (hg:AB w F u g) (hsm:Small g) (hf:aQ g=0) :
  Calls GI 166 #[u,.func (.func 167) #[] #[]] w (Ret w λv w'=>∃ vp,v = .tuple #[vp,GV GU 0]/\AL w' (λb=>w.heap.size<=b) vp (dO g.F7)):=by
 have hc1:=λargs w=>enters Tryz.func167 (by decide +kernel) (by decide +kernel) args w
 have HG:=Ag hg;have HSM:=Ag hsm;have HF:=Ag hf;obtain⟨vn,vi,rfl,⟨A,c,rfl,hc,_⟩,⟨Ai,ci,rfl,hci,_⟩⟩:=hg;clear hsm hf;go_in;go_wp2_with fail
 refine(zN _ F _ g (HG.o.on (Same.alloc _ _ _)) HSM.o).mono ?_;rintro e w1 ⟨_,rfl,hb,vp,rfl,hok⟩;have he:rO g=0:=by rw[yD];exact HF.o
 have hB:Below w.heap.size w w1:=((GR w.heap.size w).alloc (Gy _) _).trans (hb.mono aA);obtain⟨p,bp,bd,bl,A',c',Ai',ci',rfl,_,hwk,h1,h2,h3,h4⟩:=hok he;rw[he];have p3:=hwk.head.cell (i:=3) rfl;have hlen:=gY g.F7;have hfin:AL w1 (λb=>w.heap.size<=b) (Gw (some ⟨bp,0,none⟩) g.F7.length g.F7.length) (dO g.F7):=by
  have h5:=hwk.rp;rw[zi HF.o] at h5;have h6:=Row.ints (F:=λb=>w.heap.size<=b) h5 (by simp at h2; omega) (c:=g.F7.length) FI;rwa [hlen] at h6
 have Eh:=Ag hfin;clear hok hwk hb h1 h2 h3 h4 he hlen hfin;dsimp only;go_wp2_with fail
 refine(afA w1 p bp _ p3).mono ?_;rintro e w2 ⟨rfl,rfl⟩;dsimp only;go_wp2
 go_ret2;exact⟨_,rfl,hB,_,rfl,Eh.o⟩
theorem afB (w:GK) (F:Gq) (u:GN) (g:Gm) (hg:AB w F u g) (hsm:Small g) (hf:aQ g=0) :
  Calls GI 147 #[u] w (Ret w λv w'=>∃ vp,v = .tuple #[vp,GV GU 0]/\AL w' (λb=>w.heap.size<=b) vp (dO g.F7)):=by
 have HG:=Ag hg;have HSM:=Ag hsm;have HF:=Ag hf;obtain⟨vn,vi,rfl,⟨A,c,rfl,hc,_⟩,⟨Ai,ci,rfl,hci,_⟩⟩:=hg;clear hsm hf;go_in;go_wp2_with fail
 refine(akF _ F _ g (HG.o.on (Same.alloc _ _ _)) HSM.o HF.o).mono ?_;rintro e w1 ⟨_,rfl,hb,vp,rfl,hvp⟩;have hB:Below w.heap.size w w1:=((GR w.heap.size w).alloc (Gy _) _).trans (hb.mono aA);have HVP:=Ag (AL.keep (G:=λb=>w.heap.size<=b) hvp (λb hb' _=>by simp at hb'; omega) (GZ _ _));obtain⟨Ap,cp,rfl,_,_⟩:=hvp;clear hb;dsimp only;go_wp2
 go_ret2;exact⟨_,rfl,hB,_,rfl,HVP.o⟩
theorem Tryz.infoSeq4:(Tryz.prog.info? 202).map (λi=>(i.zero,i.size,i.bytes))=some (some (.agg #[GV GU 0,GV GU 0,GV GU 0,GV GU 0,GV GU 0,GV GU 0,GV GU 0,GV GU 0]),8,64):=aj
theorem Tryz.infoSeq:(Tryz.prog.info? 71).map (λi=>(i.zero,i.size,i.bytes))=some (some (.agg #[GV GU 0,GV GU 0]),2,16):=aj
theorem aiE {w:GK} {cs:List GN} (h:Row w b t cs) (d:Nat) (x y z v:Int×Int):∃ W,W=((((((((w.setCell ⟨b,d*8,none⟩ (GV GU x.1)).setCell ⟨b,d*8+1,none⟩ (GV GU x.2)).setCell ⟨b,d*8+2,none⟩ (GV GU y.1)).setCell ⟨b,d*8+3,none⟩ (GV GU y.2)).setCell ⟨b,d*8+4,none⟩ (GV GU z.1)).setCell ⟨b,d*8+5,none⟩ (GV GU z.2)).setCell ⟨b,d*8+6,none⟩ (GV GU v.1)).setCell ⟨b,d*8+7,none⟩ (GV GU v.2)) /\
  Row W b t (set8 cs d x y z v)/\Wrote (λk=>k=b) w W:=by
 refine⟨_,rfl,?_,?_⟩
 ·exact(((((((h.set _ _).set _ _).set _ _).set _ _).set _ _).set _ _).set _ _).set _ _
 ·have h0:Wrote (λk=>k=b) w w:=Ir _ _;grind [KL]
theorem ace (w:GK) (F:Gq) (u:GN) (g:Gm) (hg:AB w F u g) (hsm:Small g) (hf:aQ g=0) :
  Calls GI 113 #[u] w (Ret w λv w'=>∃ vp,v = .tuple #[vp,GV GU (lH g)]/\AA w' (λb=>w.heap.size<=b) vp (jy g)):=by
 have HG:=Ag hg;have HSM:=Ag hsm;have HF:=Ag hf;have hni:=hsm.F8;have hn100:=hsm.F7;have hgd:=gQ hf;have HGD:=Ag hgd;have hpos:=hgd.pos;obtain⟨hp1,hp4⟩:=nS hf;obtain⟨P,hP⟩:∃ P:Nat,g.aC=(P:Int):=⟨g.aC.toNat,FI⟩;have HP:=Ag hP;have hPP:P<=4:=FI;have HPT:=Ag (show g.aC.toNat=P by omega);obtain⟨vn,vi,rfl,hN,hI⟩:=hg;have HN:=Ag hN;obtain⟨A,c,rfl,hc,hN2⟩:=hN;obtain⟨Ai,ci,rfl,hci,_⟩:=hI;obtain⟨b,o,rfl,hFb,hbl0,hcell⟩:=hN2 hpos;have HC:=Ag hcell;clear hsm hf hgd hp1 hp4 hcell hN2 hP;go_in;go_wp2_with fail
 generalize hW:G5 _ _=W;obtain⟨rx,hB,hz⟩:=aI hW;have HX:=Ag rx;have HB:=Ag hB;have x0:=rx.cell (i:=0) rfl;clear hW hz rx hB;go_wp2_with fail
 go_loopw [20] (λiv wr=>∃ k:Nat,k<=P/\iv = GV GU (k:Int)/\lN g k=true/\Row wr w.heap.size 25 [GV GU g.aC,Gw (some ⟨b,o,none⟩) g.F7.length c,Gw Ai g.F8.length ci]/\Below w.heap.size w wr) (λiv _=>P - (intOf iv).toNat)
 case atStart=>exact⟨0,Hg _,rfl,rfl,HX.o,HB.o⟩
 case round =>
  clear HX HB x0;obtain⟨k,hk,rfl,hpa,rx,hB⟩:=hrel;obtain⟨wa,rfl⟩:=Gp wr;have HPA:=Ag hpa;refine Zd ?_;intro x0 x1 x2;clear hpa;by_cases hlt:k < P
  ·have t0:decide ((k:Int) < g.aC)=true:=LK (by rw[HP.o]; omega);go_wp2_with fail
   clear t0 x0 x1 x2;refine(afz wa F _ g (k:Int) (HG.o.on (GL hB F)) HSM.o HF.o FI (by rw[HP.o]; omega)).mono ?_;rintro e w1 ⟨_,rfl,hb,rfl⟩;have hs:=vT g k;rw[HPA.o,Ld] at hs;refine Ya ?_;clear rx hB;intro rx hB;have HRX:=Ag rx;clear hb rx;dsimp only;generalize aaE g (k:Int)=pf at *;cases pf
   ·refine zdD ?_;clear hs;intro HE HO;go_wp2_with fail
    go_ret2;exact⟨_,rfl,hB,_,by rw[HE.o]; rfl,by rw[HO.o]; exact AA.nil _ _⟩
   ·have HS:=Ag hs;clear hs;go_wp2_with fail
    go_roundw
    case rel=>exact⟨k+1,FI,by go_num,HS.o,HRX.o,hB⟩
    case measure=>exact zMs
  ·have t0:decide ((k:Int) < g.aC)=false:=LJ (by rw[HP.o]; omega);have hpf:lN g P=true:=by rw[<-HPA.o];congr 1;omega
   have HE:=Ag (show lH g=0 by unfold lH; rw[HPT.o,hpf]; rfl);have HO:=Ag (show jy g=aU g by unfold jy; rw[HPT.o,hpf]; rfl);clear hpf hlt;go_wp2_with fail
   clear t0 x0 x1 x2;refine(afB wa F _ g (HG.o.on (GL hB F)) HSM.o HF.o).mono ?_;rintro e w1 ⟨_,rfl,hb,vp,rfl,hvp⟩;refine Ya ?_;clear rx hB;intro rx hB;obtain⟨Ap,cp,rfl,_,_⟩:=hvp;refine Zd ?_;intro x0 x1 x2;have hpl:(dO g.F7).length=g.F7.length:=gY _;rw[hpl];have x1':=x1;clear hb hpl;dsimp only;go_wp2_with (at_make; refine aer _ rfl _ _ 201 rfl 202 _ 8 64 Tryz.underlying201 Tryz.infoSeq4 rfl FI g.F7.length rfl rfl FI ?_; intro w2 hb2 hz2 hm2)
   obtain⟨bl,hbl⟩:=Gp w1.heap.size;have hrx2:=rx.below hb2 rx.lt;have HB2:=Ag (hB.trans (hb2.mono hB.size));have hxl:=rx.lt;rw[<-hbl] at hm2 ⊢;have hlw:w.heap.size < bl:=FI;have HRX:=Ag hrx2;have HM2:=Ag hm2;have agK:=hm2.lt;clear x0 x1 x2 x1' rx hB hb2 hz2 hm2 hbl hrx2 hxl;go_loopw [47] (λiv wr=>∃ (k:Nat) (cs:List GN) (T:Nat->Nat->Int×Int),k<=4/\iv = GV GU (k:Int)/\Dx cs g.F7.length T/\(∀ p,p < k->T 0 p=(-1,-1))/\Row wr bl 202 cs/\Wrote (λx=>x=bl) w2 wr) (λiv _=>4 - (intOf iv).toNat)
   case atStart=>exact⟨0,_,_,FI,rfl,Dx.zero _,λp hp=>by omega,HM2.o,Ir _ _⟩
   case round =>
    clear HM2;obtain⟨k,cs,T,hk,rfl,htab,hT,hrow,hwr⟩:=hrel;obtain⟨wb,rfl⟩:=Gp wr;have HTAB:=Ag htab;have HT:=Ag hT;have AV:=Ag hrow;have HWR:=Ag hwr;by_cases hlt:k < 4
    ·have hk4:(k:Int) < 4:=FI;obtain⟨h1,h2⟩:=htab.2 0 k hpos hlt;rw[Jc,I5] at h1 h2;have y0:=hrow.cell h1;have y1:=hrow.cell h2;have f0:=hrow.frozen (k*2);have f1:=hrow.frozen (k*2+1);clear htab hT hrow hwr h1 h2;go_wp2_with fail
     go_roundw
     case rel =>
      have h5:=HTAB.o.put hpos hlt (-1,-1);rw[Jc,I5] at h5;refine⟨k+1,_,_,FI,by go_num,h5,λp hp=>?_,(AV.o.set (k*2) _).set (k*2+1) _,(HWR.o.setCell (p:=⟨bl,k*2,none⟩) (.inl rfl) _).setCell (p:=⟨bl,k*2+1,none⟩) (.inl rfl) _⟩;unfold ac7;by_cases e:p=k
      ·rw[LH ⟨rfl,e⟩]
      ·rw[LG (λh=>e h.2)];exact HT.o p FI
     case measure=>exact zMs
    ·have hk4:k=4:=FI;subst hk4;have HIN:=Ag (Dc.start HGD.o HT.o);have hcl:∀ b' o',b' < w2.heap.size->b'≠bl->wb.cell? ⟨b',o',none⟩=w2.cell? ⟨b',o',none⟩:=HWR.o.cell;have hxl:=HRX.o.lt;have x1:=(hcl w.heap.size 1 hxl FI).trans (HRX.o.cell (i:=1) rfl);clear htab hT hrow hwr hcl;go_wp2_with fail
     clear x1;go_loopw [59] (λiv wr=>∃ (i:Nat) (cs:List GN) (T:Nat->Nat->Int×Int),i<=g.F7.length/\iv = GV GU (i:Int)/\Dx cs g.F7.length T/\Dc g i 0 T/\Row wr bl 202 cs/\Wrote (λx=>x=bl) w2 wr) (λiv _=>g.F7.length - (intOf iv).toNat)
     case atStart=>exact⟨0,cs,T,FI,rfl,HTAB.o,HIN.o,AV.o,HWR.o⟩
     case round =>
      clear HTAB HIN AV HWR HT;obtain⟨i,cs,T,hi,rfl,htab,hin,hrow,hwr⟩:=hrel;obtain⟨wd,rfl⟩:=Gp wr;have HTAB:=Ag htab;have HIN:=Ag hin;have AV:=Ag hrow;have HWR:=Ag hwr;have hzd:=hwr.size;have HBD:=Ag (Ht HB2.o hwr (λb hb=>by omega) HB2.o.size);clear htab hin hrow hwr;by_cases hlt:i < g.F7.length
      ·obtain⟨n,hn⟩:=Gl hlt;have hne:=HC.o i n hn;refine zaE ?_;intro n0 n1 n2 v3 n3 h3 v4 n4 h4 v5 n5 h5;have H3:=Ag h3;obtain⟨A3,c3,rfl,_,_⟩:=h3;obtain⟨A4,c4,rfl,_,_⟩:=h4;obtain⟨A5,c5,rfl,_,_⟩:=h5;replace n0:=ah n0 HBD.o;replace n1:=ah n1 HBD.o;replace n2:=ah n2 HBD.o;replace n3:=ah n3 HBD.o;replace n4:=ah n4 HBD.o;replace n5:=ah n5 HBD.o;have HNN:=Ag hn;have hnx:=HSM.o.next n (Gx hn);clear hn hne;go_wp2_with fail
       obtain⟨W1,hW1,rn,hbn,hz1⟩:=dW wd 51 #[GV GU n.kind,GV GU n.aH,GV GU n.info,Gw A3 n.next.length c3,Gw A4 n.weights.length c4,Gw A5 n.pay.length c5];rw[<-hW1];obtain⟨nb,hnb⟩:=Gp wd.heap.size;rw[<-hnb] at rn ⊢;have hnbl:bl < nb:=FI;have HRN:=Ag rn;have Fz:=Ag (AV.o.below hbn AV.o.lt);have HWR1:=Ag (HWR.o.trans (show Wrote (λx=>x=bl) wd W1 from⟨hbn.os,hbn.tape,hbn.output,hbn.size,λb' hb' _=>hbn.block b' hb'⟩));clear hW1 hz1 hnb rn hbn n0 n1 n2 n3 n4 n5;go_loopw [67] (λiv wr=>∃ (j:Nat) (cs:List GN) (T:Nat->Nat->Int×Int),j<=n.next.length/\iv = GV GU (j:Int)/\Dx cs g.F7.length T/\Dc g i j T/\Row wr bl 202 cs/\Row wr nb 51 [GV GU n.kind,GV GU n.aH,GV GU n.info,Gw A3 n.next.length c3,Gw A4 n.weights.length c4,Gw A5 n.pay.length c5]/\Wrote (λx=>x=bl) w2 wr) (λiv _=>n.next.length - (intOf iv).toNat)
       case atStart=>exact⟨0,cs,T,FI,rfl,HTAB.o,HIN.o,Fz.o,HRN.o,HWR1.o⟩
       case round =>
        clear HTAB HIN AV HWR Fz HWR1 HRN HBD hzd;obtain⟨j,cs,T,hj,rfl,htab,hin,hrow,rn,hwr⟩:=hrel;obtain⟨we,rfl⟩:=Gp wr;have HTAB:=Ag htab;have HIN:=Ag hin;have AV:=Ag hrow;have HWR:=Ag hwr;have HRN:=Ag rn;have HBD:=Ag (Ht HB2.o hwr (λb hb=>by omega) HB2.o.size);by_cases hjt:j < n.next.length
        ·obtain⟨x,hx⟩:=Gl hjt;have hk:=HGD.o.span.kids i n (Hg _) hlt HNN.o x (Gx hx);obtain⟨d,rfl⟩:∃ d:Nat,x=(d:Int):=⟨x.toNat,FI⟩;have hdN:d < g.F7.length:=FI;have hdi:i < d:=FI;obtain⟨b3,o3,e3,_,hb3,rQ⟩:=iU H3.o FI;subst e3;have ec:=ah (rQ j _ hx) HBD.o;have HXD:=Ag hx;have y0:we.cell? ⟨bl,i*8,none⟩=some (GV GU (T i 0).1):=hrow.cell (htab.2 i 0 hlt au).1;have f0:=hrow.frozen (d*8);have z0:we.cell? ⟨bl,d*8,none⟩=some (GV GU (T d 0).1):=hrow.cell (htab.2 d 0 hdN au).1;have y1:we.cell? ⟨bl,i*8+1,none⟩=some (GV GU (T i 0).2):=hrow.cell (htab.2 i 0 hlt au).2;have f1:=hrow.frozen (d*8+1);have z1:we.cell? ⟨bl,d*8+1,none⟩=some (GV GU (T d 0).2):=hrow.cell (htab.2 d 0 hdN au).2;have y2:we.cell? ⟨bl,i*8+2,none⟩=some (GV GU (T i 1).1):=hrow.cell (htab.2 i 1 hlt au).1;have f2:=hrow.frozen (d*8+2);have z2:we.cell? ⟨bl,d*8+2,none⟩=some (GV GU (T d 1).1):=hrow.cell (htab.2 d 1 hdN au).1;have y3:we.cell? ⟨bl,i*8+3,none⟩=some (GV GU (T i 1).2):=hrow.cell (htab.2 i 1 hlt au).2;have f3:=hrow.frozen (d*8+3);have z3:we.cell? ⟨bl,d*8+3,none⟩=some (GV GU (T d 1).2):=hrow.cell (htab.2 d 1 hdN au).2;have y4:we.cell? ⟨bl,i*8+4,none⟩=some (GV GU (T i 2).1):=hrow.cell (htab.2 i 2 hlt au).1;have f4:=hrow.frozen (d*8+4);have z4:we.cell? ⟨bl,d*8+4,none⟩=some (GV GU (T d 2).1):=hrow.cell (htab.2 d 2 hdN au).1;have y5:we.cell? ⟨bl,i*8+5,none⟩=some (GV GU (T i 2).2):=hrow.cell (htab.2 i 2 hlt au).2;have f5:=hrow.frozen (d*8+5);have z5:we.cell? ⟨bl,d*8+5,none⟩=some (GV GU (T d 2).2):=hrow.cell (htab.2 d 2 hdN au).2;have y6:we.cell? ⟨bl,i*8+6,none⟩=some (GV GU (T i 3).1):=hrow.cell (htab.2 i 3 hlt au).1;have f6:=hrow.frozen (d*8+6);have z6:we.cell? ⟨bl,d*8+6,none⟩=some (GV GU (T d 3).1):=hrow.cell (htab.2 d 3 hdN au).1;have y7:we.cell? ⟨bl,i*8+7,none⟩=some (GV GU (T i 3).2):=hrow.cell (htab.2 i 3 hlt au).2;have f7:=hrow.frozen (d*8+7);have z7:we.cell? ⟨bl,d*8+7,none⟩=some (GV GU (T d 3).2):=hrow.cell (htab.2 d 3 hdN au).2;have n0:=rn.cell (i:=0) rfl;have n1:=rn.cell (i:=1) rfl;have n2:=rn.cell (i:=2) rfl;have n3:=rn.cell (i:=3) rfl;clear htab hin hrow hwr rn hk rQ hx;go_upto_region 26 with(fail)
         obtain⟨W5,hW5,hr5,hw5⟩:=aiE AV.o d (T i 0) (T i 1) (T i 2) (T i 3);rw[<-hW5];have hnlt:=HRN.o.lt;have m0:=(hw5.cell nb 0 hnlt FI).trans n0;have m1:=(hw5.cell nb 1 hnlt FI).trans n1;have m2:=(hw5.cell nb 2 hnlt FI).trans n2;have HT5:=Ag (HTAB.o.copy (s:=i) hdN);have BX:=Ag (HRN.o.wrote hw5 FI);have HW5:=Ag (HWR.o.trans hw5);have HR5:=Ag hr5;clear hW5 hr5 hw5 n0 n1 n2 n3 ec hnlt HWR HRN AV HBD y0 y1 y2 y3 y4 y5 y6 y7 z0 z1 z2 z3 z4 z5 z6 z7 f0 f1 f2 f3 f4 f5 f6 f7;by_cases hk2:n.kind=2
         case neg =>
          have t1:(n.kind==2)=false:=by simpa using hk2
          have Eb:=Ag (HIN.o.kid HGD.o HNN.o HXD.o (T':=ag1 T d i) (λc p h=>LG h) (λp hp=>by unfold ag1; rw[LH rfl,LG (λh=>hk2 h.1)]));clear hk2;go_wp2_with fail
          go_roundw
          case rel=>exact⟨j+1,_,_,FI,by go_num,HT5.o,Eb.o,HR5.o,BX.o,HW5.o⟩
          case measure=>exact zMs
         have t1:(n.kind==2)=true:=by simp[hk2]
         obtain⟨pp,hpp,akG⟩:∃ pp:Nat,n.aH=(pp:Int)/\pp < 4:=by
          exact zc5
         have Eb:=Ag (HIN.o.kid HGD.o HNN.o HXD.o (T':=ac7 (ag1 T d i) d pp (n.info,(j:Int))) (λc p h=>by unfold ac7; rw[LG (λe=>h e.1)]; exact LG h) (λp hp=>by
          unfold ac7;by_cases e:p=pp
          ·rw[LH ⟨rfl,e⟩,LH ⟨hk2,by rw[hpp,e]⟩]
          ·rw[LG (λh=>e h.2),LG (λh=>e (by have:=h.2; omega))]; exact LH rfl))
         have HPE:=Ag hpp;rw[hpp] at m1;have q0:=HR5.o.cell (HT5.o.2 d pp hdN akG).1;have q1:=HR5.o.cell (HT5.o.2 d pp hdN akG).2;have g0:=HR5.o.frozen (d*8+pp*2);have g1:=HR5.o.frozen (d*8+pp*2+1);have hpi:(pp:Int) < 4:=FI;clear hk2 hpp;go_wp2_with fail
         refine aP (λw'=>w'.cell? ⟨nb,1,none⟩=some (GV GU (pp:Int))/\w'.cell? ⟨nb,2,none⟩=some (GV GU n.info)) 10 1 aj rfl aj ⟨m1,m2⟩ λhHeld=>?_
         refine Zo ?_;refine tkm [0,1,2,3,4,5,6,7,8,9] ?_;refine Zp ?_;clear hHeld;go_wp2
         refine ZW ?_;go_wp2
         go_roundw
         case rel =>
          (repeat apply Exists.intro)
          refine⟨⟨j+1,_,_,FI,by go_num,HT5.o.put hdN akG (n.info,(j:Int)),Eb.o,(HR5.o.drew.set _ _).set _ _,(BX.o.drew.other (a:=⟨bl,d*8+pp*2,none⟩) (by show nb≠bl; omega) _).other (a:=⟨bl,d*8+pp*2+1,none⟩) (by show nb≠bl; omega) _,(HW5.o.drew.setCell (p:=⟨bl,d*8+pp*2,none⟩) (.inl rfl) _).setCell (p:=⟨bl,d*8+pp*2+1,none⟩) (.inl rfl) _⟩,rfl⟩
         case measure=>exact zMs
        ·have hje:j=n.next.length:=FI;subst hje;have Eb:=Ag (HIN.o.next HNN.o);clear htab hin hrow rn hwr;go_wp2_with fail
         go_roundw
         case rel=>exact⟨i+1,cs,T,FI,by go_num,HTAB.o,Eb.o,AV.o,HWR.o⟩
         case measure=>exact zMs
      ·have hie:i=g.F7.length:=FI;subst hie;have hxl:=HRX.o.lt;have x1:=(HWR.o.cell w.heap.size 1 hxl FI).trans (HRX.o.cell (i:=1) rfl);have x2:=(HWR.o.cell w.heap.size 2 hxl FI).trans (HRX.o.cell (i:=2) rfl);have hwN:IntKind.i64.wrap ((g.F7.length:Int) - 1)=(g.F7.length:Int) - 1:=IY _ FI;go_wp2_with (at_make; refine aer _ rfl _ _ 63 rfl 71 _ 2 16 KC Tryz.infoSeq rfl FI g.F8.length rfl rfl FI ?_; intro w5 hb5 hz5 hm5)
       obtain⟨b2,hb2⟩:=Gp wd.heap.size;rw[<-hb2] at hm5 ⊢;have HM5:=Ag hm5;have Gh:=Ag (AV.o.below hb5 AV.o.lt);have HX5:=Ag ((HRX.o.wrote HWR.o FI).below hb5 FI);have HB5:=Ag (HBD.o.trans (hb5.mono HBD.o.size));have hbb:bl < b2:=FI;have hb25:=hm5.lt;have hTd:=HIN.o;have HTD:=Ag (λc p (hc:c < g.F7.length) (hp:p < 4)=>hTd.done HGD.o hc hp);clear x1 x2 hm5 hb5 hz5 hb2 hTd hwN;go_loopw [16] (λiv wr=>∃ (m:Nat) (z:Int) (O:List (Int×Int)),m<=g.F7.length/\iv = GV GU z/\z=(m:Int) - 1/\CJ g m O/\Row wr b2 71 (qw O)/\Wrote (λx=>x=b2) w5 wr) (λiv _=>(intOf iv+1).toNat)
       case atStart =>
        refine⟨g.F7.length,_,GX g.F8.length (0,0),Gy _,rfl,rfl,CJ.start g,?_,Ir _ _⟩;have e:qw (GX g.F8.length (0,0))=GX (g.F8.length*2) (GV GU 0):=by
         have:∀ n,qw (GX n (0,0))=GX (n*2) (GV GU 0):=by
          intro n;induction n with
          | zero=>rfl
          | succ n ih =>
           rw[KX];show _ :: _ :: qw (GX n (0,0))=_;rw[ih,show(n+1)*2=n*2+1+1 by omega,KX,KX]
         exact this _
        rw[e];exact HM5.o
       case round =>
        clear HM5;obtain⟨m,z,O,hm,rfl,hz,hout,hrow,hwr⟩:=hrel;obtain⟨wg,rfl⟩:=Gp wr;have EC:=Ag hout;have HRO:=Ag hrow;have HW:=Ag hwr;clear hout hrow hwr;rcases H6 m with h0 | h0
        ·subst h0;have t0:decide (0<=z)=false:=LJ FI;have HD:=Ag (EC.o.done HF.o);have HBG:=Ag (Ht HB5.o HW.o (λb hb=>by omega) HB5.o.size);have hln:=EC.o.1;clear hz;go_wp2
         go_ret2;refine⟨_,rfl,HBG.o,_,by rw[HE.o]; rfl,?_⟩;rw[HO.o,<-HD.o];have h1:=Row.pairs (rest:=[]) (G:=λb=>w.heap.size<=b) (by rw[IV]; exact HRO.o) (show w.heap.size<=b2 by omega) (c:=g.F8.length) FI;rw[hln] at h1;exact h1
        ·obtain⟨i,rfl⟩:∃ i,m=i+1:=⟨m - 1,FI⟩;obtain rfl:z=(i:Int):=FI;have t0:decide (0<=(i:Int))=true:=LK FI;have hwi:IntKind.i64.wrap ((i:Int) - 1)=(i:Int) - 1:=IY _ FI;have HBG:=Ag (Ht HB5.o HW.o (λb hb=>by omega) HB5.o.size);obtain⟨n,hn⟩:=Gl (l:=g.F7) (k:=i) FI;have hne:=HC.o i n hn;refine zaE ?_;intro n0 n1 n2 v3 n3 h3 v4 n4 h4 v5 n5 h5;obtain⟨A3,c3,rfl,_,_⟩:=h3;obtain⟨A4,c4,rfl,_,_⟩:=h4;obtain⟨A5,c5,rfl,_,_⟩:=h5;replace n0:=ah n0 HBG.o;replace n1:=ah n1 HBG.o;replace n2:=ah n2 HBG.o;replace n3:=ah n3 HBG.o;replace n4:=ah n4 HBG.o;replace n5:=ah n5 HBG.o;have HXG:=Ag (HX5.o.wrote HW.o (by have:=HX5.o.lt; have:=HRX.o.lt; omega));have x1:=HXG.o.cell (i:=1) rfl;have HRG:=Ag (Gh.o.wrote HW.o FI);have HNN:=Ag hn;have hiN:i < g.F7.length:=FI;clear hn hne hz;go_upto_region 35 with(fail)
         obtain⟨W1,hW1,rn,hbn,hz1⟩:=dW wg 51 #[GV GU n.kind,GV GU n.aH,GV GU n.info,Gw A3 n.next.length c3,Gw A4 n.weights.length c4,Gw A5 n.pay.length c5];rw[<-hW1];obtain⟨nb,hnb⟩:=Gp wg.heap.size;rw[<-hnb] at rn ⊢;have ED:=Ag (HRO.o.below hbn HRO.o.lt);have HRG1:=Ag (HRG.o.below hbn HRG.o.lt);have HW1:=Ag (HW.o.trans (show Wrote (λx=>x=b2) wg W1 from⟨hbn.os,hbn.tape,hbn.output,hbn.size,λb' hb' _=>hbn.block b' hb'⟩));have m0:=rn.cell (i:=0) rfl;have m1:=rn.cell (i:=1) rfl;have m2:=rn.cell (i:=2) rfl;clear hW1 hz1 hnb rn hbn n0 n1 n2 n3 n4 n5 x1;by_cases hk2:n.kind=2
         case neg =>
          have t1:(n.kind==2)=false:=by simpa using hk2
          have HO2:=Ag (EC.o.skip HNN.o hk2);clear hk2;go_wp2_with fail
          go_roundw
          case rel=>exact⟨i,_,O,FI,rfl,rfl,HO2.o,ED.o,HW1.o⟩
          case measure=>simp[intOf] <;> omega
         have t1:(n.kind==2)=true:=by simp[hk2]
         obtain⟨pp,hpp,akG⟩:∃ pp:Nat,n.aH=(pp:Int)/\pp < 4:=by
          exact zc5
         have hin:=HGD.o.F8 n (Gx HNN.o) hk2;obtain⟨s,hs⟩:∃ s:Nat,n.info=(s:Int):=⟨n.info.toNat,FI⟩;have hsl:s < g.F8.length:=FI;obtain⟨inf,hi1,_,hi2⟩:=mD HF.o (Gx HNN.o) hk2;have HLP:=Ag (show jh g (pp:Int) i=jh g (g.F8.getD s default).aH i by
          rw[hs,Ic] at hi1;rw[GH,hi1,Jt,hi2,hpp])
         have HO2:=Ag (EC.o.put HNN.o hk2 hs hsl (jh g (pp:Int) i) HLP.o);obtain⟨lp,hlp⟩:=Gp (jh g (pp:Int) i);have hTc:=HTD.o i pp hiN akG;obtain⟨y0,y1⟩:=HTAB.o.2 i pp hiN akG;rw[hTc,<-hlp] at y0 y1;rw[<-hlp] at HO2;replace y0:=HRG1.o.cell y0;replace y1:=HRG1.o.cell y1;rw[hpp] at m1;rw[hs] at m2;obtain⟨ox,hox⟩:=Gl (l:=O) (k:=s) (by rw[EC.o.1]; exact hsl);obtain⟨z0,z1⟩:=yH (rest:=[]) hox;rw[IV] at z0 z1;replace z0:=ED.o.cell z0;replace z1:=ED.o.cell z1;have g0:=ED.o.frozen (s*2);have g1:=ED.o.frozen (s*2+1);have hpi:(pp:Int) < 4:=FI;clear hk2 hpp hin hs hi1 hi2 hlp hTc hox;go_wp2_with fail
         refine aP (λw'=>w'.cell? ⟨nb,1,none⟩=some (GV GU (pp:Int))/\w'.cell? ⟨nb,2,none⟩=some (GV GU (s:Int))/\w'.cell? ⟨bl,i*8+pp*2,none⟩=some (GV GU lp.1)/\w'.cell? ⟨bl,i*8+pp*2+1,none⟩=some (GV GU lp.2)) 11 1 aj rfl aj ⟨m1,m2,y0,y1⟩ λhHeld=>?_
         refine Zo ?_;refine tkm [0,1,2,3,4,5,6,7,8,9,10] ?_;refine Zp ?_;clear hHeld;go_wp2
         refine ZW ?_;go_wp2
         go_roundw
         case rel =>
          have h1:=(ED.o.set (s*2) (GV GU lp.1)).set (s*2+1) (GV GU lp.2);have h2:=abn (rest:=[]) (show s < O.length by rw[EC.o.1]; exact hsl) lp;rw[IV,IV] at h2;rw[h2] at h1;exact⟨i,_,O.set s lp,FI,rfl,rfl,HO2.o,h1.drew,((HW1.o.setCell (p:=⟨b2,s*2,none⟩) (.inl rfl) _).setCell (p:=⟨b2,s*2+1,none⟩) (.inl rfl) _).drew⟩
         case measure=>simp[intOf] <;> omega
def eH (p:List (List Rat)) (s:Int×Int):Rat:=if s.1 < 0 then 1 else (p.getD s.1.toNat []).getD s.2.toNat 0
def jU (up:List (Int×Int)) (m:List (List Rat)):Nat->List (List Rat)
 | 0=>[]
 | k+1=>jU up m k ++ [(m.getD k []).map λx=>eH (jU up m k) (up.getD k (-1,-1))*x]
def cO (up:List (Int×Int)) (m:List (List Rat)):List (List Rat):=jU up m m.length
theorem eY (up:List (Int×Int)) (m:List (List Rat)):∀ k,(jU up m k).length=k
 | 0=>rfl
 | k+1=>by rw[jU,G9,eY up m k]; rfl
theorem kL {up:List (Int×Int)} {m:List (List Rat)} {i:Nat}:∀ {k:Nat},i < k->(jU up m k).getD i []=(m.getD i []).map λx=>eH (jU up m i) (up.getD i (-1,-1))*x
 | 0,h=>by omega
 | k+1,h=>by
  rw[jU,GH];by_cases e:i < k
  ·rw[List.getElem?_append_left (by rw[eY]; exact e),<-GH,kL e]
  ·obtain rfl:i=k:=FI;rw[List.getElem?_append_right (by rw[eY]; exact Gy _),eY,Nat.sub_self]; rfl
theorem ada {up:List (Int×Int)} {m:List (List Rat)} {s:Int×Int} {k':Nat} (h:s.1 < 0\/(s.1 < (k:Int))) (hk:k<=k'):eH (jU up m k) s=eH (jU up m k') s:=by grind [eH,kL]
structure Dh (up:List (Int×Int)) (m:List (List Rat)):Prop where
 len:up.length=m.length
 ok:∀ (k:Nat) (s:Int×Int),up[k]? = some s->s.1 < 0\/(0<=s.1/\s.1 < (k:Int)/\0<=s.2/\s.2 < ((m.getD s.1.toNat []).length:Int))
def qc (up:List (Int×Int)) (m:List (List Rat)):Nat->Int×Int->Rat->Rat
 | 0,_,acc=>acc
 | f+1,s,acc=>if s.1 < 0 then acc else qc up m f (up.getD s.1.toNat (-1,-1)) (acc*(m.getD s.1.toNat []).getD s.2.toNat 0)
def ofRow (up:List (Int×Int)) (m:List (List Rat)) (k:Nat):List Rat:=(m.getD k []).map λx=>qc up m (m.length+1) (up.getD k (-1,-1)) 1*x
def ofL (up:List (Int×Int)) (m:List (List Rat)):List (List Rat):=(Ig m.length).map (ofRow up m)
theorem aaH (l:List Rat) (a:Rat) (k:Nat):(l.map λx=>a*x).getD k 0=a*l.getD k 0:=by grind
theorem abT {up:List (Int×Int)} {m:List (List Rat)} (h:Dh up m):∀ (f:Nat) (s:Int×Int) (acc:Rat),(s.1 < 0\/(0<=s.1/\s.1 < (f:Int)/\s.1 < (m.length:Int)))->1<=f->qc up m f s acc=acc*eH (cO up m) s
 | 0,_,_,_,h0=>by omega
 | f+1,s,acc,hs,_=>by
  unfold qc;by_cases h0:s.1 < 0
  ·rw[LH h0]; unfold eH; rw[LH h0,Rat.mul_one]
  ·rw[LG h0];have hs:=hs.resolve_left h0;obtain⟨t,ht⟩:=Gl (l:=up) (k:=s.1.toNat) (by rw[h.len]; omega);have htd:up.getD s.1.toNat (-1,-1)=t:=by rw[GH,ht]; rfl
   rw[htd];have ho:=h.ok _ _ ht;have e:eH (cO up m) s=eH (cO up m) t*(m.getD s.1.toNat []).getD s.2.toNat 0:=by
    have h1:eH (cO up m) s=((cO up m).getD s.1.toNat []).getD s.2.toNat 0:=by rw[eH,LG h0]
    rw[h1];unfold cO;rw[kL FI,htd,aaH];congr 1;exact ada FI FI
   rw[e];rcases H6 f with hf | hf
   ·subst hf;have h2:t.1 < 0:=FI;unfold qc eH;rw[LH h2,Rat.one_mul]
   ·rw[abT h f t _ FI hf,Rat.mul_assoc,Rat.mul_comm ((m.getD s.1.toNat []).getD s.2.toNat 0)]
theorem aoA {up:List (Int×Int)} {m:List (List Rat)} (h:Dh up m):ofL up m=cO up m:=by
 refine IW λi=>?_
 unfold ofL;rw[GY];by_cases hi:i < m.length
 ·rw[Kq hi];obtain⟨l,hl⟩:=Gl (l:=cO up m) (k:=i) (by unfold cO; rw[eY]; exact hi);have e:(cO up m).getD i []=l:=by rw[GH,hl];rfl
  rw[hl,<-e];obtain⟨t,ht⟩:=Gl (l:=up) (k:=i) (by rw[h.len]; omega);have htd:up.getD i (-1,-1)=t:=by rw[GH,ht];rfl
  have ho:=h.ok _ _ ht;show some (ofRow up m i)=_;unfold ofRow;rw[htd,abT h _ t _ FI FI,Rat.one_mul];unfold cO;rw[kL hi,htd,ada (k:=i) (k':=m.length) FI FI]
 grind [cO,eY]
def jK (l:List Rat):List Rat:=if jm l=0 then og l.length else l.map (· / jm l)
def gB (p:List (List Rat)):List (List Rat):=p.map jK
theorem Tryz.infoNumRow:(Tryz.prog.info? 61).map (λi=>(i.zero,i.size,i.bytes))=some (some (Gw none 0 0),1,24):=aj
def zn (g:Gm):Int:=if aQ g≠0 then aQ g else lH g
def oZ (g:Gm):List (Int×Int):=if aQ g≠0 then [] else jy g
theorem tV (w:GK) (F:Gq) (u:GN) (g:Gm) (hg:AB w F u g) (hsm:Small g) :
  Calls GI 65 #[u] w (Ret w λv w'=>∃ vp,v = .tuple #[vp,GV GU (zn g)]/\AA w' (λb=>w.heap.size<=b) vp (oZ g)):=by
 have HG:=Ag hg;have HSM:=Ag hsm;obtain⟨vn,vi,rfl,⟨A,c,rfl,hc,_⟩,⟨Ai,ci,rfl,hci,_⟩⟩:=hg;clear hsm;go_in;go_wp2_with fail
 generalize hW:G5 _ _=W;obtain⟨rx,hB,hz⟩:=aI hW;refine zaG ?_;clear HG;intro HG x0 x1 x2;clear hW hz;go_wp2_with fail
 clear x0 x1 x2;refine(abg W F _ g HG.o HSM.o).mono ?_;rintro e w1 ⟨_,rfl,hb,rfl⟩;rw[yD];refine zdg ?_;clear HG;intro HG;refine Ya ?_;clear rx hB;intro rx hB;refine Zd ?_;intro x0 x1 x2;have hPE:zn g=if aQ g≠0 then aQ g else lH g:=rfl
 have hPO:oZ g=if aQ g≠0 then [] else jy g:=rfl
 have HPE:=Ag hPE;have HPO:=Ag hPO;have HF:=Ag (λh:aQ g=0=>h);obtain⟨fe,hfe⟩:=Gp (aQ g);rw[<-hfe] at HPE HPO HF ⊢;have HFE:=Ag hfe;clear hb hPE hPO hfe rx;dsimp only;by_cases h0:fe=0
 ·subst h0;go_wp2_with fail
  clear x0 x1 x2;refine(ace w1 F _ g HG.o HSM.o HFE.o.symm).mono ?_;rintro e w2 ⟨_,rfl,hb,vp,rfl,hvp⟩;have HB2:=Ag (hB.trans (hb.mono hB.size));have HVP:=Ag (AA.keep (G:=λb=>w.heap.size<=b) hvp (λb h _=>by have:=hB.size; omega) (GZ _ _));obtain⟨Ap,cp,rfl⟩:=hvp.open;clear hb hvp;dsimp only;go_wp2_with fail
  go_ret2;exact zdQ
 ·refine zaq ?_;intro t0 H0;clear h0;go_wp2_with fail
  go_ret2;exact zdz
theorem qJ {g:Gm} (hf:aQ g=0) {inf:Inf} (hi:g.F8[i]? = some inf):1<=inf.actions/\inf.actions<=10:=by
 obtain⟨n,hn,hk,hin,_⟩:=kJ hf (Gn hi);obtain⟨inf',h1,h2,_⟩:=mD hf (Gx hn) hk;have h3:=kF (dP hf).1 (Gx hn) hk;grind
theorem anF {n:Nat} (h1:1<=n) (h2:n<=10):∀ x∈og n,rl x<=4:=by
 intro x hx;unfold og at hx;rw[List.eq_of_mem_replicate hx];exact yF ⟨FI,FI⟩ ⟨FI,FI⟩
theorem adb (h:∀ x∈xs,rl x<=1024):nH xs=0:=by grind [nH]
theorem afC {g:Gm} {m:List (List Rat)} (h:iw g (m.map (Iq ak))=0):Dh (aU g) m:=by
 have hf:=xk h;obtain⟨hlen,hrows⟩:=vP (tC h);rw[Gz,Gz] at hlen;refine⟨by rw[aS,hlen],λk s hs=>?_⟩;rcases (zS hf).ok k s hs with h1 | ⟨h1,h2,h3,h4⟩
 ·exact .inl h1
 ·have hk:k < g.F8.length:=by have:=Gn hs;rwa [aS] at this
  obtain⟨inf,hi⟩:=Gl (l:=g.F8) (k:=s.1.toNat) FI;obtain⟨l,hl⟩:=Gl (l:=m) (k:=s.1.toNat) FI;have hr:=hrows s.1.toNat inf.actions (l.map ak) (by rw[GY,hi]; rfl) (by rw[GY,hl]; rfl);have hll:=(yE hr).1;grind
theorem xQ {m:List (List Rat)} (h:BQ (m.map (Iq ak))):∀ l∈m,∀ x∈l,rl x<=4:=λl hl x hx =>
 Nat.max_le.2 (h (l.map ak) (IL hl) (ak x) (IL hx))
theorem yI (m:List (List Rat)):(m.map (Iq ak)).map (Iq gK)=m:=by
 rw[List.map_map];conv=>rhs;rw[<-List.map_id m]
 refine List.map_congr_left λl _=>?_
 show(l.map ak).map gK=l;rw[List.map_map];conv=>rhs;rw[<-List.map_id l]
 grind [List.map_congr_left,uJ]
theorem rU (g:Gm):(lH g=0/\jy g=aU g)\/lH g≠0:=by grind [lH,jy]
section
variable {F:Gq} {w wr w':GK} {bo n B1 B2 qb:Nat} {vs:List GN} {ls:List (List Raw)} {u v:GN} {L:List RV} {x:Rat} {A B:Option Addr} {c d:Nat}
theorem MkO.lay {l:List Raw} (h:MkO F w bo t n B1 vs ls wr) (hn:vs.length < n) (hv:Gs wr (GoF F w B1) v l) (hk:vs.length=k):MkO F w bo t n B1 (vs ++ [v]) (ls ++ [l]) (wr.setCell ⟨bo,k,none⟩ v):=by
 subst hk;have h1:=h.lo; have h2:=h.hi;have hS:Same (GoF F w B1) wr (wr.setCell ⟨bo,vs.length,none⟩ v):=J5 _ wr (p:=⟨bo,vs.length,none⟩) (λe=>by
  have e:GoF F w B1 bo:=e;rcases e with e | e <;> omega) _
 refine⟨?_,(h.done.snoc hv).keep (λ_ h _=>h) hS,h.bel.setCell (p:=⟨bo,vs.length,none⟩) h.lo _,h.lo,h.hi,by simpa using h.size⟩;have:=h.row.set vs.length v;grind [restN_set]
structure BI (F:Gq) (w:GK) (bo n B1 B2 qb:Nat) (vs:List GN) (ls:List (List Raw)) (x:Rat) (A:Option Addr) (c:Nat) (B:Option Addr) (d:Nat) (u v:GN) (L:List RV) (wr:GK):Prop where
 made:Mk F w bo 61 74 n B1 B2 vs ls u v L wr
 afD:Row wr qb 74 [G7 (ay x).neg,Gw A (ay x).num.length c,Gw B (ay x).den.length d]
 tot:NmV wr (GdF F w B1 B2) (.agg #[G7 (ay x).neg,Gw A (ay x).num.length c,Gw B (ay x).den.length d]) x
 ne:bo < qb/\qb < B2
theorem BI.below (h:BI F w bo n B1 B2 qb vs ls x A c B d u v L wr) (hb:Below wr.heap.size wr w'):BI F w bo n B1 B2 qb vs ls x A c B d u v L w' :=
 ⟨h.made.below hb,h.afD.below hb h.afD.lt,h.tot.below hb,h.ne⟩
theorem BI.size (h:BI F w bo n B1 B2 qb vs ls x A c B d u v L wr):B2<=wr.heap.size:=h.made.size
theorem BI.own (h:BI F w bo n B1 B2 qb vs ls x A c B d u v L wr):OwnSl ratK wr B2 74 (GoF F w B1) v L:=h.made.own
theorem BI.cell (h:BI F w bo n B1 B2 qb vs ls x A c B d u v L wr) (hk:vs.length=k):wr.cell? ⟨bo,k,none⟩=some u:=h.made.cell hk
theorem BI.frozen (h:BI F w bo n B1 B2 qb vs ls x A c B d u v L wr) (k:Nat):wr.frozen? ⟨bo,k,none⟩=false:=h.made.frozen k
theorem BI.grow {v':GN} {L':List RV} (h:BI F w bo n B1 B2 qb vs ls x A c B d u v L wr) (ho:OwnSl ratK w' B2 74 (GoF F w B1) v' L') (hs:Same (λb=>v.ownBlock≠some b) wr w') (hb:Below B2 wr w'):BI F w bo n B1 B2 qb vs ls x A c B d u v' L' w':=by
 have hlt:=λb (e:v.ownBlock=some b)=>(h.made.own.row.lt b e).1
 have h1:=h.made.lo;have h2:=h.made.hi;have h3:=h.made.mid;have h4:=h.ne;refine⟨h.made.grow ho hs hb,h.afD.of_block (hs.2 qb (λe=>by have:=hlt qb e; omega) h.afD.lt),Ak.keep h.tot (λ_ h _=>h) (hs.mono λb hb' e=>?_),h.ne⟩;have:=hlt b e;rcases hb' with hb' | hb' <;> omega
theorem BI.put (h:BI F w bo n B1 B2 qb vs ls x A c B d u v L wr) (hk:vs.length=k):BI F w bo n B1 B2 qb vs ls x A c B d v v L (wr.setCell ⟨bo,k,none⟩ v):=by
 have h1:=h.made.lo;have h2:=h.made.hi;have h3:=h.made.mid;have h4:=h.ne;have hS:∀ (G:Gq),(∀ b,G b->b≠bo)->Same G wr (wr.setCell ⟨bo,k,none⟩ v):=λG hG=>J5 G wr (p:=⟨bo,k,none⟩) (λh=>hG bo h rfl) _
 refine⟨h.made.put hk,h.afD.of_block ((hS (λb=>b=qb) λb hb=>by omega).2 qb rfl h.afD.lt),Ak.keep h.tot (λ_ h _=>h) (hS _ λb hb=>?_),h.ne⟩;rcases hb with hb | hb <;> omega
end
theorem aaI {l:List Rat} (h:jm l=0):jK l=og l.length:=by unfold jK; rw[LH h]
theorem abU {l:List Rat} (h:jm l≠0):jK l=l.map (· / jm l):=by unfold jK; rw[LG h]
theorem zU {p:List (List Rat)} {l:List Rat} (h:p[k]? = some l):(gB p).take (k+1)=(gB p).take k ++ [jK l]:=by grind [gB,Gv]
theorem amk (w:GK) (F:Gq) (v:GN) (p:List (List Rat)) (hv:Gt w F v (p.map (Iq ay))) (hl:p.length<=100) (hr:∀ l∈p,l.length<=10) (hf:∀ l∈p,∀ x∈l,rl x<=20000) (hs:∀ l∈p,∀ k,rl (jm (l.take k))<=20000) :
  Calls GI 74 #[v] w (Ret w λu w'=>Gt w' (Ext F w.heap.size) u ((gB p).map (Iq ay))):=by
 have HV:=Ag hv;have HR:=Ag hr;have HFX:=Ag hf;have HS:=Ag hs;obtain⟨n,hn⟩:=Gp p.length;obtain⟨A,c,e,-,-⟩:=hv;rw[Gz,<-hn] at e;subst e;have HN:=Ag hn;have hn100:n<=100:=FI;clear hr hf hs hl hn;go_in;go_wp2_with fail
 refine(akt w).mono ?_;rintro e w1 ⟨_,rfl,hb,vs,rfl,hev⟩;have HEV:=Ag (hev.keep (G:=λb=>w.heap.size<=b) (λb h _=>h) (GZ _ _));obtain⟨a0,a1,a2,a3,a4,a5,a6,a7,a8,a9,a10,rfl⟩:=al4 hev.1;have hB1:=hb;clear hev hb;obtain⟨A0,C0,e0,-,-⟩:=HEV.o.2 0 a0 _ rfl rfl;obtain rfl:a0 = Gw A0 0 C0:=e0;obtain⟨A1,C1,e1,-,-⟩:=HEV.o.2 1 a1 _ rfl rfl;obtain rfl:a1 = Gw A1 1 C1:=e1;obtain⟨A2,C2,e2,-,-⟩:=HEV.o.2 2 a2 _ rfl rfl;obtain rfl:a2 = Gw A2 2 C2:=e2;obtain⟨A3,C3,e3,-,-⟩:=HEV.o.2 3 a3 _ rfl rfl;obtain rfl:a3 = Gw A3 3 C3:=e3;obtain⟨A4,C4,e4,-,-⟩:=HEV.o.2 4 a4 _ rfl rfl;obtain rfl:a4 = Gw A4 4 C4:=e4;obtain⟨A5,C5,e5,-,-⟩:=HEV.o.2 5 a5 _ rfl rfl;obtain rfl:a5 = Gw A5 5 C5:=e5;obtain⟨A6,C6,e6,-,-⟩:=HEV.o.2 6 a6 _ rfl rfl;obtain rfl:a6 = Gw A6 6 C6:=e6;obtain⟨A7,C7,e7,-,-⟩:=HEV.o.2 7 a7 _ rfl rfl;obtain rfl:a7 = Gw A7 7 C7:=e7;obtain⟨A8,C8,e8,-,-⟩:=HEV.o.2 8 a8 _ rfl rfl;obtain rfl:a8 = Gw A8 8 C8:=e8;obtain⟨A9,C9,e9,-,-⟩:=HEV.o.2 9 a9 _ rfl rfl;obtain rfl:a9 = Gw A9 9 C9:=e9;obtain⟨A10,C10,e10,-,-⟩:=HEV.o.2 10 a10 _ rfl rfl;obtain rfl:a10 = Gw A10 10 C10:=e10;dsimp only;go_upto_region 2 with(fail)
 generalize hW3:G5 _ _=W3;obtain⟨re,hb,hz⟩:=aI hW3;obtain⟨vs,hvl,hE,hre⟩:∃ vs:List GN,vs.length=11/\DoneRows W3 (λb=>w.heap.size<=b/\b < W3.heap.size) vs ((Ig 11).map λn=>(og n).map ay)/\Row W3 w1.heap.size 167 vs:=⟨_,rfl,HEV.o.keep (λb h hl=>⟨h,FI⟩) (GL hb _),re⟩;have HE:=Ag hE;have HRE:=Ag hre;have HVL:=Ag hvl;have hB3:=hB1.trans (hb.mono hB1.size);obtain⟨eb,heb⟩:=Gp w1.heap.size;rw[<-heb] at HRE ⊢;have hebW:=HRE.o.lt;have hebw:w.heap.size<=eb:=by have:=hB1.size;omega
 have HB3:=Ag hB3;have hz3:=hB3.size;clear hE hre hb hz hW3 re hB1 HEV hvl hB3 heb;go_wp2_with (at_make; refine fG _ rfl _ _ 118 rfl 61 (Gw none 0 0) 24 Tryz.underlying118 Tryz.infoNumRow rfl n rfl rfl FI FI ?_; intro w2 hb2 hz2 hm2)
 have HM0:=Ag (MkO.begin (F:=Ext F w.heap.size) (B1:=w2.heap.size) hm2 hb2 (Gy _) FI (Gy _));obtain⟨bo,hbo⟩:=Gp W3.heap.size;have hbo1:W3.heap.size<=bo:=FI;have aox:bo<=W3.heap.size:=FI;have hb3w:=hb2.size;rw[<-hbo] at HM0 ⊢;clear hm2 hb2 hz2 hbo;go_loopw [16] (λiv wr=>∃ (k:Nat) (vs':List GN),k<=n/\iv = GV GU (k:Int)/\vs'.length=k/\MkO (Ext F w.heap.size) W3 bo 61 n w2.heap.size vs' (((gB p).take k).map (Iq ay)) wr) (λiv _=>n - (intOf iv).toNat)
 case atStart=>exact⟨0,[],FI,rfl,rfl,HM0.o⟩
 case round =>
  clear HM0;obtain⟨k,vs',hk,rfl,hvl',hmk⟩:=hrel;obtain⟨wa,rfl⟩:=Gp wr;have HM:=Ag hmk;have DK:=Ag hvl';have hB:=HB3.o.trans (hmk.bel.mono hz3);have haz:=hmk.size;have hhi:=hmk.hi;clear hmk hvl';by_cases hlt:k < n
  ·obtain⟨row,hrow⟩:=Gl (l:=p) (k:=k) (by rw[<-HN.o]; exact hlt);obtain⟨A',c',e,_,hxm⟩:=HV.o;rw[Gz,<-HN.o] at e;injection e with e1 e2 e3
   subst e1;obtain⟨mb,mo,rfl,_,uq,hcm⟩:=hxm (by rw[Gz,<-HN.o]; omega);obtain⟨vr,hvr,hra⟩:=hcm k (row.map ay) (by rw[GY,hrow]; rfl);have AV:=Ag hrow;have hmem:=Gx hrow;have HRV:=Ag (show Gs w (Old F w.heap.size) vr (row.map ay) from hra.keep (λb hb hl=>⟨hb,hl⟩) (GZ _ _));obtain⟨Ar,cr,rfl,-,-⟩:=hra;rw[Gz,Ho] at hvr;rw[Gz] at HRV;have m1:=(hB.cell (p:=⟨mb,mo+k,none⟩) uq).trans hvr;have hr10:=HR.o row hmem;have HRX:=Ag (HFX.o row hmem);have HRS:=Ag (HS.o row hmem);clear hxm hcm hrow e2 e3 hvr uq hmem;go_wp2_with fail
   clear m1;refine(sum_any wa (Old F w.heap.size) _ row (HRV.o.on (GL hB _)) FI HRX.o HRS.o).mono ?_;rintro e w4 ⟨vt,rfl,hb4,hu⟩;obtain⟨tt,htt⟩:=Gp (jm row);rw[<-htt] at hu;have HTL:=Ag (show rl tt<=20000 by rw[htt]; have:=HRS.o row.length; rwa [G8 (Gy _)] at this);have HTT:=Ag htt;obtain⟨At,ct,Bt,dt,rfl,-⟩:=hu.opened;have HU:=Ag hu;replace HM:=Ag (HM.o.below hb4);replace hB:=hB.trans (hb4.mono hB.size);have hz4:=hb4.size;clear hu htt hb4;dsimp only;go_upto_region 7 with(fail)
   generalize hW5:G5 _ _=W5;obtain⟨rq,hb,hzq⟩:=aI hW5;obtain⟨qb,hqb⟩:=Gp w4.heap.size;have HT5:=Ag (show NmV W5 (GdF (Ext F w.heap.size) W3 w2.heap.size W5.heap.size) _ tt from Ak.keep HU.o (λb hb hl=>hb.elim (λh=>.inl ⟨.inl h.1,by have:=h.2; omega⟩) λh=>.inr ⟨FI,FI⟩) (GL hb _));replace HM:=Ag (HM.o.below hb);refine ZM ?_;clear hB;intro hB;rw[<-hqb] at rq ⊢;have hqw:wa.heap.size<=qb:=FI;have hq5:qb < W5.heap.size:=FI;clear hb hzq hqb hW5 HU hz4;have t0:=rq.cell (i:=0) rfl;have t1:=rq.cell (i:=1) rfl;have t2:=rq.cell (i:=2) rfl;go_wp2_with fail
   clear t0 t1 t2;refine(iE W5 _ _ tt HT5.o).mono ?_;rintro e w6 ⟨_,rfl,hb6,rfl⟩;replace HM:=Ag (HM.o.below hb6);replace HT5:=Ag (Ak.below HT5.o hb6);replace rq:=rq.below hb6 rq.lt;replace hB:=hB.trans (hb6.mono hB.size);have hz6:=hb6.size;clear hb6;dsimp only;by_cases ht0:tt=0
   ·have d0:decide (tt=0)=true:=LK ht0;have HBR:=Ag (show jK row=og row.length from aaI (by rw[<-HTT.o]; exact ht0));have ha11:row.length < 11:=FI;obtain⟨va,hva⟩:=Gl (l:=vs) (k:=row.length) (by rw[HVL.o]; exact ha11);have hbm:=HM.o.bel;have hra:=HE.o.2 row.length va ((og row.length).map ay) hva (by rw[GY,Kq ha11]; rfl);have ec:=ah (HRE.o.cell hva) hbm;have HEA:=Ag (show Gs w6 (GoF (Ext F w.heap.size) W3 w2.heap.size) va ((og row.length).map ay) from Gs.keep hra (λb hb _=>.inl ⟨.inr hb.1,hb.2⟩) (GL hbm _));obtain⟨Ae,ce,e,-,-⟩:=hra;rw[Gz,show(og row.length).length=row.length from List.length_replicate ..] at e;subst e;have hcu:w6.cell? ⟨bo,k,none⟩=some (Gw none 0 0):=HM.o.row.cell (by rw[<-DK.o]; exact restN_get (by rw[DK.o]; exact hlt));have hfz:=HM.o.row.frozen k;have hai:(row.length:Int) < 11:=FI;rw[d0];clear ht0 d0 hva hbm HT5 rq;go_wp2_with fail
    go_roundw
    case rel=>exact⟨k+1,vs' ++ [Gw Ae row.length ce],FI,by go_num,by rw[G9,DK.o]; rfl,by rw[zU AV.o,HBR.o,Hf]; exact HM.o.lay (by rw[DK.o]; exact hlt) HEA.o DK.o⟩
    case measure=>exact zMs
   ·have d0:decide (tt=0)=false:=LJ ht0;have HT0:=Ag ht0;have HBR:=Ag (show jK row=row.map (· / tt) by rw[abU (by rw[<-HTT.o]; exact ht0),<-HTT.o]);have HK:=Ag (show BI (Ext F w.heap.size) W3 bo n w2.heap.size w6.heap.size qb vs' (((gB p).take k).map (Iq ay)) tt At ct Bt dt (Gw none 0 0) (Gw none 0 0) [] w6 from⟨HM.o.start (by rw[DK.o]; exact hlt) _,rq,Ak.keep HT5.o (λb hb hl=>hb.elim .inl λh=>.inr ⟨h.1,hl⟩) (GZ _ _),FI,FI⟩);rw[d0];clear ht0 d0 HM HT5 rq;go_wp2_with fail
    go_loopw [34] (λi wr=>∃ (j:Nat) (L:List RV) (u:GN),j<=row.length/\i = GV GU (j:Int)/\L.length=j/\L.map RV.r=((row.take j).map (· / tt)).map ay/\BI (Ext F w.heap.size) W3 bo n w2.heap.size w6.heap.size qb vs' (((gB p).take k).map (Iq ay)) tt At ct Bt dt u u L wr) (λi _=>row.length - (intOf i).toNat)
    case atStart=>exact⟨0,[],_,Hg _,rfl,rfl,rfl,HK.o⟩
    case round =>
     clear HK;obtain⟨j,L,u,hj,rfl,hLl,hLm,hmk⟩:=hrel;obtain⟨wb,rfl⟩:=Gp wr;by_cases hjt:j < row.length
     ·obtain⟨x,hx⟩:=Gl hjt;have HM:=Ag hmk;have HLL:=Ag hLl;have HLM:=Ag hLm;have HUB:=Ag (λb (e:u.ownBlock=some b)=>HM.o.own.row.lt b e);have hmid:=HM.o.made.mid;have hsz0:=HM.o.size;have hqne:=HM.o.ne;have hBb:=HB3.o.trans (HM.o.made.bel.mono hz3);have hrx:=HRX.o x (Gx hx);have hra:=HRV.o.on (GL hBb (Old F w.heap.size));obtain⟨rb,ro,rc,vn,vd,e,_,_,y0,y1,y2,hn,hd⟩:=Gs.at hra (show(row.map ay)[j]? = some (ay x) by rw[GY,hx]; rfl);injection e with e1 e2 e3
      subst e1;have HXV:=Ag (Ak.make (r:=ay x) rfl hn hd);obtain⟨An,cn,rfl,-,-⟩:=hn;obtain⟨Ad,cd,rfl,-,-⟩:=hd;have HXX:=Ag hx;have hKX:=HM.o.made.bel.size;clear hmk hLl hLm hra e2 e3 hx hBb;go_upto_region 12 with(fail)
      generalize hW7:G5 _ _=W7;obtain⟨r7,hb,hz7⟩:=aI hW7;clear hW7 y0 y1 y2;obtain⟨xb,hxb⟩:=Gp wb.heap.size;replace HM:=Ag (HM.o.below hb);replace HXV:=Ag (Ak.below HXV.o hb);rw[<-hxb] at r7 HUB hz7 hsz0 hKX ⊢;clear hb hxb;have hcu:=HM.o.cell DK.o;have f0:=HM.o.afD.cell (i:=0) rfl;have f1:=HM.o.afD.cell (i:=1) rfl;have f2:=HM.o.afD.cell (i:=2) rfl;have x0:=r7.cell (i:=0) rfl;have x1:=r7.cell (i:=1) rfl;have x2:=r7.cell (i:=2) rfl;clear r7;go_wp2_with fail
      refine aP (λw'=>w'.cell? ⟨bo,k,none⟩=some (u)/\w'.cell? ⟨qb,0,none⟩=some (G7 (ay tt).neg)/\w'.cell? ⟨qb,1,none⟩=some (Gw At (ay tt).num.length ct)/\w'.cell? ⟨qb,2,none⟩=some (Gw Bt (ay tt).den.length dt)/\w'.cell? ⟨xb,0,none⟩=some (G7 (ay x).neg)/\w'.cell? ⟨xb,1,none⟩=some (Gw An (ay x).num.length cn)/\w'.cell? ⟨xb,2,none⟩=some (Gw Ad (ay x).den.length cd)) 12 1 aj rfl aj ⟨hcu,f0,f1,f2,x0,x1,x2⟩ λhHeld=>?_
      refine Zo ?_;have hb:Below W7.heap.size W7 W7.drew:=aG (GR _ W7) 1;obtain⟨wn,hwn⟩:=Gp W7.drew;rw[<-hwn] at hb hHeld ⊢;have hzn:=hb.size;replace HM:=Ag (HM.o.below hb);replace HXV:=Ag (Ak.below HXV.o hb);replace hcu:=ah hcu hb;replace f0:=ah f0 hb;replace f1:=ah f1 hb;replace f2:=ah f2 hb;refine Zx ?_;clear x0 x1 x2;intro x0 x1 x2;clear hb hwn;refine tkm [0,1,2,3,4,5,6,7] ?_;refine tk2 8 aj rfl λK hK=>?_
      go_simp;refine(agA wn (GdF (Ext F w.heap.size) W3 w2.heap.size w6.heap.size) _ _ x tt (HXV.o.mono λb hb _=>.inl ⟨.inl hb.1,by have:=hb.2; omega⟩) HM.o.tot hrx HTL.o HT0.o).mono ?_;rintro e wn ⟨vq,rfl,hb,hu⟩;replace HM:=Ag (HM.o.below hb);replace HXV:=Ag (Ak.below HXV.o hb);replace hcu:=ah hcu hb;replace f0:=ah f0 hb;replace f1:=ah f1 hb;replace f2:=ah f2 hb;refine Zx ?_;clear x0 x1 x2;intro x0 x1 x2;obtain⟨pr,hpr⟩:=Gp (x / tt);rw[<-hpr] at hu;obtain⟨A4,c4,B4,d4,rfl,bH⟩:=hu.opened;have HPR:=Ag hpr;have HFN:=Ag (RV.fine.keep (G:=λb=>GoF (Ext F w.heap.size) W3 w2.heap.size b/\(b < w6.heap.size\/xb<=b)) bH (λb hb _=>hb.elim (λh=>h.elim (λh=>⟨.inl h,.inl FI⟩) λh=>⟨.inr h.1,.inl h.2⟩) λh=>⟨.inr FI,.inr FI⟩) (GZ _ _));clear hu bH hpr;replace hzn:=He hzn hb.size;clear hb hHeld;dsimp only;refine hK.out _ _ ⟨hcu,f0,f1,f2,x0,x1,x2⟩ (λhHeld=>?_);clear hK K;refine Zb ?_;refine tk2 9 aj rfl λK hK=>?_
      go_simp;refine hK.out _ _ ⟨ah hcu ((GR _ _).alloc (Gy _) _),ah f0 ((GR _ _).alloc (Gy _) _),ah f1 ((GR _ _).alloc (Gy _) _),ah f2 ((GR _ _).alloc (Gy _) _),ah x0 ((GR _ _).alloc (Gy _) _),ah x1 ((GR _ _).alloc (Gy _) _),ah x2 ((GR _ _).alloc (Gy _) _)⟩ (λhHeld=>?_);clear hK K;refine zcf ?_;intro K hK;have hsz:=HM.o.size;refine mQ (K:=ratK) (F:=GoF (Ext F w.heap.size) W3 w2.heap.size) rfl _ _ 61 74 56 _ Tryz.underlying61 Tryz.infoNum1 rfl au rfl w6.heap.size hsz u L rfl ⟨ay pr,Gw A4 (ay pr).num.length c4,Gw B4 (ay pr).den.length d4⟩ _ rfl (by have:=HLL.o; omega) rfl HM.o.own (RV.fine.keep HFN.o (λb hb _=>⟨hb.1,λe=>by have:=HUB.o b e; omega⟩) (GZ _ _)) (GR _ _) ?_;intro gg cap w5 hown5 oh adX jr;have HM5:=Ag (HM.o.grow hown5 jr oh);have aix:=HM5.o.cell DK.o;have f05:=(Hu (jr.2 _ (λe=>by have:=HUB.o qb e; omega) (Hl _ _ f0))).trans f0;have f15:=(Hu (jr.2 _ (λe=>by have:=HUB.o qb e; omega) (Hl _ _ f1))).trans f1;have f25:=(Hu (jr.2 _ (λe=>by have:=HUB.o qb e; omega) (Hl _ _ f2))).trans f2;have x05:=(Hu (jr.2 _ (λe=>by have:=HUB.o xb e; omega) (Hl _ _ x0))).trans x0;have x15:=(Hu (jr.2 _ (λe=>by have:=HUB.o xb e; omega) (Hl _ _ x1))).trans x1;have x25:=(Hu (jr.2 _ (λe=>by have:=HUB.o xb e; omega) (Hl _ _ x2))).trans x2;have aow:=HM5.o.frozen k;clear hown5 oh adX jr hsz hzn HM hcu f0 f1 f2 x0 x1 x2;refine hK.out _ _ ⟨aix,f05,f15,f25,x05,x15,x25⟩ (λhHeld=>?_);clear hK K;refine Zb ?_;refine tkm [11] ?_;refine Zp ?_;clear hHeld;go_wp2
      refine ZW ?_;go_wp2
      go_roundw
      case rel =>
       exact⟨j+1,L ++ [⟨ay pr,Gw A4 (ay pr).num.length c4,Gw B4 (ay pr).den.length d4⟩],_,FI,by go_num,by rw[G9,HLL.o]; rfl,by rw[Hf,HLM.o,Gv HXX.o,Hf,Hf,HPR.o]; rfl,HM5.o.put DK.o⟩
      case measure=>exact zMs
     ·have hje:j=row.length:=FI;subst hje;have hmn:=hmk.made.next;rw[hLm,G8 (Gy _)] at hmn;have Bo:=Ag (show MkO (Ext F w.heap.size) W3 bo 61 n w2.heap.size (vs' ++ [u]) (((gB p).take (k+1)).map (Iq ay)) wb by rw[zU AV.o,HBR.o,Hf]; exact hmn);clear hmk hLm hLl hmn;go_wp2
      go_roundw
      case rel=>exact⟨k+1,vs' ++ [u],FI,by go_num,by rw[G9,DK.o]; rfl,Bo.o⟩
      case measure=>exact zMs
  ·have hke:k=n:=FI;subst hke;have hbl:(gB p).length=k:=by unfold gB;rw[Gz,HN.o]
   have hrw:=HM.o.rows (by rw[DK.o]; exact Gy _) (G:=Ext F w.heap.size) (λb hb=>hb.elim (λh=>h.1) λh=>.inr FI) (c:=k) (by rw[Gz,List.length_take]; omega);rw[G8 FI,Gz,hbl] at hrw;have HRW:=Ag hrw;clear hrw hbl HM;go_wp2
   go_ret;exact⟨_,rfl,hB,HRW.o⟩
theorem ad1 (up:List (Int×Int)) (m:List (List Rat)):(cO up m).length=m.length:=by grind [cO,eY]
theorem uT {l:List Rat} (hl:l.length<=10) (h:∀ x∈l,rl x<=1024) (k:Nat):rl (jm (l.take k))<=20000:=by grind [afe]
theorem back_mem {p:List (List Rat)} (h:∀ l∈p,l.length<=10/\∀ x∈l,rl x<=1024):∀ l∈gB p,l.length<=10/\∀ x∈l,rl x<=30000:=by
 intro l hl;unfold gB at hl;obtain⟨r,hr,rfl⟩:=List.mem_map.1 hl;obtain⟨h1,h2⟩:=h r hr;unfold jK;split
 ·grind [og,anF]
 ·rename_i hz
  refine⟨by rw[Gz]; exact h1,λx hx=>?_⟩;obtain⟨y,hy,rfl⟩:=List.mem_map.1 hx;have e1:=h2 y hy;have e2:=uT h1 h2 r.length;rw[G8 (Gy _)] at e2;rw[Rat.div_def];have e3:=jQ y (jm r)⁻¹;rw[ahE hz] at e3;omega
theorem akH (w:GK) (n:Nat) (hn:n<=1000) :
  Calls GI 124 #[GV GU (n:Int)] w (Ret w λu w'=>CB w' (λb=>w.heap.size<=b) u (og n)):=by
 go_in;go_wp2
 go_loopw [3,4] (λu i wr=>∃ (k:Nat) (L:List RV),k<=n/\i = GV GU (k:Int)/\L.length=k/\L.map RV.r=(GX k (((1:Int):Rat) / ((n:Int):Rat))).map ak/\OwnSl ratK wr w.heap.size 42 (λb=>w.heap.size<=b) u L/\Below w.heap.size w wr) (λ_ i _=>n - (intOf i).toNat)
 case atStart=>exact⟨0,[],FI,rfl,rfl,rfl,OwnSl.nil _ _ _ _ _,GR _ _⟩
 case round =>
  obtain⟨k,L,hk,rfl,hLl,hLr,hown,hbel⟩:=hrel;have HO:=Ag hown;have HL:=Ag hLr;have HLL:=Ag hLl;clear hown hLr hLl;by_cases hlt:k < n
  ·have hz:=hbel.size;go_wp2_with fail
   refine(acY wr 1 (n:Int) FI FI FI FI FI).mono ?_;rintro e w2 ⟨vm,rfl,hb2,hu⟩;obtain⟨q,hq,rfl,hqf⟩:=Ak.rv hu;have fC:=hbel.trans (hb2.mono hbel.size);have HO2:=Ag (HO.o.below hb2);have HF:=Ag (show q.fine w2 (Apart (λb=>w.heap.size<=b) u3) from hqf.keep (λb hb _=>⟨FI,λe=>by have:=(HO.o.row.lt b e).2; omega⟩) (GZ _ _));have HQ:=Ag hq;clear hqf hu hq hb2 hbel;dsimp only[RV.cells];go_wp2_with (at_builtin; refine je (K:=ratK) (F:=λb=>w.heap.size<=b) rfl _ _ 28 42 56 _ Tryz.underlying28 Tryz.infoRat rfl au rfl w.heap.size (Gy _) u3 L rfl q _ rfl (by have:=HLL.o; omega) rfl HO2.o HF.o fC ?_; intro g cap w' hown' bG hlt' _; have HO':=Ag hown'; clear hown')
   go_roundw
   case rel=>exact⟨k+1,L ++ [q],FI,by go_num,by rw[G9,HLL.o]; rfl,by rw[Hf,HL.o,List.replicate_succ',Hf,List.map_cons,List.map_nil,HQ.o]; rfl,HO'.o,bG⟩
   case measure=>exact zMs
  ·have hke:k=n:=FI;subst hke;have h5:=HO.o.raws (G:=λb=>w.heap.size<=b) (λb hb=>hb) (λb hb=>hb);rw[HL.o] at h5;have HR:=Ag h5;clear h5;go_wp2
   go_ret;exact⟨_,rfl,hbel,HR.o⟩
theorem set2 {w:GK} {z0 z1:GN} (h:Row w b t [z0,z1]) (a0 a1:GN):∃ W,W=(w.setCell ⟨b,0,none⟩ a0).setCell ⟨b,1,none⟩ a1/\Row W b t [a0,a1]/\Wrote (λk=>k=b) w W:=by
 refine⟨_,rfl,(h.set 0 a0).set 1 a1,?_⟩;grind [Ir,KL]
theorem aaJ {l:List (Int×Int)} {s:Int×Int} (h:l[m]? = some s) (hl:l.length=m+1):lastStep l=s:=by grind [lastStep]
theorem rV (w:GK) (F:Gq) (u:GN) (g:Gm) (hg:AB w F u g) (hsm:Small g) (hf:aQ g=0) :
  Calls GI 60 #[u] w (Ret w λv w'=>∃ vp,v = .tuple #[vp,GV GU (lH g)]/\AA w' (λb=>w.heap.size<=b) vp (jy g)):=by
 have HG:=Ag hg;have HSM:=Ag hsm;have HF:=Ag hf;have hni:=hsm.F8;have hn100:=hsm.F7;have hgd:=gQ hf;have HGD:=Ag hgd;obtain⟨hp1,hp4⟩:=nS hf;obtain⟨P,hP⟩:∃ P:Nat,g.aC=(P:Int):=⟨g.aC.toNat,FI⟩;have HP:=Ag hP;have hPP:P<=4:=FI;have HPT:=Ag (show g.aC.toNat=P by omega);obtain⟨vn,vi,rfl,⟨A,c,rfl,hc,-⟩,hI⟩:=hg;obtain⟨Ai,ci,rfl,hci,-⟩:=hI;clear hsm hf hgd hp1 hp4 hP;go_in;go_wp2_with fail
 generalize hW:G5 _ _=W;obtain⟨rx,hB,hz⟩:=aI hW;have HX:=Ag rx;have HB:=Ag hB;have x0:=rx.cell (i:=0) rfl;clear hW hz rx hB;go_wp2_with fail
 go_loopw [4] (λiv wr=>∃ k:Nat,k<=P/\iv = GV GU (k:Int)/\lN g k=true/\Row wr w.heap.size 25 [GV GU g.aC,Gw A g.F7.length c,Gw Ai g.F8.length ci]/\Below w.heap.size w wr) (λiv _=>P - (intOf iv).toNat)
 case atStart=>exact⟨0,Hg _,rfl,rfl,HX.o,HB.o⟩
 case round =>
  clear HX HB x0;obtain⟨k,hk,rfl,hpa,rx,hB⟩:=hrel;obtain⟨wa,rfl⟩:=Gp wr;have HPA:=Ag hpa;refine Zd ?_;intro x0 x1 x2;clear hpa;by_cases hlt:k < P
  ·have t0:decide ((k:Int) < g.aC)=true:=LK (by rw[HP.o]; omega);go_wp2_with fail
   clear t0 x0 x1 x2;refine(agV wa F _ g (k:Int) (HG.o.on (GL hB F)) HSM.o HGD.o).mono ?_;rintro e w1 ⟨_,rfl,hb,rfl⟩;have hs:=vT g k;rw[HPA.o,Ld,amh HF.o] at hs;refine Ya ?_;clear rx hB;intro rx hB;have HRX:=Ag rx;clear hb rx;dsimp only;generalize aeA g (k:Int)=pf at *;cases pf
   ·refine zdD ?_;clear hs;intro HE HO;go_wp2_with fail
    go_ret2;exact⟨_,rfl,hB,_,by rw[HE.o]; rfl,by rw[HO.o]; exact AA.nil _ _⟩
   ·have HS:=Ag hs;clear hs;go_wp2_with fail
    go_roundw
    case rel=>exact⟨k+1,FI,by go_num,HS.o,HRX.o,hB⟩
    case measure=>exact zMs
  ·have t0:decide ((k:Int) < g.aC)=false:=LJ (by rw[HP.o]; omega);have hpf:lN g P=true:=by rw[<-HPA.o];congr 1;omega
   have HE:=Ag (show lH g=0 by unfold lH; rw[HPT.o,hpf]; rfl);have HO:=Ag (show jy g=aU g by unfold jy; rw[HPT.o,hpf]; rfl);clear hpf hlt;go_wp2_with fail
   clear t0 x0 x1 x2;refine(zB wa F _ g (HG.o.on (GL hB F)) HSM.o HGD.o.F8).mono ?_;rintro e w1 ⟨vs,rfl,hb,hvs⟩;refine Ya ?_;clear rx hB;intro rx hB;have hsl:(dK g).length=g.F8.length:=dD _ _ _;have HSL:=Ag hsl;have HVS:=Ag hvs;obtain⟨As,cs,e,hcs,-⟩:=hvs;rw[hsl] at e hcs;subst e;have HRX:=Ag rx;have HB1:=Ag hB;have HG1:=Ag (HG.o.on (GL hB F));have hbx:=rx.lt;clear hb rx hB hsl HG;dsimp only;go_wp2_with fail
   go_loopw [6,7] (λov iv wr=>∃ (k:Nat) (L:List (Int×Int)),k<=g.F8.length/\iv = GV GU (k:Int)/\L.length=k/\L=(aU g).take k/\OwnSl kH wr w1.heap.size 71 (λ_=>False) ov L/\Below w1.heap.size w1 wr) (λ_ iv _=>g.F8.length - (intOf iv).toNat)
   case atStart=>exact⟨0,[],FI,rfl,rfl,rfl,OwnSl.nil _ _ _ _ _,GR _ _⟩
   case round =>
    obtain⟨k,L,hk,rfl,hLl,hLm,hown,hbel⟩:=hrel;obtain⟨wc,rfl⟩:=Gp wr;have HLL:=Ag hLl;have HLM:=Ag hLm;have HOW:=Ag hown;have hrx:=HRX.o.below hbel hbx;have x2:=hrx.cell (i:=2) rfl;have hcz:=hbel.size;clear hLl hLm hown;by_cases hlt:k < g.F8.length
    ·have x0:=hrx.cell (i:=0) rfl;have x1:=hrx.cell (i:=1) rfl;obtain⟨inf,bU⟩:=Gl hlt;obtain⟨n0,hn0,hk0,hi0,hpl0,hne0,hfo⟩:=kJ HF.o hlt;have hfl:=Gn hn0;obtain⟨l,hl⟩:=Gl (l:=dK g) (k:=k) (by rw[HSL.o]; exact hlt);have hld:(dK g).getD k []=l:=by rw[GH,hl];rfl
     rw[hld] at hne0 hfo;have hl0:0 < l.length:=List.length_pos_iff.2 hne0;obtain⟨z,hz⟩:=Gl (l:=l) (k:=0) hl0;have hzf:z=(iO g k:Int):=by rw[<-hfo,GH,hz];rfl
     rw[hzf] at hz;obtain⟨bS,oS,cS,uS,e,hFS,hbS,e0,hin⟩:=BL.at (HVS.o.on (GL hbel _)) hl;rw[HSL.o] at e;injection e with e1 e2 e3
     subst e1;obtain⟨A6,c6,rfl,hc6,hx6⟩:=hin;obtain⟨bM,oM,rfl,hFM,hbM,hcM⟩:=hx6 hl0;have m0:=hcM 0 _ hz;unfold lU at m0;rw[Jc,Jb] at m0;have hg4:=HG1.o.on (GL hbel F);have HG4:=Ag hg4;obtain⟨vn',vi',e,-,hi4⟩:=hg4;injection e with e
     injection e with e
     injection e with _ e
     injection e with en e
     injection e with ei _
     subst en;subst ei;obtain⟨A',c',e,_,hx⟩:=hi4;injection e with e1 e2' e3'
     subst e1;obtain⟨bI,oI,rfl,_,hbI,hcI⟩:=hx FI;have p0:=(hcI k inf bU).c0;have Ec:=Ag (show(aU g)[k]? = some (lastStep (jB g inf.aH (iO g k))) by
      rw[xM hlt,GH,bU]; rfl)
     have hkS:(k:Int) < g.F8.length:=FI;clear hne0 hfo hx6 hcM hx hcI hrx e2 e3 e2' e3' hz hzf hld bU hn0 hk0 hi0 hpl0 hl;have hBc:=GR wc.heap.size wc;go_wp2_with fail
     refine wp_region_held_drew (S:=λw'=>w'.cell? ⟨w.heap.size,0,none⟩=some (GV GU g.aC)/\w'.cell? ⟨w.heap.size,1,none⟩=some (Gw A g.F7.length c)/\w'.cell? ⟨w.heap.size,2,none⟩=some (Gw (some ⟨bI,oI,none⟩) g.F8.length ci)/\w'.cell? ⟨bS,oS+k,none⟩=some (Gw (some ⟨bM,oM,none⟩) l.length c6)/\w'.cell? ⟨bM,oM,none⟩=some (GV GU (iO g k:Int))/\w'.cell? ⟨bI,oI+k*2,none⟩=some (GV GU inf.aH)) aj ⟨x0,x1,x2,e0,m0,p0⟩ (λhHeld=>?_);have hb:Below wc.heap.size wc wc.drew:=aG (GR _ wc) 1;refine Zx ?_;clear x0 x1 x2;intro x0 x1 x2;replace e0:=ah e0 hb;replace m0:=ah m0 hb;replace p0:=ah p0 hb;replace hBc:=hBc.trans (hb.mono hBc.size);clear hb;generalize wc.drew=wn at *;refine tkm [0,1,2,3,4,5,6,7,8,9,10,11,12] ?_;refine tk2 13 aj rfl λK hK=>?_
     go_simp;refine(ach wn F _ g (iO g k) inf.aH (HG4.o.on (GL hBc F)) HSM.o HGD.o hfl).mono ?_;rintro e wn ⟨vw,rfl,hb,hw⟩;have HW:=Ag hw;obtain⟨Aw,cw,rfl⟩:=hw.open;clear hw;refine Zx ?_;clear x0 x1 x2;intro x0 x1 x2;replace e0:=ah e0 hb;replace m0:=ah m0 hb;replace p0:=ah p0 hb;replace hBc:=hBc.trans (hb.mono hBc.size);clear hb;dsimp only;clear hHeld;refine hK.out _ _ ⟨x0,x1,x2,e0,m0,p0⟩ (λhHeld=>?_);clear hK K;refine Zb ?_;refine tkm [14] ?_;refine Z8 ?_;clear hHeld;obtain⟨wl,hwl⟩:=Gp (jB g inf.aH (iO g k));have hwl10:wl.length<=10000:=by rw[hwl];exact acF HGD.o HSM.o inf.aH hfl
     rw[<-hwl] at HW Ec ⊢;clear hwl x0 x1 x2 e0 m0 p0 HG4 hFS hFM hc6 hbS hbM hbI;refine Z4 ?_;go_upto_region 13 with(fail)
     generalize hWb:G5 _ _=Wb;obtain⟨rb,hb,hzb⟩:=aI hWb;clear hWb;obtain⟨qb,hqb⟩:=Gp wn.heap.size;have hwnz:=hBc.size;replace HW:=Ag (HW.o.on (GL hb _));have hBb:=hBc.trans (hb.mono hBc.size);rw[<-hqb] at rb ⊢;have hqw:wc.heap.size<=qb:=FI;clear hb hBc hzb hqb hwnz;by_cases hw0:wl.length=0
     ·have HLS:=Ag (show(aU g)[k]? = some (-1,-1) by rw[Ec.o,List.eq_nil_of_length_eq_zero hw0]; rfl);have c0:=rb.cell (i:=0) rfl;have c1:=rb.cell (i:=1) rfl;have HO5:=Ag (HOW.o.below hBb);have hb5:=hbel.trans (hBb.mono hcz);rw[hw0];clear Ec HW hw0 rb hBb hbel;go_wp2_with (at_builtin; refine je (K:=kH) (F:=λ_=>False) rfl _ _ 63 71 16 _ KC Tryz.infoSeq rfl au rfl w1.heap.size (Gy _) u6 L rfl ((-1:Int),(-1:Int)) _ rfl (by have:=HLL.o; omega) rfl HO5.o trivial hb5 ?_; intro g' cap w' hown' bG hlt' _; have HO':=Ag hown'; clear hown')
      go_roundw
      case rel=>exact⟨k+1,L ++ [((-1:Int),(-1:Int))],FI,by go_num,by rw[G9,HLL.o]; rfl,by rw[Gv HLS.o,HLM.o],HO'.o,bG⟩
      case measure=>exact zMs
     ·obtain⟨m,hm⟩:∃ m,wl.length=m+1:=⟨wl.length - 1,FI⟩;have hm10:m<=10000:=FI;obtain⟨sl,hsl⟩:=Gl (l:=wl) (k:=m) FI;have HLS:=Ag (show(aU g)[k]? = some sl by rw[Ec.o,aaJ hsl hm]);obtain⟨A7,c7,e,-,hx7⟩:=HW.o;injection e with e1 e2 e3
      subst e1;obtain⟨bw,ow,rfl,-,-,hcw⟩:=hx7 FI;obtain⟨y0,y1⟩:=hcw m sl hsl;have c0:=rb.cell (i:=0) rfl;have c1:=rb.cell (i:=1) rfl;have f0:=rb.frozen 0;have f1:=rb.frozen 1;obtain⟨Wd,hWd,rd,hwd⟩:=set2 rb (GV GU sl.1) (GV GU sl.2);have hBd:=Ht hBb hwd (λb (e:b=qb)=>by omega) hBb.size;have HO5:=Ag (HOW.o.below hBd);have hb5:=hbel.trans (hBd.mono hcz);have HWD:=Ag hWd;have z0:=rd.cell (i:=0) rfl;have z1:=rd.cell (i:=1) rfl;rw[hm];clear Ec HW hx7 hcw e2 e3 hsl hm rb hBb hbel hwd hWd hw0 hBd rd;go_wp2_with fail
      go_region
      refine Z4 ?_;rw[<-HWD.o];have hbf:Below Wd.heap.size Wd Wd.drew:=aG (GR _ Wd) 1;obtain⟨Wf,hWf⟩:=Gp Wd.drew;rw[<-hWf] at hbf ⊢;replace z0:=ah z0 hbf;replace z1:=ah z1 hbf;replace HO5:=Ag (HO5.o.below hbf);replace hb5:=hb5.trans (hbf.mono hb5.size);clear HWD c0 c1 f0 f1 y0 y1 hWf hbf;go_wp2_with (at_builtin; refine je (K:=kH) (F:=λ_=>False) rfl _ _ 63 71 16 _ KC Tryz.infoSeq rfl au rfl w1.heap.size (Gy _) u6 L rfl sl _ rfl (by have:=HLL.o; omega) rfl HO5.o trivial hb5 ?_; intro g' cap w' hown' bG hlt' _; have HO':=Ag hown'; clear hown')
      go_roundw
      case rel=>exact⟨k+1,L ++ [sl],FI,by go_num,by rw[G9,HLL.o]; rfl,by rw[Gv HLS.o,HLM.o],HO'.o,bG⟩
      case measure=>exact zMs
    ·have hke:k=g.F8.length:=FI;subst hke;have hr:=HOW.o.pairs (G:=λb=>w.heap.size<=b) (λb hb=>by have:=HB1.o.size; omega);have hLe:L=aU g:=by rw[HLM.o,G8 (by rw[aS]; exact Gy _)]
     have HR:=Ag hr;have HLE:=Ag hLe;have hb2:=HB1.o.trans (hbel.mono HB1.o.size);clear hr hLe HOW hbel;go_wp2
     go_ret2;exact⟨_,rfl,hb2,_,by rw[HE.o]; rfl,by rw[HO.o,<-HLE.o]; exact HR.o⟩
theorem afE (w:GK) (F:Gq) (u:GN) (g:Gm) (hg:AB w F u g) (hsm:Small g) :
  Calls GI 79 #[u] w (Ret w λv w'=>∃ vp,v = .tuple #[vp,GV GU (zn g)]/\AA w' (λb=>w.heap.size<=b) vp (oZ g)):=by
 have HG:=Ag hg;have HSM:=Ag hsm;obtain⟨vn,vi,rfl,⟨A,c,rfl,hc,_⟩,⟨Ai,ci,rfl,hci,_⟩⟩:=hg;clear hsm;go_in;go_wp2_with fail
 generalize hW:G5 _ _=W;obtain⟨rx,hB,hz⟩:=aI hW;refine zaG ?_;clear HG;intro HG x0 x1 x2;clear hW hz;go_wp2_with fail
 clear x0 x1 x2;refine(aa3 W F _ g HG.o HSM.o).mono ?_;rintro e w1 ⟨_,rfl,hb,rfl⟩;refine zdg ?_;clear HG;intro HG;refine Ya ?_;clear rx hB;intro rx hB;refine Zd ?_;intro x0 x1 x2;have hPE:zn g=if aQ g≠0 then aQ g else lH g:=rfl
 have hPO:oZ g=if aQ g≠0 then [] else jy g:=rfl
 have HPE:=Ag hPE;have HPO:=Ag hPO;obtain⟨fe,hfe⟩:=Gp (aQ g);rw[<-hfe] at HPE HPO ⊢;have HFE:=Ag hfe;clear hb hPE hPO hfe rx;dsimp only;by_cases h0:fe=0
 ·subst h0;go_wp2_with fail
  clear x0 x1 x2;refine(rV w1 F _ g HG.o HSM.o HFE.o.symm).mono ?_;rintro e w2 ⟨_,rfl,hb,vp,rfl,hvp⟩;have HB2:=Ag (hB.trans (hb.mono hB.size));have HVP:=Ag (AA.keep (G:=λb=>w.heap.size<=b) hvp (λb h _=>by have:=hB.size; omega) (GZ _ _));obtain⟨Ap,cp,rfl⟩:=hvp.open;clear hb hvp;dsimp only;go_wp2_with fail
  go_ret2;exact zdQ
 ·refine zaq ?_;intro t0 H0;clear h0;go_wp2_with fail
  go_ret2;exact zdz
theorem ade {x:Rat} (hx:x∈xs) (h:1024 < rl x):nH xs=5:=by grind [nH]
theorem abV (w:GK) (F:Gq) (v:GN) (m:List (List Rat)) (hm:Ba w F v m) (hl:m.length<=1000) (hr:∀ l∈m,l.length<=1000) (hf:∀ l∈m,∀ x∈l,rl x<=1000000) :
  Calls GI 61 #[v] w (Ret w λu w'=>∃ t,u = .tuple #[t,GV GU (nH m.flatten)]/\Gt w' F t (aaD m)):=by
 have HM:=Ag hm;have HR:=Ag hr;have HF:=Ag hf;obtain⟨n,hn⟩:=Gp m.length;obtain⟨A,c,e,hc,hx⟩:=hm;rw[Gz,<-hn] at e;subst e;have HX:=Ag hx;have HN:=Ag hn;have hn1000:n<=1000:=FI;have HMX:=Ag (show aaD m=if nH m.flatten≠0 then [] else m.map (Iq ak) from rfl);clear hr hf hx hl hn hc;go_in;go_wp2
 go_loopw [4] (λiv wr=>∃ k:Nat,k<=n/\iv = GV GU (k:Int)/\(∀ l∈m.take k,∀ x∈l,rl x<=1024)/\Below w.heap.size w wr) (λiv _=>n - (intOf iv).toNat)
 case atStart=>exact⟨0,Hg _,rfl,λl hl=>by simp at hl,GR _ _⟩
 case round =>
  obtain⟨k,hk,rfl,hok,hB⟩:=hrel;obtain⟨wa,rfl⟩:=Gp wr;have HOK:=Ag hok;clear hok;by_cases hlt:k < n
  ·obtain⟨row,hrow⟩:=Gl (l:=m) (k:=k) (by rw[<-HN.o]; exact hlt);obtain⟨mb,mo,rfl,_,uq,hcm⟩:=HX.o (by rw[Gz,<-HN.o]; omega);obtain⟨vr,hvr,hra⟩:=hcm k (row.map ak) (by rw[GY,hrow]; rfl);refine zbk ?_;clear hvr;intro hvr oN;obtain⟨Ar,cr,rfl,-,-⟩:=hra;rw[Gz] at hvr;rw[Gz] at oN;have HRV:=Ag oN;have HVR:=Ag hvr;have AV:=Ag hrow;have hr1000:=HR.o row (Gx hrow);clear hcm oN hvr hrow;go_wp2_with fail
   go_loopw [5] (λiv wr=>∃ j:Nat,j<=row.length/\iv = GV GU (j:Int)/\(∀ x∈row.take j,rl x<=1024)/\Below w.heap.size w wr) (λiv _=>row.length - (intOf iv).toNat)
   case atStart=>exact⟨0,Hg _,rfl,λx hx=>by simp at hx,hB⟩
   case round =>
    obtain⟨j,hj,rfl,hok2,hB2⟩:=hrel;obtain⟨wb,rfl⟩:=Gp wr;have HOK2:=Ag hok2;have m1:=(hB2.cell (p:=⟨mb,mo+k,none⟩) uq).trans HVR.o;clear hok2;by_cases hjt:j < row.length
    ·obtain⟨x,hx⟩:=Gl hjt;obtain⟨rb,ro,rc,vn,vd,e,_,_,y0,y1,y2,hn,hd⟩:=Gs.at (HRV.o.on (GL hB2 _)) (show(row.map ak)[j]? = some (ak x) by rw[GY,hx]; rfl);injection e with e1 e2 e3
     subst e1;have HXV:=Ag (Ak.make (r:=ak x) rfl hn hd);obtain⟨An,cn,rfl,-,-⟩:=hn;obtain⟨Ad,cd,rfl,-,-⟩:=hd;have hjr:(j:Int) < row.length:=FI;have HXX:=Ag hx;have HXF:=Ag (HF.o row (Gx AV.o) x (Gx hx));clear e2 e3 hx;go_wp2_with fail
     refine(aax wb _ _ x HXV.o HXF.o).mono ?_;rintro e w2 ⟨_,rfl,hb,u,rfl,hu⟩;obtain⟨A1,c1,B1,d1,rfl,-⟩:=Ak.opened hu;have hB3:=hB2.trans (hb.mono hB2.size);have HOE:=Ag (show fP x=if 1024 < rl x then 5 else 0 from rfl);obtain⟨oe,hoe⟩:=Gp (fP x);rw[<-hoe] at HOE ⊢;clear hu hb hoe m1 y0 y1 y2;dsimp only;go_upto_region 8 with(fail)
     generalize hW9:G5 _ _=W9;obtain⟨-,hb9,hz9⟩:=aI hW9;have hB9:=hB3.trans (hb9.mono hB3.size);clear hW9 hb9 hz9 hB3;by_cases h0:oe=0
     ·subst h0;have HLE:=Ag (show rl x<=1024 by
       have h:=HOE.o;by_cases h1:1024 < rl x
       ·rw[LH h1] at h;cases h
       ·omega)
      go_wp2_with fail
      go_roundw
      case rel =>
       refine⟨j+1,FI,by go_num,λx' hx'=>?_,hB9⟩;rw[Gv HXX.o] at hx';rcases List.mem_append.1 hx' with h | h
       ·exact HOK2.o x' h
       ·rw[List.mem_singleton.1 h];exact HLE.o
      case measure=>exact zMs
     ·have t0:(oe != 0)=true:=by simp[h0]
      have hgt:1024 < rl x:=by
       have h:=HOE.o;by_cases h1:1024 < rl x
       ·exact h1
       ·rw[LG h1] at h;exact absurd h h0
      have HEV:=Ag (show nH m.flatten=oe by rw[ade (List.mem_flatten.2 ⟨row,Gx AV.o,Gx HXX.o⟩) hgt,HOE.o,LH hgt]);have H0:=Ag h0;clear h0 hgt;go_wp2_with fail
      go_ret2;exact⟨_,rfl,hB9,_,by rw[HEV.o]; rfl,by rw[HMX.o,LH (by rw[HEV.o]; exact H0.o)]; exact Gt.nil _ _⟩
    ·have hje:j=row.length:=FI;subst hje;go_wp2_with fail
     go_roundw
     case rel =>
      refine⟨k+1,FI,by go_num,λl hl=>?_,hB2⟩;rw[Gv AV.o] at hl;rcases List.mem_append.1 hl with h | h
      ·exact HOK.o l h
      ·rw[List.mem_singleton.1 h];intro x hx;exact HOK2.o x (by rw[G8 (Gy _)]; exact hx)
     case measure=>exact zMs
  ·have hke:k=n:=FI;subst hke;have HEV:=Ag (show nH m.flatten=0 from adb λx hx=>by
    obtain⟨l,hl,hx⟩:=List.mem_flatten.1 hx;exact HOK.o l (by rw[G8 (by rw[<-HN.o]; exact Gy _)]; exact hl) x hx)
   have HMR:=Ag (Gt.on HM.o (GL hB F));go_wp2
   go_ret2;exact⟨_,rfl,hB,_,by rw[HEV.o]; rfl,by rw[HMX.o,LG (by rw[HEV.o]; decide)]; exact HMR.o⟩
