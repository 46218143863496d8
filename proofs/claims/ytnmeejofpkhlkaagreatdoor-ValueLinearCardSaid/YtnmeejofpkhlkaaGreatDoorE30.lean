/- Part of a claim. -/
import Derived.Test.YtnmeejofpkhlkaaGreatDoorE29
import Derived.Deep.CutBlock
import Derived.Test.YtnmeejofpkhlkaaGreatDoorE24
import Derived.BigQuiet
set_option linter.all false
set_option maxRecDepth 100000
set_option maxHeartbeats 12800000
namespace Go.Proofs.YtnmeejofpkhlkaaGreatDoor
open Go.RowKit.Below renaming refl->F9
open Below renaming same'->FZ
open Go.IntKind renaming i64->F5
open Go renaming Value->F7,World->FW
open Go.Value renaming int->F6,slice->FQ
open Int renaming toNat_natCast->Gu
open List renaming all_eq_true->Jc,any_eq_false->Ja,append_assoc->GY,append_nil->Hz,getD_eq_getElem?_getD->FU,getElem?_eq_getElem->GX,getElem?_eq_none->G9,getElem?_map->Gi,getElem?_of_mem->Gz,getElem?_zipWith->IG,length_append->Gn,length_map->FX,map->GK,map_append->GL,map_congr_left->Jo,mem_map_of_mem->IZ,mem_of_getElem?->FT,range->Ir,take_of_length_le->Gl,zipWith->IW
open Nat renaming add_zero->J7,eq_zero_or_pos->Gt,le_refl->FV,le_trans->Gf,mul_one->Gp,zero_le->GR
open Option renaming getD_some->Ht
open Option.some renaming injEq->Hu
open Rat renaming one_mul->Kr
open Same renaming refl->Gh
open Go.Proofs.Tryz renaming prog->FY
open Lib renaming hid → Ac
open List renaming getElem_toArray → lq1, getElem_cons_zero → lq2, getElem_cons_succ → lq3, setIfInBounds_toArray → lq4, set_cons_zero → lq5, set_cons_succ → lq6
open Go.RowKit
variable {F:FI} {pl:Int} {m p:List (List Rat)} {cs:List Int} {l xs:List Rat} {B a b c i j k q:Nat} {t x:Rat}
def FlE (w:FW) (_:FI) (b o:Nat) (x:Fl):Prop:=w.cell? ⟨b,o,none⟩=some (F6 F5 x.kind)/\w.cell? ⟨b,o+1,none⟩=some (F6 F5 x.node)/\w.cell? ⟨b,o+2,none⟩=some (F6 F5 x.info)/\w.cell? ⟨b,o+3,none⟩=some (F6 F5 x.other)
def EF (w:FW) (F:FI) (v:F7) (l:List Fl):Prop:=BQ 4 FlE w F v l
def flK:Knd Fl where
 n:=4
 cells q:=[F6 F5 q.kind,F6 F5 q.node,F6 F5 q.info,F6 F5 q.other]
 fine _ _ _:=True
 len _:=rfl
 pos:=aA
 one _ u hu:=by
  simp only[List.mem_cons,List.not_mem_nil,or_false] at hu;rcases hu with rfl | rfl | rfl | rfl <;> rfl
 keep _ _ _:=trivial
theorem OwnSl.fls {w:FW} {base:Nat} {et:TypeId} {G:FI} {v:F7} {L:List Fl} (h:OwnSl flK w base et F v L) (hG:∀ b,base<=b->G b):EF w G v L:=by
 rcases h.at with⟨rfl,rfl⟩ | ⟨g,cap,rfl,hb,hg,hcap,hf,hx⟩
 ·exact YN
 ·exact⟨_,cap,rfl,hcap,λ_=>⟨g,0,rfl,hG g hb,hg,λk q hq=>⟨hx k q hq 0 _ rfl,hx k q hq 1 _ rfl,hx k q hq 2 _ rfl,hx k q hq 3 _ rfl⟩⟩⟩
theorem Tryz.infoFlaw:(Tryz.prog.info? 193).map (λi=>(i.zero,i.size,i.bytes))=some (some (.agg #[F6 F5 0,F6 F5 0,F6 F5 0,F6 F5 0]),4,32):=ak
theorem akG (w:FW) (F:FI) (v:F7) (g:Gm) (hg:AA w F v g) (hsm:Small g) (hgd:Good g) :
  Calls FY 136 #[v] w (Ret w λu w'=>EF w' (λb=>w.heap.size<=b) u (aaM g)):=by
 have HG:=Ac hg;have HS:=Ac hsm;have HGD:=Ac hgd;have hn100:=hsm.Fg;have hi100:=hsm.Fh;obtain⟨vn,vi,rfl,⟨A,c,rfl,hc,hN⟩,⟨Ai,ci,rfl,hci,hI⟩⟩:=hg;obtain⟨b,q,rfl,hFb,hbl,hcell⟩:=hN hgd.pos;have HC:=Ac hcell;have HI:=Ac hI;clear hN hcell hsm hgd hI;go_in;go_wp2_with fail
 refine zb8 ?_;intro W hW rx hB hz;clear hW;have hz2:=hB.size;replace HG:=Ac (HG.out.on (FZ hB F));refine Zd ?_;intro x0 x1 x2;clear rx hz;go_wp2_with fail
 refine(xU W F _ g HG.out HS.out HGD.out.pos HGD.out.ahq).mono ?_;rintro e w1 ⟨u,rfl,hb1,hu⟩;replace hB:=hB.trans (hb1.mono hB.size);replace x0:=ah x0 hb1;replace x1:=ah x1 hb1;replace x2:=ah x2 hb1;replace HG:=Ac (HG.out.on (FZ hb1 F));have HPL:=Ac (qw g.Fg);obtain⟨aky,wQ⟩:=FH (iI g.Fg);have HPE:=Ac wQ;rw[<-wQ] at hu;obtain⟨Ap,cp,rfl,hcp,hx⟩:=hu;obtain⟨bp,op,rfl,hbp,hbpl,hpc⟩:=hx (by rw[wQ,HPL.out]; exact HGD.out.pos);have hpl:aky.length=g.Fg.length:=by rw[wQ,HPL.out]
 rw[hpl];have HPC:=Ac hpc;clear hb1 hx hpc wQ hcp hpl;dsimp only;go_wp2_with fail
 refine(yH w1 F _ g HG.out HS.out HGD.out.Fh).mono ?_;rintro e w2 ⟨u,rfl,hb1,hu⟩;replace hB:=hB.trans (hb1.mono hB.size);replace x0:=ah x0 hb1;replace x1:=ah x1 hb1;replace x2:=ah x2 hb1;replace HG:=Ac (HG.out.on (FZ hb1 F));have hz3:=hb1.size;have HB1:=Ac hb1;have HSL:=Ac (show(dK g).length=g.Fh.length from fE _ _ _);obtain⟨sets,amh⟩:=FH (dK g);have HSE:=Ac amh;rw[<-amh] at hu HSL;obtain⟨As,cs,rfl,hcs,hx⟩:=hu;rw[HSL.out];have HSC:=Ac hx;clear hb1 hx amh hcs;dsimp only;go_wp2_with fail
 go_loopw [3,6] (λov iv wr=>∃ (i:Nat) (L:List Fl),i<=g.Fh.length/\iv = F6 F5 (i:Int)/\L=lK g i/\L.length<=200*i/\OwnSl flK wr w2.heap.size 193 (λ_=>True) ov L/\Below w2.heap.size w2 wr) (λ_ iv _=>g.Fh.length - (intOf iv).toNat)
 case atStart=>exact⟨0,[],EN,rfl,rfl,aF,OwnSl.nil _ _ _ _ _,F9 _ _⟩
 case round =>
  obtain⟨i,L,hi,rfl,hL,hLl,hown,hbel⟩:=hrel;have HL:=Ac hL;have HO:=Ac hown;clear hL hown;by_cases hlt:i < g.Fh.length
  case neg =>
   go_wp2_with fail
   go_ret;refine⟨_,rfl,hB.trans (hbel.mono hB.size),?_⟩;have h5:=HO.out.fls (G:=λb=>w.heap.size<=b) (λb hb=>by have:=hB.size; omega);rw[HL.out,show i=g.Fh.length by omega] at h5;exact h5
  obtain⟨inf,gU⟩:=FC hlt;obtain⟨bi,oi,rfl,_,hbil,akx⟩:=HI.out EN;obtain⟨f0,f1⟩:=akx i inf gU;replace f0:=ah f0 (hB.trans (hbel.mono hB.size));obtain⟨l,hl⟩:=FC (l:=sets) (k:=i) (by rw[HSL.out]; exact hlt);obtain⟨bs,os,rfl,_,hbsl,hsc⟩:=HSC.out (by rw[HSL.out]; omega);obtain⟨ul,hul,hil⟩:=hsc i l hl;have hll:=(abN HGD.out (by rw[<-HSE.out]; exact hl)).1;have HIN:=Ac (abN HGD.out (by rw[<-HSE.out]; exact hl)).2;have y2:=ah x2 hbel;rw[Gp] at hul;have HIL:=Ac hil;obtain⟨Al,cl,rfl,_,_⟩:=hil;have HUL:=Ac hul;replace hul:=ah hul hbel;have HFI:=Ac (show lK g (i+1)=lK g i++jy g i inf.aC l l.length by
   rw[lK,FU (l:=g.Fh),gU,FU,<-HSE.out,hl]; rfl)
  have HHL:=Ac hl;clear akx gU hsc hl f1;go_wp2_with fail
  go_loopw [3,8] (λov kv wr=>∃ (k:Nat) (M:List Fl),k<=l.length/\kv = F6 F5 (k:Int)/\M=L++jy g i inf.aC l k/\M.length<=200*i+2*k/\OwnSl flK wr w2.heap.size 193 (λ_=>True) ov M/\Below w2.heap.size w2 wr) (λ_ kv _=>l.length - (intOf kv).toNat)
  case atStart=>exact⟨0,L,EN,rfl,by rw[jy,Hz],EN,HO.out,hbel⟩
  case round =>
   clear HO hbel y2 f0 hul;obtain⟨k,M,hk,rfl,hM,hMl,hown,hbel⟩:=hrel;have HM:=Ac hM;have HO:=Ac hown;clear hM hown;have hul:=ah HUL.out hbel;by_cases hkt:k < l.length
   case neg =>
    go_wp2_with fail
    go_roundw
    case rel=>exact⟨i+1,M,EN,by go_num,by rw[HFI.out,<-HL.out,HM.out,show k=l.length by omega],EN,HO.out,hbel⟩
    case measure=>simp[intOf]; omega
   obtain⟨x,hx⟩:=FC hkt;obtain⟨j,nj,rfl,hnj,_,_⟩:=HIN.out x (FT hx);obtain⟨bl2,ol2,rfl,_,anb,aip⟩:=aej HIL.out EN;have HCL:=Ac aip;have hj:j < g.Fg.length:=FD hnj;have hk0:=ah (aip k _ hx) hbel;obtain⟨p0,hp0⟩:=FC (l:=aky) (k:=j) (by rw[HPE.out,HPL.out]; exact hj);have ep:=HPC.out j p0 hp0;unfold jP at ep;rw[Gp] at ep;replace ep:=ah (ah ep HB1.out) hbel;have HPJ:=Ac hp0;have HFK:=Ac (show jy g i inf.aC l (k+1)=jy g i inf.aC l k++(aaL i j (iP g i g.Fg.length j)++tZ g i inf.aC (l.getD 0 0).toNat j) by
    rw[jy,FU (i:=k),hx]; rfl)
   have HX:=Ac hx;clear aip hp0 hx;go_upto_block 4 with fail
   go_cut [3] from 47 to 76 (λv3 wx=>∃ M',M'=M++aaL i j (iP g i g.Fg.length j)/\M'.length<=M.length+1/\OwnSl flK wx w2.heap.size 193 (λ_=>True) v3 M'/\Below w2.heap.size w2 wx)
   case first =>
    clear hul hk0;go_wp2_with fail
    clear ep;go_loopw [3,10] (λov av wr=>∃ (ch f:Nat) (p:Int),ch < g.Fg.length/\ch<=f/\aky[ch]? = some p/\av = F6 F5 p/\iP g i f ch=iP g i g.Fg.length j/\OwnSl flK wr w2.heap.size 193 (λ_=>True) ov M/\Below w2.heap.size w2 wr) (λ_ av _=>(intOf av+1).toNat)
    case atStart=>exact⟨j,g.Fg.length,p0,hj,EN,HPJ.out,rfl,rfl,HO.out,hbel⟩
    case round =>
     clear HO hbel;obtain⟨ch,f,p,hch,hcf,hp,rfl,hag,hown,hbel⟩:=hrel;have HO:=Ac hown;have HAG:=Ac hag;have HPC2:=Ac hp;clear hown hag;obtain⟨p',hp',hcase⟩:=HGD.out.par hch;rw[<-HPE.out,hp] at hp';cases hp';clear hp;rcases hcase with⟨h0,rfl⟩ | ⟨pq,n,rfl,hpq,hni,_⟩
     ·subst h0;have t0:decide ((0:Int)≤-1)=false:=rfl;have HAN:=Ac (show iP g i g.Fg.length j=none by rw[<-HAG.out]; exact zX HGD.out f);go_wp2_with fail
      go_meet
      exact⟨M,by rw[HAN.out]; exact(Hz _).symm,EN,HO.out,hbel⟩
     ·have t0:decide ((0:Int)<=(pq:Int))=true:=Mc EN;have ama:pq < g.Fg.length:=FD hni;obtain⟨f',rfl⟩:∃ k,f=k+1:=⟨f - 1,EN⟩;have hne:=HC.out pq n hni;have hBr:=hB.trans (hbel.mono hB.size);have n0:=ah hne.c0 hBr;have n2:=ah hne.c2 hBr;have y1:=ah x1 hbel;have HNI:=Ac hni;clear hne hni hBr;by_cases hkd:n.kind=2/\n.info=(i:Int)
      ·have t1:(n.kind==2)=true:=by simp[hkd.1]
       have t2:(n.info==(i:Int))=true:=by simp[hkd.2]
       have HAN:=Ac (show iP g i g.Fg.length j=some pq by rw[<-HAG.out]; exact zY (by rw[<-HPE.out]; exact HPC2.out) HNI.out hkd);clear hkd;go_wp2_with (at_builtin; refine iH (K:=flK) (F:=λ_=>True) rfl _ _ 190 193 32 _ Tryz.underlying190 Tryz.infoFlaw rfl aA rfl w2.heap.size (FV _) u3 M rfl ⟨1,(j:Int),(i:Int),(pq:Int)⟩ _ rfl EN rfl HO.out trivial hbel ?_; intro g' cap w' hown' aZ hlt' hsm'; have HO':=Ac hown'; clear hown')
       go_meet
       exact⟨M ++ [⟨1,(j:Int),(i:Int),(pq:Int)⟩],by rw[HAN.out]; rfl,aF,HO'.out,aZ⟩
      ·have HAN:=Ac (show iP g i f' pq=iP g i g.Fg.length j by rw[<-HAG.out]; exact(acI (by rw[<-HPE.out]; exact HPC2.out) HNI.out hkd).symm);obtain⟨p1,hp1⟩:=FC (l:=aky) (k:=pq) (by rw[HPE.out,HPL.out]; exact ama);have ep:=HPC.out pq p1 hp1;unfold jP at ep;rw[Gp] at ep;replace ep:=ah (ah ep HB1.out) hbel;have hp1b:=xZ HGD.out pq p1 ama (by rw[<-HPE.out]; exact hp1);have HP1:=Ac hp1;clear hp1;by_cases hk2:n.kind=2
       ·have t1:(n.kind==2)=true:=by simp[hk2]
        have t2:(n.info==(i:Int))=false:=by simp;exact λe=>hkd ⟨hk2,e⟩
        clear hkd hk2;go_wp2_with fail
        go_roundw
        case rel=>exact⟨pq,f',p1,ama,EN,HP1.out,rfl,HAN.out,HO.out,hbel⟩
        case measure=>simp[intOf]; omega
       ·have t1:(n.kind==2)=false:=by simpa using hk2
        clear hkd hk2;go_wp2_with fail
        go_roundw
        case rel=>exact⟨pq,f',p1,ama,EN,HP1.out,rfl,HAN.out,HO.out,hbel⟩
        case measure=>simp[intOf]; omega
   case rest =>
    obtain⟨M',hM',hMl',hown',aZ⟩:=hcut;have HM':=Ac hM';have HO':=Ac hown';clear hM' hown' HO hbel hul hk0 ep;obtain⟨x00,h00⟩:=FC (l:=l) (k:=0) EN;obtain⟨j0,n00,rfl,hn00,_,_⟩:=HIN.out x00 (FT h00);have hj0:j0 < g.Fg.length:=FD hn00;have z0:=ah (HCL.out 0 _ h00) aZ;rw[J7] at z0;have hul:=ah HUL.out aZ;have HFW:=Ac (show tZ g i inf.aC (l.getD 0 0).toNat j=tZ g i inf.aC j0 j by rw[FU,h00]; rfl);have HGc:=Ac (HG.out.on (FZ aZ F));have y0:=ah x0 aZ;have y1:=ah x1 aZ;have y2:=ah x2 aZ;have hkl:0 < l.length:=EN;obtain⟨pl,hpl⟩:=FH inf.aC;have HPLR:=Ac hpl;rw[<-hpl] at HFW ⊢;clear h00 hn00 hpl;go_wp2_with fail
    refine wp_region_held_drew (S:=λw'=>w'.cell? ⟨w.heap.size,0,none⟩=some (F6 F5 g.ay)/\w'.cell? ⟨w.heap.size,1,none⟩=some (FQ (some ⟨b,q,none⟩) g.Fg.length c)/\w'.cell? ⟨w.heap.size,2,none⟩=some (FQ (some ⟨bi,oi,none⟩) g.Fh.length ci)/\w'.cell? ⟨bs,os+i,none⟩=some (FQ (some ⟨bl2,ol2,none⟩) l.length cl)/\w'.cell? ⟨bl2,ol2,none⟩=some (F6 F5 (j0:Int))) ak ⟨y0,y1,y2,hul,z0⟩ (λhHeld=>?_);refine zdq ?_;intro hb;refine Y2 ?_;clear y0 y1 y2 hul z0 HGc HO' aZ hb;intro y0 y1 y2 hul z0 HGc HO' aZ;generalize wc.drew=wn at *;refine tkm [0,1,2,4,5,6,7,8,9,10,11] ?_;refine tk2 3 ak rfl λK hK=>?_
    go_simp;refine(afk wn F _ g j pl HGc.out HS.out HGD.out hj).mono ?_;rintro e wn ⟨v1,rfl,hb,hu⟩;have HV1:=Ac (AL.keep (G:=λ_=>True) hu (λ_ _ _=>trivial) (Gh _ _));clear hu;refine Y2 ?_;clear y0 y1 y2 hul z0 HGc HO' aZ hb;intro y0 y1 y2 hul z0 HGc HO' aZ;dsimp only;clear hHeld;refine hK.out _ _ ⟨y0,y1,y2,hul,z0⟩ (λhHeld=>?_);clear hK K;refine Zb ?_;refine tk2 12 ak rfl λK hK=>?_
    go_simp;refine(afk wn F _ g j0 pl HGc.out HS.out HGD.out hj0).mono ?_;rintro e wn ⟨v2,rfl,hb,hu⟩;have HV2:=Ac (AL.keep (G:=λ_=>True) hu (λ_ _ _=>trivial) (Gh _ _));clear hu;replace HV1:=Ac (AL.on HV1.out (FZ hb _));refine Y2 ?_;clear y0 y1 y2 hul z0 HGc HO' aZ hb;intro y0 y1 y2 hul z0 HGc HO' aZ;dsimp only;clear hHeld;refine hK.out _ _ ⟨y0,y1,y2,hul,z0⟩ (λhHeld=>?_);clear hK K;refine Zb ?_;obtain⟨eqB,heqB⟩:=FH (decide (gG g pl j=gG g pl j0));have HEQ:=Ac heqB;have HWL:=Ac (afV HGD.out HS.out pl hj);clear heqB;refine tk2 13 ak rfl λK hK=>?_
    go_simp;refine(amg wn (λ_=>True) _ _ _ _ HV1.out HV2.out (by have:=HWL.out; omega)).mono ?_;rintro e wn ⟨v3,rfl,hb,rfl⟩;rw[<-HEQ.out];clear HV1 HV2;refine Y2 ?_;clear y0 y1 y2 hul z0 HGc HO' aZ hb;intro y0 y1 y2 hul z0 HGc HO' aZ;dsimp only;clear hHeld;refine hK.out _ _ ⟨y0,y1,y2,hul,z0⟩ (λhHeld=>?_);clear hK K;refine Zb ?_;refine tkm [14] ?_;refine Yf ?_;clear hHeld;obtain rfl:=HPLR.out;cases eqB with
    | true =>
     have HW:=Ac (show tZ g i inf.aC j0 j = [] by unfold tZ; rw[L8 (of_decide_eq_true HEQ.out.symm)]);go_wp2_with fail
     go_roundw
     case rel =>
      refine⟨k+1,M',EN,by go_num,?_,EN,HO'.out,aZ⟩;rw[HFK.out,HFW.out,HW.out,Hz,HM'.out,HM.out,GY]
     case measure=>simp[intOf]; omega
    | false =>
     have HW:=Ac (show tZ g i inf.aC j0 j = [⟨2,(j:Int),(i:Int),(j0:Int)⟩] by unfold tZ; rw[L6 (of_decide_eq_false HEQ.out.symm)]);go_wp2_with (at_builtin; refine iH (K:=flK) (F:=λ_=>True) rfl _ _ 190 193 32 _ Tryz.underlying190 Tryz.infoFlaw rfl aA rfl w2.heap.size (FV _) u3 M' rfl ⟨2,(j:Int),(i:Int),(j0:Int)⟩ _ rfl EN rfl HO'.out trivial aZ ?_; intro g' cap w' hown2 jo hlt2 hsm2; have HO2:=Ac hown2; clear hown2)
     go_roundw
     case rel =>
      refine⟨k+1,M' ++ [⟨2,(j:Int),(i:Int),(j0:Int)⟩],EN,by go_num,?_,by rw[Gn]; simp; omega,HO2.out,jo⟩;rw[HFK.out,HFW.out,HW.out,HM'.out,HM.out,GY,GY]
     case measure=>simp[intOf]; omega
def aem (g:Gm) (pl:Int):Bool:=!(aaM g).any λf=>decide ((g.Fh.getD f.info.toNat default).aC=pl)
theorem aiy {g:Gm}:∀ f∈aaM g,∃ i:Nat,f.info=(i:Int)/\i < g.Fh.length:=by
 have h1:∀ (i:Int) (pl:Int) (l:List Int) (k:Nat),∀ f∈jy g i pl l k,f.info=i:=by
  intro i pl l k;induction k with
  | zero=>intro f hf; cases hf
  | succ k ih =>
   intro f hf;rw[jy] at hf;rcases List.mem_append.1 hf with hf | hf
   ·exact ih f hf
   ·unfold sJ aaL tZ at hf;rcases List.mem_append.1 hf with hf | hf
    ·split at hf
     ·rw[List.mem_singleton.1 hf]
     ·cases hf
    ·split at hf
     ·cases hf
     ·rw[List.mem_singleton.1 hf]
 have h2:∀ n,∀ f∈lK g n,∃ i:Nat,f.info=(i:Int)/\i < n:=by
  intro n;induction n with
  | zero=>intro f hf; cases hf
  | succ n ih =>
   intro f hf;rw[lK] at hf;rcases List.mem_append.1 hf with hf | hf
   ·obtain⟨i,e,h⟩:=ih f hf;exact⟨i,e,EN⟩
   ·exact⟨n,h1 _ _ _ _ f hf,EN⟩
 exact h2 _
theorem agU (w:FW) (F:FI) (v:F7) (g:Gm) (pl:Int) (hg:AA w F v g) (hsm:Small g) (hgd:Good g) :
  Calls FY 97 #[v,F6 F5 pl] w (Ret w λu _=>u = .bool (aem g pl)):=by
 have HG:=Ac hg;have HS:=Ac hsm;have HGD:=Ac hgd;have hi100:=hsm.Fh;obtain⟨vn,vi,rfl,⟨A,c,rfl,hc,_⟩,⟨Ai,ci,rfl,hci,hI⟩⟩:=hg;have HI:=Ac hI;clear hsm hgd hI;go_in;go_wp2_with fail
 refine ZJ ?_;intro W hW rx hB hz;clear hW;replace HG:=Ac (HG.out.on (FZ hB F));refine Zd ?_;intro x0 x1 x2;clear rx hz;go_wp2_with fail
 refine(akG W F _ g HG.out HS.out HGD.out).mono ?_;rintro e w1 ⟨u,rfl,hb1,hu⟩;replace hB:=hB.trans (hb1.mono hB.size);replace x2:=ah x2 hb1;have HFI:=Ac (aiy (g:=g));have hLb:=ah9 HGD.out HS.out;obtain⟨pb,hpb⟩:=FH (aem g pl);have HPB0:=Ac hpb;obtain⟨L,hL⟩:=FH (aaM g);unfold aem at hpb;rw[<-hL] at hu hpb HFI hLb;have HPB:=Ac hpb;obtain⟨Af,cf,rfl,hcf,hx⟩:=hu;have HX:=Ac hx;clear hb1 x0 x1 hpb hL hx;dsimp only;go_wp2_with fail
 go_loopw [6] (λiv wr=>∃ (i:Nat),i<=L.length/\iv = F6 F5 (i:Int)/\(∀ f∈L.take i,(g.Fh.getD f.info.toNat default).aC≠pl)/\Below w1.heap.size w1 wr) (λiv _=>L.length - (intOf iv).toNat)
 case atStart=>exact⟨0,EN,rfl,λf hf=>by simp at hf,F9 _ _⟩
 case round =>
  obtain⟨i,hi,rfl,hno,hbel⟩:=hrel;have HNO:=Ac hno;clear hno;by_cases hlt:i < L.length
  ·obtain⟨f,hf⟩:=FC hlt;obtain⟨bf,of',rfl,_,hbf,hcf2⟩:=HX.out EN;obtain⟨s,hs,hsl⟩:=HFI.out f (FT hf);have c2:=(hcf2 i f hf).2.2.1;rw[hs] at c2;obtain⟨inf,gU⟩:=FC hsl;obtain⟨bi,oi,rfl,_,hbil,akx⟩:=HI.out EN;have f0:=(akx s inf gU).c0;replace f0:=ah (ah f0 hB) hbel;replace c2:=ah c2 hbel;have y2:=ah x2 hbel;have HGE:=Ac (show(g.Fh.getD f.info.toNat default).aC=inf.aC by rw[hs,Gu,FU,gU]; rfl);have HF:=Ac hf;clear hcf2 akx gU hs hf;by_cases hp:inf.aC=pl
   ·have t1:(inf.aC==pl)=true:=by simp[hp]
    have HE:=Ac (show pb=false by
     rw[HPB.out,Bool.not_eq_false',List.any_eq_true];exact⟨f,FT HF.out,by rw[HGE.out]; exact Mc hp⟩)
    clear hp;go_wp2_with fail
    go_quiet (fail)
    go_wp2
    go_ret;exact⟨_,rfl,hB.trans ((aI hbel _).mono hB.size),by rw[<-HPB0.out,HE.out]; rfl⟩
   ·have t1:(inf.aC==pl)=false:=by simpa using hp
    have HN:=Ac hp;clear hp;go_wp2_with fail
    go_quiet (fail)
    go_wp2
    go_roundw
    case rel =>
     refine⟨i+1,EN,by go_num,λx hx=>?_,aI hbel _⟩;rw[FP HF.out] at hx;rcases List.mem_append.1 hx with hx | hx
     ·exact HNO.out x hx
     ·rw[List.mem_singleton.1 hx,HGE.out];exact HN.out
    case measure=>simp[intOf]; omega
  ·have HE:=Ac (show pb=true by
    rw[HPB.out,Bool.not_eq_true',Ja];intro f hf;have:=HNO.out f (by rw[Gl EN]; exact hf);simpa using this)
   go_wp2
   go_ret;exact⟨_,rfl,hB.trans (hbel.mono hB.size),by rw[<-HPB0.out,HE.out]; rfl⟩
def aaS (g:Gm) (pl:Int) (l:List Int):Bool:=l.all λx=>decide (gG g pl x.toNat=gG g pl (l.getD 0 0).toNat)
def acW (g:Gm) (pl:Int):Nat->Bool
 | 0=>true
 | i+1=>acW g pl i&&(!decide ((g.Fh.getD i default).aC=pl)||aaS g pl ((dK g).getD i []))
def abr (g:Gm) (pl:Int):Bool:=acW g pl g.Fh.length
theorem sN {g:Gm} {pl:Int}:∀ {k:Nat},acW g pl k=true↔∀ i,i < k->(g.Fh.getD i default).aC=pl->aaS g pl ((dK g).getD i [])=true
 | 0=>by simp[acW]
 | k+1=>by
  rw[acW,Bool.and_eq_true,sN (k:=k),Bool.or_eq_true,Bool.not_eq_true',decide_eq_false_iff_not];constructor
  ·rintro⟨h1,h2⟩ i hi hp;by_cases e:i=k
   ·subst e;rcases h2 with h2 | h2
    ·exact absurd hp h2
    ·exact h2
   ·exact h1 i EN hp
  ·intro h;refine⟨λi hi hp=>h i EN hp,?_⟩;by_cases hp:(g.Fh.getD k default).aC=pl
   ·exact .inr (h k EN hp)
   ·exact .inl hp
theorem agV {n:Nd} (h:n.kind=2/\n.aC=pl) (hc:(c:Int)∈n.next):0 < (gW pl n c n.next.length).length:=by
 unfold gW;rw[L8 h,FX];obtain⟨k,hk⟩:=Gz hc;exact List.length_pos_of_mem (a:=k) (List.mem_filter.2 ⟨List.mem_range.2 (FD hk),by simp[hk]⟩)
theorem aen {g:Gm} (hg:Good g) {i pl:Int} (hpl:∀ (j:Nat) (n:Nd),g.Fg[j]? = some n->n.kind=2->n.info=i->n.aC=pl):∀ (f c a:Nat),c < g.Fg.length->iP g i f c=some a ->
  (gG g pl a).length < (gG g pl c).length/\∃ n,g.Fg[a]? = some n/\n.kind=2/\n.info=i
 | 0,c,a,_,h=>by cases h
 | f+1,c,a,hc,h=>by
  obtain⟨p,hp,h0 | ⟨q,n,rfl,hq,hn,hm⟩⟩:=hg.par hc
  ·obtain⟨rfl,_⟩:=h0; rw[zX hg] at h; cases h
  ·have hw:=pK hg (pl:=pl) hc hp hn hq;by_cases hk:n.kind=2/\n.info=i
   ·rw[zY hp hn hk] at h;cases h
    have:=agV (c:=c) ⟨hk.1,hpl _ n hn hk.1 hk.2⟩ hm;refine⟨?_,n,hn,hk⟩;rw[hw,Gn,List.length_reverse]; omega
   ·rw[acI hp hn hk] at h;obtain⟨h1,h2⟩:=aen hg hpl f q a EN h;refine⟨?_,h2⟩;rw[hw,Gn]; omega
theorem sO {g:Gm} {i pl:Int} {l:List Int} {f:Fl}:∀ {k:Nat},f∈jy g i pl l k↔∃ j,j < k/\f∈sJ g i pl (l.getD 0 0).toNat (l.getD j 0).toNat
 | 0=>by simp[jy]
 | k+1=>by
  rw[jy,List.mem_append,sO (k:=k)];constructor
  ·rintro(⟨j,h1,h2⟩ | h)
   ·exact⟨j,EN,h2⟩
   ·exact⟨k,EN,h⟩
  ·rintro⟨j,h1,h2⟩;by_cases e:j=k
   ·subst e; exact .inr h2
   ·exact .inl ⟨j,EN,h2⟩
theorem wS {g:Gm} {f:Fl}:∀ {k:Nat},f∈lK g k↔∃ i:Nat,i < k/\f∈jy g i (g.Fh.getD i default).aC ((dK g).getD i []) ((dK g).getD i []).length
 | 0=>by simp[lK]
 | k+1=>by
  rw[lK,List.mem_append,wS (k:=k)];constructor
  ·rintro(⟨j,h1,h2⟩ | h)
   ·exact⟨j,EN,h2⟩
   ·exact⟨k,EN,h⟩
  ·rintro⟨j,h1,h2⟩;by_cases e:j=k
   ·subst e; exact .inr h2
   ·exact .inl ⟨j,EN,h2⟩
theorem acX {g:Gm} {i:Int} {l:List Int} {f:Fl} (hf:f∈jy g i pl l k):f.info=i:=by
 obtain⟨j,_,h⟩:=sO.1 hf;unfold sJ aaL tZ at h;rcases List.mem_append.1 h with h | h
 ·split at h
  ·rw[List.mem_singleton.1 h]
  ·cases h
 ·split at h
  ·cases h
  ·rw[List.mem_singleton.1 h]
theorem qU {g:Gm} (h:bF g=0) (hi:i < g.Fh.length):((dK g).getD i [])=bU g.Fg i g.Fg.length /\
  (∀ (j:Nat) (n:Nd),g.Fg[j]? = some n->n.kind=2->n.info=(i:Int)->n.aC=(g.Fh.getD i default).aC/\(j:Int)∈(dK g).getD i []) /\
  (∀ x∈(dK g).getD i [],∃ (j:Nat) (n:Nd),x=(j:Int)/\g.Fg[j]? = some n/\n.kind=2/\n.info=(i:Int)):=by
 have hg:=iO h;have h1:=ji hg.Fh hi;have h2:((dK g).getD i [])=bU g.Fg i g.Fg.length:=by rw[FU,h1];rfl
 refine⟨h2,λj n hn hk hin=>⟨?_,?_⟩,λx hx=>?_⟩
 ·obtain⟨inf,h3,_,h4⟩:=uV h (FT hn) hk;rw[hin,Gu] at h3;rw[FU,h3];exact h4.symm
 ·rw[h2];refine sH.2 ⟨j,rfl,FD hn,?_⟩;unfold mv;rw[hn];simp[hk,hin]
 ·exact(abN hg (l:=(dK g).getD i []) (by rw[h2]; exact h1)).2 x hx
theorem ami {g:Gm} (h:bF g=0) (pl:Int):abr g pl=aem g pl:=by
 have hg:=iO h;rw[Bool.eq_iff_iff];unfold abr aem;rw[sN,Bool.not_eq_true',Ja];constructor
 ·intro hw f hf hp;obtain⟨i,hi,hfi⟩:=wS.1 hf;have gU:=acX hfi;rw[gU,Gu] at hp;have hp:=of_decide_eq_true hp;rw[hp] at hfi;obtain⟨h2,h3,h4⟩:=qU h hi;have hall:=hw i hi hp;unfold aaS at hall;rw[Jc] at hall;obtain⟨k,hk,hfk⟩:=sO.1 hfi;generalize (dK g).getD i []=l at *;obtain⟨x,hx⟩:=FC hk;have ex:l.getD k 0=x:=by rw[FU,hx];rfl
  rw[ex] at hfk;have hwx:=of_decide_eq_true (hall x (FT hx));obtain⟨j,n,rfl,hn,_,_⟩:=h4 x (FT hx);rw[Gu] at hfk hwx;unfold sJ at hfk;rcases List.mem_append.1 hfk with hfk | hfk
  ·cases ha:iP g i g.Fg.length j with
   | none=>rw[ha] at hfk; cases hfk
   | some a =>
    obtain⟨h5,m,h6,h7,h8⟩:=aen hg (pl:=pl) (λj n hn hk hin=>by rw[(h3 j n hn hk hin).1,hp]) _ j a (FD hn) ha;have hwa:=of_decide_eq_true (hall (a:Int) (h3 a m h6 h7 h8).2);rw[Gu] at hwa;rw[hwa,hwx] at h5;omega
  ·unfold tZ at hfk;rw[L8 hwx] at hfk;cases hfk
 ·intro hno i hi hp;unfold aaS;rw[Jc];intro x hx;obtain⟨k,hk⟩:=Gz hx;by_cases hw:gG g pl x.toNat=gG g pl (((dK g).getD i []).getD 0 0).toNat
  ·exact Mc hw
  ·exfalso
   refine hno ⟨2,x.toNat,i,(((dK g).getD i []).getD 0 0).toNat⟩ (wS.2 ⟨i,hi,sO.2 ⟨k,FD hk,?_⟩⟩) ?_
   ·unfold sJ tZ;rw[FU (l:=(dK g).getD i []) (i:=k),hk,hp];simp only[Ht];rw[L6 hw];exact List.mem_append_right _ aF
   ·show decide ((g.Fh.getD ((i:Int)).toNat default).aC=pl)=true;rw[Gu];exact Mc hp
theorem Span.incr {Fg:List Nd} (h:Span Fg cs a b):cs.Pairwise (· < ·):=by
 induction h with
 | nil a=>exact List.Pairwise.nil
 | cons hn h1 h2 _ ih2 =>
  refine List.Pairwise.cons (λc hc=>?_) ih2;have e1:=h1.le;have e2:=(h2.mem c hc).1;omega
theorem Span.nexts {Fg:List Nd} (h:Span Fg cs a b):∀ p n,a<=p->p < b->Fg[p]? = some n->n.next.Pairwise (· < ·):=by
 induction h with
 | nil a=>intro p n h1 h2; omega
 | @cons a m b n0 cs hn h1 h2 ih1 ih2 =>
  intro p n k1 k2 hp;by_cases e:p=a
  ·subst e;rw[hn] at hp;cases hp;exact h1.incr
  ·by_cases e2:p < m
   ·exact ih1 p n EN e2 hp
   ·exact ih2 p n EN k2 hp
theorem lg {g:Gm} (hg:Good g) {n:Nd} (hn:g.Fg[q]? = some n) (h:n.kind=2/\n.aC=pl) (hj:n.next[j]? = some (c:Int)):gW pl n c n.next.length = [(n.info,(j:Int))]:=by
 have hinc:=hg.span.nexts q n (GR _) (FD hn) hn;have hjl:=FD hj;have key:∀ k,k<=n.next.length->gW pl n c k=if j < k then [(n.info,(j:Int))] else []:=by
  intro k;induction k with
  | zero=>intro _; rw[zI,L6 EN]
  | succ k ih =>
   intro hk;obtain⟨x,hx⟩:=FC (l:=n.next) (k:=k) EN;by_cases e:k=j
   ·subst e;rw[acg h hj,ih EN,L6 EN,L8 EN];rfl
   ·have hne:x≠(c:Int):=by
     intro e2;subst e2;have hxe:n.next[k]'EN=(c:Int):=by have:=hx;rw[GX EN] at this;simpa using this
     have hje:n.next[j]'hjl=(c:Int):=by have:=hj;rw[GX hjl] at this;simpa using this
     rw[List.pairwise_iff_getElem] at hinc;rcases Nat.lt_or_gt_of_ne e with h1 | h1
     ·have:=hinc k j EN hjl h1;omega
     ·have:=hinc j k hjl EN h1;omega
    rw[aa9 hx hne,ih EN];by_cases h1:j < k
    ·rw[L8 h1,L8 EN]
    ·rw[L6 h1,L6 EN]
 rw[key _ (FV _),L8 hjl]
def lastStep (l:List (Int×Int)):Int×Int:=l.getLast?.getD (-1,-1)
def sQ (g:Gm) (pl:Int) (c:Nat):Int×Int:=lastStep (gG g pl c)
theorem uZ {g:Gm} (hg:Good g) (pl:Int):sQ g pl 0=(-1,-1):=by unfold sQ; rw[lI hg]; rfl
theorem aeo {g:Gm} (hg:Good g) {n:Nd} (hn:g.Fg[q]? = some n) (hj:n.next[j]? = some (c:Int)):sQ g pl c=if n.kind=2/\n.aC=pl then (n.info,(j:Int)) else sQ g pl q:=by
 have hm:=FT hj;have hqc:=hg.span.kids q n (GR _) (FD hn) hn _ hm;have hc:c < g.Fg.length:=EN;have hp:=ny hg hc hn hm;unfold sQ;rw[pK hg hc hp hn EN];split
 ·rename_i h
  rw[lg hg hn h hj];simp[lastStep]
 ·rename_i h
  rw[fG h];simp
def iG (g:Gm) (i:Nat):Nat:=(((dK g).getD i []).getD 0 0).toNat
def aK (g:Gm):List (Int×Int):=(Ir g.Fh.length).map λi=>sQ g (g.Fh.getD i default).aC (iG g i)
theorem sS {g:Gm} (hi:i < g.Fh.length):(aK g)[i]? = some (sQ g (g.Fh.getD i default).aC (iG g i)):=by
 unfold aK;rw[Gi,List.getElem?_range hi];rfl
theorem cO (g:Gm):(aK g).length=g.Fh.length:=by unfold aK; simp
theorem acY {g:Gm} (hg:Good g) (pl:Int):∀ (b c:Nat),c<=b->c < g.Fg.length->sQ g pl c=(-1,-1)\/∃ (q j:Nat) (n:Nd),q < c/\g.Fg[q]? = some n/\n.kind=2/\n.aC=pl/\j < n.next.length/\sQ g pl c=(n.info,(j:Int))
 | 0,c,hb,_=>by
  obtain rfl:c=0:=EN;exact .inl (uZ hg pl)
 | b+1,c,hb,hc=>by
  obtain⟨p,hp,h0 | ⟨q,n,rfl,hq,hn,hm⟩⟩:=hg.par hc
  ·rw[h0.1]; exact .inl (uZ hg pl)
  ·obtain⟨j,hj⟩:=Gz hm;have e:=aeo hg (pl:=pl) hn hj;by_cases hk:n.kind=2/\n.aC=pl
   ·rw[L8 hk] at e;exact .inr ⟨q,j,n,hq,hn,hk.1,hk.2,FD hj,e⟩
   ·rw[L6 hk] at e;rcases acY hg pl b q EN EN with h | ⟨q',j',n',h1,h2,h3,h4,h5,h6⟩
    ·exact .inl (by rw[e,h])
    ·exact .inr ⟨q',j',n',EN,h2,h3,h4,h5,by rw[e,h6]⟩
theorem oQ {g:Gm} (h:bF g=0) (hi:i < g.Fh.length):∃ n,g.Fg[iG g i]? = some n/\n.kind=2/\n.info=(i:Int)/\n.aC=(g.Fh.getD i default).aC/\(dK g).getD i []≠[]/\((dK g).getD i []).getD 0 0=(iG g i:Int):=by
 obtain⟨h2,h3,h4⟩:=qU h hi;obtain⟨_,h5⟩:=jr h;have hm:=ji (iO h).Fh hi;have hne:(dK g).getD i []≠[]:=by
  intro e;unfold kL at h5;have:lG (dK g)=true:=by
   unfold lG;exact List.any_eq_true.2 ⟨_,FT hm,by rw[<-h2,e]; rfl⟩
  rw[this] at h5;split at h5
  ·omega
  ·simp at h5
 have hfo:iG g i=(((dK g).getD i []).getD 0 0).toNat:=rfl;generalize (dK g).getD i []=l at *;cases l with
 | nil=>exact absurd rfl hne
 | cons x t =>
  obtain⟨j,n,rfl,hn,hk,hin⟩:=h4 x aF;have e:iG g i=j:=by rw[hfo];simp
  rw[e];exact⟨n,hn,hk,hin,(h3 j n hn hk hin).1,hne,aF⟩
theorem yA {Fg:List Nd} {s:Nat}:∀ {k:Nat} {x:Int},x∈bU Fg s k->(bU Fg s k).getD 0 0<=x
 | 0,x,h=>by simp[bU] at h
 | k+1,x,h=>by
  rw[wL] at h ⊢;rcases List.mem_append.1 h with h | h
  ·have h1:=yA h;cases hm:bU Fg s k with
   | nil=>rw[hm] at h; cases h
   | cons y t=>rw[hm] at h1; exact h1
  ·split at h
   ·rename_i hv
    rw[L8 hv];rw[List.mem_singleton.1 h];cases hm:bU Fg s k with
    | nil=>simp
    | cons y t =>
     obtain⟨i,rfl,hi,_⟩:=sH.1 (show y∈bU Fg s k by rw[hm]; simp);simp; omega
   ·cases h
theorem aiz {g:Gm} (h:bF g=0) {n:Nd} (hi:i < g.Fh.length) (hn:g.Fg[j]? = some n) (hk:n.kind=2) (hin:n.info=(i:Int)):iG g i<=j:=by
 obtain⟨h2,h3,_⟩:=qU h hi;have h4:=(h3 j n hn hk hin).2;rw[h2] at h4;have h5:=yA h4;obtain⟨_,_,_,_,_,_,h6⟩:=oQ h hi;rw[h2] at h6;omega
theorem aai {g:Gm} (h:bF g=0) {i:Nat}:∀ {k:Nat},i<=k->k < g.Fh.length->iG g i<=iG g k
 | 0,h1,_=>by
  obtain rfl:i=0:=EN;exact FV _
 | k+1,h1,h2=>by
  by_cases e:i=k+1
  ·subst e; exact FV _
  ·refine Gf (aai h (k:=k) EN EN) ?_;obtain⟨_,h5⟩:=jr h;have h6:fB (dK g) g.Fh.length=false:=by
    unfold kL at h5;split at h5
    ·omega
    ·split at h5
     ·omega
     ·split at h5
      ·omega
      ·rename_i c; simpa using c
   unfold fB at h6;have h7:=List.any_eq_false.1 h6 (k+1) (by rw[List.mem_range'_1]; omega);unfold jS at h7;rw[Nat.add_sub_cancel] at h7;have h8:¬ ((dK g).getD (k+1) []).getD 0 0 < ((dK g).getD k []).getD 0 0:=λe=>h7 (Mc e)
   unfold iG;omega
structure Ups (up:List (Int×Int)) (acts:Nat->Int):Prop where
 ok:∀ (k:Nat) (s:Int×Int),up[k]? = some s->s.1 < 0\/(0<=s.1/\s.1 < (k:Int)/\0<=s.2/\s.2 < acts s.1.toNat)
theorem aiA {g:Gm} (h:bF g=0):Ups (aK g) (λi=>(g.Fh.getD i default).actions):=by
 refine⟨λk s hs=>?_⟩;have hk:k < g.Fh.length:=by have:=FD hs;rwa [cO] at this
 rw[sS hk] at hs;cases hs;have hg:=iO h;obtain⟨n,hn,hkd,hin,hpl,_⟩:=oQ h hk;rcases acY hg (g.Fh.getD k default).aC _ (iG g k) (FV _) (FD hn) with e | ⟨q,j,m,h1,h2,h3,h4,h5,h6⟩
 ·rw[e];exact .inl aA
 ·right
  rw[h6];have hi:=hg.Fh m (FT h2) h3;obtain⟨inf,e1,e2,_⟩:=uV h (FT h2) h3;have hm:(m.info.toNat:Int)=m.info:=EN;refine⟨hi.1,?_,EN,?_⟩
  ·rcases Nat.lt_or_ge m.info.toNat k with h7 | h7
   ·show m.info < _;omega
   ·exfalso
    have a1:=aai h h7 EN;have a2:=aiz h (i:=m.info.toNat) EN h2 h3 EN;omega
  ·show((j:Nat):Int) < (g.Fh.getD m.info.toNat default).actions;rw[FU,e1];simp only[Ht];omega
def lM (g:Gm) (k:Nat):Bool:=(Ir k).all λp=>abr g (p:Int)
theorem aaj (g:Gm) (k:Nat):lM g (k+1)=(lM g k&&abr g (k:Int)):=by unfold lM; rw[List.range_succ,List.all_append]; simp
theorem adF {g:Gm} (h:lM g k=false) {m:Nat} (hm:k<=m):lM g m=false:=by
 induction m with
 | zero =>
  obtain rfl:k=0:=EN;exact h
 | succ m ih =>
  by_cases e:k=m+1
  ·subst e;exact h
  ·rw[aaj,ih EN,Bool.false_and]
def qh (g:Gm):Int:=if lM g g.ay.toNat then 0 else 13
def rF (g:Gm):List (Int×Int):=if lM g g.ay.toNat then aK g else []
theorem Bg.at {w:FW} {v:F7} {m:List (List Int)} (h:Bg w F v m) {l:List Int} (hk:m[k]? = some l):∃ b o c u,v = FQ (some ⟨b,o,none⟩) m.length c/\F b/\b < w.heap.size/\w.cell? ⟨b,o+k,none⟩=some u/\Aj w F u l:=by
 obtain⟨A,c,rfl,hc,hr⟩:=h;obtain⟨b,o,rfl,hF,hb,hcell⟩:=hr (by have:=FD hk; omega);obtain⟨u,e0,i⟩:=hcell k l hk;rw[Gp] at e0;exact⟨b,o,c,u,rfl,hF,hb,e0,i⟩
theorem Tryz.infoSeq:(Tryz.prog.info? 60).map (λi=>(i.zero,i.size,i.bytes))=some (some (.agg #[F6 F5 0,F6 F5 0]),2,16):=ak
def eP (p:List (List Rat)) (s:Int×Int):Rat:=if s.1 < 0 then 1 else (p.getD s.1.toNat []).getD s.2.toNat 0
def eG (up:List (Int×Int)) (m:List (List Rat)):Nat->List (List Rat)
 | 0=>[]
 | k+1=>eG up m k ++ [(m.getD k []).map λx=>eP (eG up m k) (up.getD k (-1,-1))*x]
def aO (up:List (Int×Int)) (m:List (List Rat)):List (List Rat):=eG up m m.length
theorem cZ (up:List (Int×Int)) (m:List (List Rat)):∀ k,(eG up m k).length=k
 | 0=>rfl
 | k+1=>by rw[eG,Gn,cZ up m k]; rfl
theorem iC {up:List (Int×Int)} {m:List (List Rat)} {i:Nat}:∀ {k:Nat},i < k->(eG up m k).getD i []=(m.getD i []).map λx=>eP (eG up m i) (up.getD i (-1,-1))*x
 | 0,h=>by omega
 | k+1,h=>by
  rw[eG,FU];by_cases e:i < k
  ·rw[List.getElem?_append_left (by rw[cZ]; exact e),<-FU,iC e]
  ·obtain rfl:i=k:=EN;rw[List.getElem?_append_right (by rw[cZ]; exact FV _),cZ,Nat.sub_self]; rfl
theorem wU {up:List (Int×Int)} {s:Int×Int} {k':Nat} (h:s.1 < 0\/(s.1 < (k:Int))) (hk:k<=k'):eP (eG up m k) s=eP (eG up m k') s:=by
 unfold eP;by_cases h0:s.1 < 0
 ·rw[L8 h0,L8 h0]
 ·rw[L6 h0,L6 h0,iC EN,iC EN]
structure BX (up:List (Int×Int)) (m:List (List Rat)):Prop where
 len:up.length=m.length
 ok:∀ (k:Nat) (s:Int×Int),up[k]? = some s->s.1 < 0\/(0<=s.1/\s.1 < (k:Int)/\0<=s.2/\s.2 < ((m.getD s.1.toNat []).length:Int))
def qE (up:List (Int×Int)) (m:List (List Rat)):Nat->Int×Int->Rat->Rat
 | 0,_,acc=>acc
 | f+1,s,acc=>if s.1 < 0 then acc else qE up m f (up.getD s.1.toNat (-1,-1)) (acc*(m.getD s.1.toNat []).getD s.2.toNat 0)
def ofRow (up:List (Int×Int)) (m:List (List Rat)) (k:Nat):List Rat:=(m.getD k []).map λx=>qE up m (m.length+1) (up.getD k (-1,-1)) 1*x
def ofL (up:List (Int×Int)) (m:List (List Rat)):List (List Rat):=(Ir m.length).map (ofRow up m)
theorem vk (l:List Rat) (a:Rat) (k:Nat):(l.map λx=>a*x).getD k 0=a*l.getD k 0:=by
 rw[FU,FU,Gi];cases l[k]? with
 | none=>simp[Rat.mul_zero]
 | some x=>rfl
theorem abt {up:List (Int×Int)} {m:List (List Rat)} (h:BX up m):∀ (f:Nat) (s:Int×Int) (acc:Rat),(s.1 < 0\/(0<=s.1/\s.1 < (f:Int)/\s.1 < (m.length:Int)))->1<=f->qE up m f s acc=acc*eP (aO up m) s
 | 0,_,_,_,h0=>by omega
 | f+1,s,acc,hs,_=>by
  unfold qE;by_cases h0:s.1 < 0
  ·rw[L8 h0]; unfold eP; rw[L8 h0,Rat.mul_one]
  ·rw[L6 h0];have hs:=hs.resolve_left h0;obtain⟨t,ht⟩:=FC (l:=up) (k:=s.1.toNat) (by rw[h.len]; omega);have htd:up.getD s.1.toNat (-1,-1)=t:=by rw[FU,ht]; rfl
   rw[htd];have ho:=h.ok _ _ ht;have e:eP (aO up m) s=eP (aO up m) t*(m.getD s.1.toNat []).getD s.2.toNat 0:=by
    have h1:eP (aO up m) s=((aO up m).getD s.1.toNat []).getD s.2.toNat 0:=by rw[eP,L6 h0]
    rw[h1];unfold aO;rw[iC EN,htd,vk];congr 1;exact wU EN EN
   rw[e];rcases Gt f with hf | hf
   ·subst hf;have h2:t.1 < 0:=EN;unfold qE eP;rw[L8 h2,Kr]
   ·rw[abt h f t _ EN hf,Rat.mul_assoc,Rat.mul_comm ((m.getD s.1.toNat []).getD s.2.toNat 0)]
theorem aiB {up:List (Int×Int)} (h:BX up m):ofL up m=aO up m:=by
 refine List.ext_getElem? λi=>?_
 unfold ofL;rw[Gi];by_cases hi:i < m.length
 ·rw[List.getElem?_range hi];obtain⟨l,hl⟩:=FC (l:=aO up m) (k:=i) (by unfold aO; rw[cZ]; exact hi);have e:(aO up m).getD i []=l:=by rw[FU,hl];rfl
  rw[hl,<-e];obtain⟨t,ht⟩:=FC (l:=up) (k:=i) (by rw[h.len]; omega);have htd:up.getD i (-1,-1)=t:=by rw[FU,ht];rfl
  have ho:=h.ok _ _ ht;show some (ofRow up m i)=_;unfold ofRow;rw[htd,abt h _ t _ EN EN,Kr];unfold aO;rw[iC hi,htd,wU (k:=i) (k':=m.length) EN EN]
 ·rw[G9 aG,G9 (by unfold aO; rw[cZ]; omega)];rfl
def jA (l:List Rat):List Rat:=if fO l=0 then mZ l.length else l.map (· / fO l)
def dM (p:List (List Rat)):List (List Rat):=p.map jA
def dS (p q:List (List Rat)) (s t:Rat):List (List Rat):=IW (IW λa b=>a*s+b*t) p q
def ajo (g:Gm):Int:=if bF g≠0 then bF g else qh g
def abT (g:Gm):List (Int×Int):=if bF g≠0 then [] else rF g
theorem ajp {g:Gm} (hf:bF g=0) {inf:Inf} (hi:g.Fh[i]? = some inf):1<=inf.actions/\inf.actions<=10:=by
 obtain⟨n,hn,hk,hin,_⟩:=oQ hf (FD hi);obtain⟨inf',h1,h2,_⟩:=uV hf (FT hn) hk;have h3:=mV (jr hf).1 (FT hn) hk;rw[hin,Gu,hi] at h1;cases h1;omega
theorem ajq {n:Nat} (h1:1<=n) (h2:n<=10):∀ x∈mZ n,rl x<=4:=by
 intro x hx;unfold mZ at hx;rw[List.eq_of_mem_replicate hx];exact ajl ⟨EN,EN⟩ ⟨EN,EN⟩
theorem vC (h:∀ x∈xs,rl x<=1024):kJ xs=0:=by
 unfold kJ;rw[L6];intro he;obtain⟨x,hx,h1⟩:=List.any_eq_true.1 he;have:=h x hx;have h2:=of_decide_eq_true h1;omega
theorem rG {g:Gm} (h:fH g (m.map (GK au))=0):BX (aK g) m:=by
 have hf:=kW h;obtain⟨hlen,hrows⟩:=uT (pW h);rw[FX,FX] at hlen;refine⟨by rw[cO,hlen],λk s hs=>?_⟩;rcases (aiA hf).ok k s hs with h1 | ⟨h1,h2,h3,h4⟩
 ·exact .inl h1
 ·have hk:k < g.Fh.length:=by have:=FD hs;rwa [cO] at this
  obtain⟨inf,hi⟩:=FC (l:=g.Fh) (k:=s.1.toNat) EN;obtain⟨l,hl⟩:=FC (l:=m) (k:=s.1.toNat) EN;have hr:=hrows s.1.toNat inf.actions (l.map au) (by rw[Gi,hi]; rfl) (by rw[Gi,hl]; rfl);have hll:=(aac hr).1;rw[FX] at hll;rw[FU,hi] at h4;refine .inr ⟨h1,h2,h3,?_⟩;rw[FU,hl];simp only[Ht] at h4 ⊢;omega
theorem aak (h:Cm (m.map (GK au))):∀ l∈m,∀ x∈l,rl x<=4:=λl hl x hx =>
 Nat.max_le.2 (h (l.map au) (IZ hl) (au x) (IZ hx))
theorem abU (m:List (List Rat)):(m.map (GK au)).map (GK uJ)=m:=by
 rw[List.map_map];conv=>rhs;rw[<-List.map_id m]
 refine Jo λl _=>?_
 show(l.map au).map uJ=l;rw[List.map_map];conv=>rhs;rw[<-List.map_id l]
 exact Jo λx _=>qX x
theorem aep {up:List (Int×Int)} (hf:BX up m) (hm:∀ l∈m,∀ x∈l,rl x<=4) (hrl:∀ k,k<=m.length->∀ s:Int×Int,(s.1 < 0\/s.1 < (k:Int))->rl (eP (eG up m k) s)<=1+4*k) (hl:∀ l∈m,l.length<=1000) :
  ∀ l∈aO up m,l.length<=1000/\∀ x∈l,rl x<=5+4*m.length:=by
 intro l hl';obtain⟨k,hk⟩:=Gz hl';have hkm:k < m.length:=by have:=FD hk;unfold aO at this;rwa [cZ] at this
 obtain⟨row,hrow⟩:=FC (l:=m) (k:=k) hkm;obtain⟨s,hs⟩:=FC (l:=up) (k:=k) (by rw[hf.len]; exact hkm);have e:(aO up m).getD k []=l:=by rw[FU,hk];rfl
 have e2:m.getD k []=row:=by rw[FU,hrow];rfl
 have e3:up.getD k (-1,-1)=s:=by rw[FU,hs];rfl
 unfold aO at e;rw[iC hkm,e2,e3] at e;subst e;have h1:=hrl k EN s (by have:=hf.ok k s hs; omega);refine⟨by rw[FX]; exact hl row (FT hrow),λx hx=>?_⟩;obtain⟨y,hy,rfl⟩:=List.mem_map.1 hx;have h2:=hm row (FT hrow) y hy;have h3:=kR (eP (eG up m k) s) y;omega
theorem yZ (g:Gm):(qh g=0/\rF g=aK g)\/qh g≠0:=by
 unfold qh rF;split
 ·exact .inl ⟨rfl,rfl⟩
 ·exact .inr aA
theorem afm (h:fO l=0):jA l=mZ l.length:=by unfold jA; rw[L8 h]
theorem agW (h:fO l≠0):jA l=l.map (· / fO l):=by unfold jA; rw[L6 h]
theorem aiC (h:p[k]? = some l):(dM p).take (k+1)=(dM p).take k ++ [jA l]:=by
 unfold dM;exact FP (by rw[Gi,h]; rfl)
def yB (g:Gm) (a b:List (List Raw)) (t:Raw):Int:=if fH g a≠0 then fH g a else if kS (g.Fh.map Inf.actions) b≠0 then kS (g.Fh.map Inf.actions) b else if fC t≠0 then fC t else qh g
def adG (g:Gm) (a b:List (List Raw)) (t:Raw):List (List Rat):=dM (dS (aO (aK g) (a.map (GK uJ))) (aO (aK g) (b.map (GK uJ))) (1 - uJ t) (uJ t))
def akH (g:Gm) (a b:List (List Raw)) (t:Raw):Int:=if yB g a b t≠0 then yB g a b t else kJ (adG g a b t).flatten
def aaT (g:Gm) (a b:List (List Raw)) (t:Raw):List (List Raw):=if yB g a b t≠0 then [] else aaN (adG g a b t)
theorem amj {g:Gm} {b:List (List Raw)} (hf:bF g=0) (h:kS (g.Fh.map Inf.actions) b=0):fH g b=0:=by
 unfold fH;rw[L6 (by rw[hf]; decide),h]
theorem gZ (up:List (Int×Int)) (m:List (List Rat)):(aO up m).length=m.length:=by unfold aO; rw[cZ]
theorem y7 {up:List (Int×Int)} {row:List Rat} (h:(aO up m)[k]? = some l) (hm:m[k]? = some row):l.length=row.length:=by
 have hk:k < m.length:=FD hm;have e:(aO up m).getD k []=l:=by rw[FU,h];rfl
 unfold aO at e;rw[iC hk] at e;rw[<-e,FX,FU,hm];rfl
theorem aaU {g:Gm} (h:fH g (m.map (GK au))=0) (hl:m[k]? = some l):∃ inf,g.Fh[k]? = some inf/\(l.length:Int)=inf.actions/\l.length<=10:=by
 have hf:=kW h;obtain⟨hlen,hrows⟩:=uT (pW h);rw[FX,FX] at hlen;obtain⟨inf,hi⟩:=FC (l:=g.Fh) (k:=k) (by have:=FD hl; omega);have hr:=hrows k inf.actions (l.map au) (by rw[Gi,hi]; rfl) (by rw[Gi,hl]; rfl);have hll:=(aac hr).1;rw[FX] at hll;obtain⟨_,h2⟩:=ajp hf hi;exact⟨inf,hi,hll,EN⟩
theorem aer {g:Gm} (h:fH g (m.map (GK au))=0):m.length=g.Fh.length:=by
 have:=(uT (pW h)).1;rwa [FX,FX] at this
theorem acZ {g:Gm} {a b:List (List Rat)} (ha:fH g (a.map (GK au))=0) (hb:fH g (b.map (GK au))=0):(aO (aK g) b).length=(aO (aK g) a).length/\∀ (k:Nat) (l m:List Rat),(aO (aK g) a)[k]? = some l->(aO (aK g) b)[k]? = some m->l.length<=10/\m.length=l.length:=by
 refine⟨by rw[gZ,gZ,aer ha,aer hb],λk l m hl hm=>?_⟩;obtain⟨r1,h1⟩:=FC (l:=a) (k:=k) (by have:=FD hl; rwa [gZ] at this);obtain⟨r2,h2⟩:=FC (l:=b) (k:=k) (by have:=FD hm; rwa [gZ] at this);obtain⟨i1,hi1,ha1,hb1⟩:=aaU ha h1;obtain⟨i2,hi2,ha2,_⟩:=aaU hb h2;rw[hi1] at hi2;cases hi2;rw[y7 hl h1,y7 hm h2];exact⟨hb1,EN⟩
theorem afn {f:Rat->Rat->Rat} {m:List Rat} (h:x∈IW f l m):∃ a∈l,∃ b∈m,x=f a b:=by
 obtain⟨i,hi⟩:=Gz h;rw[IG] at hi;cases ha:l[i]? with
 | none=>rw[ha] at hi; cases m[i]? <;> simp at hi
 | some a =>
  cases hb:m[i]? with
  | none=>rw[ha,hb] at hi; simp at hi
  | some b =>
   rw[ha,hb] at hi;simp only[Hu] at hi;exact⟨a,FT ha,b,FT hb,hi.symm⟩
theorem aiD {q:List (List Rat)} {s:Rat} (hpq:∀ (k:Nat) (l m:List Rat),p[k]? = some l->q[k]? = some m->l.length<=10/\m.length=l.length) (hp:∀ l∈p,∀ x∈l,rl x<=B) (hq:∀ l∈q,∀ x∈l,rl x<=B) (hs:rl s<=B) (ht:rl t<=B) :
  ∀ l∈dS p q s t,l.length<=10/\∀ x∈l,rl x<=4*B+1:=by
 intro l hl;refine zb7 ?_;intro k hk;unfold dS at hk;rw[IG] at hk;cases ha:p[k]? with
 | none=>rw[ha] at hk; cases q[k]? <;> simp at hk
 | some r1 =>
  cases hb:q[k]? with
  | none=>rw[ha,hb] at hk; simp at hk
  | some r2 =>
   rw[ha,hb] at hk;simp only[Hu] at hk;subst hk;obtain⟨h1,h2⟩:=hpq k r1 r2 ha hb;refine⟨by rw[List.length_zipWith]; omega,λx hx=>?_⟩;obtain⟨a,ha',b,hb',rfl⟩:=afn hx;have e1:=hp r1 (FT ha) a ha';have e2:=hq r2 (FT hb) b hb';have e3:=kR a s;have e4:=kR b t;have e5:=aav (a*s) (b*t);omega
theorem xK (hl:l.length<=10) (h:∀ x∈l,rl x<=1024) (k:Nat):rl (fO (l.take k))<=20000:=by
 have h1:=aeX (l.take k) (λx hx=>h x (List.mem_of_mem_take hx));have h2:(l.take k).length<=l.length:=aG;have:=Nat.mul_le_mul_left 1025 (Gf h2 hl);omega
theorem back_mem (h:∀ l∈p,l.length<=10/\∀ x∈l,rl x<=1024):∀ l∈dM p,l.length<=10/\∀ x∈l,rl x<=30000:=by
 intro l hl;unfold dM at hl;obtain⟨r,hr,rfl⟩:=List.mem_map.1 hl;obtain⟨h1,h2⟩:=h r hr;unfold jA;split
 ·refine⟨by unfold mZ; rw[List.length_replicate]; exact h1,λx hx=>?_⟩;rcases Gt r.length with h0 | h0
  ·rw[h0] at hx;unfold mZ at hx;simp at hx
  ·have:=ajq h0 h1 x hx;omega
 ·rename_i hz
  refine⟨by rw[FX]; exact h1,λx hx=>?_⟩;obtain⟨y,hy,rfl⟩:=List.mem_map.1 hx;have e1:=h2 y hy;have e2:=xK h1 h2 r.length;rw[Gl (FV _)] at e2;rw[Rat.div_def];have e3:=kR y (fO r)⁻¹;rw[ahj hz] at e3;omega
theorem ac0 (h:rl t<=B):rl (1 - t)<=B+2:=by
 rw[Rat.sub_eq_add_neg];have h1:=aav 1 (-t);rw[aeJ] at h1;have h2:=qy;omega
theorem akI (w:FW) (n:Nat) (hn:n<=1000) :
  Calls FY 101 #[F6 F5 (n:Int)] w (Ret w λu w'=>BD w' (λb=>w.heap.size<=b) u (mZ n)):=by
 go_in;go_wp2
 go_loopw [3,4] (λu i wr=>∃ (k:Nat) (L:List RV),k<=n/\i = F6 F5 (k:Int)/\L.length=k/\L.map RV.r=(List.replicate k (((1:Int):Rat) / ((n:Int):Rat))).map au/\OwnSl ratK wr w.heap.size 42 (λb=>w.heap.size<=b) u L/\Below w.heap.size w wr) (λ_ i _=>n - (intOf i).toNat)
 case atStart=>exact⟨0,[],EN,rfl,rfl,rfl,OwnSl.nil _ _ _ _ _,F9 _ _⟩
 case round =>
  obtain⟨k,L,hk,rfl,hLl,hLr,hown,hbel⟩:=hrel;have HO:=Ac hown;have HL:=Ac hLr;have HLL:=Ac hLl;clear hown hLr hLl;by_cases hlt:k < n
  ·have hz:=hbel.size;go_wp2_with fail
   refine(ah1 wr 1 (n:Int) EN EN EN EN EN).mono ?_;rintro e w2 ⟨vm,rfl,hb2,hu⟩;obtain⟨q,hq,rfl,hqf⟩:=Ah.rv hu;refine zc9 ?_;intro jo HO2;have HF:=Ac (show q.fine w2 (Apart (λb=>w.heap.size<=b) u3) from hqf.keep (λb hb _=>⟨EN,λe=>by have:=(HO.out.row.lt b e).2; omega⟩) (Gh _ _));have HQ:=Ac hq;clear hqf hu hq hb2 hbel;dsimp only[RV.cells];go_wp2_with (at_builtin; refine iH (K:=ratK) (F:=λb=>w.heap.size<=b) rfl _ _ 38 42 56 _ Tryz.underlying38 Tryz.infoRat rfl aA rfl w.heap.size (FV _) u3 L rfl q _ rfl (by have:=HLL.out; omega) rfl HO2.out HF.out jo ?_; intro g cap w' hown' aZ hlt' _; have HO':=Ac hown'; clear hown')
   go_roundw
   case rel=>exact⟨k+1,L ++ [q],EN,by go_num,by rw[Gn,HLL.out]; rfl,by rw[GL,HL.out,List.replicate_succ',GL,List.map_cons,List.map_nil,HQ.out]; rfl,HO'.out,aZ⟩
   case measure=>simp[intOf]; omega
  ·have hke:k=n:=EN;subst hke;have h5:=HO.out.raws (G:=λb=>w.heap.size<=b) (λb hb=>hb) (λb hb=>hb);rw[HL.out] at h5;have HR:=Ac h5;clear h5;go_wp2
   go_ret;exact⟨_,rfl,hbel,HR.out⟩
theorem set2 {w:FW} {t:TypeId} {z0 z1:F7} (h:Row w b t [z0,z1]) (a0 a1:F7):∃ W,W=(w.setCell ⟨b,0,none⟩ a0).setCell ⟨b,1,none⟩ a1/\Row W b t [a0,a1]/\Wrote (λk=>k=b) w W:=by
 exact zbf
theorem afo {l:List (Int×Int)} {m:Nat} {s:Int×Int} (h:l[m]? = some s) (hl:l.length=m+1):lastStep l=s:=by
 unfold lastStep;rw[List.getLast?_eq_getElem?,hl,Nat.add_sub_cancel,h];rfl
theorem rH (w:FW) (F:FI) (u:F7) (g:Gm) (hg:AA w F u g) (hsm:Small g) (hf:bF g=0) :
  Calls FY 45 #[u] w (Ret w λv w'=>∃ vp,v = .tuple #[vp,F6 F5 (qh g)]/\AL w' (λb=>w.heap.size<=b) vp (rF g)):=by
 have HG:=Ac hg;have HSM:=Ac hsm;have HF:=Ac hf;have hni:=hsm.Fh;have hn100:=hsm.Fg;have hgd:=iO hf;have HGD:=Ac hgd;obtain⟨hp1,hp4⟩:=aad hf;obtain⟨P,hP⟩:∃ P:Nat,g.ay=(P:Int):=⟨g.ay.toNat,EN⟩;have HP:=Ac hP;have hPP:P<=4:=EN;have HPT:=Ac (show g.ay.toNat=P by omega);obtain⟨vn,vi,rfl,⟨A,c,rfl,hc,-⟩,hI⟩:=hg;obtain⟨Ai,ci,rfl,hci,-⟩:=hI;clear hsm hf hgd hp1 hp4 hP;go_in;go_wp2_with fail
 refine ZJ ?_;intro W hW rx hB hz;have HX:=Ac rx;have HB:=Ac hB;have x0:=rx.cell (i:=0) rfl;clear hW hz rx hB;go_wp2_with fail
 go_loopw [4] (λiv wr=>∃ k:Nat,k<=P/\iv = F6 F5 (k:Int)/\lM g k=true/\Row wr w.heap.size 27 [F6 F5 g.ay,FQ A g.Fg.length c,FQ Ai g.Fh.length ci]/\Below w.heap.size w wr) (λiv _=>P - (intOf iv).toNat)
 case atStart=>exact⟨0,GR _,rfl,rfl,HX.out,HB.out⟩
 case round =>
  clear HX HB x0;obtain⟨k,hk,rfl,hpa,rx,hB⟩:=hrel;obtain⟨wa,rfl⟩:=FH wr;have HPA:=Ac hpa;refine Zd ?_;intro x0 x1 x2;clear hpa;by_cases hlt:k < P
  ·have t0:decide ((k:Int) < g.ay)=true:=Mc (by rw[HP.out]; omega);go_wp2_with fail
   clear t0 x0 x1 x2;refine(agU wa F _ g (k:Int) (HG.out.on (FZ hB F)) HSM.out HGD.out).mono ?_;rintro e w1 ⟨_,rfl,hb,rfl⟩;have hs:=aaj g k;rw[HPA.out,Bool.true_and,ami HF.out] at hs;replace rx:=rx.below hb rx.lt;replace hB:=hB.trans (hb.mono hB.size);have HRX:=Ac rx;clear hb rx;dsimp only;generalize aem g (k:Int)=pf at *;cases pf
   ·have hpf:=adF hs (show k+1<=P by omega);have HE:=Ac (show qh g=13 by unfold qh; rw[HPT.out,hpf]; rfl);have HO:=Ac (show rF g = [] by unfold rF; rw[HPT.out,hpf]; rfl);clear hs hpf;go_wp2_with fail
    go_ret2;exact⟨_,rfl,hB,_,by rw[HE.out]; rfl,by rw[HO.out]; exact AL.nil _ _⟩
   ·have HS:=Ac hs;clear hs;go_wp2_with fail
    go_roundw
    case rel=>exact⟨k+1,EN,by go_num,HS.out,HRX.out,hB⟩
    case measure=>simp[intOf]; omega
  ·have t0:decide ((k:Int) < g.ay)=false:=L9 (by rw[HP.out]; omega);have hpf:lM g P=true:=by rw[<-HPA.out];congr 1;omega
   have HE:=Ac (show qh g=0 by unfold qh; rw[HPT.out,hpf]; rfl);have HO:=Ac (show rF g=aK g by unfold rF; rw[HPT.out,hpf]; rfl);clear hpf hlt;go_wp2_with fail
   clear t0 x0 x1 x2;refine(yH wa F _ g (HG.out.on (FZ hB F)) HSM.out HGD.out.Fh).mono ?_;rintro e w1 ⟨vs,rfl,hb,hvs⟩;replace rx:=rx.below hb rx.lt;replace hB:=hB.trans (hb.mono hB.size);have hsl:(dK g).length=g.Fh.length:=fE _ _ _;have HSL:=Ac hsl;have HVS:=Ac hvs;obtain⟨As,cs,e,hcs,-⟩:=hvs;rw[hsl] at e hcs;subst e;have HRX:=Ac rx;have HB1:=Ac hB;have HG1:=Ac (HG.out.on (FZ hB F));have hbx:=rx.lt;clear hb rx hB hsl HG;dsimp only;go_wp2_with fail
   go_loopw [6,7] (λov iv wr=>∃ (k:Nat) (L:List (Int×Int)),k<=g.Fh.length/\iv = F6 F5 (k:Int)/\L.length=k/\L=(aK g).take k/\OwnSl aag wr w1.heap.size 60 (λ_=>False) ov L/\Below w1.heap.size w1 wr) (λ_ iv _=>g.Fh.length - (intOf iv).toNat)
   case atStart=>exact⟨0,[],EN,rfl,rfl,rfl,OwnSl.nil _ _ _ _ _,F9 _ _⟩
   case round =>
    obtain⟨k,L,hk,rfl,hLl,hLm,hown,hbel⟩:=hrel;obtain⟨wc,rfl⟩:=FH wr;have HLL:=Ac hLl;have HLM:=Ac hLm;have HOW:=Ac hown;have hrx:=HRX.out.below hbel hbx;have x2:=hrx.cell (i:=2) rfl;have hcz:=hbel.size;clear hLl hLm hown;by_cases hlt:k < g.Fh.length
    ·have x0:=hrx.cell (i:=0) rfl;have x1:=hrx.cell (i:=1) rfl;obtain⟨inf,gU⟩:=FC hlt;obtain⟨n0,hn0,hk0,hi0,hpl0,hne0,hfo⟩:=oQ HF.out hlt;have hfl:=FD hn0;obtain⟨l,hl⟩:=FC (l:=dK g) (k:=k) (by rw[HSL.out]; exact hlt);have hld:(dK g).getD k []=l:=by rw[FU,hl];rfl
     rw[hld] at hne0 hfo;have hl0:0 < l.length:=List.length_pos_iff.2 hne0;obtain⟨z,hz⟩:=FC (l:=l) (k:=0) hl0;have hzf:z=(iG g k:Int):=by rw[<-hfo,FU,hz];rfl
     rw[hzf] at hz;obtain⟨bS,oS,cS,uS,e,hFS,hbS,e0,hin⟩:=Bg.at (HVS.out.on (FZ hbel _)) hl;rw[HSL.out] at e;injection e with e1 e2 e3
     subst e1;obtain⟨A6,c6,rfl,hc6,hx6⟩:=hin;obtain⟨bM,oM,rfl,hFM,hbM,hcM⟩:=hx6 hl0;have m0:=hcM 0 _ hz;unfold jP at m0;rw[Nat.zero_mul,J7] at m0;have hg4:=HG1.out.on (FZ hbel F);have HG4:=Ac hg4;obtain⟨vn',vi',e,-,hi4⟩:=hg4;injection e with e
     injection e with e
     injection e with _ e
     injection e with en e
     injection e with ei _
     subst en;subst ei;obtain⟨A',c',e,_,hx⟩:=hi4;injection e with e1 e2' e3'
     subst e1;obtain⟨bI,oI,rfl,_,hbI,hcI⟩:=hx EN;have p0:=(hcI k inf gU).c0;have Dw:=Ac (show(aK g)[k]? = some (lastStep (gG g inf.aC (iG g k))) by
      rw[sS hlt,FU,gU]; rfl)
     have hkS:(k:Int) < g.Fh.length:=EN;clear hne0 hfo hx6 hcM hx hcI hrx e2 e3 e2' e3' hz hzf hld gU hn0 hk0 hi0 hpl0 hl;have hBc:=F9 wc.heap.size wc;go_wp2_with fail
     refine wp_region_held_drew (S:=λw'=>w'.cell? ⟨w.heap.size,0,none⟩=some (F6 F5 g.ay)/\w'.cell? ⟨w.heap.size,1,none⟩=some (FQ A g.Fg.length c)/\w'.cell? ⟨w.heap.size,2,none⟩=some (FQ (some ⟨bI,oI,none⟩) g.Fh.length ci)/\w'.cell? ⟨bS,oS+k,none⟩=some (FQ (some ⟨bM,oM,none⟩) l.length c6)/\w'.cell? ⟨bM,oM,none⟩=some (F6 F5 (iG g k:Int))/\w'.cell? ⟨bI,oI+k*2,none⟩=some (F6 F5 inf.aC)) ak ⟨x0,x1,x2,e0,m0,p0⟩ (λhHeld=>?_);refine zdq ?_;intro hb;refine ZL ?_;clear x0 x1 x2;intro x0 x1 x2;replace e0:=ah e0 hb;replace m0:=ah m0 hb;replace p0:=ah p0 hb;replace hBc:=hBc.trans (hb.mono hBc.size);clear hb;generalize wc.drew=wn at *;refine tkm [0,1,2,3,4,5,6,7,8,9,10,11,12] ?_;refine tk2 13 ak rfl λK hK=>?_
     go_simp;refine(afk wn F _ g (iG g k) inf.aC (HG4.out.on (FZ hBc F)) HSM.out HGD.out hfl).mono ?_;rintro e wn ⟨vw,rfl,hb,hw⟩;have HW:=Ac hw;obtain⟨Aw,cw,rfl⟩:=hw.open;clear hw;refine ZL ?_;clear x0 x1 x2;intro x0 x1 x2;replace e0:=ah e0 hb;replace m0:=ah m0 hb;replace p0:=ah p0 hb;replace hBc:=hBc.trans (hb.mono hBc.size);clear hb;dsimp only;clear hHeld;refine hK.out _ _ ⟨x0,x1,x2,e0,m0,p0⟩ (λhHeld=>?_);clear hK K;refine Zb ?_;refine tkm [14] ?_;refine Yf ?_;clear hHeld;obtain⟨wl,hwl⟩:=FH (gG g inf.aC (iG g k));have hwl10:wl.length<=10000:=by rw[hwl];exact afV HGD.out HSM.out inf.aC hfl
     rw[<-hwl] at HW Dw ⊢;clear hwl x0 x1 x2 e0 m0 p0 HG4 hFS hFM hc6 hbS hbM hbI;refine ZR ?_;go_upto_region 13 with(fail)
     obtain⟨Wb,hWb,rb,hb,hzb⟩:=aJ wn 60 #[F6 F5 (-1),F6 F5 (-1)];rw[<-hWb];clear hWb;obtain⟨qb,hqb⟩:=FH wn.heap.size;have hwnz:=hBc.size;replace HW:=Ac (HW.out.on (FZ hb _));have hBb:=hBc.trans (hb.mono hBc.size);rw[<-hqb] at rb ⊢;have hqw:wc.heap.size<=qb:=EN;clear hb hBc hzb hqb hwnz;by_cases hw0:wl.length=0
     ·have HLS:=Ac (show(aK g)[k]? = some (-1,-1) by rw[Dw.out,List.eq_nil_of_length_eq_zero hw0]; rfl);have c0:=rb.cell (i:=0) rfl;have c1:=rb.cell (i:=1) rfl;have HO5:=Ac (HOW.out.below hBb);have hb5:=hbel.trans (hBb.mono hcz);rw[hw0];clear Dw HW hw0 rb hBb hbel;go_wp2_with (at_builtin; refine iH (K:=aag) (F:=λ_=>False) rfl _ _ 55 60 16 _ Tryz.underlying55 Tryz.infoSeq rfl aA rfl w1.heap.size (FV _) u6 L rfl ((-1:Int),(-1:Int)) _ rfl (by have:=HLL.out; omega) rfl HO5.out trivial hb5 ?_; intro g' cap w' hown' aZ hlt' _; have HO':=Ac hown'; clear hown')
      go_roundw
      case rel=>exact⟨k+1,L ++ [((-1:Int),(-1:Int))],EN,by go_num,by rw[Gn,HLL.out]; rfl,by rw[FP HLS.out,HLM.out],HO'.out,aZ⟩
      case measure=>simp[intOf]; omega
     ·obtain⟨m,hm⟩:∃ m,wl.length=m+1:=⟨wl.length - 1,EN⟩;have hm10:m<=10000:=EN;obtain⟨sl,hsl⟩:=FC (l:=wl) (k:=m) EN;have HLS:=Ac (show(aK g)[k]? = some sl by rw[Dw.out,afo hsl hm]);obtain⟨A7,c7,e,-,hx7⟩:=HW.out;injection e with e1 e2 e3
      subst e1;obtain⟨bw,ow,rfl,-,-,hcw⟩:=hx7 EN;obtain⟨y0,y1⟩:=hcw m sl hsl;have c0:=rb.cell (i:=0) rfl;have c1:=rb.cell (i:=1) rfl;have f0:=rb.frozen 0;have f1:=rb.frozen 1;obtain⟨Wd,hWd,rd,hwd⟩:=set2 rb (F6 F5 sl.1) (F6 F5 sl.2);have hBd:=Wrote.below hBb hwd (λb (e:b=qb)=>by omega) hBb.size;have HO5:=Ac (HOW.out.below hBd);have hb5:=hbel.trans (hBd.mono hcz);have HWD:=Ac hWd;have z0:=rd.cell (i:=0) rfl;have z1:=rd.cell (i:=1) rfl;rw[hm];clear Dw HW hx7 hcw e2 e3 hsl hm rb hBb hbel hwd hWd hw0 hBd rd;go_wp2_with fail
      go_region
      refine ZR ?_;rw[<-HWD.out];have hbf:Below Wd.heap.size Wd Wd.drew:=aI (F9 _ Wd) 1;obtain⟨Wf,hWf⟩:=FH Wd.drew;rw[<-hWf] at hbf ⊢;replace z0:=ah z0 hbf;replace z1:=ah z1 hbf;replace HO5:=Ac (HO5.out.below hbf);replace hb5:=hb5.trans (hbf.mono hb5.size);clear HWD c0 c1 f0 f1 y0 y1 hWf hbf;go_wp2_with (at_builtin; refine iH (K:=aag) (F:=λ_=>False) rfl _ _ 55 60 16 _ Tryz.underlying55 Tryz.infoSeq rfl aA rfl w1.heap.size (FV _) u6 L rfl sl _ rfl (by have:=HLL.out; omega) rfl HO5.out trivial hb5 ?_; intro g' cap w' hown' aZ hlt' _; have HO':=Ac hown'; clear hown')
      go_roundw
      case rel=>exact⟨k+1,L ++ [sl],EN,by go_num,by rw[Gn,HLL.out]; rfl,by rw[FP HLS.out,HLM.out],HO'.out,aZ⟩
      case measure=>simp[intOf]; omega
    ·have hke:k=g.Fh.length:=EN;subst hke;have hr:=HOW.out.pairs (G:=λb=>w.heap.size<=b) (λb hb=>by have:=HB1.out.size; omega);have hLe:L=aK g:=by rw[HLM.out,Gl (by rw[cO]; exact FV _)]
     have HR:=Ac hr;have HLE:=Ac hLe;have hb2:=HB1.out.trans (hbel.mono HB1.out.size);clear hr hLe HOW hbel;go_wp2
     go_ret2;exact⟨_,rfl,hb2,_,by rw[HE.out]; rfl,by rw[HO.out,<-HLE.out]; exact HR.out⟩
theorem afp (w:FW) (F:FI) (u:F7) (g:Gm) (hg:AA w F u g) (hsm:Small g) :
  Calls FY 58 #[u] w (Ret w λv w'=>∃ vp,v = .tuple #[vp,F6 F5 (ajo g)]/\AL w' (λb=>w.heap.size<=b) vp (abT g)):=by
 have HG:=Ac hg;have HSM:=Ac hsm;obtain⟨vn,vi,rfl,⟨A,c,rfl,hc,_⟩,⟨Ai,ci,rfl,hci,_⟩⟩:=hg;clear hsm;go_in;go_wp2_with fail
 refine ZJ ?_;intro W hW rx hB hz;replace HG:=Ac (HG.out.on (FZ hB F));refine Zd ?_;intro x0 x1 x2;clear hW hz;go_wp2_with fail
 clear x0 x1 x2;refine(adT W F _ g HG.out HSM.out).mono ?_;rintro e w1 ⟨_,rfl,hb,rfl⟩;replace HG:=Ac (HG.out.on (FZ hb F));replace rx:=rx.below hb rx.lt;replace hB:=hB.trans (hb.mono hB.size);refine Zd ?_;intro x0 x1 x2;have hPE:ajo g=if bF g≠0 then bF g else qh g:=rfl
 have hPO:abT g=if bF g≠0 then [] else rF g:=rfl
 have HPE:=Ac hPE;have HPO:=Ac hPO;obtain⟨fe,hfe⟩:=FH (bF g);rw[<-hfe] at HPE HPO ⊢;have HFE:=Ac hfe;clear hb hPE hPO hfe rx;dsimp only;by_cases h0:fe=0
 ·subst h0;go_wp2_with fail
  clear x0 x1 x2;refine(rH w1 F _ g HG.out HSM.out HFE.out.symm).mono ?_;rintro e w2 ⟨_,rfl,hb,vp,rfl,hvp⟩;have HB2:=Ac (hB.trans (hb.mono hB.size));have HVP:=Ac (AL.keep (G:=λb=>w.heap.size<=b) hvp (λb h _=>by have:=hB.size; omega) (Gh _ _));obtain⟨Ap,cp,rfl⟩:=hvp.open;clear hb hvp;dsimp only;go_wp2_with fail
  go_ret2;exact⟨_,rfl,HB2.out,_,by rw[HPE.out,L6 aA]; rfl,by rw[HPO.out,L6 aA]; exact HVP.out⟩
 ·have t0:(fe != 0)=true:=by simp[h0]
  have H0:=Ac h0;clear h0;go_wp2_with fail
  go_ret2;exact⟨_,rfl,hB,_,by rw[HPE.out,L8 H0.out]; rfl,by rw[HPO.out,L8 H0.out]; exact AL.nil _ _⟩
theorem aiE (hx:x∈xs) (h:1024 < rl x):kJ xs=5:=by
 unfold kJ;rw[L8 (List.any_eq_true.2 ⟨x,hx,Mc h⟩)]
theorem wV (w:FW) (F:FI) (v:F7) (m:List (List Rat)) (hm:Ak w F v m) (hl:m.length<=1000) (hr:∀ l∈m,l.length<=1000) (hf:∀ l∈m,∀ x∈l,rl x<=1000000) :
  Calls FY 47 #[v] w (Ret w λu w'=>∃ t,u = .tuple #[t,F6 F5 (kJ m.flatten)]/\FM w' F t (aaN m)):=by
 have HM:=Ac hm;have HR:=Ac hr;have HF:=Ac hf;obtain⟨n,hn⟩:=FH m.length;obtain⟨A,c,e,hc,hx⟩:=hm;rw[FX,<-hn] at e;subst e;have HX:=Ac hx;have HN:=Ac hn;have hn1000:n<=1000:=EN;have HMX:=Ac (show aaN m=if kJ m.flatten≠0 then [] else m.map (GK au) from rfl);clear hr hf hx hl hn hc;go_in;go_wp2
 go_loopw [4] (λiv wr=>∃ k:Nat,k<=n/\iv = F6 F5 (k:Int)/\(∀ l∈m.take k,∀ x∈l,rl x<=1024)/\Below w.heap.size w wr) (λiv _=>n - (intOf iv).toNat)
 case atStart=>exact⟨0,GR _,rfl,λl hl=>by simp at hl,F9 _ _⟩
 case round =>
  obtain⟨k,hk,rfl,hok,hB⟩:=hrel;obtain⟨wa,rfl⟩:=FH wr;have HOK:=Ac hok;clear hok;by_cases hlt:k < n
  ·obtain⟨row,hrow⟩:=FC (l:=m) (k:=k) (by rw[<-HN.out]; exact hlt);obtain⟨mb,mo,rfl,_,y8,hcm⟩:=HX.out (by rw[FX,<-HN.out]; omega);obtain⟨vr,hvr,hra⟩:=hcm k (row.map au) (by rw[Gi,hrow]; rfl);refine zbd ?_;clear hvr;intro hvr lq;obtain⟨Ar,cr,rfl,-,-⟩:=hra;rw[FX] at hvr;rw[FX] at lq;have HRV:=Ac lq;have HVR:=Ac hvr;have AZ:=Ac hrow;have hr1000:=HR.out row (FT hrow);clear hcm lq hvr hrow;go_wp2_with fail
   go_loopw [5] (λiv wr=>∃ j:Nat,j<=row.length/\iv = F6 F5 (j:Int)/\(∀ x∈row.take j,rl x<=1024)/\Below w.heap.size w wr) (λiv _=>row.length - (intOf iv).toNat)
   case atStart=>exact⟨0,GR _,rfl,λx hx=>by simp at hx,hB⟩
   case round =>
    obtain⟨j,hj,rfl,hok2,hB2⟩:=hrel;obtain⟨wb,rfl⟩:=FH wr;have HOK2:=Ac hok2;have m1:=(hB2.cell (p:=⟨mb,mo+k,none⟩) y8).trans HVR.out;clear hok2;by_cases hjt:j < row.length
    ·obtain⟨x,hx⟩:=FC hjt;obtain⟨rb,ro,rc,vn,vd,e,_,_,y0,y1,y2,hn,hd⟩:=FK.at (HRV.out.on (FZ hB2 _)) (show(row.map au)[j]? = some (au x) by rw[Gi,hx]; rfl);injection e with e1 e2 e3
     subst e1;have HXV:=Ac (Ah.make (r:=au x) rfl hn hd);obtain⟨An,cn,rfl,-,-⟩:=hn;obtain⟨Ad,cd,rfl,-,-⟩:=hd;have hjr:(j:Int) < row.length:=EN;have HXX:=Ac hx;have HXF:=Ac (HF.out row (FT AZ.out) x (FT hx));clear e2 e3 hx;go_wp2_with fail
     refine(ae8 wb _ _ x HXV.out HXF.out).mono ?_;rintro e w2 ⟨_,rfl,hb,u,rfl,hu⟩;obtain⟨A1,c1,B1,d1,rfl,-⟩:=Ah.opened hu;have hB3:=hB2.trans (hb.mono hB2.size);have HOE:=Ac (show iE x=if 1024 < rl x then 5 else 0 from rfl);obtain⟨oe,hoe⟩:=FH (iE x);rw[<-hoe] at HOE ⊢;clear hu hb hoe m1 y0 y1 y2;dsimp only;go_upto_region 8 with(fail)
     obtain⟨W9,hW9,-,hb9,hz9⟩:=aJ w2 42 #[.bool (bV x).neg,FQ A1 (bV x).num.length c1,FQ B1 (bV x).den.length d1];rw[<-hW9];have hB9:=hB3.trans (hb9.mono hB3.size);clear hW9 hb9 hz9 hB3;by_cases h0:oe=0
     ·subst h0;have HLE:=Ac (show rl x<=1024 by
       have h:=HOE.out;by_cases h1:1024 < rl x
       ·rw[L8 h1] at h;cases h
       ·omega)
      go_wp2_with fail
      go_roundw
      case rel =>
       refine⟨j+1,EN,by go_num,λx' hx'=>?_,hB9⟩;rw[FP HXX.out] at hx';rcases List.mem_append.1 hx' with h | h
       ·exact HOK2.out x' h
       ·rw[List.mem_singleton.1 h];exact HLE.out
      case measure=>simp[intOf]; omega
     ·have t0:(oe != 0)=true:=by simp[h0]
      have hgt:1024 < rl x:=by
       have h:=HOE.out;by_cases h1:1024 < rl x
       ·exact h1
       ·rw[L6 h1] at h;exact absurd h h0
      have HEV:=Ac (show kJ m.flatten=oe by rw[aiE (List.mem_flatten.2 ⟨row,FT AZ.out,FT HXX.out⟩) hgt,HOE.out,L8 hgt]);have H0:=Ac h0;clear h0 hgt;go_wp2_with fail
      go_ret2;exact⟨_,rfl,hB9,_,by rw[HEV.out]; rfl,by rw[HMX.out,L8 (by rw[HEV.out]; exact H0.out)]; exact FM.nil _ _⟩
    ·have hje:j=row.length:=EN;subst hje;go_wp2_with fail
     go_roundw
     case rel =>
      refine⟨k+1,EN,by go_num,λl hl=>?_,hB2⟩;rw[FP AZ.out] at hl;rcases List.mem_append.1 hl with h | h
      ·exact HOK.out l h
      ·rw[List.mem_singleton.1 h];intro x hx;exact HOK2.out x (by rw[Gl (FV _)]; exact hx)
     case measure=>simp[intOf]; omega
  ·have hke:k=n:=EN;subst hke;have HEV:=Ac (show kJ m.flatten=0 from vC λx hx=>by
    obtain⟨l,hl,hx⟩:=List.mem_flatten.1 hx;exact HOK.out l (by rw[Gl (by rw[<-HN.out]; exact FV _)]; exact hl) x hx)
   have HMR:=Ac (FM.on HM.out (FZ hB F));go_wp2
   go_ret2;exact⟨_,rfl,hB,_,by rw[HEV.out]; rfl,by rw[HMX.out,L6 (by rw[HEV.out]; decide)]; exact HMR.out⟩
end Go.Proofs.YtnmeejofpkhlkaaGreatDoor
