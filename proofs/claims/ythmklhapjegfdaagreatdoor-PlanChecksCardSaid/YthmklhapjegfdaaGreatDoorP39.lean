/- parlourref11.FlawsOf, PerfectFor. -/
import Derived.Test.YthmklhapjegfdaaGreatDoorP38
import Derived.Deep.CutBlock
import Derived.Test.YthmklhapjegfdaaGreatDoorP37
import Derived.BigQuiet
set_option linter.all false
set_option maxRecDepth 100000
set_option maxHeartbeats 12800000
namespace Go.Proofs.YthmklhapjegfdaaGreatDoor
open Lib renaming hid → Ae
open List renaming getElem_toArray → lq1, getElem_cons_zero → lq2, getElem_cons_succ → lq3, setIfInBounds_toArray → lq4, set_cons_zero → lq5, set_cons_succ → lq6
open Go.RowKit
def FlE (w:World) (_:Ah) (b o:Nat) (x:Fl):Prop:=w.cell? ⟨b,o,none⟩=some (.int .i64 x.kind)∧w.cell? ⟨b,o+1,none⟩=some (.int .i64 x.node)∧w.cell? ⟨b,o+2,none⟩=some (.int .i64 x.info)∧w.cell? ⟨b,o+3,none⟩=some (.int .i64 x.other)
def DW (w:World) (F:Ah) (v:Value) (l:List Fl):Prop:=BF 4 FlE w F v l
def flK:Knd Fl where
 n:=4
 cells q:=[.int .i64 q.kind,.int .i64 q.node,.int .i64 q.info,.int .i64 q.other]
 fine _ _ _:=True
 len _:=rfl
 pos:=aB
 one _ u hu:=by
  simp only[List.mem_cons,List.not_mem_nil,or_false] at hu;rcases hu with rfl | rfl | rfl | rfl <;> rfl
 keep _ _ _:=trivial
theorem AO.fls {w:World} {base:Nat} {et:TypeId} {F G:Ah} {v:Value} {L:List Fl} (h:AO flK w base et F v L) (hG:∀ b,base≤b→G b):DW w G v L:=by
 rcases h.at with⟨rfl,rfl⟩ | ⟨g,cap,rfl,hb,hg,hcap,hf,hx⟩
 ·exact⟨none,0,rfl,Nat.le_refl _,fun h=>absurd h ay⟩
 ·exact⟨_,cap,rfl,hcap,fun _=>⟨g,0,rfl,hG g hb,hg,fun k q hq=>⟨hx k q hq 0 _ rfl,hx k q hq 1 _ rfl,hx k q hq 2 _ rfl,hx k q hq 3 _ rfl⟩⟩⟩
theorem Tryz.infoFlaw:(Tryz.prog.info? 217).map (fun i=>(i.zero,i.size,i.bytes))=some (some (.agg #[.int .i64 0,.int .i64 0,.int .i64 0,.int .i64 0]),4,32):=aj
theorem afZ (w:World) (F:Ah) (v:Value) (g:Gm) (hg:AP w F v g) (hsm:Small g) (hgd:Good g) :
  Calls Tryz.prog 181 #[v] w (Ret w fun u w'=>DW w' (fun b=>w.heap.size≤b) u (xu g)):=by
 have HG:=Ae hg; have HS:=Ae hsm; have HGD:=Ae hgd;have hn100:=hsm.nodes; have hi100:=hsm.infos;obtain⟨vn,vi,rfl,⟨A,c,rfl,hc,hN⟩,⟨Ai,ci,rfl,hci,hI⟩⟩:=hg;obtain⟨b,q,rfl,hFb,hbl,hcell⟩:=hN hgd.pos;have HC:=Ae hcell; have HI:=Ae hI;clear hN hcell hsm hgd hI;go_in
 go_wp2_with fail
 obtain⟨W,hW,rx,hB,hz⟩:=aO w 25 #[.int .i64 g.aA,.slice (some ⟨b,q,none⟩) g.nodes.length c,.slice Ai g.infos.length ci];rw[← hW];clear hW;have hz2:=hB.size;replace HG:=Ae (HG.out.on (Below.same' hB F));have x0:=rx.cell (i:=0) rfl; have x1:=rx.cell (i:=1) rfl; have x2:=rx.cell (i:=2) rfl;clear rx hz;go_wp2_with fail
 refine(sV W F _ g HG.out HS.out HGD.out.pos HGD.out.adD).mono ?_;rintro e w1 ⟨u,rfl,hb1,hu⟩;replace hB:=hB.trans (hb1.mono hB.size);replace x0:=ah x0 hb1; replace x1:=ah x1 hb1; replace x2:=ah x2 hb1;replace HG:=Ae (HG.out.on (Below.same' hb1 F));have HPL:=Ae (fD g.nodes);obtain⟨afQ,rC⟩:=named (dD g.nodes);have HPE:=Ae rC;rw[← rC] at hu;obtain⟨Ap,cp,rfl,hcp,hx⟩:=hu;obtain⟨bp,op,rfl,hbp,hbpl,hpc⟩:=hx (by rw[rC,HPL.out]; exact HGD.out.pos);have hpl:afQ.length=g.nodes.length:=by rw[rC,HPL.out]
 rw[hpl];have HPC:=Ae hpc;clear hb1 hx hpc rC hcp hpl;dsimp only;go_wp2_with fail
 refine(uy w1 F _ g HG.out HS.out HGD.out.infos).mono ?_;rintro e w2 ⟨u,rfl,hb1,hu⟩;replace hB:=hB.trans (hb1.mono hB.size);replace x0:=ah x0 hb1; replace x1:=ah x1 hb1; replace x2:=ah x2 hb1;replace HG:=Ae (HG.out.on (Below.same' hb1 F));have hz3:=hb1.size;have HB1:=Ae hb1;have HSL:=Ae (show(dA g).length=g.infos.length from bZ _ _ _);obtain⟨sets,ahr⟩:=named (dA g);have HSE:=Ae ahr;rw[← ahr] at hu HSL;obtain⟨As,cs,rfl,hcs,hx⟩:=hu;rw[HSL.out];have HSC:=Ae hx;clear hb1 hx ahr hcs;dsimp only;go_wp2_with fail
 go_loopw [3,6] (fun ov iv wr=>∃ (i:Nat) (L:List Fl),i≤g.infos.length∧iv = .int .i64 (i:Int)∧L=jq g i∧L.length≤200*i∧AO flK wr w2.heap.size 217 (fun _=>True) ov L∧Below w2.heap.size w2 wr) (fun _ iv _=>g.infos.length - (intOf iv).toNat)
 case atStart=>exact⟨0,[],byOmega,rfl,rfl,ay,AO.nil _ _ _ _ _,Below.refl _ _⟩
 case round =>
  obtain⟨i,L,hi,rfl,hL,hLl,hown,hbel⟩:=hrel;have HL:=Ae hL; have HO:=Ae hown;clear hL hown;by_cases hlt:i < g.infos.length
  case neg =>
   go_wp2_with fail
   go_ret;refine⟨_,rfl,hB.trans (hbel.mono hB.size),?_⟩;have h5:=HO.out.fls (G:=fun b=>w.heap.size≤b) (fun b hb=>by have:=hB.size; omega);rw[HL.out,show i=g.infos.length by omega] at h5;exact h5
  obtain⟨inf,dS⟩:=aC hlt;obtain⟨bi,oi,rfl,_,hbil,ahs⟩:=HI.out byOmega;obtain⟨f0,f1⟩:=ahs i inf dS;replace f0:=ah f0 (hB.trans (hbel.mono hB.size));obtain⟨l,hl⟩:=aC (l:=sets) (k:=i) (by rw[HSL.out]; exact hlt);obtain⟨bs,os,rfl,_,hbsl,hsc⟩:=HSC.out (by rw[HSL.out]; omega);obtain⟨ul,hul,hil⟩:=hsc i l hl;have hll:=(wB HGD.out (by rw[← HSE.out]; exact hl)).1;have HIN:=Ae (wB HGD.out (by rw[← HSE.out]; exact hl)).2;have y2:=ah x2 hbel;rw[Nat.mul_one] at hul;have HIL:=Ae hil;obtain⟨Al,cl,rfl,_,_⟩:=hil;have HUL:=Ae hul;replace hul:=ah hul hbel;have HFI:=Ae (show jq g (i+1)=jq g i++gy g i inf.aI l l.length by
   rw[jq,List.getD_eq_getElem?_getD (l:=g.infos),dS,List.getD_eq_getElem?_getD,← HSE.out,hl]; rfl)
  have HHL:=Ae hl;clear ahs dS hsc hl f1;go_wp2_with fail
  go_loopw [3,8] (fun ov kv wr=>∃ (k:Nat) (M:List Fl),k≤l.length∧kv = .int .i64 (k:Int)∧M=L++gy g i inf.aI l k∧M.length≤200*i+2*k∧AO flK wr w2.heap.size 217 (fun _=>True) ov M∧Below w2.heap.size w2 wr) (fun _ kv _=>l.length - (intOf kv).toNat)
  case atStart=>exact⟨0,L,byOmega,rfl,by rw[gy,List.append_nil],byOmega,HO.out,hbel⟩
  case round =>
   clear HO hbel y2 f0 hul;obtain⟨k,M,hk,rfl,hM,hMl,hown,hbel⟩:=hrel;have HM:=Ae hM; have HO:=Ae hown;clear hM hown;have hul:=ah HUL.out hbel;by_cases hkt:k < l.length
   case neg =>
    go_wp2_with fail
    go_roundw
    case rel=>exact⟨i+1,M,byOmega,by go_num,by rw[HFI.out,← HL.out,HM.out,show k=l.length by omega],byOmega,HO.out,hbel⟩
    case measure=>simp[intOf]; omega
   obtain⟨x,hx⟩:=aC hkt;obtain⟨j,nj,rfl,hnj,_,_⟩:=HIN.out x (List.mem_of_getElem? hx);obtain⟨bl2,ol2,rfl,_,ahY,yF⟩:=oO HIL.out byOmega;have HCL:=Ae yF;have hj:j < g.nodes.length:=aK hnj;have hk0:=ah (yF k _ hx) hbel;obtain⟨p0,hp0⟩:=aC (l:=afQ) (k:=j) (by rw[HPE.out,HPL.out]; exact hj);have ep:=HPC.out j p0 hp0;unfold jF at ep;rw[Nat.mul_one] at ep;replace ep:=ah (ah ep HB1.out) hbel;have HPJ:=Ae hp0;have HFK:=Ae (show gy g i inf.aI l (k+1)=gy g i inf.aI l k++(xk i j (fF g i g.nodes.length j)++oN g i inf.aI (l.getD 0 0).toNat j) by
    rw[gy,List.getD_eq_getElem?_getD (i:=k),hx]; rfl)
   have HX:=Ae hx;clear yF hp0 hx;go_upto_block 4 with fail
   go_cut [3] from 47 to 76 (fun v3 wx=>∃ M',M'=M++xk i j (fF g i g.nodes.length j)∧M'.length≤M.length+1∧AO flK wx w2.heap.size 217 (fun _=>True) v3 M'∧Below w2.heap.size w2 wx)
   case first =>
    clear hul hk0;go_wp2_with fail
    clear ep;go_loopw [3,10] (fun ov av wr=>∃ (ch f:Nat) (p:Int),ch < g.nodes.length∧ch≤f∧afQ[ch]? = some p∧av = .int .i64 p∧fF g i f ch=fF g i g.nodes.length j∧AO flK wr w2.heap.size 217 (fun _=>True) ov M∧Below w2.heap.size w2 wr) (fun _ av _=>(intOf av+1).toNat)
    case atStart=>exact⟨j,g.nodes.length,p0,hj,byOmega,HPJ.out,rfl,rfl,HO.out,hbel⟩
    case round =>
     clear HO hbel;obtain⟨ch,f,p,hch,hcf,hp,rfl,hag,hown,hbel⟩:=hrel;have HO:=Ae hown; have HAG:=Ae hag; have HPC2:=Ae hp;clear hown hag;obtain⟨p',hp',hcase⟩:=HGD.out.par hch;rw[← HPE.out,hp] at hp';cases hp'
     clear hp;rcases hcase with⟨h0,rfl⟩ | ⟨pq,n,rfl,hpq,hni,_⟩
     ·subst h0;have t0:decide ((0:Int)≤-1)=false:=rfl;have HAN:=Ae (show fF g i g.nodes.length j=none by rw[← HAG.out]; exact vY HGD.out f);go_wp2_with fail
      go_meet
      exact⟨M,by rw[HAN.out]; exact(List.append_nil _).symm,byOmega,HO.out,hbel⟩
     ·have t0:decide ((0:Int)≤(pq:Int))=true:=decide_eq_true byOmega;have ahi:pq < g.nodes.length:=aK hni;obtain⟨f',rfl⟩:∃ k,f=k+1:=⟨f - 1,byOmega⟩;have hne:=HC.out pq n hni;have hBr:=hB.trans (hbel.mono hB.size);have n0:=ah hne.c0 hBr; have n2:=ah hne.c2 hBr;have y1:=ah x1 hbel;have HNI:=Ae hni;clear hne hni hBr;by_cases hkd:n.kind=2∧n.info=(i:Int)
      ·have t1:(n.kind==2)=true:=by simp[hkd.1]
       have t2:(n.info==(i:Int))=true:=by simp[hkd.2]
       have HAN:=Ae (show fF g i g.nodes.length j=some pq by rw[← HAG.out]; exact vZ (by rw[← HPE.out]; exact HPC2.out) HNI.out hkd);clear hkd;go_wp2_with (at_builtin; refine eY (K:=flK) (F:=fun _=>True) rfl _ _ 225 217 32 _ Tryz.underlying225 Tryz.infoFlaw rfl aB rfl w2.heap.size (Nat.le_refl _) u3 M rfl ⟨1,(j:Int),(i:Int),(pq:Int)⟩ _ rfl byOmega rfl HO.out trivial hbel ?_; intro g' cap w' hown' aZ hlt' hsm'; have HO':=Ae hown'; clear hown')
       go_meet
       exact⟨M ++ [⟨1,(j:Int),(i:Int),(pq:Int)⟩],by rw[HAN.out]; rfl,ay,HO'.out,aZ⟩
      ·have HAN:=Ae (show fF g i f' pq=fF g i g.nodes.length j by rw[← HAG.out]; exact(zL (by rw[← HPE.out]; exact HPC2.out) HNI.out hkd).symm);obtain⟨p1,hp1⟩:=aC (l:=afQ) (k:=pq) (by rw[HPE.out,HPL.out]; exact ahi);have ep:=HPC.out pq p1 hp1;unfold jF at ep;rw[Nat.mul_one] at ep;replace ep:=ah (ah ep HB1.out) hbel;have hp1b:=tu HGD.out pq p1 ahi (by rw[← HPE.out]; exact hp1);have HP1:=Ae hp1;clear hp1;by_cases hk2:n.kind=2
       ·have t1:(n.kind==2)=true:=by simp[hk2]
        have t2:(n.info==(i:Int))=false:=by simp; exact fun e=>hkd ⟨hk2,e⟩
        clear hkd hk2;go_wp2_with fail
        go_roundw
        case rel=>exact⟨pq,f',p1,ahi,byOmega,HP1.out,rfl,HAN.out,HO.out,hbel⟩
        case measure=>simp[intOf]; omega
       ·have t1:(n.kind==2)=false:=by simpa using hk2
        clear hkd hk2;go_wp2_with fail
        go_roundw
        case rel=>exact⟨pq,f',p1,ahi,byOmega,HP1.out,rfl,HAN.out,HO.out,hbel⟩
        case measure=>simp[intOf]; omega
   case rest =>
    obtain⟨M',hM',hMl',hown',aZ⟩:=hcut;have HM':=Ae hM'; have HO':=Ae hown';clear hM' hown' HO hbel hul hk0 ep;obtain⟨x00,h00⟩:=aC (l:=l) (k:=0) byOmega;obtain⟨j0,n00,rfl,hn00,_,_⟩:=HIN.out x00 (List.mem_of_getElem? h00);have hj0:j0 < g.nodes.length:=aK hn00;have z0:=ah (HCL.out 0 _ h00) aZ;rw[Nat.add_zero] at z0;have hul:=ah HUL.out aZ;have HFW:=Ae (show oN g i inf.aI (l.getD 0 0).toNat j=oN g i inf.aI j0 j by rw[List.getD_eq_getElem?_getD,h00]; rfl);have HGc:=Ae (HG.out.on (Below.same' aZ F));have y0:=ah x0 aZ; have y1:=ah x1 aZ; have y2:=ah x2 aZ;have hkl:0 < l.length:=byOmega;obtain⟨pl,hpl⟩:=named inf.aI;have HPLR:=Ae hpl;rw[← hpl] at HFW ⊢;clear h00 hn00 hpl;go_wp2_with fail
    refine wp_region_held_drew (S:=fun w'=>w'.cell? ⟨w.heap.size,0,none⟩=some (.int .i64 g.aA)∧w'.cell? ⟨w.heap.size,1,none⟩=some (.slice (some ⟨b,q,none⟩) g.nodes.length c)∧w'.cell? ⟨w.heap.size,2,none⟩=some (.slice (some ⟨bi,oi,none⟩) g.infos.length ci)∧w'.cell? ⟨bs,os+i,none⟩=some (.slice (some ⟨bl2,ol2,none⟩) l.length cl)∧w'.cell? ⟨bl2,ol2,none⟩=some (.int .i64 (j0:Int))) aj ⟨y0,y1,y2,hul,z0⟩ (fun hHeld=>?_);have hb:Below wc.heap.size wc wc.drew:=aH (Below.refl _ wc) 1;replace y0:=ah y0 hb;replace y1:=ah y1 hb;replace y2:=ah y2 hb;replace hul:=ah hul hb;replace z0:=ah z0 hb;replace HGc:=Ae (HGc.out.on (Below.same' hb F)); replace HO':=Ae (HO'.out.below hb);replace aZ:=aZ.trans (hb.mono aZ.size);clear hb;generalize wc.drew=wn at *;refine tk0 [0,1,2,4,5,6,7,8,9,10,11] ?_;iterate 11 (refine tk (v:=?_) rfl aj aj aj (fun _ _ _ h=>h) (Or.inl ⟨by rfl,?_⟩) hHeld ?_;rotate_left;(focus intro wx hSx;(try dsimp only at hSx);go_split_ands;go_simp;try with_reducible rfl);try simp only[Act.put,lq1,lq2,lq3,lq4,lq5,lq6])
    refine tk1 ?_;refine tk2 3 aj rfl fun K hK=>?_
    go_simp;refine(abL wn F _ g j pl HGc.out HS.out HGD.out hj).mono ?_;rintro e wn ⟨v1,rfl,hb,hu⟩;have HV1:=Ae (Az.keep (G:=fun _=>True) hu (fun _ _ _=>trivial) (Same.refl _ _));clear hu;replace y0:=ah y0 hb;replace y1:=ah y1 hb;replace y2:=ah y2 hb;replace hul:=ah hul hb;replace z0:=ah z0 hb;replace HGc:=Ae (HGc.out.on (Below.same' hb F)); replace HO':=Ae (HO'.out.below hb);replace aZ:=aZ.trans (hb.mono aZ.size);clear hb;dsimp only;clear hHeld;refine hK.out _ _ ⟨y0,y1,y2,hul,z0⟩ (fun hHeld=>?_);clear hK K;try simp only[Act.put,lq1,lq2,lq3,lq4,lq5,lq6]
    refine tk2 12 aj rfl fun K hK=>?_
    go_simp;refine(abL wn F _ g j0 pl HGc.out HS.out HGD.out hj0).mono ?_;rintro e wn ⟨v2,rfl,hb,hu⟩;have HV2:=Ae (Az.keep (G:=fun _=>True) hu (fun _ _ _=>trivial) (Same.refl _ _));clear hu;replace HV1:=Ae (Az.on HV1.out (Below.same' hb _));replace y0:=ah y0 hb;replace y1:=ah y1 hb;replace y2:=ah y2 hb;replace hul:=ah hul hb;replace z0:=ah z0 hb;replace HGc:=Ae (HGc.out.on (Below.same' hb F)); replace HO':=Ae (HO'.out.below hb);replace aZ:=aZ.trans (hb.mono aZ.size);clear hb;dsimp only;clear hHeld;refine hK.out _ _ ⟨y0,y1,y2,hul,z0⟩ (fun hHeld=>?_);clear hK K;try simp only[Act.put,lq1,lq2,lq3,lq4,lq5,lq6]
    obtain⟨eqB,heqB⟩:=named (decide (iR g pl j=iR g pl j0));have HEQ:=Ae heqB;have HWL:=Ae (zl HGD.out HS.out pl hj);clear heqB;refine tk2 13 aj rfl fun K hK=>?_
    go_simp;refine(ahq wn (fun _=>True) _ _ _ _ HV1.out HV2.out (by have:=HWL.out; omega)).mono ?_;rintro e wn ⟨v3,rfl,hb,rfl⟩;rw[← HEQ.out];clear HV1 HV2;replace y0:=ah y0 hb;replace y1:=ah y1 hb;replace y2:=ah y2 hb;replace hul:=ah hul hb;replace z0:=ah z0 hb;replace HGc:=Ae (HGc.out.on (Below.same' hb F)); replace HO':=Ae (HO'.out.below hb);replace aZ:=aZ.trans (hb.mono aZ.size);clear hb;dsimp only;clear hHeld;refine hK.out _ _ ⟨y0,y1,y2,hul,z0⟩ (fun hHeld=>?_);clear hK K;try simp only[Act.put,lq1,lq2,lq3,lq4,lq5,lq6]
    refine tk0 [14] ?_;(refine tk (v:=?_) rfl aj aj aj (fun _ _ _ h=>h) (Or.inl ⟨by rfl,?_⟩) hHeld ?_;rotate_left;(focus intro wx hSx;(try dsimp only at hSx);go_split_ands;go_simp;try with_reducible rfl);try simp only[Act.put,lq1,lq2,lq3,lq4,lq5,lq6])
    refine tk1 ?_;refine wpAnyH_done aj ?_ _;clear hHeld;obtain rfl:=HPLR.out;cases eqB with
    | true =>
     have HW:=Ae (show oN g i inf.aI j0 j = [] by unfold oN; rw[if_pos (of_decide_eq_true HEQ.out.symm)]);go_wp2_with fail
     go_roundw
     case rel =>
      refine⟨k+1,M',byOmega,by go_num,?_,byOmega,HO'.out,aZ⟩;rw[HFK.out,HFW.out,HW.out,List.append_nil,HM'.out,HM.out,List.append_assoc]
     case measure=>simp[intOf]; omega
    | false =>
     have HW:=Ae (show oN g i inf.aI j0 j = [⟨2,(j:Int),(i:Int),(j0:Int)⟩] by unfold oN; rw[if_neg (of_decide_eq_false HEQ.out.symm)]);go_wp2_with (at_builtin; refine eY (K:=flK) (F:=fun _=>True) rfl _ _ 225 217 32 _ Tryz.underlying225 Tryz.infoFlaw rfl aB rfl w2.heap.size (Nat.le_refl _) u3 M' rfl ⟨2,(j:Int),(i:Int),(j0:Int)⟩ _ rfl byOmega rfl HO'.out trivial aZ ?_; intro g' cap w' hown2 fZ hlt2 hsm2; have HO2:=Ae hown2; clear hown2)
     go_roundw
     case rel =>
      refine⟨k+1,M' ++ [⟨2,(j:Int),(i:Int),(j0:Int)⟩],byOmega,by go_num,?_,by rw[List.length_append]; simp; omega,HO2.out,fZ⟩;rw[HFK.out,HFW.out,HW.out,HM'.out,HM.out,List.append_assoc,List.append_assoc]
     case measure=>simp[intOf]; omega
def aa5 (g:Gm) (pl:Int):Bool:=!(xu g).any fun f=>decide ((g.infos.getD f.info.toNat default).aI=pl)
theorem aex {g:Gm}:∀ f∈xu g,∃ i:Nat,f.info=(i:Int)∧i < g.infos.length:=by
 have h1:∀ (i:Int) (pl:Int) (l:List Int) (k:Nat),∀ f∈gy g i pl l k,f.info=i:=by
  intro i pl l k;induction k with
  | zero=>intro f hf; cases hf
  | succ k ih =>
   intro f hf;rw[gy] at hf;rcases List.mem_append.1 hf with hf | hf
   ·exact ih f hf
   ·unfold nU xk oN at hf;rcases List.mem_append.1 hf with hf | hf
    ·split at hf
     ·rw[List.mem_singleton.1 hf]
     ·cases hf
    ·split at hf
     ·cases hf
     ·rw[List.mem_singleton.1 hf]
 have h2:∀ n,∀ f∈jq g n,∃ i:Nat,f.info=(i:Int)∧i < n:=by
  intro n;induction n with
  | zero=>intro f hf; cases hf
  | succ n ih =>
   intro f hf;rw[jq] at hf;rcases List.mem_append.1 hf with hf | hf
   ·obtain⟨i,e,h⟩:=ih f hf; exact⟨i,e,byOmega⟩
   ·exact⟨n,h1 _ _ _ _ f hf,byOmega⟩
 exact h2 _
theorem ac9 (w:World) (F:Ah) (v:Value) (g:Gm) (pl:Int) (hg:AP w F v g) (hsm:Small g) (hgd:Good g) :
  Calls Tryz.prog 137 #[v,.int .i64 pl] w (Ret w fun u _=>u = .bool (aa5 g pl)):=by
 have HG:=Ae hg; have HS:=Ae hsm; have HGD:=Ae hgd;have hi100:=hsm.infos;obtain⟨vn,vi,rfl,⟨A,c,rfl,hc,_⟩,⟨Ai,ci,rfl,hci,hI⟩⟩:=hg;have HI:=Ae hI;clear hsm hgd hI;go_in
 go_wp2_with fail
 obtain⟨W,hW,rx,hB,hz⟩:=aO w 25 #[.int .i64 g.aA,.slice A g.nodes.length c,.slice Ai g.infos.length ci];rw[← hW];clear hW;replace HG:=Ae (HG.out.on (Below.same' hB F));have x0:=rx.cell (i:=0) rfl; have x1:=rx.cell (i:=1) rfl; have x2:=rx.cell (i:=2) rfl;clear rx hz;go_wp2_with fail
 refine(afZ W F _ g HG.out HS.out HGD.out).mono ?_;rintro e w1 ⟨u,rfl,hb1,hu⟩;replace hB:=hB.trans (hb1.mono hB.size);replace x2:=ah x2 hb1;have HFI:=Ae (aex (g:=g));have hLb:=aef HGD.out HS.out;obtain⟨pb,hpb⟩:=named (aa5 g pl);have HPB0:=Ae hpb;obtain⟨L,hL⟩:=named (xu g);unfold aa5 at hpb;rw[← hL] at hu hpb HFI hLb;have HPB:=Ae hpb;obtain⟨Af,cf,rfl,hcf,hx⟩:=hu;have HX:=Ae hx;clear hb1 x0 x1 hpb hL hx;dsimp only;go_wp2_with fail
 go_loopw [6] (fun iv wr=>∃ (i:Nat),i≤L.length∧iv = .int .i64 (i:Int)∧(∀ f∈L.take i,(g.infos.getD f.info.toNat default).aI≠pl)∧Below w1.heap.size w1 wr) (fun iv _=>L.length - (intOf iv).toNat)
 case atStart=>exact⟨0,byOmega,rfl,fun f hf=>by simp at hf,Below.refl _ _⟩
 case round =>
  obtain⟨i,hi,rfl,hno,hbel⟩:=hrel;have HNO:=Ae hno;clear hno;by_cases hlt:i < L.length
  ·obtain⟨f,hf⟩:=aC hlt;obtain⟨bf,of',rfl,_,hbf,aiJ⟩:=HX.out byOmega;obtain⟨s,hs,hsl⟩:=HFI.out f (List.mem_of_getElem? hf);have c2:=(aiJ i f hf).2.2.1;rw[hs] at c2;obtain⟨inf,dS⟩:=aC hsl;obtain⟨bi,oi,rfl,_,hbil,ahs⟩:=HI.out byOmega;have f0:=(ahs s inf dS).c0;replace f0:=ah (ah f0 hB) hbel;replace c2:=ah c2 hbel;have y2:=ah x2 hbel;have HGE:=Ae (show(g.infos.getD f.info.toNat default).aI=inf.aI by rw[hs,Int.toNat_natCast,List.getD_eq_getElem?_getD,dS]; rfl);have HF:=Ae hf;clear aiJ ahs dS hs hf;by_cases hp:inf.aI=pl
   ·have t1:(inf.aI==pl)=true:=by simp[hp]
    have HE:=Ae (show pb=false by
     rw[HPB.out,Bool.not_eq_false',List.any_eq_true];exact⟨f,List.mem_of_getElem? HF.out,by rw[HGE.out]; exact decide_eq_true hp⟩)
    clear hp;go_wp2_with fail
    go_quiet (fail)
    go_wp2
    go_ret;exact⟨_,rfl,hB.trans ((aH hbel _).mono hB.size),by rw[← HPB0.out,HE.out]; rfl⟩
   ·have t1:(inf.aI==pl)=false:=by simpa using hp
    have HN:=Ae hp;clear hp;go_wp2_with fail
    go_quiet (fail)
    go_wp2
    go_roundw
    case rel =>
     refine⟨i+1,byOmega,by go_num,fun x hx=>?_,aH hbel _⟩;rw[take_snoc HF.out] at hx;rcases List.mem_append.1 hx with hx | hx
     ·exact HNO.out x hx
     ·rw[List.mem_singleton.1 hx,HGE.out]; exact HN.out
    case measure=>simp[intOf]; omega
  ·have HE:=Ae (show pb=true by
    rw[HPB.out,Bool.not_eq_true',List.any_eq_false];intro f hf;have:=HNO.out f (by rw[List.take_of_length_le byOmega]; exact hf);simpa using this)
   go_wp2
   go_ret;exact⟨_,rfl,hB.trans (hbel.mono hB.size),by rw[← HPB0.out,HE.out]; rfl⟩
structure D7 (nodes:List Nd) (q:Int) (cs:List Int) (a:Nat) (r:Int) (p p':List Int):Prop where
 out:∀ i:Nat,i < a∨r≤(i:Int)→p'[i]? = p[i]?
 inn:∀ i:Nat,a≤i→(i:Int) < r→((i:Int)∈cs∧p'[i]? = some q)∨∃ (m:Nat) (n:Nd),nodes[m]? = some n∧(i:Int)∈n.next∧p'[i]? = some (m:Int)
theorem ada {nodes:List Nd} {q:Int} {rec:Nat→Tri→Int×Tri} (hlen:∀ a t,Tri.Len nodes.length t→Tri.Len nodes.length (rec a t).2)
  (hb:∀ a t,(rec a t).1 = -1∨((a:Int) < (rec a t).1∧(rec a t).1≤nodes.length))
  (hrec:∀ a t,a < nodes.length→Tri.Len nodes.length t→0≤(rec a t).1→D7 nodes q [(a:Int)] a (rec a t).1 t.p (rec a t).2.p) :
  ∀ (cs:List Int) (x:Nat) (t:Tri),x≤nodes.length→Tri.Len nodes.length t→0≤(dO rec cs x t).1→(x:Int)≤(dO rec cs x t).1∧D7 nodes q cs x (dO rec cs x t).1 t.p (dO rec cs x t).2.p
 | [],x,t,_,_,_=>⟨by simp[dO],⟨fun _ _=>by simp[dO],fun i h1 h2=>by simp[dO] at h2; omega⟩⟩
 | c :: cs,x,t,hx,ht,h=>by
  unfold dO at h ⊢;by_cases hc:c=x
  ·subst hc;simp only[ne_eq,not_true_eq_false,↓reduceIte,Int.toNat_natCast] at h ⊢;by_cases hng:(rec x t).1 < 0
   ·rw[if_pos hng] at h; simp at h
   ·rw[if_neg hng] at h ⊢;rcases hb x t with hb1 | hb1
    ·omega
    ·have hr:=hrec x t byOmega ht byOmega;obtain⟨m,hm⟩:=Int.eq_ofNat_of_zero_le (show 0≤(rec x t).1 by omega);rw[hm] at h hr ⊢;rw[hm] at hb1;obtain⟨ih1,ih2⟩:=ada hlen hb hrec cs m (rec x t).2 byOmega (hlen x t ht) h;refine⟨byOmega,fun i hi=>?_,fun i h1 h2=>?_⟩
     ·rw[ih2.out i byOmega,hr.out i byOmega]
     ·by_cases hmi:i < m
      ·have e:=ih2.out i (.inl hmi);rw[e];rcases hr.inn i h1 byOmega with⟨h3,h4⟩ | h3
       ·exact .inl ⟨by rw[List.mem_singleton.1 h3]; simp,h4⟩
       ·exact .inr h3
      ·rcases ih2.inn i byOmega h2 with⟨h3,h4⟩ | h3
       ·exact .inl ⟨List.mem_cons_of_mem _ h3,h4⟩
       ·exact .inr h3
  ·rw[if_pos hc] at h; simp at h
theorem adb (nodes:List Nd):∀ (f a:Nat) (par dep:Int) (t:Tri),Tri.Len nodes.length t→0≤(bK nodes f a par dep t).1 →
  D7 nodes par [(a:Int)] a (bK nodes f a par dep t).1 t.p (bK nodes f a par dep t).2.p
 | 0,_,_,_,_,_,h=>by simp[bK] at h
 | f+1,a,par,dep,t,ht,h=>by
  unfold bK at h ⊢;cases hn:nodes[a]? with
  | none=>rw[hn] at h; simp at h
  | some n =>
   rw[hn] at h;simp only at h ⊢;have ha:=aK hn;have hk:=ada (nodes:=nodes) (q:=(a:Int)) (rec:=fun a' t=>bK nodes f a' a (dep+1) t)
    (fun a' t h=>jQ nodes f a' a (dep+1) t h) (fun a' t=>lM nodes f a' a (dep+1) t)
    (fun a' t _ ht h=>adb nodes f a' a (dep+1) t ht h) n.next (a+1) ⟨t.p.set a par,t.d.set a dep,t.l⟩ byOmega ⟨by simp[ht.p],by simp[ht.d],ht.l⟩
   simp only[Int.natCast_add,Int.cast_ofNat_Int] at hk;by_cases hng:(dO (fun a' t=>bK nodes f a' a (dep+1) t) n.next ((a:Int)+1) ⟨t.p.set a par,t.d.set a dep,t.l⟩).1 < 0
   ·rw[if_pos hng] at h; omega
   ·rw[if_neg hng] at h ⊢;obtain⟨h1,h2⟩:=hk byOmega;have h1':(a:Int)+1≤(dO (fun a' t=>bK nodes f a' a (dep+1) t) n.next ((a:Int)+1) ⟨t.p.set a par,t.d.set a dep,t.l⟩).1:=by simpa using h1
    refine⟨fun i hi=>?_,fun i h3 h4=>?_⟩
    ·have:=h2.out i (by simp only[] at hi ⊢; omega);simp only at this ⊢;rw[this,List.getElem?_set_ne byOmega]
    ·by_cases hia:i=a
     ·subst hia;have:=h2.out i (.inl byOmega);simp only at this ⊢;refine .inl ⟨ay,?_⟩;rw[this,List.getElem?_set_self (by rw[ht.p]; exact ha)]
     ·rcases h2.inn i byOmega h4 with⟨h5,h6⟩ | h5
      ·exact .inr ⟨a,n,hn,h5,h6⟩
      ·exact .inr h5
theorem af0 (g:Gm):Tri.Len g.nodes.length (walkT g).2:=jQ _ _ _ _ _ _ ⟨ay,ay,ay⟩
theorem uf {g:Gm} (h:aY g=0):(walkT g).2.p=dD g.nodes:=by
 have hg:=kG h;have hlen:=af0 g;have hN:(walkT g).1=(g.nodes.length:Int):=by
  rw[← pY] at h;unfold mZ at h;split at h
  ·omega
  split at h
  ·rename_i h1; exact absurd h h1
  split at h
  ·omega
  ·rename_i h1; simpa using h1
 have hk:=adb g.nodes (g.nodes.length+1) 0 (-1) 0 ⟨List.replicate g.nodes.length 0,List.replicate g.nodes.length 0,List.replicate g.nodes.length 0⟩ ⟨ay,ay,ay⟩;have hT:walkT g=bK g.nodes (g.nodes.length+1) 0 (-1) 0 ⟨List.replicate g.nodes.length 0,List.replicate g.nodes.length 0,List.replicate g.nodes.length 0⟩:=rfl;rw[← hT,hN] at hk;have hk:=hk byOmega;refine List.ext_getElem? fun i=>?_
 by_cases hi:i < g.nodes.length
 ·rcases hk.inn i (Nat.zero_le _) byOmega with⟨h1,h2⟩ | ⟨m,n,h1,h2,h3⟩
  ·have h0:i=0:=by have:=List.mem_singleton.1 h1; omega
   subst h0;rw[h2];obtain⟨p,hp,⟨_,rfl⟩ | ⟨q,n,_,h3,_⟩⟩:=hg.par hi
   ·exact hp.symm
   ·omega
  ·rw[h3,nM hg hi h1 h2]
 ·rw[List.getElem?_eq_none (by rw[hlen.p]; omega),List.getElem?_eq_none (by rw[fD]; omega)]
def kY (g:Gm) (pl:Int) (l:List Int):Bool:=l.all fun x=>decide (iR g pl x.toNat=iR g pl (l.getD 0 0).toNat)
def kZ (g:Gm) (pl:Int):Nat→Bool
 | 0=>true
 | i+1=>kZ g pl i&&(!decide ((g.infos.getD i default).aI=pl)||kY g pl ((dA g).getD i []))
def wF (g:Gm) (pl:Int):Bool:=kZ g pl g.infos.length
theorem wG {g:Gm} {pl:Int} {i:Nat} (h:kZ g pl i=false):∀ k,i≤k→kZ g pl k=false
 | 0,hk=>by
  obtain rfl:i=0:=byOmega;exact h
 | k+1,hk=>by
  by_cases e:i=k+1
  ·subst e; exact h
  ·rw[kZ,wG h k byOmega,Bool.false_and]
theorem yt {g:Gm} {pl:Int}:∀ {k:Nat},kZ g pl k=true↔∀ i,i < k→(g.infos.getD i default).aI=pl→kY g pl ((dA g).getD i [])=true
 | 0=>by simp[kZ]
 | k+1=>by
  rw[kZ,Bool.and_eq_true,yt (k:=k),Bool.or_eq_true,Bool.not_eq_true',decide_eq_false_iff_not];constructor
  ·rintro⟨h1,h2⟩ i hi hp;by_cases e:i=k
   ·subst e;rcases h2 with h2 | h2
    ·exact absurd hp h2
    ·exact h2
   ·exact h1 i byOmega hp
  ·intro h;refine⟨fun i hi hp=>h i byOmega hp,?_⟩;by_cases hp:(g.infos.getD k default).aI=pl
   ·exact .inr (h k byOmega hp)
   ·exact .inl hp
theorem ade {pl:Int} {n:Nd} {c:Nat} (h:n.kind=2∧n.aI=pl) (hc:(c:Int)∈n.next):0 < (eP pl n c n.next.length).length:=by
 unfold eP;rw[if_pos h,List.length_map];obtain⟨k,hk⟩:=List.getElem?_of_mem hc;exact List.length_pos_of_mem (a:=k) (List.mem_filter.2 ⟨List.mem_range.2 (aK hk),by simp[hk]⟩)
theorem aa6 {g:Gm} (hg:Good g) {i pl:Int} (hpl:∀ (j:Nat) (n:Nd),g.nodes[j]? = some n→n.kind=2→n.info=i→n.aI=pl):∀ (f c a:Nat),c < g.nodes.length→fF g i f c=some a →
  (iR g pl a).length < (iR g pl c).length∧∃ n,g.nodes[a]? = some n∧n.kind=2∧n.info=i
 | 0,c,a,_,h=>by cases h
 | f+1,c,a,hc,h=>by
  obtain⟨p,hp,h0 | ⟨q,n,rfl,hq,hn,hm⟩⟩:=hg.par hc
  ·obtain⟨rfl,_⟩:=h0; rw[vY hg] at h; cases h
  ·have hw:=ach hg (pl:=pl) hc hp hn hq;by_cases hk:n.kind=2∧n.info=i
   ·rw[vZ hp hn hk] at h;cases h
    have:=ade (c:=c) ⟨hk.1,hpl _ n hn hk.1 hk.2⟩ hm;refine⟨?_,n,hn,hk⟩;rw[hw,List.length_append,List.length_reverse]; omega
   ·rw[zL hp hn hk] at h;obtain⟨h1,h2⟩:=aa6 hg hpl f q a byOmega h;refine⟨?_,h2⟩;rw[hw,List.length_append]; omega
theorem nZ {g:Gm} {i pl:Int} {l:List Int} {f:Fl}:∀ {k:Nat},f∈gy g i pl l k↔∃ j,j < k∧f∈nU g i pl (l.getD 0 0).toNat (l.getD j 0).toNat
 | 0=>by simp[gy]
 | k+1=>by
  rw[gy,List.mem_append,nZ (k:=k)];constructor
  ·rintro(⟨j,h1,h2⟩ | h)
   ·exact⟨j,byOmega,h2⟩
   ·exact⟨k,byOmega,h⟩
  ·rintro⟨j,h1,h2⟩;by_cases e:j=k
   ·subst e; exact .inr h2
   ·exact .inl ⟨j,byOmega,h2⟩
theorem rF {g:Gm} {f:Fl}:∀ {k:Nat},f∈jq g k↔∃ i:Nat,i < k∧f∈gy g i (g.infos.getD i default).aI ((dA g).getD i []) ((dA g).getD i []).length
 | 0=>by simp[jq]
 | k+1=>by
  rw[jq,List.mem_append,rF (k:=k)];constructor
  ·rintro(⟨j,h1,h2⟩ | h)
   ·exact⟨j,byOmega,h2⟩
   ·exact⟨k,byOmega,h⟩
  ·rintro⟨j,h1,h2⟩;by_cases e:j=k
   ·subst e; exact .inr h2
   ·exact .inl ⟨j,byOmega,h2⟩
theorem zV {g:Gm} {i pl:Int} {l:List Int} {k:Nat} {f:Fl} (hf:f∈gy g i pl l k):f.info=i:=by
 obtain⟨j,_,h⟩:=nZ.1 hf;unfold nU xk oN at h;rcases List.mem_append.1 h with h | h
 ·split at h
  ·rw[List.mem_singleton.1 h]
  ·cases h
 ·split at h
  ·cases h
  ·rw[List.mem_singleton.1 h]
theorem oP {g:Gm} (h:aY g=0) {i:Nat} (hi:i < g.infos.length):((dA g).getD i [])=bY g.nodes i g.nodes.length ∧
  (∀ (j:Nat) (n:Nd),g.nodes[j]? = some n→n.kind=2→n.info=(i:Int)→n.aI=(g.infos.getD i default).aI∧(j:Int)∈(dA g).getD i []) ∧
  (∀ x∈(dA g).getD i [],∃ (j:Nat) (n:Nd),x=(j:Int)∧g.nodes[j]? = some n∧n.kind=2∧n.info=(i:Int)):=by
 have hg:=kG h;have h1:=gY hg.infos hi;have h2:((dA g).getD i [])=bY g.nodes i g.nodes.length:=by rw[List.getD_eq_getElem?_getD,h1]; rfl
 refine⟨h2,fun j n hn hk hin=>⟨?_,?_⟩,fun x hx=>?_⟩
 ·obtain⟨inf,h3,_,h4⟩:=ny h (List.mem_of_getElem? hn) hk;rw[hin,Int.toNat_natCast] at h3;rw[List.getD_eq_getElem?_getD,h3];exact h4.symm
 ·rw[h2];refine nT.2 ⟨j,rfl,aK hn,?_⟩;unfold mv;rw[hn];simp[hk,hin]
 ·exact(wB hg (l:=(dA g).getD i []) (by rw[h2]; exact h1)).2 x hx
theorem aht {g:Gm} (h:aY g=0) (pl:Int):wF g pl=aa5 g pl:=by
 have hg:=kG h;rw[Bool.eq_iff_iff];unfold wF aa5;rw[yt,Bool.not_eq_true',List.any_eq_false];constructor
 ·intro hw f hf hp;obtain⟨i,hi,hfi⟩:=rF.1 hf;have dS:=zV hfi;rw[dS,Int.toNat_natCast] at hp;have hp:=of_decide_eq_true hp;rw[hp] at hfi;obtain⟨h2,h3,h4⟩:=oP h hi;have hall:=hw i hi hp;unfold kY at hall;rw[List.all_eq_true] at hall;obtain⟨k,hk,hfk⟩:=nZ.1 hfi;generalize (dA g).getD i []=l at *;obtain⟨x,hx⟩:=aC hk;have ex:l.getD k 0=x:=by rw[List.getD_eq_getElem?_getD,hx]; rfl
  rw[ex] at hfk;have hwx:=of_decide_eq_true (hall x (List.mem_of_getElem? hx));obtain⟨j,n,rfl,hn,_,_⟩:=h4 x (List.mem_of_getElem? hx);rw[Int.toNat_natCast] at hfk hwx;unfold nU at hfk;rcases List.mem_append.1 hfk with hfk | hfk
  ·cases ha:fF g i g.nodes.length j with
   | none=>rw[ha] at hfk; cases hfk
   | some a =>
    obtain⟨h5,m,h6,h7,h8⟩:=aa6 hg (pl:=pl) (fun j n hn hk hin=>by rw[(h3 j n hn hk hin).1,hp]) _ j a (aK hn) ha;have hwa:=of_decide_eq_true (hall (a:Int) (h3 a m h6 h7 h8).2);rw[Int.toNat_natCast] at hwa;rw[hwa,hwx] at h5;omega
  ·unfold oN at hfk;rw[if_pos hwx] at hfk;cases hfk
 ·intro hno i hi hp;unfold kY;rw[List.all_eq_true];intro x hx;obtain⟨k,hk⟩:=List.getElem?_of_mem hx;by_cases hw:iR g pl x.toNat=iR g pl (((dA g).getD i []).getD 0 0).toNat
  ·exact decide_eq_true hw
  ·exfalso
   refine hno ⟨2,x.toNat,i,(((dA g).getD i []).getD 0 0).toNat⟩ (rF.2 ⟨i,hi,nZ.2 ⟨k,aK hk,?_⟩⟩) ?_
   ·unfold nU oN;rw[List.getD_eq_getElem?_getD (l:=(dA g).getD i []) (i:=k),hk,hp];simp only[Option.getD_some];rw[if_neg hw];exact List.mem_append_right _ ay
   ·show decide ((g.infos.getD ((i:Int)).toNat default).aI=pl)=true;rw[Int.toNat_natCast];exact decide_eq_true hp
theorem Span.incr {nodes:List Nd} {cs:List Int} {a b:Nat} (h:Span nodes cs a b):cs.Pairwise (· < ·):=by
 induction h with
 | nil a=>exact List.Pairwise.nil
 | cons hn h1 h2 _ ih2 =>
  refine List.Pairwise.cons (fun c hc=>?_) ih2;have e1:=h1.le;have e2:=(h2.mem c hc).1;omega
theorem Span.nexts {nodes:List Nd} {cs:List Int} {a b:Nat} (h:Span nodes cs a b):∀ p n,a≤p→p < b→nodes[p]? = some n→n.next.Pairwise (· < ·):=by
 induction h with
 | nil a=>intro p n h1 h2; omega
 | @cons a m b n0 cs hn h1 h2 ih1 ih2 =>
  intro p n k1 k2 hp;by_cases e:p=a
  ·subst e; rw[hn] at hp; cases hp; exact h1.incr
  ·by_cases e2:p < m
   ·exact ih1 p n byOmega e2 hp
   ·exact ih2 p n byOmega k2 hp
theorem yu {g:Gm} (hg:Good g) {pl:Int} {q c j:Nat} {n:Nd} (hn:g.nodes[q]? = some n) (h:n.kind=2∧n.aI=pl) (hj:n.next[j]? = some (c:Int)):eP pl n c n.next.length = [(n.info,(j:Int))]:=by
 have hinc:=hg.span.nexts q n (Nat.zero_le _) (aK hn) hn;have hjl:=aK hj;have key:∀ k,k≤n.next.length→eP pl n c k=if j < k then [(n.info,(j:Int))] else []:=by
  intro k;induction k with
  | zero=>intro _; rw[vI,if_neg byOmega]
  | succ k ih =>
   intro hk;obtain⟨x,hx⟩:=aC (l:=n.next) (k:=k) byOmega;by_cases e:k=j
   ·subst e;rw[zk h hj,ih byOmega,if_neg byOmega,if_pos byOmega]; rfl
   ·have hne:x≠(c:Int):=by
     intro e2;subst e2;have hxe:n.next[k]'byOmega=(c:Int):=by have:=hx; rw[List.getElem?_eq_getElem byOmega] at this; simpa using this
     have hje:n.next[j]'hjl=(c:Int):=by have:=hj; rw[List.getElem?_eq_getElem hjl] at this; simpa using this
     rw[List.pairwise_iff_getElem] at hinc;rcases Nat.lt_or_gt_of_ne e with h1 | h1
     ·have:=hinc k j byOmega hjl h1; omega
     ·have:=hinc j k hjl byOmega h1; omega
    rw[xO hx hne,ih byOmega];by_cases h1:j < k
    ·rw[if_pos h1,if_pos byOmega]
    ·rw[if_neg h1,if_neg byOmega]
 rw[key _ (Nat.le_refl _),if_pos hjl]
def lastStep (l:List (Int×Int)):Int×Int:=l.getLast?.getD (-1,-1)
def kP (g:Gm) (pl:Int) (c:Nat):Int×Int:=lastStep (iR g pl c)
theorem uT {g:Gm} (hg:Good g) (pl:Int):kP g pl 0=(-1,-1):=by unfold kP; rw[afd hg]; rfl
theorem aa7 {g:Gm} (hg:Good g) {pl:Int} {c q j:Nat} {n:Nd} (hn:g.nodes[q]? = some n) (hj:n.next[j]? = some (c:Int)):kP g pl c=if n.kind=2∧n.aI=pl then (n.info,(j:Int)) else kP g pl q:=by
 have hm:=List.mem_of_getElem? hj;have hqc:=hg.span.kids q n (Nat.zero_le _) (aK hn) hn _ hm;have hc:c < g.nodes.length:=byOmega;have hp:=nM hg hc hn hm;unfold kP;rw[ach hg hc hp hn byOmega];split
 ·rename_i h
  rw[yu hg hn h hj];simp[lastStep]
 ·rename_i h
  rw[kH h];simp
def fM (g:Gm) (i:Nat):Nat:=(((dA g).getD i []).getD 0 0).toNat
def dM (g:Gm):List (Int×Int):=(List.range g.infos.length).map fun i=>kP g (g.infos.getD i default).aI (fM g i)
theorem rG {g:Gm} {i:Nat} (hi:i < g.infos.length):(dM g)[i]? = some (kP g (g.infos.getD i default).aI (fM g i)):=by
 unfold dM;rw[List.getElem?_map,List.getElem?_range hi]; rfl
theorem gZ (g:Gm):(dM g).length=g.infos.length:=by unfold dM; simp
theorem zW {g:Gm} (hg:Good g) (pl:Int):∀ (b c:Nat),c≤b→c < g.nodes.length→kP g pl c=(-1,-1)∨∃ (q j:Nat) (n:Nd),q < c∧g.nodes[q]? = some n∧n.kind=2∧n.aI=pl∧j < n.next.length∧kP g pl c=(n.info,(j:Int))
 | 0,c,hb,_=>by
  obtain rfl:c=0:=byOmega;exact .inl (uT hg pl)
 | b+1,c,hb,hc=>by
  obtain⟨p,hp,h0 | ⟨q,n,rfl,hq,hn,hm⟩⟩:=hg.par hc
  ·rw[h0.1]; exact .inl (uT hg pl)
  ·obtain⟨j,hj⟩:=List.getElem?_of_mem hm;have e:=aa7 hg (pl:=pl) hn hj;by_cases hk:n.kind=2∧n.aI=pl
   ·rw[if_pos hk] at e;exact .inr ⟨q,j,n,hq,hn,hk.1,hk.2,aK hj,e⟩
   ·rw[if_neg hk] at e;rcases zW hg pl b q byOmega byOmega with h | ⟨q',j',n',h1,h2,h3,h4,h5,h6⟩
    ·exact .inl (by rw[e,h])
    ·exact .inr ⟨q',j',n',byOmega,h2,h3,h4,h5,by rw[e,h6]⟩
theorem lq {g:Gm} (h:aY g=0) {i:Nat} (hi:i < g.infos.length):∃ n,g.nodes[fM g i]? = some n∧n.kind=2∧n.info=(i:Int)∧n.aI=(g.infos.getD i default).aI∧(dA g).getD i []≠[]∧((dA g).getD i []).getD 0 0=(fM g i:Int):=by
 obtain⟨h2,h3,h4⟩:=oP h hi;obtain⟨_,h5⟩:=iw h;have hm:=gY (kG h).infos hi;have hne:(dA g).getD i []≠[]:=by
  intro e;unfold jl at h5;have:kF (dA g)=true:=by
   unfold kF;exact List.any_eq_true.2 ⟨_,List.mem_of_getElem? hm,by rw[← h2,e]; rfl⟩
  rw[this] at h5;split at h5
  ·omega
  ·simp at h5
 have hfo:fM g i=(((dA g).getD i []).getD 0 0).toNat:=rfl;generalize (dA g).getD i []=l at *;cases l with
 | nil=>exact absurd rfl hne
 | cons x t =>
  obtain⟨j,n,rfl,hn,hk,hin⟩:=h4 x ay;have e:fM g i=j:=by rw[hfo]; simp
  rw[e];exact⟨n,hn,hk,hin,(h3 j n hn hk hin).1,hne,ay⟩
theorem ug {nodes:List Nd} {s:Nat}:∀ {k:Nat} {x:Int},x∈bY nodes s k→(bY nodes s k).getD 0 0≤x
 | 0,x,h=>by simp[bY] at h
 | k+1,x,h=>by
  rw[ru] at h ⊢;rcases List.mem_append.1 h with h | h
  ·have h1:=ug h;cases hm:bY nodes s k with
   | nil=>rw[hm] at h; cases h
   | cons y t=>rw[hm] at h1; exact h1
  ·split at h
   ·rename_i hv
    rw[if_pos hv];rw[List.mem_singleton.1 h];cases hm:bY nodes s k with
    | nil=>simp
    | cons y t =>
     obtain⟨i,rfl,hi,_⟩:=nT.1 (show y∈bY nodes s k by rw[hm]; simp);simp; omega
   ·cases h
theorem aey {g:Gm} (h:aY g=0) {i j:Nat} {n:Nd} (hi:i < g.infos.length) (hn:g.nodes[j]? = some n) (hk:n.kind=2) (hin:n.info=(i:Int)):fM g i≤j:=by
 obtain⟨h2,h3,_⟩:=oP h hi;have h4:=(h3 j n hn hk hin).2;rw[h2] at h4;have h5:=ug h4;obtain⟨_,_,_,_,_,_,h6⟩:=lq h hi;rw[h2] at h6;omega
theorem wH {g:Gm} (h:aY g=0) {i:Nat}:∀ {k:Nat},i≤k→k < g.infos.length→fM g i≤fM g k
 | 0,h1,_=>by
  obtain rfl:i=0:=byOmega;exact Nat.le_refl _
 | k+1,h1,h2=>by
  by_cases e:i=k+1
  ·subst e; exact Nat.le_refl _
  ·refine Nat.le_trans (wH h (k:=k) byOmega byOmega) ?_;obtain⟨_,h5⟩:=iw h;have h6:dR (dA g) g.infos.length=false:=by
    unfold jl at h5;split at h5
    ·omega
    ·split at h5
     ·omega
     ·split at h5
      ·omega
      ·rename_i c; simpa using c
   unfold dR at h6;have h7:=List.any_eq_false.1 h6 (k+1) (by rw[List.mem_range'_1]; omega);unfold jd at h7;rw[Nat.add_sub_cancel] at h7;have h8:¬ ((dA g).getD (k+1) []).getD 0 0 < ((dA g).getD k []).getD 0 0:=fun e=>h7 (decide_eq_true e)
   unfold fM;omega
structure Ups (up:List (Int×Int)) (acts:Nat→Int):Prop where
 ok:∀ (k:Nat) (s:Int×Int),up[k]? = some s→s.1 < 0∨(0≤s.1∧s.1 < (k:Int)∧0≤s.2∧s.2 < acts s.1.toNat)
theorem aez {g:Gm} (h:aY g=0):Ups (dM g) (fun i=>(g.infos.getD i default).actions):=by
 refine⟨fun k s hs=>?_⟩;have hk:k < g.infos.length:=by have:=aK hs; rwa [gZ] at this
 rw[rG hk] at hs;cases hs
 have hg:=kG h;obtain⟨n,hn,hkd,hin,hpl,_⟩:=lq h hk;rcases zW hg (g.infos.getD k default).aI _ (fM g k) (Nat.le_refl _) (aK hn) with e | ⟨q,j,m,h1,h2,h3,h4,h5,h6⟩
 ·rw[e]; exact .inl aB
 ·right
  rw[h6];have hi:=hg.infos m (List.mem_of_getElem? h2) h3;obtain⟨inf,e1,e2,_⟩:=ny h (List.mem_of_getElem? h2) h3;have hm:(m.info.toNat:Int)=m.info:=byOmega;refine⟨hi.1,?_,byOmega,?_⟩
  ·rcases Nat.lt_or_ge m.info.toNat k with h7 | h7
   ·show m.info < _; omega
   ·exfalso
    have a1:=wH h h7 byOmega;have a2:=aey h (i:=m.info.toNat) byOmega h2 h3 byOmega;omega
  ·show((j:Nat):Int) < (g.infos.getD m.info.toNat default).actions;rw[List.getD_eq_getElem?_getD,e1];simp only[Option.getD_some];omega
def Ce (cs:List Value) (N:Nat) (T:Nat→Nat→Int×Int):Prop:=cs.length=N*8∧∀ c p,c < N→p < 4→cs[c*8+p*2]? = some (.int .i64 (T c p).1)∧cs[c*8+p*2+1]? = some (.int .i64 (T c p).2)
theorem Ce.zero (N:Nat):Ce (List.replicate (N*8) (.int .i64 0)) N (fun _ _=>(0,0)) :=
 ⟨ay,fun c p hc hp=>⟨by rw[List.getElem?_replicate,if_pos byOmega],by rw[List.getElem?_replicate,if_pos byOmega]⟩⟩
def zX (T:Nat→Nat→Int×Int) (d q:Nat) (x:Int×Int):Nat→Nat→Int×Int:=fun c p=>if c=d∧p=q then x else T c p
def adf (T:Nat→Nat→Int×Int) (d s:Nat):Nat→Nat→Int×Int:=fun c p=>if c=d then T s p else T c p
theorem Ce.put {cs:List Value} {N:Nat} {T:Nat→Nat→Int×Int} (h:Ce cs N T) {d q:Nat} (hd:d < N) (hq:q < 4) (x:Int×Int):Ce ((cs.set (d*8+q*2) (.int .i64 x.1)).set (d*8+q*2+1) (.int .i64 x.2)) N (zX T d q x):=by
 refine⟨by simp[h.1],fun c p hc hp=>?_⟩;obtain⟨h1,h2⟩:=h.2 c p hc hp;have hl:=h.1;unfold zX;by_cases e:c=d∧p=q
 ·obtain⟨rfl,rfl⟩:=e;rw[if_pos ⟨rfl,rfl⟩];refine⟨?_,?_⟩
  ·rw[List.getElem?_set_ne byOmega,List.getElem?_set_self byOmega]
  ·rw[List.getElem?_set_self au]
 ·rw[if_neg e];refine⟨?_,?_⟩
  ·rw[List.getElem?_set_ne byOmega,List.getElem?_set_ne byOmega,h1]
  ·rw[List.getElem?_set_ne byOmega,List.getElem?_set_ne byOmega,h2]
def set8 (cs:List Value) (d:Nat) (a b c e:Int×Int):List Value :=
 (((((((cs.set (d*8) (.int .i64 a.1)).set (d*8+1) (.int .i64 a.2)).set (d*8+2) (.int .i64 b.1)).set (d*8+3) (.int .i64 b.2)).set (d*8+4) (.int .i64 c.1)).set (d*8+5) (.int .i64 c.2)).set (d*8+6) (.int .i64 e.1)).set (d*8+7) (.int .i64 e.2)
theorem Ce.copy {cs:List Value} {N:Nat} {T:Nat→Nat→Int×Int} (h:Ce cs N T) {d s:Nat} (hd:d < N):Ce (set8 cs d (T s 0) (T s 1) (T s 2) (T s 3)) N (adf T d s):=by
 have h0:=((((h.put hd (q:=0) byOmega (T s 0)).put hd (q:=1) byOmega (T s 1)).put hd (q:=2) byOmega (T s 2)).put hd (q:=3) byOmega (T s 3));have e:zX (zX (zX (zX T d 0 (T s 0)) d 1 (T s 1)) d 2 (T s 2)) d 3 (T s 3)=fun c p=>if c=d∧p < 4 then T s p else T c p:=by
  funext c p
  unfold zX;by_cases hc:c=d
  ·by_cases h3:p=3
   ·subst h3; simp[hc]
   by_cases h2:p=2
   ·subst h2; simp[hc]
   by_cases h1:p=1
   ·subst h1; simp[hc]
   by_cases h0:p=0
   ·subst h0; simp[hc]
   rw[if_neg byOmega,if_neg byOmega,if_neg byOmega,if_neg byOmega,if_neg byOmega]
  ·rw[if_neg byOmega,if_neg byOmega,if_neg byOmega,if_neg byOmega,if_neg byOmega]
 rw[e] at h0;refine⟨h0.1,fun c p hc hp=>?_⟩;have h5:=h0.2 c p hc hp;dsimp only at h5;unfold adf;by_cases hcd:c=d
 ·rw[if_pos ⟨hcd,hp⟩] at h5; rw[if_pos hcd]; exact h5
 ·rw[if_neg byOmega] at h5; rw[if_neg hcd]; exact h5
def BO (g:Gm) (i j:Nat) (T:Nat→Nat→Int×Int):Prop:=∀ c,c < g.nodes.length→(c=0∨(∃ (q:Nat) (n:Nd),q < i∧g.nodes[q]? = some n∧(c:Int)∈n.next)∨(∃ (n:Nd) (k:Nat),g.nodes[i]? = some n∧k < j∧n.next[k]? = some (c:Int)))→∀ p:Nat,p < 4→T c p=kP g p c
theorem BO.start {g:Gm} (hg:Good g) {T:Nat→Nat→Int×Int} (h:∀ p,p < 4→T 0 p=(-1,-1)):BO g 0 0 T:=by
 intro c hc hq p hp;rcases hq with rfl | ⟨q,n,h1,_⟩ | ⟨n,k,_,h1,_⟩
 ·rw[h p hp,uT hg]
 ·omega
 ·omega
theorem BO.next {g:Gm} {i:Nat} {n:Nd} {T:Nat→Nat→Int×Int} (h:BO g i n.next.length T) (hn:g.nodes[i]? = some n):BO g (i+1) 0 T:=by
 intro c hc hq p hp;refine h c hc ?_ p hp;rcases hq with rfl | ⟨q,m,h1,h2,h3⟩ | ⟨m,k,_,h1,_⟩
 ·exact .inl rfl
 ·by_cases e:q=i
  ·subst e;rw[hn] at h2; cases h2;obtain⟨k,hk⟩:=List.getElem?_of_mem h3;exact .inr (.inr ⟨n,k,hn,aK hk,hk⟩)
  ·exact .inr (.inl ⟨q,m,byOmega,h2,h3⟩)
 ·omega
theorem BO.done {g:Gm} (hg:Good g) {T:Nat→Nat→Int×Int} (h:BO g g.nodes.length 0 T) {c p:Nat} (hc:c < g.nodes.length) (hp:p < 4):T c p=kP g p c:=by
 refine h c hc ?_ p hp;by_cases h0:c=0
 ·exact .inl h0
 ·obtain⟨q,n,h1,h2,h3⟩:=pI hg byOmega hc;exact .inr (.inl ⟨q,n,byOmega,h2,h3⟩)
theorem BO.self {g:Gm} (hg:Good g) {i j:Nat} {T:Nat→Nat→Int×Int} (h:BO g i j T) (hi:i < g.nodes.length) {p:Nat} (hp:p < 4):T i p=kP g p i:=by
 refine h i hi ?_ p hp;by_cases h0:i=0
 ·exact .inl h0
 ·obtain⟨q,n,h1,h2,h3⟩:=pI hg byOmega hi;exact .inr (.inl ⟨q,n,h1,h2,h3⟩)
theorem BO.kid {g:Gm} (hg:Good g) {i j d:Nat} {n:Nd} {T T':Nat→Nat→Int×Int} (h:BO g i j T) (hn:g.nodes[i]? = some n) (hd:n.next[j]? = some (d:Int))
  (h1:∀ c p,c≠d→T' c p=T c p) (h2:∀ p:Nat,p < 4→T' d p=if n.kind=2∧n.aI=(p:Int) then (n.info,(j:Int)) else T i p):BO g i (j+1) T':=by
 intro c hc hq p hp;by_cases e:c=d
 ·subst e;rw[h2 p hp,aa7 hg hn hd,h.self hg (aK hn) hp]
 ·rw[h1 c p e];refine h c hc ?_ p hp;rcases hq with h3 | h3 | ⟨m,k,h3,h4,h5⟩
  ·exact .inl h3
  ·exact .inr (.inl h3)
  ·rw[hn] at h3; cases h3;by_cases e2:k=j
   ·subst e2; rw[hd] at h5; cases h5; exact absurd rfl e
   ·exact .inr (.inr ⟨n,k,hn,byOmega,h5⟩)
def jW (g:Gm) (s m:Nat):Option Nat:=(List.range' m (g.nodes.length - m)).find? (mv g.nodes s)
theorem aaw (g:Gm) (s:Nat):jW g s g.nodes.length=none:=by unfold jW; rw[Nat.sub_self]; rfl
theorem rH (g:Gm) (s m:Nat) (hm:m < g.nodes.length):jW g s m=if mv g.nodes s m then some m else jW g s (m+1):=by
 unfold jW;rw[show g.nodes.length - m=(g.nodes.length - (m+1))+1 by omega,List.range'_succ,List.find?_cons];cases mv g.nodes s m <;> rfl
theorem zY {g:Gm} (h:aY g=0) {s:Nat} (hs:s < g.infos.length):jW g s 0=some (fM g s):=by
 obtain⟨h2,_,_⟩:=oP h hs;obtain⟨_,_,_,_,_,hne,h6⟩:=lq h hs;rw[h2] at hne h6;unfold jW;rw[Nat.sub_zero,← List.range_eq_range',← List.head?_filter];unfold bY at hne h6;cases hl:(List.range g.nodes.length).filter (mv g.nodes s) with
 | nil=>rw[hl] at hne; exact absurd rfl hne
 | cons x t =>
  rw[hl] at h6;have h7:((x:Nat):Int)=(fM g s:Int):=h6;show some x=_;congr 1
  omega
def BJ (g:Gm) (m:Nat) (O:List (Int×Int)):Prop:=O.length=g.infos.length∧∀ s,s < g.infos.length→O[s]? = some (match jW g s m with | some c=>kP g (g.infos.getD s default).aI c | none=>(0,0))
theorem BJ.start (g:Gm):BJ g g.nodes.length (List.replicate g.infos.length (0,0)) :=
 ⟨ay,fun s hs=>by rw[aaw,List.getElem?_replicate,if_pos hs]⟩
theorem BJ.skip {g:Gm} {m:Nat} {n:Nd} {O:List (Int×Int)} (h:BJ g (m+1) O) (hn:g.nodes[m]? = some n) (hk:n.kind≠2):BJ g m O:=by
 refine⟨h.1,fun s hs=>?_⟩;have:mv g.nodes s m=false:=by unfold mv; rw[hn]; simp[hk]
 rw[rH g s m (aK hn),this];exact h.2 s hs
theorem BJ.put {g:Gm} {m s:Nat} {n:Nd} {O:List (Int×Int)} (h:BJ g (m+1) O) (hn:g.nodes[m]? = some n) (hk:n.kind=2) (hs:n.info=(s:Int)) (hsl:s < g.infos.length) (x:Int×Int) (hx:x=kP g (g.infos.getD s default).aI m):BJ g m (O.set s x):=by
 refine⟨by rw[List.length_set]; exact h.1,fun s' hs'=>?_⟩;rw[rH g s' m (aK hn)];by_cases e:s'=s
 ·subst e;have:mv g.nodes s' m=true:=by unfold mv; rw[hn]; simp[hk,hs]
  rw[this,List.getElem?_set_self (by rw[h.1]; exact hsl),if_pos rfl,hx]
 ·have:mv g.nodes s' m=false:=by unfold mv; rw[hn]; simp[hk,hs]; exact Ne.symm e
  rw[this,List.getElem?_set_ne (Ne.symm e)];exact h.2 s' hs'
theorem BJ.done {g:Gm} (hf:aY g=0) {O:List (Int×Int)} (h:BJ g 0 O):O=dM g:=by
 refine List.ext_getElem? fun i=>?_
 by_cases hi:i < g.infos.length
 ·rw[h.2 i hi,zY hf hi,rG hi]
 ·rw[List.getElem?_eq_none (by rw[h.1]; omega),List.getElem?_eq_none (by rw[gZ]; omega)]
def kM (g:Gm) (k:Nat):Bool:=(List.range k).all fun p=>wF g (p:Int)
theorem qg (g:Gm) (k:Nat):kM g (k+1)=(kM g k&&wF g (k:Int)):=by unfold kM; rw[List.range_succ,List.all_append]; simp
theorem uh {g:Gm} {k:Nat} (h:kM g k=false) {m:Nat} (hm:k≤m):kM g m=false:=by
 induction m with
 | zero =>
  obtain rfl:k=0:=byOmega;exact h
 | succ m ih =>
  by_cases e:k=m+1
  ·subst e; exact h
  ·rw[qg,ih byOmega,Bool.false_and]
def oQ (g:Gm):Int:=if kM g g.aA.toNat then 0 else 13
def jg (g:Gm):List (Int×Int):=if kM g g.aA.toNat then dM g else []
def rJ (p:List (List Rat)) (s:Int×Int):Rat:=if s.1 < 0 then 1 else (p.getD s.1.toNat []).getD s.2.toNat 0
def eF (up:List (Int×Int)) (m:List (List Rat)):Nat→List (List Rat)
 | 0=>[]
 | k+1=>eF up m k ++ [(m.getD k []).map fun x=>rJ (eF up m k) (up.getD k (-1,-1))*x]
def jh (up:List (Int×Int)) (m:List (List Rat)):List (List Rat):=eF up m m.length
theorem fB (up:List (Int×Int)) (m:List (List Rat)):∀ k,(eF up m k).length=k
 | 0=>rfl
 | k+1=>by rw[eF,List.length_append,fB up m k]; rfl
theorem og {up:List (Int×Int)} {m:List (List Rat)} {i:Nat}:∀ {k:Nat},i < k→(eF up m k).getD i []=(m.getD i []).map fun x=>rJ (eF up m i) (up.getD i (-1,-1))*x
 | 0,h=>by omega
 | k+1,h=>by
  rw[eF,List.getD_eq_getElem?_getD];by_cases e:i < k
  ·rw[List.getElem?_append_left (by rw[fB]; exact e),← List.getD_eq_getElem?_getD,og e]
  ·obtain rfl:i=k:=byOmega;rw[List.getElem?_append_right (by rw[fB]; exact Nat.le_refl _),fB,Nat.sub_self]; rfl
structure CP (up:List (Int×Int)) (m:List (List Rat)):Prop where
 len:up.length=m.length
 ok:∀ (k:Nat) (s:Int×Int),up[k]? = some s→s.1 < 0∨(0≤s.1∧s.1 < (k:Int)∧0≤s.2∧s.2 < ((m.getD s.1.toNat []).length:Int))
theorem abP (l:List Rat) (a:Rat) (k:Nat):(l.map fun x=>a*x).getD k 0=a*l.getD k 0:=by
 rw[List.getD_eq_getElem?_getD,List.getD_eq_getElem?_getD,List.getElem?_map];cases l[k]? with
 | none=>simp[Rat.mul_zero]
 | some x=>rfl
theorem aiK {g:Gm} {m:List (List Rat)} (h:iF g (m.map (List.map aG))=0):CP (dM g) m:=by
 have hf:=nV h;obtain⟨hlen,hrows⟩:=zM (xZ h);rw[List.length_map,List.length_map] at hlen;refine⟨by rw[gZ,hlen],fun k s hs=>?_⟩;rcases (aez hf).ok k s hs with h1 | ⟨h1,h2,h3,h4⟩
 ·exact .inl h1
 ·have hk:k < g.infos.length:=by have:=aK hs; rwa [gZ] at this
  obtain⟨inf,hi⟩:=aC (l:=g.infos) (k:=s.1.toNat) byOmega;obtain⟨l,hl⟩:=aC (l:=m) (k:=s.1.toNat) byOmega;have hr:=hrows s.1.toNat inf.actions (l.map aG) (by rw[List.getElem?_map,hi]; rfl) (by rw[List.getElem?_map,hl]; rfl);have hll:=(yL hr).1;rw[List.length_map] at hll;rw[List.getD_eq_getElem?_getD,hi] at h4;refine .inr ⟨h1,h2,h3,?_⟩;rw[List.getD_eq_getElem?_getD,hl];simp only[Option.getD_some] at h4 ⊢;omega
theorem ahu {m:List (List Rat)} (h:BK (m.map (List.map aG))):∀ l∈m,∀ x∈l,rl x≤4:=fun l hl x hx =>
 Nat.max_le.2 (h (l.map aG) (List.mem_map_of_mem hl) (aG x) (List.mem_map_of_mem hx))
def ofE (g:Gm) (mr:List (List Raw)):Int:=if iF g mr≠0 then iF g mr else oQ g
def adg (g:Gm) (mr:List (List Raw)):List (List Raw):=if ofE g mr≠0 then [] else (jh (dM g) (mr.map (List.map qR))).map (List.map aG)
theorem aeY (m:List (List Rat)):(m.map (List.map aG)).map (List.map qR)=m:=by
 rw[List.map_map];conv=>rhs; rw[← List.map_id m]
 refine List.map_congr_left fun l _=>?_
 show(l.map aG).map qR=l;rw[List.map_map];conv=>rhs; rw[← List.map_id l]
 exact List.map_congr_left fun x _=>vK x
theorem af2 {up:List (Int×Int)} {m:List (List Rat)} (hf:CP up m) (hm:∀ l∈m,∀ x∈l,rl x≤4) (hrl:∀ k,k≤m.length→∀ s:Int×Int,(s.1 < 0∨s.1 < (k:Int))→rl (rJ (eF up m k) s)≤1+4*k) (hl:∀ l∈m,l.length≤1000) :
  ∀ l∈jh up m,l.length≤1000∧∀ x∈l,rl x≤5+4*m.length:=by
 intro l hl';obtain⟨k,hk⟩:=List.getElem?_of_mem hl';have hkm:k < m.length:=by have:=aK hk; unfold jh at this; rwa [fB] at this
 obtain⟨row,hrow⟩:=aC (l:=m) (k:=k) hkm;obtain⟨s,hs⟩:=aC (l:=up) (k:=k) (by rw[hf.len]; exact hkm);have e:(jh up m).getD k []=l:=by rw[List.getD_eq_getElem?_getD,hk]; rfl
 have e2:m.getD k []=row:=by rw[List.getD_eq_getElem?_getD,hrow]; rfl
 have e3:up.getD k (-1,-1)=s:=by rw[List.getD_eq_getElem?_getD,hs]; rfl
 unfold jh at e;rw[og hkm,e2,e3] at e;subst e;have h1:=hrl k byOmega s (by have:=hf.ok k s hs; omega);refine⟨by rw[List.length_map]; exact hl row (List.mem_of_getElem? hrow),fun x hx=>?_⟩;obtain⟨y,hy,rfl⟩:=List.mem_map.1 hx;have h2:=hm row (List.mem_of_getElem? hrow) y hy;have h3:=abh (rJ (eF up m k) s) y;omega
theorem zZ (g:Gm):(oQ g=0∧jg g=dM g)∨oQ g≠0:=by
 unfold oQ jg;split
 ·exact .inl ⟨rfl,rfl⟩
 ·exact .inr aB
structure Ci (w:World) (N0 p:Nat) (g:Gm) (b o c:Nat) (Ai:Option Addr) (ci bp:Nat):Prop where
 hp:p < N0
 hb:b < N0
 hbp:bp < N0
 size:N0≤w.heap.size
 c0:w.cell? ⟨p,0,none⟩=some (.int .i64 g.aA)
 c1:w.cell? ⟨p,1,none⟩=some (.slice (some ⟨b,o,none⟩) g.nodes.length c)
 c2:w.cell? ⟨p,2,none⟩=some (.slice Ai g.infos.length ci)
 c3:w.cell? ⟨p,3,none⟩=some (.slice (some ⟨bp,0,none⟩) g.nodes.length g.nodes.length)
 node:∀ k n,g.nodes[k]? = some n→CJ w (fun b=>b < N0) b (o+k*6) n
 par:∀ (k:Nat) (x:Int),(dD g.nodes)[k]? = some x→w.cell? ⟨bp,k,none⟩=some (.int .i64 x)
 info:AU w (fun b=>b < N0) (.slice Ai g.infos.length ci) g.infos
theorem Below.aiX {N0:Nat} {w w':World} (h:Below N0 w w'):Same (fun b=>b < N0) w w':=⟨h.size,fun b hb _=>h.block b hb⟩
theorem Ci.below {w w':World} {N0 p:Nat} {g:Gm} {b o c:Nat} {Ai:Option Addr} {ci bp:Nat} (h:Ci w N0 p g b o c Ai ci bp) (k:Below N0 w w'):Ci w' N0 p g b o c Ai ci bp :=
 have hs:=Below.aiX k;have hz:=h.size;⟨h.hp,h.hb,h.hbp,Nat.le_trans h.size k.size,(aN k _ _ h.hp).trans h.c0,(aN k _ _ h.hp).trans h.c1,(aN k _ _ h.hp).trans h.c2,(aN k _ _ h.hp).trans h.c3,
  fun j n hn=>(h.node j n hn).keep (fun _ h _=>h) hs h.hb (Nat.lt_of_lt_of_le h.hb hz),fun j x hx=>(aN k _ _ h.hbp).trans (h.par j x hx),h.info.on hs⟩
def af4 (g:Gm) (i:Nat):Nd:=g.nodes.getD i default
def oh (g:Gm) (pl:Int) (q c:Nat):List (Nat×Nat):=if (af4 g q).kind=2∧(af4 g q).aI=pl then [(q,(af4 g q).next.idxOf (c:Int))] else []
def iV (g:Gm) (pl:Int):Nat→Nat→List (Nat×Nat)
 | 0,_=>[]
 | f+1,c=>match (dD g.nodes)[c]? with
  | some p=>if 0≤p then oh g pl p.toNat c++iV g pl f p.toNat else []
  | none=>[]
def ji (g:Gm) (pl:Int) (c:Nat):List (Nat×Nat):=iV g pl g.nodes.length c
theorem lY {g:Gm} (hg:Good g) {pl:Int}:∀ f,iV g pl f 0 = []
 | 0=>rfl
 | f+1=>by
  obtain⟨p,hp,h | ⟨q,n,_,h,_⟩⟩:=hg.par hg.pos
  ·rw[iV,hp]; simp only; rw[if_neg byOmega]
  ·omega
theorem lZ {g:Gm} {pl:Int} {f c q:Nat} (hp:(dD g.nodes)[c]? = some (q:Int)):iV g pl (f+1) c=oh g pl q c++iV g pl f q:=by
 rw[iV,hp];simp only;rw[if_pos byOmega,Int.toNat_natCast]
def iG (g:Gm) (x:Nat×Nat):Int×Int:=((af4 g x.1).info,(x.2:Int))
theorem rM {g:Gm} {q:Nat} {n:Nd} (hn:g.nodes[q]? = some n):af4 g q=n:=by unfold af4; rw[List.getD_eq_getElem?_getD,hn]; rfl
theorem yw {g:Gm} (hg:Good g) {pl:Int}:∀ (f c:Nat),c < g.nodes.length→(iV g pl f c).map (iG g)=iU g pl f c
 | 0,_,_=>rfl
 | f+1,c,hc=>by
  obtain⟨p,hp,h0 | ⟨q,n,rfl,hq,hn,hm⟩⟩:=hg.par hc
  ·rw[h0.1,lY hg,gq hg]; rfl
  ·rw[lZ hp,jm hg hc hp hn,List.map_append,yw hg f q byOmega];congr 1
   unfold oh;rw[rM hn];by_cases hk:n.kind=2∧n.aI=pl
   ·have hj:n.next[n.next.idxOf (c:Int)]? = some (c:Int):=by
     have hl:=List.idxOf_lt_length_of_mem hm;rw[List.getElem?_eq_getElem hl,List.getElem_idxOf hl]
    rw[if_pos hk,yu hg hn hk hj];show[iG g _]=_;unfold iG;rw[rM hn]
   ·rw[if_neg hk,kH hk]; rfl
theorem aeA {g:Gm} (hg:Good g) {pl:Int} {c:Nat} (hc:c < g.nodes.length):((ji g pl c).map (iG g)).reverse=iR g pl c:=by
 unfold ji iR; rw[yw hg _ _ hc]
theorem uU {g:Gm} (hg:Good g) {pl:Int}:∀ (f c:Nat),c < g.nodes.length→∀ x∈iV g pl f c,x.1 < g.nodes.length
 | 0,_,_,x,h=>by cases h
 | f+1,c,hc,x,h=>by
  obtain⟨p,hp,h0 | ⟨q,n,rfl,hq,hn,hm⟩⟩:=hg.par hc
  ·rw[h0.1,lY hg] at h; cases h
  ·rw[lZ hp] at h;rcases List.mem_append.1 h with h | h
   ·unfold oh at h;split at h
    ·rw[List.mem_singleton.1 h]; exact aK hn
    ·cases h
   ·exact uU hg f q byOmega x h
theorem yA {g:Gm} (hg:Good g) {pl:Int}:∀ (f c:Nat),c < g.nodes.length→(iV g pl f c).length≤c
 | 0,_,_=>Nat.zero_le _
 | f+1,c,hc=>by
  obtain⟨p,hp,h0 | ⟨q,n,rfl,hq,hn,hm⟩⟩:=hg.par hc
  ·rw[h0.1,lY hg]; exact Nat.zero_le _
  ·have h1:=yA hg (pl:=pl) f q byOmega;have h2:(oh g pl q c).length≤1:=by unfold oh; split <;> simp
   rw[lZ hp,List.length_append]; omega
structure D8 (N0:Nat) (fid:FuncId) (caps:Array Value) (all:List (Nat×Nat)) (J Jx:List (Nat×Nat)→World→Prop):Prop where
 enters:∀ (args:Array Value) (w':World),(callFunc fid args).run Tryz.prog w' = .ok (.enter fid args) w'
 calls:∀ (pre:List (Nat×Nat)) (x:Nat×Nat) (W:World),(∃ rest,pre++x :: rest=all)→J pre W→Calls Tryz.prog fid (#[.int .i64 (x.1:Int),.int .i64 (x.2:Int)]++caps) W fun e W'=>Below N0 W W'∧((e = .returned (.bool true)∧J (pre ++ [x]) W')∨(e = .returned (.bool false)∧Jx (pre ++ [x]) W'))
 keep:∀ (pre:List (Nat×Nat)) (W W':World),J pre W→Below W.heap.size W W'→J pre W'
theorem aa8 (w:World) (N0 p:Nat) (g:Gm) (b o c:Nat) (Ai:Option Addr) (ci bp:Nat) (node:Nat) (pl:Int) (fid:FuncId) (caps:Array Value) (J Jx:List (Nat×Nat)→World→Prop)
  (hw:Ci w N0 p g b o c Ai ci bp) (hgd:Good g) (hsm:Small g) (hno:node < g.nodes.length) (hse:D8 N0 fid caps (ji g pl node) J Jx) (h0:J [] w) :
  Calls Tryz.prog 206 #[.pointer (some ⟨p,0,none⟩),.int .i64 (node:Int),.int .i64 pl,.func (.func fid) #[] caps] w fun e w'=>e = .returned (.tuple #[])∧Below N0 w w'∧(J (ji g pl node) w'∨∃ pre,Jx pre w'):=by
 have hcf:=hse.enters;have HSE:=Ae hse; have HGD:=Ae hgd; have HSM:=Ae hsm; have HW:=Ae hw; have HJ0:=Ae h0;have hn100:=hsm.nodes;clear hse hgd hsm h0;obtain⟨x0,hx0,aiL⟩:=HGD.out.par hno;have e0:=hw.par node x0 hx0;have c3:=hw.c3;have HX0:=Ae hx0;clear hx0 aiL hw;go_in
 go_wp2_with fail
 go_loopw [1,8] (fun nv av wr=>∃ (ch f:Nat) (at':Int) (pre:List (Nat×Nat)),ch < g.nodes.length∧ch≤f∧nv = .int .i64 (ch:Int)∧av = .int .i64 at'∧(dD g.nodes)[ch]? = some at'∧pre++iV g pl f ch=ji g pl node∧J pre wr∧Below N0 w wr) (fun nv _ _=>(intOf nv).toNat)
 case atStart=>exact⟨node,g.nodes.length,x0,[],hno,byOmega,rfl,rfl,HX0.out,rfl,HJ0.out,Below.refl _ _⟩
 case round =>
  clear e0 c3;obtain⟨ch,f,at',pre,hch,aiJ,rfl,rfl,hpar,hpre,hJ,hB⟩:=hrel;obtain⟨wa,rfl⟩:=named wr;have HWA:=Ae (HW.out.below hB);have HPRE:=Ae hpre; have HJ:=Ae hJ; have HPAR:=Ae hpar;have HB:=Ae hB;clear hpre hJ hB;obtain⟨p',hp',hcase⟩:=HGD.out.par hch;rw[hpar] at hp';cases hp'
  clear hpar;rcases hcase with⟨rfl,rfl⟩ | ⟨q,n,rfl,hq,hn,hm⟩
  ·have HE:=Ae (show pre=ji g pl node by have:=HPRE.out; rwa [lY HGD.out,List.append_nil] at this);go_wp2
   go_end0
   exact⟨rfl,HB.out,.inl (by rw[← HE.out]; exact HJ.out)⟩
  ·obtain⟨f',rfl⟩:∃ k,f=k+1:=⟨f - 1,byOmega⟩;have hws:=HPRE.out;rw[lZ HPAR.out] at hws;have HWS:=Ae hws;have hne:=HWA.out.node q n hn;have n0:=hne.c0; have n1:=hne.c1; have n2:=hne.c2;obtain⟨v3,n3,h3⟩:=hne.c3;obtain⟨v4,n4,h4⟩:=hne.c4;obtain⟨v5,n5,h5⟩:=hne.c5;have H3:=Ae h3;obtain⟨A3,c3,rfl,_,_⟩:=h3;obtain⟨A4,c4,rfl,_,_⟩:=h4;obtain⟨A5,c5,rfl,_,_⟩:=h5;have c1:=HWA.out.c1;have hqN:=aK hn;have HM:=Ae hm; have HN:=Ae hn;have hnx:=HSM.out.next n (List.mem_of_getElem? hn);obtain⟨xq,hxq⟩:=aC (l:=dD g.nodes) (k:=q) (by rw[fD]; exact hqN);have ep:=HWA.out.par q xq hxq;have c3':=HWA.out.c3;have HXQ:=Ae hxq;obtain⟨W1,hW1,rn,hb,hz1⟩:=aO wa 61 #[.int .i64 n.kind,.int .i64 n.aI,.int .i64 n.info,.slice A3 n.next.length c3,.slice A4 n.weights.length c4,.slice A5 n.pay.length c5];have hbN:Below N0 wa W1:=hb.mono HWA.out.size;have HB1:=Ae (HB.out.trans hbN);have HJ1:=Ae (HSE.out.keep _ _ _ HJ.out hb);have ep1:=ah ep hb; have c31:=ah c3' hb;have H31:=Ae (H3.out.on (Below.same' hb _));clear hne hws hm hn hxq hz1;by_cases hk:n.kind=2∧n.aI=pl
   case neg =>
    have HE:=Ae (show pre++iV g pl f' q=ji g pl node by have:=HWS.out; unfold oh at this; rw[rM HN.out,if_neg hk] at this; exact this);by_cases hk2:n.kind=2
    case neg =>
     have t1:(n.kind==2)=false:=by simpa using hk2
     clear hk hk2;go_wp2_with fail
     rw[← hW1];clear c1 c3' ep n0 n1 n2 n3 n4 n5 rn hW1;go_quiet (fail)
     go_wp2
     go_roundw
     case rel=>exact⟨q,f',xq,pre,hqN,byOmega,rfl,rfl,HXQ.out,by rw[show pre=pre from rfl]; exact HE.out,HSE.out.keep _ _ _ HJ1.out (aH (Below.refl _ _) _),aH HB1.out _⟩
     case measure=>simp[intOf]; omega
    have t1:(n.kind==2)=true:=by simp[hk2]
    have t2:(n.aI==pl)=false:=by simp; exact fun e=>hk ⟨hk2,e⟩
    clear hk hk2;go_wp2_with fail
    rw[← hW1];clear c1 c3' ep n0 n1 n2 n3 n4 n5 rn hW1;go_quiet (fail)
    go_wp2
    go_roundw
    case rel=>exact⟨q,f',xq,pre,hqN,byOmega,rfl,rfl,HXQ.out,by rw[show pre=pre from rfl]; exact HE.out,HSE.out.keep _ _ _ HJ1.out (aH (Below.refl _ _) _),aH HB1.out _⟩
    case measure=>simp[intOf]; omega
   have t1:(n.kind==2)=true:=by simp[hk.1]
   have t2:(n.aI==pl)=true:=by simp[hk.2]
   have HE:=Ae (show(pre ++ [(q,n.next.idxOf (ch:Int))])++iV g pl f' q=ji g pl node by have:=HWS.out; unfold oh at this; rw[rM HN.out,if_pos hk,← List.append_assoc] at this; exact this);clear hk;go_wp2_with fail
   rw[← hW1];clear hW1;refine(aaJ W1 _ _ n.next (ch:Int) H31.out byOmega).mono ?_;rintro e w2 ⟨rfl,rfl⟩;rw[if_pos HM.out];dsimp only;go_wp2_with fail
   refine(HSE.out.calls pre (q,n.next.idxOf (ch:Int)) w2 ⟨iV g pl f' q,by rw[← HE.out,List.append_assoc]; rfl⟩ HJ1.out).mono ?_;have HWB:=Ae (HWA.out.below hbN);clear c1 c3' ep n0 n1 n2 n3 n4 n5 rn ep1 c31;rintro e w3 ⟨hb3,⟨rfl,hJ3⟩ | ⟨rfl,hJ3⟩⟩
   ·have HW3:=Ae (HWB.out.below hb3);have ep:=HW3.out.par q xq HXQ.out;have c3:=HW3.out.c3;have HJ3:=Ae hJ3; have HB3:=Ae (HB1.out.trans hb3);clear hJ3 hb3 hb hbN;dsimp only;go_wp2_with fail
    go_quiet (fail)
    go_wp2
    go_roundw
    case rel=>exact⟨q,f',xq,pre ++ [(q,n.next.idxOf (ch:Int))],hqN,byOmega,rfl,rfl,HXQ.out,HE.out,HSE.out.keep _ _ _ HJ3.out (aH (Below.refl _ _) _),aH HB3.out _⟩
    case measure=>simp[intOf]; omega
   ·have HJ3:=Ae hJ3; have HB3:=Ae (HB1.out.trans hb3);clear hJ3 hb3 hb hbN;dsimp only;go_wp2
    refine bodyPost_ret (results_none rfl _ _ _) rfl ?_;exact⟨rfl,HB3.out,.inr ⟨_,HJ3.out⟩⟩
theorem adh (w:World) (F:Ah) (v1 v2:Value) (l1 l2:List (Int×Int)) (h1:Az w F v1 l1) (h2:Az w F v2 l2) (hb1:l1.length≤1000000) :
  Calls Tryz.prog 230 #[v1,v2] w (Ret w fun v _=>v = .bool (decide (l1=l2))):=by
 have H1:=Ae h1; have H2:=Ae h2;obtain⟨A1,c1,rfl,hc1,hx1⟩:=h1;obtain⟨A2,c2,rfl,hc2,hx2⟩:=h2;have HX1:=Ae hx1; have HX2:=Ae hx2;clear hx1 hx2;by_cases q0:l1.length=l2.length
 case neg =>
  have d0:((l1.length:Int) != (l2.length:Int))=true:=au;have HF:=Ae (show decide (l1=l2)=false by simp only[decide_eq_false_iff_not]; rintro rfl; exact q0 rfl);go_in
  go_wp2
  go_ret;exact⟨_,rfl,Below.refl _ _,by rw[HF.out]; rfl⟩
 have d0:((l1.length:Int) != (l2.length:Int))=false:=au;have Q0:=Ae q0; clear q0;go_in
 go_wp2
 go_loopw [13] (fun i wr=>∃ k:Nat,k≤l1.length∧i = .int .i64 k∧l1.take k=l2.take k∧Below w.heap.size w wr) (fun i _=>l1.length - (intOf i).toNat)
 case atStart=>exact⟨0,byOmega,rfl,ay,Below.refl _ _⟩
 case round =>
  obtain⟨k,hk,rfl,hpre,hbel⟩:=hrel;have HP:=Ae hpre; clear hpre;by_cases hlt:k < l1.length
  ·have hk2:k < l2.length:=by have:=Q0.out; omega
   obtain⟨⟨xp,xa⟩,hr1⟩:=aC hlt;obtain⟨⟨yp,ya⟩,hr2⟩:=aC hk2;obtain⟨b1,o1,rfl,_,_,ac8⟩:=HX1.out byOmega;obtain⟨b2,o2,rfl,_,_,yF⟩:=HX2.out byOmega;obtain⟨x0,x1⟩:=ac8 k _ hr1;obtain⟨y0,y1⟩:=yF k _ hr2;replace x0:=ah x0 hbel; replace x1:=ah x1 hbel; replace y0:=ah y0 hbel; replace y1:=ah y1 hbel;dsimp only at x0 x1 y0 y1;have HR1:=Ae hr1; have HR2:=Ae hr2;clear ac8 yF hr1 hr2;by_cases he:xp=yp∧xa=ya
   ·obtain⟨rfl,rfl⟩:=he;have heq:=fun w=>jV w xp xa xp xa
    go_wp2
    go_quiet (fail)
    go_wp2
    go_roundw
    case rel=>exact⟨k+1,byOmega,by go_num,by rw[take_snoc HR1.out,take_snoc HR2.out,HP.out],aH hbel _⟩
    case measure=>simp[intOf]; omega
   ·have HF:=Ae (show decide (l1=l2)=false by
     simp only[decide_eq_false_iff_not]; rintro rfl; have h3:=HR1.out; rw[HR2.out] at h3; cases h3; exact he ⟨rfl,rfl⟩)
    by_cases h1:xp=yp
    ·subst h1;have hne:(xa==ya)=false:=by simp; exact fun h2=>he ⟨rfl,h2⟩
     clear he;have heq:=fun w=>jV w xp xa xp ya
     go_wp2
     go_quiet (fail)
     go_wp2
     go_ret;exact⟨_,rfl,aH hbel _,by rw[HF.out]; rfl⟩
    ·have hne:(xp==yp)=false:=by simp[h1]
     clear he h1;have heq:=fun w=>jV w xp xa yp ya
     go_wp2
     go_quiet (fail)
     go_wp2
     go_ret;exact⟨_,rfl,aH hbel _,by rw[HF.out]; rfl⟩
  ·go_wp2
   go_ret;refine⟨_,rfl,hbel,?_⟩;have h3:=HP.out;have h4:=Q0.out;have h5:l1=l2:=by
    rw[List.take_of_length_le byOmega,List.take_of_length_le byOmega] at h3; exact h3
   simp[h5]
theorem aeB (w:World) (F:Ah) (v1 v2:Value) (l1 l2:List (Int×Int)) (h1:Az w F v1 l1) (h2:Az w F v2 l2) (hb1:l1.length≤1000000) :
  Calls Tryz.prog 208 #[v1,v2] w (Ret w fun v _=>v = .bool (decide (l1=l2))):=by
 have H1:=Ae h1; have H2:=Ae h2;clear h1 h2;go_in
 go_wp2_with fail
 refine(adh w F v1 v2 l1 l2 H1.out H2.out hb1).mono ?_;rintro e w1 ⟨_,rfl,hb,rfl⟩;dsimp only;go_wp2
 go_ret;exact⟨_,rfl,hb,rfl⟩
def BQ (L M:List (Int×Int)) (k:Nat):Prop:=M.length=L.length∧∀ i,i < L.length→M[i]? = if i < k∨L.length≤i+k then L[L.length - 1 - i]? else L[i]?
theorem BQ.start (L:List (Int×Int)):BQ L L 0:=⟨rfl,fun i hi=>by rw[if_neg byOmega]⟩
theorem BQ.done {L M:List (Int×Int)} {k:Nat} (h:BQ L M k) (hk:L.length≤2*k+1):M=L.reverse:=by
 refine List.ext_getElem? fun i=>?_
 by_cases hi:i < L.length
 ·rw[h.2 i hi,List.getElem?_reverse hi];split
  ·rfl
  ·rw[show L.length - 1 - i=i by omega]
 ·rw[List.getElem?_eq_none (by rw[h.1]; omega),List.getElem?_eq_none (by rw[List.length_reverse]; omega)]
theorem BQ.step {L M:List (Int×Int)} {k:Nat} {x y:Int×Int} (h:BQ L M k) (hk:2*k+1 < L.length) (hx:M[k]? = some x) (hy:M[L.length - 1 - k]? = some y):BQ L ((M.set k y).set (L.length - 1 - k) x) (k+1):=by
 refine⟨by rw[List.length_set,List.length_set,h.1],fun i hi=>?_⟩;have e1:=h.2 k byOmega;rw[if_neg byOmega,hx] at e1;have e2:=h.2 (L.length - 1 - k) byOmega;rw[if_neg byOmega,hy] at e2;by_cases h1:i=L.length - 1 - k
 ·subst h1;rw[List.getElem?_set_self (by rw[List.length_set,h.1]; omega),if_pos byOmega,show L.length - 1 - (L.length - 1 - k)=k by omega,← e1]
 ·rw[List.getElem?_set_ne (Ne.symm h1)];by_cases h2:i=k
  ·subst h2;rw[List.getElem?_set_self (by rw[h.1]; omega),if_pos byOmega,← e2]
  ·rw[List.getElem?_set_ne (Ne.symm h2),h.2 i hi];by_cases h3:i < k∨L.length≤i+k
   ·rw[if_pos h3,if_pos byOmega]
   ·rw[if_neg h3,if_neg byOmega]
def kQ (L:List (Int×Int)):List Value:=L.flatMap nY.cells
theorem sJ {L:List (Int×Int)} {rest:List Value} {i:Nat} {x:Int×Int} (h:L[i]? = some x):(kQ L++rest)[i*2]? = some (.int .i64 x.1)∧(kQ L++rest)[i*2+1]? = some (.int .i64 x.2):=by
 induction L generalizing i with
 | nil=>simp at h
 | cons y L ih =>
  cases i with
  | zero=>simp at h; subst h; exact⟨rfl,rfl⟩
  | succ i =>
   have:=ih (i:=i) (by simpa using h);rw[show(i+1)*2=i*2+1+1 by omega];exact this
theorem xG {L:List (Int×Int)} {rest:List Value} {i:Nat} (h:i < L.length) (x:Int×Int):((kQ L++rest).set (i*2) (.int .i64 x.1)).set (i*2+1) (.int .i64 x.2)=kQ (L.set i x)++rest:=by
 induction L generalizing i with
 | nil=>simp at h
 | cons y L ih =>
  cases i with
  | zero=>rfl
  | succ i =>
   have:=ih (i:=i) (by simpa using h);rw[show(i+1)*2=i*2+1+1 by omega];show _ :: _ :: ((kQ L++rest).set (i*2) _).set (i*2+1) _=_ :: _ :: (kQ (L.set i x)++rest);rw[this]
theorem adi (w:World) (g cap:Nat) (L:List (Int×Int)) (rest:List Value) (hr:Row w g 188 (kQ L++rest)) (hl:L.length≤100000) (hc:L.length≤cap) :
  Calls Tryz.prog 229 #[.slice (some ⟨g,0,none⟩) L.length cap] w fun e w'=>e = .returned (.tuple #[])∧Row w' g 188 (kQ L.reverse++rest)∧Wrote (fun b=>b=g) w w':=by
 obtain⟨n,hn⟩:=named L.length;rw[← hn] at hl hc ⊢;have HN:=Ae hn; have HR:=Ae hr;have hw0:IntKind.i64.wrap ((n:Int) - 1)=(n:Int) - 1:=IntWalk.i64_in _ byOmega;clear hn hr;go_in
 go_wp2_with fail
 go_loopw [2,3] (fun iv jv wr=>∃ (k:Nat) (jz:Int) (M:List (Int×Int)),k≤n∧iv = .int .i64 (k:Int)∧jv = .int .i64 jz∧jz=(n:Int) - 1 - k∧BQ L M k∧Row wr g 188 (kQ M++rest)∧Wrote (fun b=>b=g) w wr) (fun iv _ _=>n - (intOf iv).toNat)
 case atStart=>exact⟨0,(n:Int) - 1,L,Nat.zero_le _,rfl,rfl,byOmega,BQ.start L,HR.out,Wrote.refl _ _⟩
 case round =>
  obtain⟨k,jz,M,hk,rfl,rfl,hjz,hrev,hrow,hwr⟩:=hrel;clear hw0 HR;have HV:=Ae hrev; have HW:=Ae hwr;clear hrev hwr;by_cases hlt:2*k+1 < n
  ·obtain⟨j,hj⟩:∃ j:Nat,j=n - 1 - k:=⟨_,rfl⟩;obtain rfl:jz=(j:Int):=byOmega;have hMl:M.length=n:=by rw[HV.out.1]; exact HN.out.symm
   obtain⟨x,hx⟩:=aC (l:=M) (k:=k) byOmega;obtain⟨y,hy⟩:=aC (l:=M) (k:=j) byOmega;obtain⟨a0,a1⟩:=sJ (rest:=rest) hx;obtain⟨b0,b1⟩:=sJ (rest:=rest) hy;have x0:=hrow.cell a0; have x1:=hrow.cell a1; have y0:=hrow.cell b0; have y1:=hrow.cell b1;have f0:=hrow.frozen (k*2); have f1:=hrow.frozen (k*2+1); have g0:=hrow.frozen (j*2); have g1:=hrow.frozen (j*2+1);have HX:=Ae hx; have HY:=Ae hy; have Bd:=Ae hrow; have HML:=Ae hMl; have HJ:=Ae hj;have t0:decide (k < j)=true:=decide_eq_true byOmega;have hjn:j < n:=byOmega;have hkn:k < n:=byOmega;have hne:k≠j:=byOmega;have hwj:IntKind.i64.wrap ((j:Int) - 1)=(j:Int) - 1:=IntWalk.i64_in _ byOmega;clear hx hy a0 a1 b0 b1 hrow hMl hj hjz;go_wp2_with fail
   go_region
   go_wp2
   go_roundw
   case rel =>
    have hj:=HJ.out; have hML:=HML.out; have hLn:=HN.out;have hr:=((((Bd.out.set (k*2) (.int .i64 y.1)).set (k*2+1) (.int .i64 y.2)).set (j*2) (.int .i64 x.1)).set (j*2+1) (.int .i64 x.2)).drew;rw[xG byOmega y,xG (by rw[List.length_set]; omega) x] at hr;refine⟨k+1,(j:Int) - 1,(M.set k y).set j x,byOmega,by go_num,rfl,byOmega,?_,hr,((((HW.out.setCell (p:=⟨g,k*2,none⟩) (.inl rfl) _).setCell (p:=⟨g,k*2+1,none⟩) (.inl rfl) _).setCell (p:=⟨g,j*2,none⟩) (.inl rfl) _).setCell (p:=⟨g,j*2+1,none⟩) (.inl rfl) _).drew⟩;have h5:=HV.out.step (by rw[← hLn]; omega) HX.out (by rw[← hLn,← hj]; exact HY.out);rwa [← hLn,← hj] at h5
   case measure=>simp[intOf]; omega
  ·have t0:decide ((k:Int) < jz)=false:=decide_eq_false byOmega;have HD:=Ae (HV.out.done (by rw[← HN.out]; omega));go_wp2
   go_end0
   exact⟨rfl,by rw[← HD.out]; exact hrow,HW.out⟩
theorem AO.ah3 {w:World} {base:Nat} {et:TypeId} {F:Ah} {v:Value} {L:List (Int×Int)} (h:AO nY w base et F v L):(v = .slice none 0 0∧L = [])∨∃ g cap rest,v = .slice (some ⟨g,0,none⟩) L.length cap∧base≤g∧L.length≤cap∧Row w g et (kQ L++rest):=by
 rcases h.row.2 with⟨rfl,h0⟩ | ⟨g,cap,cur,rfl,hb,hg,hnc,_,hsz,ht⟩
 ·exact .inl ⟨rfl,List.eq_nil_of_length_eq_zero h0⟩
 ·refine .inr ⟨g,cap,cur.toList.drop (L.length*nY.n),rfl,hb,hnc,?_⟩;unfold Row kQ;rw[hg,← ht,List.take_append_drop]
theorem Row.pairs {w:World} {g:Nat} {et:TypeId} {L:List (Int×Int)} {rest:List Value} (h:Row w g et (kQ L++rest)) {G:Ah} (hG:G g) {c:Nat} (hc:L.length≤c):Az w G (.slice (some ⟨g,0,none⟩) L.length c) L :=
 ⟨_,c,rfl,hc,fun _=>⟨g,0,rfl,hG,h.lt,fun k x hk=>by
  obtain⟨h1,h2⟩:=sJ (rest:=rest) hk;exact⟨by rw[Nat.zero_add]; exact h.cell h1,by rw[Nat.zero_add]; exact h.cell h2⟩⟩⟩
structure CW (w0:World) (N0 p:Nat) (g:Gm) (b o c:Nat) (Ai:Option Addr) (ci bp:Nat) (pre:List (Nat×Nat)) (W:World):Prop where
 wk:Ci W N0 p g b o c Ai ci bp
 low:N0≤w0.heap.size
 box:W.cell? ⟨w0.heap.size,0,none⟩=some (.pointer (some ⟨p,0,none⟩))
 out:∃ ov,Row W (w0.heap.size+1) 186 [ov]∧AO nY W (w0.heap.size+2) 188 (fun _=>False) ov (pre.map (iG g))
 bel:Below w0.heap.size w0 W
theorem CW.below {w0 W W':World} {N0 p:Nat} {g:Gm} {b o c:Nat} {Ai:Option Addr} {ci bp:Nat} {pre:List (Nat×Nat)} (h:CW w0 N0 p g b o c Ai ci bp pre W) (k:Below W.heap.size W W'):CW w0 N0 p g b o c Ai ci bp pre W':=by
 obtain⟨ov,h1,h2⟩:=h.out;exact⟨h.wk.below (k.mono h.wk.size),h.low,ah h.box k,⟨ov,h1.below k h1.lt,h2.below k⟩,h.bel.trans (k.mono h.bel.size)⟩
theorem ahv (w0 W:World) (N0 p:Nat) (g:Gm) (b o c:Nat) (Ai:Option Addr) (ci bp:Nat) (pre:List (Nat×Nat)) (x:Nat×Nat) (n:Nd) (hn:g.nodes[x.1]? = some n) (hp:pre.length≤1000) (hJ:CW w0 N0 p g b o c Ai ci bp pre W) :
  Calls Tryz.prog 228 #[.int .i64 (x.1:Int),.int .i64 (x.2:Int),.pointer (some ⟨w0.heap.size+1,0,none⟩),.pointer (some ⟨w0.heap.size,0,none⟩)] W fun e W'=>Below N0 W W'∧(e = .returned (.bool true)∧CW w0 N0 p g b o c Ai ci bp (pre ++ [x]) W'):=by
 have HJ:=Ae hJ;obtain⟨k,a⟩:=x;have hk:=aK hn;have c1:=hJ.wk.c1;have n2:=(hJ.wk.node k n hn).c2;have hbx:=hJ.box;obtain⟨ov,hrow,hown⟩:=hJ.out;have hcu:=hrow.cell (i:=0) rfl;have hcf:=hrow.frozen 0;have HO:=Ae hown; have HN:=Ae hn;have hz:=hJ.bel.size; have hlow:=hJ.low;have hlt:=hrow.lt;have HUB:=Ae (fun b (e:ov.ownBlock=some b)=>HO.out.row.lt b e);clear hown hJ hn;dsimp only at n2 hk;go_in
 go_wp2_with fail
 refine bW (fun w'=>w'.cell? ⟨w0.heap.size+1,0,none⟩=some ov∧w'.cell? ⟨w0.heap.size,0,none⟩=some (.pointer (some ⟨p,0,none⟩))∧w'.cell? ⟨p,1,none⟩=some (.slice (some ⟨b,o,none⟩) g.nodes.length c)∧w'.cell? ⟨b,o+k*6+2,none⟩=some (.int .i64 n.info)) 14 1 aj rfl aj ?_;have hHeld:(fun w':World=>w'.cell? ⟨w0.heap.size+1,0,none⟩=some ov∧w'.cell? ⟨w0.heap.size,0,none⟩=some (.pointer (some ⟨p,0,none⟩))∧w'.cell? ⟨p,1,none⟩=some (.slice (some ⟨b,o,none⟩) g.nodes.length c)∧w'.cell? ⟨b,o+k*6+2,none⟩=some (.int .i64 n.info)) W.drew:=⟨hcu,hbx,c1,n2⟩;simp only[List.take_succ_cons,List.take_zero];have hb:Below W.heap.size W W.drew:=aH (Below.refl _ W) 1;obtain⟨wn,hwn⟩:=named W.drew;rw[← hwn] at hb hHeld ⊢;replace HO:=Ae (HO.out.below hb);replace HJ:=Ae (HJ.out.below hb);replace hrow:=hrow.below hb hrow.lt;have hB0:=hb.mono (show N0≤W.heap.size by omega);have hz2:=hb.size;obtain⟨hcu,hbx,c1,n2⟩:=id hHeld;clear hb hwn;refine tk0 [0,1,2,3,4,5,6,7,8,9,10,11] ?_;iterate 12 (refine tk (v:=?_) rfl aj aj aj (fun _ _ _ h=>h) (Or.inl ⟨by rfl,?_⟩) hHeld ?_;rotate_left;(focus intro wx hSx;(try dsimp only at hSx);go_split_ands;go_simp;try with_reducible rfl);try simp only[Act.put,lq1,lq2,lq3,lq4,lq5,lq6])
 refine tk1 ?_;refine tk2 12 aj rfl fun K hK=>?_
 go_simp;refine hK.out _ _ ⟨ah hcu ((Below.refl _ _).alloc (Nat.le_refl _) _),ah hbx ((Below.refl _ _).alloc (Nat.le_refl _) _),ah c1 ((Below.refl _ _).alloc (Nat.le_refl _) _),ah n2 ((Below.refl _ _).alloc (Nat.le_refl _) _)⟩ (fun hHeld=>?_);clear hK K;try simp only[Act.put,lq1,lq2,lq3,lq4,lq5,lq6]
 refine tk2 13 aj rfl fun K hK=>?_
 refine nO (K:=nY) (F:=fun _=>False) rfl _ _ 186 188 16 _ Tryz.underlying186 Tryz.infoPair rfl aB rfl (w0.heap.size+2) (by omega:w0.heap.size+2≤wn.heap.size) ov (pre.map (iG g)) rfl (n.info,(a:Int)) _ rfl (by rw[List.length_map]; omega) rfl HO.out trivial (Below.refl _ _) ?_;intro gg cap w5 hown5 qy afW lX;have yj:Row w5 (w0.heap.size+1) _ _:=hrow.of_block (lX.2 _ (fun e=>by have:=(HUB.out _ e).1; omega) hrow.lt);have hpN:=HJ.out.wk.hp; have hbN:=HJ.out.wk.hb;have hne:∀ blk,blk < w0.heap.size+2→ov.ownBlock≠some blk:=fun blk h e=>by have:=(HUB.out _ e).1; omega
 have aeu:=yj.cell (i:=0) rfl; have aiG:=yj.frozen 0;have hbx5:=(World.cell?_of_block (lX.2 w0.heap.size (hne _ byOmega) (World.block_lt_of_cell? _ _ hbx))).trans hbx;have c15:=(World.cell?_of_block (lX.2 p (hne _ byOmega) (World.block_lt_of_cell? _ _ c1))).trans c1;have n25:=(World.cell?_of_block (lX.2 b (hne _ byOmega) (World.block_lt_of_cell? _ _ n2))).trans n2;have hB5:Below N0 wn w5:=qy.mono byOmega;have HB5:=Ae (hB0.trans hB5);have HJ5:=Ae (show ∀ W6,W6=w5.setCell ⟨w0.heap.size+1,0,none⟩ (.slice (some ⟨gg,0,none⟩) ((pre.map (iG g)).length+1) cap)→Below N0 w5 W6∧CW w0 N0 p g b o c Ai ci bp (pre ++ [(k,a)]) W6 from by
  rintro W6 rfl;have hb6:Below w0.heap.size w5 (w5.setCell ⟨w0.heap.size+1,0,none⟩ (.slice (some ⟨gg,0,none⟩) ((pre.map (iG g)).length+1) cap)):=(Below.refl _ _).setCell (p:=⟨w0.heap.size+1,0,none⟩) ay _;have e:(pre ++ [(k,a)]).map (iG g)=pre.map (iG g) ++ [(n.info,(a:Int))]:=by
   rw[List.map_append];show _ ++ [iG g (k,a)]=_;unfold iG;rw[rM HN.out]
  refine⟨hb6.mono hlow,(HJ.out.wk.below hB5).below (hb6.mono hlow),hlow,(aN (((Below.refl (w0.heap.size+1) w5).setCell (p:=⟨w0.heap.size+1,0,none⟩) (Nat.le_refl _) _)) _ _ byOmega).trans hbx5,⟨_,yj.set 0 _,?_⟩,(HJ.out.bel.trans (qy.mono byOmega)).trans hb6⟩;rw[e];exact hown5.same (Same.setCell _ w5 (p:=⟨w0.heap.size+1,0,none⟩) (fun h=>h.elim id fun h=>by have h:w0.heap.size+2≤w0.heap.size+1:=h; omega) _))
 clear hown5 qy afW lX hcu hbx c1 n2 hrow yj hB5 hB0;refine hK.out _ _ ⟨aeu,hbx5,c15,n25⟩ (fun hHeld=>?_);clear hK K;try simp only[Act.put,lq1,lq2,lq3,lq4,lq5,lq6]
 refine wpAnyH_done aj ?_ _;clear hHeld;show wpList _ _ _ _ _ _;go_wp2
 unfold Bv;show Exit.then _ _ .normal _ _;go_wp2
 go_ret;obtain⟨h1,h2⟩:=HJ5.out _ (by rw[List.length_map]);exact⟨HB5.out.trans h1,rfl,h2⟩
theorem reverse_nil (w:World):Calls Tryz.prog 229 #[.slice none 0 0] w fun e w'=>e = .returned (.tuple #[])∧w'=w:=by
 have hw0:IntKind.i64.wrap ((0:Int) - 1) = -1:=by rfl
 go_in
 go_wp2_with fail
 go_loopw [2,3] (fun iv jv wr=>iv = .int .i64 0∧jv = .int .i64 (-1)∧wr=w) (fun _ _ _=>0)
 case atStart=>exact⟨rfl,rfl,rfl⟩
 case round =>
  obtain⟨rfl,rfl,rfl⟩:=hrel;go_wp2
  go_end0
  exact⟨rfl,rfl⟩
theorem adk (w:World) (N0 p:Nat) (g:Gm) (b o c:Nat) (Ai:Option Addr) (ci bp:Nat) (node:Nat) (pl:Int) (hw:Ci w N0 p g b o c Ai ci bp) (hgd:Good g) (hsm:Small g) (hno:node < g.nodes.length) :
  Calls Tryz.prog 205 #[.pointer (some ⟨p,0,none⟩),.int .i64 (node:Int),.int .i64 pl] w (Ret w fun u w'=>Az w' (fun b=>w.heap.size≤b) u (iR g pl node)):=by
 have hmf:∀ (fn:Fn) (first cap:Array Value) (w:World),(Instr.makeFunc fn first cap).run Tryz.prog w = .ok (.func fn first cap) w:=fun _ _ _ _=>rfl
 have HW:=Ae hw; have HGD:=Ae hgd; have HSM:=Ae hsm;have hn100:=hsm.nodes;have HWL:=Ae (aeA hgd (pl:=pl) hno);have HLN:=Ae (show(ji g pl node).length≤1000 from by have:=yA hgd (pl:=pl) g.nodes.length node hno; unfold ji; omega);clear hw hgd hsm;go_in
 go_wp2_with fail
 obtain⟨W,hW,rx,ry,hB,hz⟩:=alloc2 w 173 #[.pointer (some ⟨p,0,none⟩)] 186 #[.slice none 0 0];rw[← hW];clear hW;have HJ0:=Ae (show CW w N0 p g b o c Ai ci bp [] W from⟨HW.out.below (hB.mono HW.out.size),HW.out.size,rx.cell (i:=0) rfl,⟨_,ry,AO.nil _ _ _ _ _⟩,hB⟩);have HSE:=Ae (show D8 N0 228 #[.pointer (some ⟨w.heap.size+1,0,none⟩),.pointer (some ⟨w.heap.size,0,none⟩)] (ji g pl node) (CW w N0 p g b o c Ai ci bp) (fun _ _=>False) from
  ⟨enters Tryz.func228 (by decide +kernel) (by decide +kernel),fun pre x W ⟨rest,he⟩ hJ=>by
   have hx:x∈ji g pl node:=by rw[← he]; simp
   obtain⟨n,hn⟩:=aC (uU HGD.out _ _ hno x hx);have hl:pre.length≤1000:=by have h1:=HLN.out; rw[← he,List.length_append] at h1; omega
   exact(ahv w W N0 p g b o c Ai ci bp pre x n hn hl hJ).mono fun e W' h=>⟨h.1,.inl h.2⟩,
  fun pre W W' h k=>h.below k⟩)
 have hw1:=HW.out.below (hB.mono HW.out.size);clear rx ry hz;refine(aa8 W N0 p g b o c Ai ci bp node pl _ _ _ _ hw1 HGD.out HSM.out hno HSE.out HJ0.out).mono ?_;rintro e w1 ⟨rfl,hb1,hJ | ⟨pre,h⟩⟩
 case inr=>exact h.elim
 obtain⟨ov,hrow,hown⟩:=hJ.out;have hbel:=hJ.bel;have hL:((ji g pl node).map (iG g)).reverse=iR g pl node:=HWL.out;have hln:((ji g pl node).map (iG g)).length≤1000:=by rw[List.length_map]; exact HLN.out
 generalize (ji g pl node).map (iG g)=L at hown hL hln;clear hJ HJ0 HSE HWL HLN hw1 hb1 hB;have hc:=hrow.cell (i:=0) rfl;dsimp only;rcases hown.ah3 with⟨rfl,rfl⟩ | ⟨gb,cap,rest,rfl,hgb,hcap,hr⟩
 ·clear hown;go_wp2_with fail
  refine(reverse_nil w1).mono ?_;rintro e w2 ⟨rfl,rfl⟩;dsimp only;go_wp2
  go_ret;exact⟨_,rfl,hbel,by rw[← hL]; exact Az.nil _ _⟩
 ·have HR:=Ae hr; have HL:=Ae hL; have Bd:=Ae hrow;clear hown hr hL hrow;go_wp2_with fail
  refine(adi w1 gb cap L rest HR.out byOmega hcap).mono ?_;rintro e w2 ⟨rfl,hr2,hw2⟩;have hc2:=(Bd.out.wrote hw2 byOmega).cell (i:=0) rfl;have HB2:=Ae (Wrote.below hbel hw2 (fun b hb=>by omega) hbel.size);have HR2:=Ae hr2;clear hw2 hr2 hc;dsimp only;go_wp2
  go_ret;refine⟨_,rfl,HB2.out,?_⟩;have h5:=HR2.out.pairs (G:=fun b=>w.heap.size≤b) byOmega (c:=cap) (by rw[List.length_reverse]; exact hcap);rw[List.length_reverse,HL.out] at h5;exact h5
theorem adl (w:World) (N0 p:Nat) (g:Gm) (b o c:Nat) (Ai:Option Addr) (ci bp:Nat) (hw:Ci w N0 p g b o c Ai ci bp) (hsm:Small g) (hin:Bo g) :
  Calls Tryz.prog 177 #[.pointer (some ⟨p,0,none⟩)] w (Ret w fun v w'=>Bj w' (fun b=>w.heap.size≤b) v (dA g)):=by
 have HN:=Ae hw.node;have c1:=hw.c1; have c2:=hw.c2;have hn:=hsm.nodes;have hni:=hsm.infos;have HIN:=Ae hin; clear hin;have hbw:b < w.heap.size:=Nat.lt_of_lt_of_le hw.hb hw.size;have hpw:p < w.heap.size:=Nat.lt_of_lt_of_le hw.hp hw.size;clear hw;go_in
 go_wp2_with (at_make; refine eU _ rfl _ _ 96 rfl 26 (.slice none 0 0) 24 Tryz.underlying96 Tryz.infoInts rfl g.infos.length rfl rfl byOmega byOmega ?_; intro w1 hb1 hz1 hrow1; have c1':=ah c1 hb1)
 go_loopw [19] (fun i wr=>∃ (k:Nat) (vs:List Value),k≤g.nodes.length∧i = .int .i64 k∧Row wr w.heap.size 26 vs∧OwnRows wr (w.heap.size+1) 3 vs (dX g.nodes g.infos.length k)∧Below w.heap.size w wr) (fun i _=>g.nodes.length - (intOf i).toNat)
 case atStart=>exact⟨0,_,byOmega,rfl,hrow1,OwnRows.start _ _ _ _,hb1⟩
 case round =>
  obtain⟨k,vs,hk,rfl,hrow,hown,hbel⟩:=hrel;clear c1' hrow1 hb1 hz1;by_cases hlt:k < g.nodes.length
  ·obtain⟨n,hn'⟩:=aC hlt;obtain⟨e0,e1,e2,⟨v3,e3,A3,c3,rfl,hc3,i3⟩,⟨v4,e4,A4,c4,rfl,hc4,i4⟩,⟨v5,e5,A5,c5,rfl,hc5,i5⟩⟩:=HN.out k n hn';clear i3 i4 i5;have HX:=Ae hn'; clear hn';have hold:=aN hbel;have hlr:=hrow.lt;by_cases hkd:n.kind=2
   ·obtain⟨hin0,hin1⟩:=HIN.out n (List.mem_of_getElem? HX.out) hkd;have hd:(n.kind==2)=true:=by simp[hkd]
    have HKD:=Ae hkd; clear hkd;obtain⟨l,hl⟩:=aC (l:=dX g.nodes g.infos.length k) (k:=n.info.toNat) (by rw[bZ]; omega);obtain⟨v,hv⟩:=aC (l:=vs) (k:=n.info.toNat) (by rw[hown.len,bZ]; omega);have hll:=uq l (List.mem_of_getElem? hl);have HO:=Ae (hown.own _ v l hv hl);have HL:=Ae hl; clear hl;have HV:=Ae hv; clear hv;go_wp2
    obtain⟨W,hW⟩:∃ W:World,W=wr.alloc (.cells #[.int .i64 n.kind,.int .i64 n.aI,.int .i64 n.info,.slice A3 n.next.length c3,.slice A4 n.weights.length c4,.slice A5 n.pay.length c5] 61):=⟨_,rfl⟩;rw[← hW];have cx:W.cell? ⟨wr.heap.size,2,none⟩=some (.int .i64 n.info):=by rw[hW]; simp
    have hWz:W.heap.size=wr.heap.size+1:=by rw[hW]; simp
    have hWo:OwnRows W (w.heap.size+1) 3 vs (dX g.nodes g.infos.length k):=by rw[hW]; exact hown.alloc _
    have hWw:Row W w.heap.size 26 vs:=by rw[hW]; exact hrow.alloc _
    have hWb:Below w.heap.size w W:=by rw[hW]; exact hbel.alloc hbel.size _
    have rv:=hWw.cell HV.out;have fv:=hWw.frozen n.info.toNat;have HOW:=Ae (hWo.own _ v l HV.out HL.out);have hWlt:wr.heap.size < W.heap.size:=byOmega;have HHW:=Ae hWz; have hWle:w.heap.size+1 < W.heap.size:=byOmega;clear hW hWz hrow hown hbel hold e0 e1 e2 e3 e4 e5 hlr;have HWR:=Ae (And.intro hWw (And.intro hWo hWb)); clear hWw hWo hWb;refine acd (fun w'=>w'.cell? ⟨wr.heap.size,2,none⟩=some (.int .i64 n.info)∧w'.cell? ⟨w.heap.size,n.info.toNat,none⟩=some v) 11 aj rfl rfl aj aj aj aj ⟨cx,rv⟩ ?_;have hHeld:(fun w':World=>w'.cell? ⟨wr.heap.size,2,none⟩=some (.int .i64 n.info)∧w'.cell? ⟨w.heap.size,n.info.toNat,none⟩=some v) W.drew:=⟨cx,rv⟩;simp only[List.take_succ_cons,List.take_zero];refine tk0 [0,1,2,3,4,5,6,7,8] ?_;iterate 9 (refine tk (v:=?_) rfl aj aj aj (fun _ _ _ h=>h) (Or.inl ⟨by rfl,?_⟩) hHeld ?_;rotate_left;(focus intro wx hSx;(try dsimp only at hSx);go_split_ands;go_simp;try with_reducible rfl);try simp only[Act.put,lq1,lq2,lq3,lq4,lq5,lq6])
    refine tk1 ?_;refine tk2 9 aj rfl fun K hK=>?_
    go_simp;refine hK.out _ _ ⟨by rw[World.cell?_drew,World.cell?_alloc_lt _ _ _ au]; exact cx,by rw[World.cell?_drew,World.cell?_alloc_lt _ _ _ au]; exact rv⟩ (fun hHeld=>?_);clear hK K;try simp only[Act.put,List.setIfInBounds_toArray,List.set_cons_zero,List.set_cons_succ]
    refine tk2 10 aj rfl fun K hK=>?_
    refine vF (by rfl) _ _ (by rfl) (w.heap.size+1) v l (by rfl) (HOW.out.alloc _) W.heap.size k (by rfl) (heap_alloc_new W _) byOmega au ?_;intro gg cap w1 hown1 hgrow hat hlt1;have hnb:∀ b,v.ownBlock=some b→w.heap.size+1≤b:=fun b hb=>(HOW.out.lt b hb).1
    have hHG:∀ b,b < w.heap.size+1→w1.heap[b]? = W.heap[b]?:=fun b hb=>by
     rw[hgrow.block b au (fun e=>by have:=hnb b e.symm; omega)];exact Below.heap_alloc W _ b byOmega
    obtain⟨hWw,hWo,hWb⟩:=HWR.out;have k2:Row w1 w.heap.size _ _:=hWw.of_block (hHG _ byOmega);have k3:=((hWo.alloc _).drew).put HV.out hown1 hgrow rfl hat;have k4:Below w.heap.size w w1:=((hWb.alloc byOmega _).drew).grown hgrow au (fun k hk=>by have:=hnb k hk; omega);have rv1:=k2.cell HV.out;have fv1:=k2.frozen n.info.toNat;have KK:=Ae (And.intro k2 (And.intro k3 k4));refine hK.out _ _ ⟨?_,rv1⟩ (fun hHeld=>?_)
    ·rw[hgrow.cell_far _ au (fun e=>by have:=(HO.out.lt _ e.symm).2; simp at this),World.cell?_drew,World.cell?_alloc_lt _ _ _ au]; exact cx
    clear hK K k2 k3 k4 hWw hWo hWb hHG hgrow hown1 hat cx rv fv;try simp only[Act.put,List.setIfInBounds_toArray,List.set_cons_zero,List.set_cons_succ]
    refine wpAnyH_done aj ?_ _;show wpList _ _ _ _ _ _;go_wp2
    show wpList _ _ _ _ _ _;go_wp2
    go_roundw
    case rel =>
     obtain⟨k2,k3,k4⟩:=KK.out;refine⟨k+1,_,byOmega,by go_num,k2.set _ _,?_,k4.setCell ay _⟩;rw[qK HX.out HKD.out HL.out];exact k3.setCell ay _
    case measure=>simp[intOf]; omega
   ·have hd:(n.kind==2)=false:=by simp[hkd]
    have HKD:=Ae hkd; clear hkd;go_wp2
    go_roundw
    case rel =>
     refine⟨k+1,vs,byOmega,by go_num,hrow.alloc _,?_,hbel.alloc hbel.size _⟩;rw[qL HX.out HKD.out];exact hown.alloc _
    case measure=>simp[intOf]; omega
  ·go_wp2
   go_ret;refine⟨_,rfl,hbel,?_⟩;have hke:k=g.nodes.length:=byOmega;subst hke;have:=OwnRows.rows (F:=fun b=>w.heap.size≤b) hown hrow byOmega (fun _ _=>by omega) (c:=g.infos.length) (by rw[bZ]; omega);rw[bZ] at this;exact this
theorem aac (W:World) (bq:Nat) (b0:Bool) (k a b c:Int) (hq:Row W bq 4 [.bool b0]) :
  Calls Tryz.prog 176 #[.agg #[.int .i64 k,.int .i64 a,.int .i64 b,.int .i64 c],.pointer (some ⟨bq,0,none⟩)] W fun e W'=>e = .returned (.bool (k != 2))∧Row W' bq 4 [.bool (k != 2)]∧Wrote (fun x=>x=bq) W W':=by
 have q0:=hq.cell (i:=0) rfl; have f0:=hq.frozen 0;have hlt:=hq.lt;have HQ:=Ae hq;clear hq;go_in
 go_wp2
 go_ret;exact⟨rfl,(HQ.out.set 0 _).alloc _,((Wrote.refl (fun x=>x=bq) W).setCell (p:=⟨bq,0,none⟩) (.inl rfl) _).alloc _⟩
structure BH (wi:World) (N0 p:Nat) (g:Gm) (b o c:Nat) (Ai:Option Addr) (ci bp bs bi bd:Nat) (info d:Int) (W:World):Prop where
 wk:Ci W N0 p g b o c Ai ci bp
 low:N0≤wi.heap.size
 hbd:wi.heap.size≤bd
 box:W.cell? ⟨bs,0,none⟩=some (.pointer (some ⟨p,0,none⟩))
 inf:W.cell? ⟨bi,0,none⟩=some (.int .i64 info)
 hbs:bs < wi.heap.size
 hbi:bi < wi.heap.size
 row:Row W bd 3 [.int .i64 d]
 bel:Below wi.heap.size wi W
theorem BH.below {wi:World} {N0 p:Nat} {g:Gm} {b o c:Nat} {Ai:Option Addr} {ci bp bs bi bd:Nat} {info d:Int} {W W':World} (h:BH wi N0 p g b o c Ai ci bp bs bi bd info d W) (k:Below W.heap.size W W'):BH wi N0 p g b o c Ai ci bp bs bi bd info d W' :=
 ⟨h.wk.below (k.mono h.wk.size),h.low,h.hbd,ah h.box k,ah h.inf k,h.hbs,h.hbi,h.row.below k h.row.lt,h.bel.trans (k.mono h.bel.size)⟩
theorem BH.put {wi:World} {N0 p:Nat} {g:Gm} {b o c:Nat} {Ai:Option Addr} {ci bp bs bi bd:Nat} {info d:Int} {W:World} (h:BH wi N0 p g b o c Ai ci bp bs bi bd info d W) (d':Int):BH wi N0 p g b o c Ai ci bp bs bi bd info d' (W.setCell ⟨bd,0,none⟩ (.int .i64 d')):=by
 have hb:Below wi.heap.size W (W.setCell ⟨bd,0,none⟩ (.int .i64 d')):=(Below.refl _ _).setCell (p:=⟨bd,0,none⟩) h.hbd _;exact⟨h.wk.below (hb.mono h.low),h.low,h.hbd,(aN hb _ _ h.hbs).trans h.box,(aN hb _ _ h.hbi).trans h.inf,h.hbs,h.hbi,h.row.set 0 _,h.bel.trans hb⟩
theorem af5 (wi W:World) (N0 p:Nat) (g:Gm) (b o c:Nat) (Ai:Option Addr) (ci bp bs bi bd:Nat) (info:Int) (x:Nat×Nat) (n:Nd) (hn:g.nodes[x.1]? = some n) (hJ:BH wi N0 p g b o c Ai ci bp bs bi bd info (-1) W) :
  Calls Tryz.prog 207 #[.int .i64 (x.1:Int),.int .i64 (x.2:Int),.pointer (some ⟨bs,0,none⟩),.pointer (some ⟨bi,0,none⟩),.pointer (some ⟨bd,0,none⟩)] W fun e W'=>Below N0 W W' ∧
   ((e = .returned (.bool true)∧BH wi N0 p g b o c Ai ci bp bs bi bd info (-1) W')∨(e = .returned (.bool false)∧∃ d,BH wi N0 p g b o c Ai ci bp bs bi bd info d W')):=by
 obtain⟨k,a⟩:=x;have HJ:=Ae hJ;have hk:=aK hn;have c1:=hJ.wk.c1;have n2:=(hJ.wk.node k n hn).c2;have hbx:=hJ.box; have hin:=hJ.inf;have hd0:=hJ.row.cell (i:=0) rfl; have hdf:=hJ.row.frozen 0;have hz:=hJ.bel.size; have hlow:=hJ.low; have hbd:=hJ.hbd;dsimp only at n2 hk;clear hJ hn;by_cases he:n.info=info
 ·subst he;have t0:(n.info==n.info)=true:=ay;have t1:decide ((k:Int) < 0)=false:=decide_eq_false byOmega;go_in
  go_wp2_with fail
  go_quiet (fail)
  go_wp2
  go_ret;exact⟨(aH (Below.refl N0 W) _).setCell (p:=⟨bd,0,none⟩) (by show N0≤bd; omega) _,.inr ⟨rfl,(k:Int),(HJ.out.below (aH (Below.refl _ W) _)).put _⟩⟩
 ·have t0:(n.info==info)=false:=by simpa using he
  clear he;go_in
  go_wp2_with fail
  go_quiet (fail)
  go_wp2
  go_ret;exact⟨aH (Below.refl N0 W) _,.inl ⟨rfl,HJ.out.below (aH (Below.refl _ W) _)⟩⟩
theorem Ci.infoAt {w:World} {N0 p:Nat} {g:Gm} {b o c:Nat} {Ai:Option Addr} {ci bp:Nat} (h:Ci w N0 p g b o c Ai ci bp) {i:Nat} {inf:Inf} (hi:g.infos[i]? = some inf):∃ bI oI,Ai=some ⟨bI,oI,none⟩∧bI < N0∧bI < w.heap.size∧w.cell? ⟨bI,oI+i*2,none⟩=some (.int .i64 inf.aI)∧w.cell? ⟨bI,oI+i*2+1,none⟩=some (.int .i64 inf.actions):=by
 obtain⟨A',c',e,_,hx⟩:=h.info;injection e with e1 e2 e3
 subst e1;obtain⟨bI,oI,rfl,hF,hb,hc⟩:=hx (by have:=aK hi; omega);exact⟨bI,oI,rfl,hF,hb,(hc i inf hi).c0,(hc i inf hi).c1⟩
theorem adn {g:Gm} {pl:Int} {l:List Int} (h:∀ x∈l,iR g pl x.toNat=iR g pl (l.getD 0 0).toNat):kY g pl l=true:=by
 unfold kY;rw[List.all_eq_true];exact fun x hx=>decide_eq_true (h x hx)
theorem abQ {g:Gm} {pl:Int} {l:List Int} {x:Int} (hx:x∈l) (h:iR g pl x.toNat≠iR g pl (l.getD 0 0).toNat):kY g pl l=false:=by
 cases hw:kY g pl l with
 | false=>rfl
 | true =>
  unfold kY at hw;rw[List.all_eq_true] at hw;exact absurd (of_decide_eq_true (hw x hx)) h
theorem ahw (w:World) (N0 p:Nat) (g:Gm) (b o c:Nat) (Ai:Option Addr) (ci bp bq i:Nat) (inf:Inf) (pl:Int) (F:Ah) (vl:Value) (l:List Int) (hw:Ci w N0 p g b o c Ai ci bp) (hgd:Good g) (hsm:Small g)
  (hi:g.infos[i]? = some inf) (hpl:inf.aI=pl) (hq:Row w bq 4 [.bool true]) (hq0:N0≤bq) (hF:¬ F bq) (hl:AA w F vl l) (hne:l≠[]) (hin:∀ x∈l,∃ j:Nat,x=(j:Int)∧j < g.nodes.length) (hll:l.length≤1000) :
  Calls Tryz.prog 178 #[.agg #[.pointer (some ⟨p,0,none⟩),.func (.func 176) #[] #[.pointer (some ⟨bq,0,none⟩)]],.int .i64 (i:Int),vl] w fun e w'=>e = .returned (.bool (kY g pl l))∧Row w' bq 4 [.bool (kY g pl l)]∧Wrote (fun x=>x=bq) w w':=by
 have hmf:∀ (fn:Fn) (first cap:Array Value) (w:World),(Instr.makeFunc fn first cap).run Tryz.prog w = .ok (.func fn first cap) w:=fun _ _ _ _=>rfl
 have hcr:=fun args w=>enters Tryz.func176 (by decide +kernel) (by decide +kernel) args w
 subst hpl;have HW:=Ae hw; have HGD:=Ae hgd; have HSM:=Ae hsm; have HQ:=Ae hq; have HL:=Ae hl; have HIN:=Ae hin; have HI:=Ae hi; have HF:=Ae hF; have HNE:=Ae hne;have hil:=aK hi;have hni:=hsm.infos;have hbq:=hq.lt;clear hw hgd hsm hq hin hi hF hne;obtain⟨Al,cl,rfl,hcl,hx⟩:=hl;have hlp:0 < l.length:=by
  cases l with
  | nil=>exact absurd rfl HNE.out
  | cons x t=>simp
 obtain⟨bl,ol,rfl,hFl,hbl,hlc⟩:=hx hlp;have HLC:=Ae hlc;have hlq:bl≠bq:=fun e=>HF.out (e▸hFl)
 clear hx hlc;go_in
 go_upto_region 1 with(fail)
 obtain⟨W,hW,rs,ri,hB,hz⟩:=alloc2 w 220 #[.pointer (some ⟨p,0,none⟩),.func (.func 176) #[] #[.pointer (some ⟨bq,0,none⟩)]] 3 #[.int .i64 (i:Int)];rw[← hW];clear hW;have s0:=rs.cell (i:=0) rfl; have i0:=ri.cell (i:=0) rfl;have hWW:=HW.out.below (hB.mono HW.out.size);obtain⟨bI,oI,rfl,hbI,hbI2,p0,_⟩:=hWW.infoAt HI.out;have c2:=hWW.c2;obtain⟨x0,hx0⟩:=aC hlp;obtain⟨j0,hxj,hj0⟩:=HIN.out x0 (List.mem_of_getElem? hx0);subst hxj;have l0:=HLC.out 0 _ hx0;unfold jF at l0;rw[Nat.zero_mul,Nat.add_zero] at l0;replace l0:=ah l0 hB;have HX0:=Ae (show l.getD 0 0=(j0:Int) by rw[List.getD_eq_getElem?_getD,hx0]; rfl);have HWW:=Ae hWW; have HRS:=Ae rs; have HRI:=Ae ri; have HB:=Ae hB;clear rs ri hWW hB hx0;go_wp2_with fail
 go_quiet (fail)
 go_wp2_with fail
 obtain⟨wd,hwd⟩:=named (W.drewN nq);have hbd:Below W.heap.size W wd:=by rw[hwd]; exact aH (Below.refl _ W) nq
 rw[← hwd];clear hwd;replace s0:=ah s0 hbd; replace i0:=ah i0 hbd; replace l0:=ah l0 hbd;replace HWW:=Ae (HWW.out.below (hbd.mono HWW.out.size)); replace HRS:=Ae (HRS.out.below hbd HRS.out.lt); replace HRI:=Ae (HRI.out.below hbd HRI.out.lt); replace HB:=Ae (HB.out.trans (hbd.mono HB.out.size));have hzd:=hbd.size;clear hbd p0 c2;refine wp_region_held_drew (S:=fun w'=>w'.cell? ⟨w.heap.size,0,none⟩=some (.pointer (some ⟨p,0,none⟩))∧w'.cell? ⟨bl,ol,none⟩=some (.int .i64 (j0:Int))) aj ⟨s0,l0⟩ (fun hHeld=>?_);have hb:Below wd.heap.size wd wd.drew:=aH (Below.refl _ wd) 1;replace s0:=ah s0 hb;replace i0:=ah i0 hb;replace l0:=ah l0 hb;replace HWW:=Ae (HWW.out.below (hb.mono HWW.out.size)); replace HRS:=Ae (HRS.out.below hb HRS.out.lt); replace HRI:=Ae (HRI.out.below hb HRI.out.lt); replace HB:=Ae (HB.out.trans (hb.mono HB.out.size));replace hzd:=Nat.le_trans hzd hb.size;clear hb;generalize wd.drew=wn at *;refine tk0 [0,1,2,3,4,5] ?_;iterate 6 (refine tk (v:=?_) rfl aj aj aj (fun _ _ _ h=>h) (Or.inl ⟨by rfl,?_⟩) hHeld ?_;rotate_left;(focus intro wx hSx;(try dsimp only at hSx);go_split_ands;go_simp;try with_reducible rfl);try simp only[Act.put,lq1,lq2,lq3,lq4,lq5,lq6])
 refine tk1 ?_;refine tk2 6 aj rfl fun K hK=>?_
 go_simp;refine(adk _ N0 p g b o c _ ci bp j0 inf.aI HWW.out HGD.out HSM.out hj0).mono ?_;rintro e wn ⟨u1,rfl,hb,hu1⟩;have HU1:=Ae (Az.keep (G:=fun b=>w.heap.size < b) hu1 (fun b hb _=>by omega) (Same.refl _ _));obtain⟨A1,c1,rfl⟩:=hu1.open;clear hu1;replace s0:=ah s0 hb;replace i0:=ah i0 hb;replace l0:=ah l0 hb;replace HWW:=Ae (HWW.out.below (hb.mono HWW.out.size)); replace HRS:=Ae (HRS.out.below hb HRS.out.lt); replace HRI:=Ae (HRI.out.below hb HRI.out.lt); replace HB:=Ae (HB.out.trans (hb.mono HB.out.size));replace hzd:=Nat.le_trans hzd hb.size;clear hb;dsimp only;clear hHeld;refine hK.out _ _ ⟨s0,l0⟩ (fun hHeld=>?_);clear hK K;try simp only[Act.put,lq1,lq2,lq3,lq4,lq5,lq6]
 refine tk0 [7] ?_;(refine tk (v:=?_) rfl aj aj aj (fun _ _ _ h=>h) (Or.inl ⟨by rfl,?_⟩) hHeld ?_;rotate_left;(focus intro wx hSx;(try dsimp only at hSx);go_split_ands;go_simp;try with_reducible rfl);try simp only[Act.put,lq1,lq2,lq3,lq4,lq5,lq6])
 refine tk1 ?_;refine wpAnyH_done aj ?_ _;clear hHeld;obtain⟨w1,rfl⟩:=named wn;have s1:=HRS.out.cell (i:=1) rfl;have HQ1:=Ae (HQ.out.below HB.out hbq);have HLC1:=Ae (show ∀ (k:Nat) (x:Int),l[k]? = some x→w1.cell? ⟨bl,ol+k,none⟩=some (.int .i64 x) from fun k x hx=>by
  have h1:=HLC.out k x hx;unfold jF at h1;rw[Nat.mul_one] at h1;exact(HB.out.cell (p:=⟨bl,ol+k,none⟩) hbl).trans h1)
 have hzw:=HB.out.size;have hN0:=HW.out.size;clear l0;go_wp2_with fail
 go_loopw [31] (fun iv wr=>∃ k:Nat,k≤l.length∧iv = .int .i64 (k:Int)∧(∀ x∈l.take k,iR g inf.aI x.toNat=iR g inf.aI j0)∧Row wr bq 4 [.bool true]∧Wrote (fun x=>x=bq) w1 wr) (fun iv _=>l.length - (intOf iv).toNat)
 case atStart=>exact⟨0,Nat.zero_le _,rfl,fun x hx=>by simp at hx,HQ1.out,Wrote.refl _ _⟩
 case round =>
  obtain⟨k,hk,rfl,hall,hqa,hwr⟩:=hrel;obtain⟨wa,rfl⟩:=named wr;have HALL:=Ae hall; have HWR:=Ae hwr;have HQA:=Ae hqa;have HLOW:=Ae (Wrote.below (Below.refl N0 w1) hwr (fun b hb=>by omega) byOmega);clear hall hwr hqa HQ1;have s0a:=(HWR.out.cell w.heap.size 0 byOmega byOmega).trans s0;have s1a:=(HWR.out.cell w.heap.size 1 byOmega byOmega).trans s1;have i0a:=(HWR.out.cell (w.heap.size+1) 0 byOmega byOmega).trans i0;have hza:=HWR.out.size;by_cases hlt:k < l.length
  ·obtain⟨x,hx⟩:=aC hlt;obtain⟨j,hxj,hj⟩:=HIN.out x (List.mem_of_getElem? hx);subst hxj;have lx:=(HWR.out.cell bl (ol+k) byOmega byOmega).trans (HLC1.out k _ hx);have HX:=Ae hx;have HS0:=Ae s0; have HI0:=Ae i0; have HS1:=Ae s1;clear hx s0 i0 s1;have s0o:=fun ob=>gQ s0a ob
   go_wp2_with fail
   clear s0o;obtain⟨W1,hW1,rd,hbd,hz1⟩:=aO wa 3 #[.int .i64 (-1)];rw[← hW1];clear hW1;have HSJ:=Ae (show BH wa N0 p g b o c (some ⟨bI,oI,none⟩) ci bp w.heap.size (w.heap.size+1) wa.heap.size (i:Int) (-1) W1 from⟨(HWW.out.below HLOW.out).below (hbd.mono byOmega),byOmega,Nat.le_refl _,ah s0a hbd,ah i0a hbd,byOmega,byOmega,rd,hbd⟩);have HSE:=Ae (show D8 N0 207 #[.pointer (some ⟨w.heap.size,0,none⟩),.pointer (some ⟨w.heap.size+1,0,none⟩),.pointer (some ⟨wa.heap.size,0,none⟩)] (ji g inf.aI j) (fun _ V=>BH wa N0 p g b o c (some ⟨bI,oI,none⟩) ci bp w.heap.size (w.heap.size+1) wa.heap.size (i:Int) (-1) V) (fun _ V=>∃ d,BH wa N0 p g b o c (some ⟨bI,oI,none⟩) ci bp w.heap.size (w.heap.size+1) wa.heap.size (i:Int) d V) from
    ⟨enters Tryz.func207 (by decide +kernel) (by decide +kernel),fun pre x V ⟨rest,he⟩ hJ=>by
     have hx:x∈ji g inf.aI j:=by rw[← he]; simp
     obtain⟨n,hn⟩:=aC (uU HGD.out _ _ hj x hx);exact af5 wa V N0 p g b o c _ ci bp _ _ _ _ x n hn hJ,fun pre V V' h k=>h.below k⟩)
   clear rd hz1;refine(aa8 W1 N0 p g b o c _ ci bp j inf.aI _ _ _ _ HSJ.out.wk HGD.out HSM.out hj HSE.out HSJ.out).mono ?_;rintro e w2 ⟨rfl,hb2,hJ⟩;obtain⟨d,hJ⟩:∃ d,BH wa N0 p g b o c (some ⟨bI,oI,none⟩) ci bp w.heap.size (w.heap.size+1) wa.heap.size (i:Int) d w2:=hJ.elim (fun h=>⟨_,h⟩) (fun ⟨_,h⟩=>h);have d0:=hJ.row.cell (i:=0) rfl;have i02:=hJ.inf;have s12:=ah s1a hJ.bel;have HQ2:=Ae (HQA.out.below hJ.bel HQA.out.lt);have HW2:=Ae (HWR.out.trans (show Wrote (fun x=>x=bq) wa w2 from⟨hJ.bel.os,hJ.bel.tape,hJ.bel.output,hJ.bel.size,fun b hb _=>hJ.bel.block b hb⟩));clear hJ hb2 HSE HSJ hbd s0a s1a i0a lx HQA HWR HLOW;dsimp only;go_upto_region 8 with(fail)
   go_cut [52] from 41 to 52 (fun v52 wx=>v52 = .bool false∧Row wx bq 4 [.bool true]∧Wrote (fun x=>x=bq) w1 wx)
   case first =>
    by_cases hd:0≤d
    ·have t0:decide (0≤d)=true:=decide_eq_true hd;clear hd;go_wp2_with fail
     refine(aac w2 bq true 1 (j:Int) (i:Int) d HQ2.out).mono ?_;rintro e w3 ⟨rfl,hq3,hw3⟩;have HQ3:=Ae (show Row w3 bq 4 [.bool true] from hq3);have HW3:=Ae (HW2.out.trans hw3);clear hq3 hw3 HQ2 HW2;dsimp only;go_wp2_with fail
     go_meet
     exact⟨rfl,HQ3.out,HW3.out⟩
    ·have t0:decide (0≤d)=false:=decide_eq_false hd;clear hd;go_wp2_with fail
     go_meet
     exact⟨rfl,HQ2.out,HW2.out⟩
   case rest =>
    obtain⟨rfl,hqc,hwc⟩:=hcut;have s0c:=(hwc.cell w.heap.size 0 byOmega byOmega).trans HS0.out;have s1c:=(hwc.cell w.heap.size 1 byOmega byOmega).trans HS1.out;have i0c:=(hwc.cell (w.heap.size+1) 0 byOmega byOmega).trans HI0.out;have HWC:=Ae (HWW.out.below (Wrote.below (Below.refl N0 w1) hwc (fun b hb=>by omega) byOmega));have HUC:=Ae (Az.on HU1.out (hwc.same (fun b hb=>by omega)));have HQC:=Ae hqc; have HWRC:=Ae hwc;have hzc:=hwc.size;clear HQ2 HW2 d0 i02 s12 hqc hwc;go_wp2_with fail
    refine(adk wc N0 p g b o c _ ci bp j inf.aI HWC.out HGD.out HSM.out hj).mono ?_;rintro e w4 ⟨u2,rfl,hb4,hu2⟩;have HU2:=Ae (Az.keep (G:=fun b=>w.heap.size < b) hu2 (fun b hb _=>by omega) (Same.refl _ _));obtain⟨A2,c2,rfl⟩:=hu2.open;have HB4:=Ae hb4;clear hu2 hb4;dsimp only;go_wp2_with fail
    refine(aeB w4 (fun b=>w.heap.size < b) _ _ (iR g inf.aI j) (iR g inf.aI j0) HU2.out (Az.on HUC.out (Below.same' HB4.out _)) (by have:=zl HGD.out HSM.out inf.aI hj; omega)).mono ?_;rintro e w5 ⟨_,rfl,hb5,rfl⟩;have hb:=HB4.out.trans (hb5.mono HB4.out.size);have HQ5:=Ae (HQC.out.below hb HQC.out.lt);have HW5:=Ae (HWRC.out.trans (show Wrote (fun x=>x=bq) wc w5 from⟨hb.os,hb.tape,hb.output,hb.size,fun b' hb' _=>hb.block b' hb'⟩));clear hb hb5 HB4 HU2 HUC HWRC HQC s0c s1c i0c;dsimp only;by_cases af6:iR g inf.aI j=iR g inf.aI j0
    ·rw[decide_eq_true af6];have HWE:=Ae af6;clear af6;go_wp2_with fail
     go_roundw
     case rel =>
      refine⟨k+1,byOmega,by go_num,fun y hy=>?_,HQ5.out,HW5.out⟩;rw[take_snoc HX.out] at hy;rcases List.mem_append.1 hy with hy | hy
      ·exact HALL.out y hy
      ·rw[List.mem_singleton.1 hy,Int.toNat_natCast]; exact HWE.out
     case measure=>simp[intOf]; omega
    ·have hwf:=abQ (List.mem_of_getElem? HX.out) (show iR g inf.aI ((j:Int)).toNat≠iR g inf.aI (l.getD 0 0).toNat by rw[HX0.out,Int.toNat_natCast,Int.toNat_natCast]; exact af6);have HWF:=Ae hwf;rw[decide_eq_false af6];have s1e:=(HW5.out.cell w.heap.size 1 byOmega byOmega).trans HS1.out;have i0e:=(HW5.out.cell (w.heap.size+1) 0 byOmega byOmega).trans HI0.out;have l0e:=(HW5.out.cell bl ol byOmega byOmega).trans (show w1.cell? ⟨bl,ol,none⟩=some (.int .i64 (j0:Int)) by
      have h1:=HLC1.out 0 (j0:Int) (by obtain⟨y,hy⟩:=aC hlp; have h2:=HX0.out; rw[List.getD_eq_getElem?_getD,hy] at h2; rw[hy]; exact congrArg some h2);rwa [Nat.add_zero] at h1)
     clear af6 hwf;go_wp2_with fail
     refine wp_region_held_drew (S:=fun w'=>w'.cell? ⟨w.heap.size,1,none⟩=some (.func (.func 176) #[] #[.pointer (some ⟨bq,0,none⟩)])∧w'.cell? ⟨w.heap.size+1,0,none⟩=some (.int .i64 (i:Int))∧w'.cell? ⟨bl,ol,none⟩=some (.int .i64 (j0:Int))) aj ⟨s1e,i0e,l0e⟩ (fun hHeld=>?_);obtain⟨w6,hw6⟩:=named w5.drew;have HQ6:=Ae (show Row w6 bq 4 [.bool true] by rw[hw6]; exact HQ5.out.drew);have HW6:=Ae (show Wrote (fun x=>x=bq) w1 w6 by rw[hw6]; exact HW5.out.drew);rw[← hw6] at hHeld ⊢;obtain⟨s1f,i0f,l0f⟩:=id hHeld;clear hw6 HQ5 HW5 s1e i0e l0e;refine tk0 [0,1,2,3,4,5,6,7] ?_;iterate 8 (refine tk (v:=?_) rfl aj aj aj (fun _ _ _ h=>h) (Or.inl ⟨by rfl,?_⟩) hHeld ?_;rotate_left;(focus intro wx hSx;(try dsimp only at hSx);go_split_ands;go_simp;try with_reducible rfl);try simp only[Act.put,lq1,lq2,lq3,lq4,lq5,lq6])
     refine tk1 ?_;refine tk2 8 aj rfl fun K hK=>?_
     go_simp;refine(aac w6 bq true 2 (j:Int) (i:Int) (j0:Int) HQ6.out).mono ?_;rintro e w7 ⟨rfl,hq7,hw7⟩;have hz6:=HW6.out.size;have HQ7:=Ae (show Row w7 bq 4 [.bool false] from hq7);have HW7:=Ae (HW6.out.trans hw7);dsimp only;clear hHeld;refine hK.out _ _ ⟨(hw7.cell w.heap.size 1 byOmega byOmega).trans s1f,(hw7.cell (w.heap.size+1) 0 byOmega byOmega).trans i0f,(hw7.cell bl ol byOmega byOmega).trans l0f⟩ (fun hHeld=>?_);clear hK K;try simp only[Act.put,lq1,lq2,lq3,lq4,lq5,lq6]
     clear s1f i0f l0f hq7 hw7 HQ6 HW6;refine tk0 [9] ?_;(refine tk (v:=?_) rfl aj aj aj (fun _ _ _ h=>h) (Or.inl ⟨by rfl,?_⟩) hHeld ?_;rotate_left;(focus intro wx hSx;(try dsimp only at hSx);go_split_ands;go_simp;try with_reducible rfl);try simp only[Act.put,lq1,lq2,lq3,lq4,lq5,lq6])
     refine tk1 ?_;refine wpAnyH_done aj ?_ _;clear hHeld;go_wp2
     go_ret;exact⟨by rw[HWF.out]; rfl,by rw[HWF.out]; exact HQ7.out,(show Wrote (fun x=>x=bq) w w1 from⟨HB.out.os,HB.out.tape,HB.out.output,HB.out.size,fun b' hb' _=>HB.out.block b' hb'⟩).trans HW7.out⟩
  ·have hwt:=adn (g:=g) (pl:=inf.aI) (l:=l) (fun x hx=>by rw[HX0.out,Int.toNat_natCast]; exact HALL.out x (by rw[List.take_of_length_le byOmega]; exact hx));have HWT:=Ae hwt;clear hwt s0 s1 i0 s0a s1a i0a;go_wp2
   go_ret;exact⟨by rw[HWT.out]; rfl,by rw[HWT.out]; exact HQA.out,(show Wrote (fun x=>x=bq) w w1 from⟨HB.out.os,HB.out.tape,HB.out.output,HB.out.size,fun b' hb' _=>HB.out.block b' hb'⟩).trans HWR.out⟩
theorem Bj.at {w:World} {F:Ah} {v:Value} {m:List (List Int)} (h:Bj w F v m) {k:Nat} {l:List Int} (hk:m[k]? = some l):∃ b o c u,v = .slice (some ⟨b,o,none⟩) m.length c∧F b∧b < w.heap.size∧w.cell? ⟨b,o+k,none⟩=some u∧AA w F u l:=by
 obtain⟨A,c,rfl,hc,hr⟩:=h;obtain⟨b,o,rfl,hF,hb,hcell⟩:=hr (by have:=aK hk; omega);obtain⟨u,e0,i⟩:=hcell k l hk;rw[Nat.mul_one] at e0;exact⟨b,o,c,u,rfl,hF,hb,e0,i⟩
theorem aiY {w w1:World} {F:Ah} {g:Gm} {v:Value} (hf:aY g=0) (hg:Bc w F v g.nodes) (hN:∃ A c,v = .slice A g.nodes.length c) {vi:Value} (hi:AU w F vi g.infos) (hb:Below w.heap.size w w1) {p bp bd bl:Nat} {A:Option Addr} {c:Nat} {Ai:Option Addr} {ci:Nat}
  (hv:v = .slice A g.nodes.length c) (hvi:vi = .slice Ai g.infos.length ci) (hw:Bh w1 p bp bd bl g.aA A g.nodes.length c Ai g.infos.length ci (walkT g).2):∃ b o,A=some ⟨b,o,none⟩∧Ci w1 w1.heap.size p g b o c Ai ci bp:=by
 have hgd:=kG hf;subst hv; subst hvi;obtain⟨A',c',e,_,hx⟩:=hg;injection e with e1 e2 e3
 subst e1;obtain⟨b,o,rfl,hF,hbl,hc⟩:=hx hgd.pos;have hz:=hb.size;refine⟨b,o,rfl,⟨hw.head.lt,byOmega,hw.rp.lt,Nat.le_refl _,hw.head.cell (i:=0) rfl,hw.head.cell (i:=1) rfl,hw.head.cell (i:=2) rfl,hw.head.cell (i:=3) rfl,fun k n hn=>(hc k n hn).keep (fun b _ hl=>by omega) (Below.same' hb F) hF hbl,fun k x hx=>?_,hi.keep (fun b _ hl=>by omega) (Below.same' hb F)⟩⟩;rw[← uf hf] at hx;exact hw.rp.cell (by unfold jR; rw[List.getElem?_map,hx]; rfl)
theorem abR (w:World) (F:Ah) (u:Value) (g:Gm) (pl:Int) (hg:AP w F u g) (hsm:Small g) (hf:aY g=0) (hp0:0≤pl) (hp1:pl < g.aA) :
  Calls Tryz.prog 135 #[u,.int .i64 pl] w (Ret w fun v _=>v = .tuple #[.bool (wF g pl),.int .i64 0]):=by
 have hmf:∀ (fn:Fn) (first cap:Array Value) (w:World),(Instr.makeFunc fn first cap).run Tryz.prog w = .ok (.func fn first cap) w:=fun _ _ _ _=>rfl
 have HG:=Ae hg; have HSM:=Ae hsm; have HF:=Ae hf;have hni:=hsm.infos;have hgd:=kG hf;have HGD:=Ae hgd;have hwr:IntKind.i64.wrap (g.aA - 1)=g.aA - 1:=IntWalk.i64_in _ (by have:=(kL hf).2; have:=(kL hf).1; omega);obtain⟨vn,vi,rfl,hN,hI⟩:=hg;have HN:=Ae hN; have HI:=Ae hI;obtain⟨A,c,rfl,hc,_⟩:=hN;obtain⟨Ai,ci,rfl,hci,_⟩:=hI;clear hsm hf hgd;go_in
 go_wp2_with fail
 obtain⟨W,hW,rx,hB,hz⟩:=aO w 25 #[.int .i64 g.aA,.slice A g.nodes.length c,.slice Ai g.infos.length ci];rw[← hW];clear hW hz;replace HG:=Ae (HG.out.on (Below.same' hB F)); replace HN:=Ae (HN.out.on (Below.same' hB F)); replace HI:=Ae (HI.out.on (Below.same' hB F));have x0:=rx.cell (i:=0) rfl; have x1:=rx.cell (i:=1) rfl; have x2:=rx.cell (i:=2) rfl;go_wp2_with fail
 clear x0 x1 x2;refine(uQ W F _ g HG.out HSM.out).mono ?_;rintro e w1 ⟨_,rfl,hb,vp,rfl,hok⟩;have he:mZ g=0:=by rw[pY]; exact HF.out
 obtain⟨p,bp,bd,bl,A',c',Ai',ci',rfl,e,hwk,h1,h2,h3,h4⟩:=hok he;injection e with e
 obtain⟨e1,e2⟩:Value.slice A g.nodes.length c = .slice A' g.nodes.length c'∧Value.slice Ai g.infos.length ci = .slice Ai' g.infos.length ci':=by simpa using e
 injection e1 with e11 _ e13
 injection e2 with e21 _ e23
 subst e11; subst e13; subst e21; subst e23;obtain⟨b,o,rfl,hWK⟩:=aiY HF.out HN.out ⟨_,_,rfl⟩ HI.out hb rfl rfl hwk;rw[he];replace rx:=rx.below hb rx.lt;replace hB:=hB.trans (hb.mono hB.size);have HWK:=Ae hWK;obtain⟨N0,hN0⟩:=named w1.heap.size;rw[← hN0] at HWK;have hN1:N0≤w1.heap.size:=byOmega;have hN2:w1.heap.size≤N0:=byOmega;have hxl:=rx.lt;have x0:=rx.cell (i:=0) rfl;clear hb hok e hwk h1 h2 h3 h4 hWK he hN0;dsimp only;go_wp2_with fail
 obtain⟨W2,hW2,ry,hb2,_⟩:=aO w1 3 #[.int .i64 pl];rw[← hW2];have hwi:fQ 0 (g.aA - 1) [pl]=0:=by
  unfold fQ outside;rw[if_neg];simp; omega
 refine(mO W2 (fun _=>True) _ 0 (g.aA - 1) [pl] (Row.ints (l:=[pl]) ry trivial (Nat.le_refl _)) ay).mono ?_;rintro e w3 ⟨_,rfl,hb3,rfl⟩;rw[hwi];have hb:=hb2.trans (hb3.mono hb2.size);replace rx:=rx.below hb rx.lt;replace hB:=hB.trans (hb.mono hB.size);replace HWK:=Ae (HWK.out.below (hb.mono hN1));have hz3:=hb.size;have hxl3:=rx.lt;clear hb hb2 hb3 ry hW2 hwi x0;dsimp only;go_wp2_with fail
 obtain⟨W4,hW4,rq,rs,hb4,hz4⟩:=alloc2 w3 4 #[.bool true] 220 #[.pointer (some ⟨p,0,none⟩),.func (.func 176) #[] #[.pointer (some ⟨w3.heap.size,0,none⟩)]];rw[← hW4];obtain⟨bq,hbq⟩:=named w3.heap.size;obtain⟨bk,hbk⟩:=named (w3.heap.size+1);rw[← hbk,← hbq] at rs;rw[← hbq] at rq;rw[← hbk,← hbq];have hqk:bq < bk:=byOmega;have hqN:N0≤bq:=byOmega;have hxq:w.heap.size < bq:=byOmega;have hkW:bk < W4.heap.size:=byOmega;replace rx:=rx.below hb4 rx.lt;replace hB:=hB.trans (hb4.mono hB.size);replace HWK:=Ae (HWK.out.below (hb4.mono byOmega));clear hW4 hb4 hz4 hbq hbk;refine(adl W4 N0 p g b o c Ai ci bp HWK.out HSM.out HGD.out.infos).mono ?_;rintro e w5 ⟨vs,rfl,hb,hvs⟩;replace rx:=rx.below hb rx.lt; replace rq:=rq.below hb rq.lt; replace rs:=rs.below hb rs.lt;replace hB:=hB.trans (hb.mono hB.size);replace HWK:=Ae (HWK.out.below (hb.mono byOmega));have hz5:=hb.size;have HVS:=Ae (Bj.keep (G:=fun b=>bk < b) hvs (fun b hb _=>by omega) (Same.refl _ _));obtain⟨As,cs,rfl,hcs,_⟩:=hvs;have hsl:(dA g).length=g.infos.length:=bZ _ _ _;rw[hsl] at hcs;rw[hsl];have HRQ:=Ae rq; have HRS:=Ae rs;have HSL:=Ae hsl;clear hb rx rq hsl hcs;dsimp only;go_wp2_with fail
 go_loopw [36] (fun iv wr=>∃ k:Nat,k≤g.infos.length∧iv = .int .i64 (k:Int)∧kZ g pl k=true∧Row wr bq 4 [.bool true]∧Wrote (fun x=>x=bq) w5 wr) (fun iv _=>g.infos.length - (intOf iv).toNat)
 case atStart=>exact⟨0,Nat.zero_le _,rfl,rfl,HRQ.out,Wrote.refl _ _⟩
 case round =>
  obtain⟨k,hk,rfl,hpt,hqa,hwr⟩:=hrel;obtain⟨wa,rfl⟩:=named wr;have HPT:=Ae hpt; have HQA:=Ae hqa; have HWR:=Ae hwr;have HBA:=Ae (Wrote.below hB hwr (fun b hb=>by omega) hB.size);have q0:=hqa.cell (i:=0) rfl;clear hpt hqa hwr HRQ;by_cases hlt:k < g.infos.length
  ·obtain⟨inf,dS⟩:=aC hlt;have HWA:=Ae (HWK.out.below (Wrote.below (Below.refl N0 w5) HWR.out (fun b hb=>by omega) byOmega));obtain⟨bI,oI,rfl,hbI,hbI2,p0,_⟩:=HWA.out.infoAt dS;have c2:=HWA.out.c2;obtain⟨l,hl⟩:=aC (l:=dA g) (k:=k) (by rw[HSL.out]; exact hlt);obtain⟨bs,os,cs',uv,e,hFs,hbs,hcell,hints⟩:=HVS.out.at hl;injection e with e1 e2 e3
   subst e1;clear e2 e3;have s0:=(HWR.out.cell bs (os+k) hbs byOmega).trans hcell;have k0:=(HWR.out.cell bk 0 byOmega byOmega).trans (rs.cell (i:=0) rfl);have k1:=(HWR.out.cell bk 1 byOmega byOmega).trans (rs.cell (i:=1) rfl);have HINT:=Ae (hints.on (HWR.out.same (F:=fun b=>bk < b) (fun b hb=>by omega)));have hld:(dA g).getD k []=l:=by rw[List.getD_eq_getElem?_getD,hl]; rfl
   obtain⟨_,_,hsn⟩:=oP HF.out hlt;obtain⟨_,_,_,_,_,hne,_⟩:=lq HF.out hlt;rw[hld] at hsn hne;have HLN:=Ae (show l.length≤1000 by have h1:=(wB HGD.out hl).1; have h2:=HSM.out.nodes; omega);have HSN:=Ae hsn; have HNE:=Ae hne; have Cm:=Ae dS; have HLD:=Ae hld;obtain⟨Al,cl,rfl,_,_⟩:=hints;clear hcell hl hld hsn hne dS;by_cases hpl:inf.aI=pl
   ·have t0:(inf.aI==pl)=true:=by simp[hpl]
    have HPL:=Ae hpl;clear hpl;go_wp2_with fail
    refine(ahw wa N0 p g b o c _ ci bp bq k inf pl (fun b=>bk < b) _ l HWA.out HGD.out HSM.out Cm.out HPL.out HQA.out hqN byOmega HINT.out HNE.out (fun x hx=>by obtain⟨j,n,rfl,hn,_⟩:=HSN.out x hx; exact⟨j,rfl,aK hn⟩) HLN.out).mono ?_;rintro e w6 ⟨rfl,hq6,hw6⟩;have hpn:kZ g pl (k+1)=kY g pl l:=by
     rw[kZ,HPT.out,Bool.true_and,List.getD_eq_getElem?_getD,Cm.out,HLD.out];simp[HPL.out]
    have HW6:=Ae (HWR.out.trans hw6);clear c2 p0 s0 k0 k1 q0 hw6;dsimp only;generalize kY g pl l=wo at *;cases wo
    ·have Dh:=Ae (show wF g pl=false from wG hpn _ byOmega);have HB6:=Ae (Wrote.below hB HW6.out (fun b hb=>by omega) hB.size);have q6:=hq6.cell (i:=0) rfl;clear hpn;go_wp2_with fail
     go_ret2;exact⟨_,rfl,HB6.out,by rw[Dh.out]; rfl⟩
    ·have HPN:=Ae hpn; have HQ6:=Ae hq6;clear hpn;go_wp2_with fail
     go_roundw
     case rel=>exact⟨k+1,byOmega,by go_num,HPN.out,HQ6.out,HW6.out⟩
     case measure=>simp[intOf]; omega
   ·have t0:(inf.aI==pl)=false:=by simpa using hpl
    have hpn:kZ g pl (k+1)=true:=by
     rw[kZ,HPT.out,Bool.true_and,List.getD_eq_getElem?_getD,Cm.out];simp[hpl]
    have HPN:=Ae hpn;clear hpl hpn;go_wp2_with fail
    go_roundw
    case rel=>exact⟨k+1,byOmega,by go_num,HPN.out,HQA.out,HWR.out⟩
    case measure=>simp[intOf]; omega
  ·have hfin:wF g pl=true:=by unfold wF; rw[← HPT.out]; congr 1; omega
   have Dh:=Ae hfin;clear hfin;go_wp2
   go_ret2;exact⟨_,rfl,HBA.out,by rw[Dh.out]; rfl⟩
theorem abS (w:World) (p bp N:Nat) (h:w.cell? ⟨p,3,none⟩=some (.slice (some ⟨bp,0,none⟩) N N)) :
  Calls Tryz.prog 180 #[.pointer (some ⟨p,0,none⟩)] w fun e w'=>e = .returned (.slice (some ⟨bp,0,none⟩) N N)∧w'=w:=by
 go_in
 go_wp2
 go_ret;exact⟨rfl,rfl⟩
theorem af7 (w:World) (F:Ah) (u:Value) (g:Gm) (hg:AP w F u g) (hsm:Small g) (hf:aY g=0) :
  Calls Tryz.prog 179 #[u,.func (.func 180) #[] #[]] w (Ret w fun v w'=>∃ vp,v = .tuple #[vp,.int .i64 0]∧AA w' (fun b=>w.heap.size≤b) vp (dD g.nodes)):=by
 have hc1:=fun args w=>enters Tryz.func180 (by decide +kernel) (by decide +kernel) args w
 have HG:=Ae hg; have HSM:=Ae hsm; have HF:=Ae hf;obtain⟨vn,vi,rfl,⟨A,c,rfl,hc,_⟩,⟨Ai,ci,rfl,hci,_⟩⟩:=hg;clear hsm hf;go_in
 go_wp2_with fail
 refine(uQ _ F _ g (HG.out.on (Same.alloc _ _ _)) HSM.out).mono ?_;rintro e w1 ⟨_,rfl,hb,vp,rfl,hok⟩;have he:mZ g=0:=by rw[pY]; exact HF.out
 have hB:Below w.heap.size w w1:=((Below.refl w.heap.size w).alloc (Nat.le_refl _) _).trans (hb.mono ay);obtain⟨p,bp,bd,bl,A',c',Ai',ci',rfl,_,hwk,h1,h2,h3,h4⟩:=hok he;rw[he];have p3:=hwk.head.cell (i:=3) rfl;have hlen:=fD g.nodes;have hfin:AA w1 (fun b=>w.heap.size≤b) (.slice (some ⟨bp,0,none⟩) g.nodes.length g.nodes.length) (dD g.nodes):=by
  have h5:=hwk.rp;rw[uf HF.out] at h5;have h6:=Row.ints (F:=fun b=>w.heap.size≤b) h5 (by simp at h2; omega) (c:=g.nodes.length) byOmega;rwa [hlen] at h6
 have Dh:=Ae hfin;clear hok hwk hb h1 h2 h3 h4 he hlen hfin;dsimp only;go_wp2_with fail
 refine(abS w1 p bp _ p3).mono ?_;rintro e w2 ⟨rfl,rfl⟩;dsimp only;go_wp2
 go_ret2;exact⟨_,rfl,hB,_,rfl,Dh.out⟩
theorem abT (w:World) (F:Ah) (u:Value) (g:Gm) (hg:AP w F u g) (hsm:Small g) (hf:aY g=0) :
  Calls Tryz.prog 136 #[u] w (Ret w fun v w'=>∃ vp,v = .tuple #[vp,.int .i64 0]∧AA w' (fun b=>w.heap.size≤b) vp (dD g.nodes)):=by
 have HG:=Ae hg; have HSM:=Ae hsm; have HF:=Ae hf;obtain⟨vn,vi,rfl,⟨A,c,rfl,hc,_⟩,⟨Ai,ci,rfl,hci,_⟩⟩:=hg;clear hsm hf;go_in
 go_wp2_with fail
 refine(af7 _ F _ g (HG.out.on (Same.alloc _ _ _)) HSM.out HF.out).mono ?_;rintro e w1 ⟨_,rfl,hb,vp,rfl,hvp⟩;have hB:Below w.heap.size w w1:=((Below.refl w.heap.size w).alloc (Nat.le_refl _) _).trans (hb.mono ay);have HVP:=Ae (AA.keep (G:=fun b=>w.heap.size≤b) hvp (fun b hb' _=>by simp at hb'; omega) (Same.refl _ _));obtain⟨Ap,cp,rfl,_,_⟩:=hvp;clear hb;dsimp only;go_wp2
 go_ret2;exact⟨_,rfl,hB,_,rfl,HVP.out⟩
theorem Tryz.infoSeq4:(Tryz.prog.info? 184).map (fun i=>(i.zero,i.size,i.bytes))=some (some (.agg #[.int .i64 0,.int .i64 0,.int .i64 0,.int .i64 0,.int .i64 0,.int .i64 0,.int .i64 0,.int .i64 0]),8,64):=aj
theorem Tryz.infoSeq:(Tryz.prog.info? 89).map (fun i=>(i.zero,i.size,i.bytes))=some (some (.agg #[.int .i64 0,.int .i64 0]),2,16):=aj
theorem aeC {w:World} {b:Nat} {t:TypeId} {cs:List Value} (h:Row w b t cs) (d:Nat) (x y z v:Int×Int):∃ W,W=((((((((w.setCell ⟨b,d*8,none⟩ (.int .i64 x.1)).setCell ⟨b,d*8+1,none⟩ (.int .i64 x.2)).setCell ⟨b,d*8+2,none⟩ (.int .i64 y.1)).setCell ⟨b,d*8+3,none⟩ (.int .i64 y.2)).setCell ⟨b,d*8+4,none⟩ (.int .i64 z.1)).setCell ⟨b,d*8+5,none⟩ (.int .i64 z.2)).setCell ⟨b,d*8+6,none⟩ (.int .i64 v.1)).setCell ⟨b,d*8+7,none⟩ (.int .i64 v.2)) ∧
  Row W b t (set8 cs d x y z v)∧Wrote (fun k=>k=b) w W:=by
 refine⟨_,rfl,?_,?_⟩
 ·exact(((((((h.set _ _).set _ _).set _ _).set _ _).set _ _).set _ _).set _ _).set _ _
 ·have h0:Wrote (fun k=>k=b) w w:=Wrote.refl _ _;exact(((((((h0.setCell (p:=⟨b,d*8,none⟩) (.inl rfl) _).setCell (p:=⟨b,d*8+1,none⟩) (.inl rfl) _).setCell (p:=⟨b,d*8+2,none⟩) (.inl rfl) _).setCell (p:=⟨b,d*8+3,none⟩) (.inl rfl) _).setCell (p:=⟨b,d*8+4,none⟩) (.inl rfl) _).setCell (p:=⟨b,d*8+5,none⟩) (.inl rfl) _).setCell (p:=⟨b,d*8+6,none⟩) (.inl rfl) _).setCell (p:=⟨b,d*8+7,none⟩) (.inl rfl) _
theorem qA (w:World) (F:Ah) (u:Value) (g:Gm) (hg:AP w F u g) (hsm:Small g) (hf:aY g=0) :
  Calls Tryz.prog 76 #[u] w (Ret w fun v w'=>∃ vp,v = .tuple #[vp,.int .i64 (oQ g)]∧Az w' (fun b=>w.heap.size≤b) vp (jg g)):=by
 have HG:=Ae hg; have HSM:=Ae hsm; have HF:=Ae hf;have hni:=hsm.infos; have hn100:=hsm.nodes;have hgd:=kG hf;have HGD:=Ae hgd;have hpos:=hgd.pos;obtain⟨hp1,hp4⟩:=kL hf;obtain⟨P,hP⟩:∃ P:Nat,g.aA=(P:Int):=⟨g.aA.toNat,byOmega⟩;have HP:=Ae hP;have hPP:P≤4:=byOmega;have HPT:=Ae (show g.aA.toNat=P by omega);obtain⟨vn,vi,rfl,hN,hI⟩:=hg;have HN:=Ae hN;obtain⟨A,c,rfl,hc,hN2⟩:=hN;obtain⟨Ai,ci,rfl,hci,_⟩:=hI;obtain⟨b,o,rfl,hFb,hbl0,hcell⟩:=hN2 hpos;have HC:=Ae hcell;clear hsm hf hgd hp1 hp4 hcell hN2 hP;go_in
 go_wp2_with fail
 obtain⟨W,hW,rx,hB,hz⟩:=aO w 25 #[.int .i64 g.aA,.slice (some ⟨b,o,none⟩) g.nodes.length c,.slice Ai g.infos.length ci];rw[← hW];have HX:=Ae rx; have HB:=Ae hB;have x0:=rx.cell (i:=0) rfl;clear hW hz rx hB;go_wp2_with fail
 go_loopw [20] (fun iv wr=>∃ k:Nat,k≤P∧iv = .int .i64 (k:Int)∧kM g k=true∧Row wr w.heap.size 25 [.int .i64 g.aA,.slice (some ⟨b,o,none⟩) g.nodes.length c,.slice Ai g.infos.length ci]∧Below w.heap.size w wr) (fun iv _=>P - (intOf iv).toNat)
 case atStart=>exact⟨0,Nat.zero_le _,rfl,rfl,HX.out,HB.out⟩
 case round =>
  clear HX HB x0;obtain⟨k,hk,rfl,hpa,rx,hB⟩:=hrel;obtain⟨wa,rfl⟩:=named wr;have HPA:=Ae hpa;have x0:=rx.cell (i:=0) rfl; have x1:=rx.cell (i:=1) rfl; have x2:=rx.cell (i:=2) rfl;clear hpa;by_cases hlt:k < P
  ·have t0:decide ((k:Int) < g.aA)=true:=decide_eq_true (by rw[HP.out]; omega);go_wp2_with fail
   clear t0 x0 x1 x2;refine(abR wa F _ g (k:Int) (HG.out.on (Below.same' hB F)) HSM.out HF.out byOmega (by rw[HP.out]; omega)).mono ?_;rintro e w1 ⟨_,rfl,hb,rfl⟩;have hs:=qg g k;rw[HPA.out,Bool.true_and] at hs;replace rx:=rx.below hb rx.lt;replace hB:=hB.trans (hb.mono hB.size);have HRX:=Ae rx;clear hb rx;dsimp only;generalize wF g (k:Int)=pf at *;cases pf
   ·have hpf:=uh hs (show k+1≤P by omega);have HE:=Ae (show oQ g=13 by unfold oQ; rw[HPT.out,hpf]; rfl);have HO:=Ae (show jg g = [] by unfold jg; rw[HPT.out,hpf]; rfl);clear hs hpf;go_wp2_with fail
    go_ret2;exact⟨_,rfl,hB,_,by rw[HE.out]; rfl,by rw[HO.out]; exact Az.nil _ _⟩
   ·have HS:=Ae hs;clear hs;go_wp2_with fail
    go_roundw
    case rel=>exact⟨k+1,byOmega,by go_num,HS.out,HRX.out,hB⟩
    case measure=>simp[intOf]; omega
  ·have t0:decide ((k:Int) < g.aA)=false:=decide_eq_false (by rw[HP.out]; omega);have hpf:kM g P=true:=by rw[← HPA.out]; congr 1; omega
   have HE:=Ae (show oQ g=0 by unfold oQ; rw[HPT.out,hpf]; rfl);have HO:=Ae (show jg g=dM g by unfold jg; rw[HPT.out,hpf]; rfl);clear hpf hlt;go_wp2_with fail
   clear t0 x0 x1 x2;refine(abT wa F _ g (HG.out.on (Below.same' hB F)) HSM.out HF.out).mono ?_;rintro e w1 ⟨_,rfl,hb,vp,rfl,hvp⟩;replace rx:=rx.below hb rx.lt;replace hB:=hB.trans (hb.mono hB.size);obtain⟨Ap,cp,rfl,_,_⟩:=hvp;have x0:=rx.cell (i:=0) rfl; have x1:=rx.cell (i:=1) rfl; have x2:=rx.cell (i:=2) rfl;have hpl:(dD g.nodes).length=g.nodes.length:=fD _;rw[hpl];have x1':=x1;clear hb hpl;dsimp only;go_wp2_with (at_make; refine aaV _ rfl _ _ 183 rfl 184 _ 8 64 Tryz.underlying183 Tryz.infoSeq4 rfl byOmega g.nodes.length rfl rfl byOmega ?_; intro w2 hb2 hz2 hm2)
   obtain⟨bl,hbl⟩:=named w1.heap.size;have hrx2:=rx.below hb2 rx.lt;have HB2:=Ae (hB.trans (hb2.mono hB.size));have hxl:=rx.lt;rw[← hbl] at hm2 ⊢;have hlw:w.heap.size < bl:=byOmega;have HRX:=Ae hrx2; have HM2:=Ae hm2;have ahY:=hm2.lt;clear x0 x1 x2 x1' rx hB hb2 hz2 hm2 hbl hrx2 hxl;go_loopw [47] (fun iv wr=>∃ (k:Nat) (cs:List Value) (T:Nat→Nat→Int×Int),k≤4∧iv = .int .i64 (k:Int)∧Ce cs g.nodes.length T∧(∀ p,p < k→T 0 p=(-1,-1))∧Row wr bl 184 cs∧Wrote (fun x=>x=bl) w2 wr) (fun iv _=>4 - (intOf iv).toNat)
   case atStart=>exact⟨0,_,_,byOmega,rfl,Ce.zero _,fun p hp=>by omega,HM2.out,Wrote.refl _ _⟩
   case round =>
    clear HM2;obtain⟨k,cs,T,hk,rfl,htab,hT,hrow,hwr⟩:=hrel;obtain⟨wb,rfl⟩:=named wr;have HTAB:=Ae htab; have HT:=Ae hT; have Bd:=Ae hrow; have HWR:=Ae hwr;by_cases hlt:k < 4
    ·have hk4:(k:Int) < 4:=byOmega;obtain⟨h1,h2⟩:=htab.2 0 k hpos hlt;rw[Nat.zero_mul,Nat.zero_add] at h1 h2;have y0:=hrow.cell h1; have y1:=hrow.cell h2;have f0:=hrow.frozen (k*2); have f1:=hrow.frozen (k*2+1);clear htab hT hrow hwr h1 h2;go_wp2_with fail
     go_roundw
     case rel =>
      have h5:=HTAB.out.put hpos hlt (-1,-1);rw[Nat.zero_mul,Nat.zero_add] at h5;refine⟨k+1,_,_,byOmega,by go_num,h5,fun p hp=>?_,(Bd.out.set (k*2) _).set (k*2+1) _,(HWR.out.setCell (p:=⟨bl,k*2,none⟩) (.inl rfl) _).setCell (p:=⟨bl,k*2+1,none⟩) (.inl rfl) _⟩;unfold zX;by_cases e:p=k
      ·rw[if_pos ⟨rfl,e⟩]
      ·rw[if_neg (fun h=>e h.2)]; exact HT.out p byOmega
     case measure=>simp[intOf]; omega
    ·have hk4:k=4:=byOmega;subst hk4;have HIN:=Ae (BO.start HGD.out HT.out);have hcl:∀ b' o',b' < w2.heap.size→b'≠bl→wb.cell? ⟨b',o',none⟩=w2.cell? ⟨b',o',none⟩:=HWR.out.cell;have hxl:=HRX.out.lt;have x1:=(hcl w.heap.size 1 hxl byOmega).trans (HRX.out.cell (i:=1) rfl);clear htab hT hrow hwr hcl;go_wp2_with fail
     clear x1;go_loopw [59] (fun iv wr=>∃ (i:Nat) (cs:List Value) (T:Nat→Nat→Int×Int),i≤g.nodes.length∧iv = .int .i64 (i:Int)∧Ce cs g.nodes.length T∧BO g i 0 T∧Row wr bl 184 cs∧Wrote (fun x=>x=bl) w2 wr) (fun iv _=>g.nodes.length - (intOf iv).toNat)
     case atStart=>exact⟨0,cs,T,byOmega,rfl,HTAB.out,HIN.out,Bd.out,HWR.out⟩
     case round =>
      clear HTAB HIN Bd HWR HT;obtain⟨i,cs,T,hi,rfl,htab,hin,hrow,hwr⟩:=hrel;obtain⟨wd,rfl⟩:=named wr;have HTAB:=Ae htab; have HIN:=Ae hin; have Bd:=Ae hrow; have HWR:=Ae hwr;have hzd:=hwr.size;have HBD:=Ae (Wrote.below HB2.out hwr (fun b hb=>by omega) HB2.out.size);clear htab hin hrow hwr;by_cases hlt:i < g.nodes.length
      ·obtain⟨n,hn⟩:=aC hlt;have hne:=HC.out i n hn;have n0:=hne.c0; have n1:=hne.c1; have n2:=hne.c2;obtain⟨v3,n3,h3⟩:=hne.c3;obtain⟨v4,n4,h4⟩:=hne.c4;obtain⟨v5,n5,h5⟩:=hne.c5;have H3:=Ae h3;obtain⟨A3,c3,rfl,_,_⟩:=h3;obtain⟨A4,c4,rfl,_,_⟩:=h4;obtain⟨A5,c5,rfl,_,_⟩:=h5;replace n0:=ah n0 HBD.out; replace n1:=ah n1 HBD.out; replace n2:=ah n2 HBD.out; replace n3:=ah n3 HBD.out; replace n4:=ah n4 HBD.out; replace n5:=ah n5 HBD.out;have HNN:=Ae hn;have hnx:=HSM.out.next n (List.mem_of_getElem? hn);clear hn hne;go_wp2_with fail
       obtain⟨W1,hW1,rn,hbn,hz1⟩:=aO wd 61 #[.int .i64 n.kind,.int .i64 n.aI,.int .i64 n.info,.slice A3 n.next.length c3,.slice A4 n.weights.length c4,.slice A5 n.pay.length c5];rw[← hW1];obtain⟨nb,hnb⟩:=named wd.heap.size;rw[← hnb] at rn ⊢;have hnbl:bl < nb:=byOmega;have HRN:=Ae rn;have DX:=Ae (Bd.out.below hbn Bd.out.lt);have HWR1:=Ae (HWR.out.trans (show Wrote (fun x=>x=bl) wd W1 from⟨hbn.os,hbn.tape,hbn.output,hbn.size,fun b' hb' _=>hbn.block b' hb'⟩));clear hW1 hz1 hnb rn hbn n0 n1 n2 n3 n4 n5;go_loopw [67] (fun iv wr=>∃ (j:Nat) (cs:List Value) (T:Nat→Nat→Int×Int),j≤n.next.length∧iv = .int .i64 (j:Int)∧Ce cs g.nodes.length T∧BO g i j T∧Row wr bl 184 cs∧Row wr nb 61 [.int .i64 n.kind,.int .i64 n.aI,.int .i64 n.info,.slice A3 n.next.length c3,.slice A4 n.weights.length c4,.slice A5 n.pay.length c5]∧Wrote (fun x=>x=bl) w2 wr) (fun iv _=>n.next.length - (intOf iv).toNat)
       case atStart=>exact⟨0,cs,T,byOmega,rfl,HTAB.out,HIN.out,DX.out,HRN.out,HWR1.out⟩
       case round =>
        clear HTAB HIN Bd HWR DX HWR1 HRN HBD hzd;obtain⟨j,cs,T,hj,rfl,htab,hin,hrow,rn,hwr⟩:=hrel;obtain⟨we,rfl⟩:=named wr;have HTAB:=Ae htab; have HIN:=Ae hin; have Bd:=Ae hrow; have HWR:=Ae hwr; have HRN:=Ae rn;have HBD:=Ae (Wrote.below HB2.out hwr (fun b hb=>by omega) HB2.out.size);by_cases hjt:j < n.next.length
        ·obtain⟨x,hx⟩:=aC hjt;have hk:=HGD.out.span.kids i n (Nat.zero_le _) hlt HNN.out x (List.mem_of_getElem? hx);obtain⟨d,rfl⟩:∃ d:Nat,x=(d:Int):=⟨x.toNat,byOmega⟩;have hdN:d < g.nodes.length:=byOmega;have hdi:i < d:=byOmega;obtain⟨b3,o3,e3,_,hb3,zS⟩:=oO H3.out byOmega;subst e3;have ec:=ah (zS j _ hx) HBD.out;have HXD:=Ae hx;have y0:we.cell? ⟨bl,i*8,none⟩=some (.int .i64 (T i 0).1):=hrow.cell (htab.2 i 0 hlt aB).1;have f0:=hrow.frozen (d*8);have z0:we.cell? ⟨bl,d*8,none⟩=some (.int .i64 (T d 0).1):=hrow.cell (htab.2 d 0 hdN aB).1;have y1:we.cell? ⟨bl,i*8+1,none⟩=some (.int .i64 (T i 0).2):=hrow.cell (htab.2 i 0 hlt aB).2;have f1:=hrow.frozen (d*8+1);have z1:we.cell? ⟨bl,d*8+1,none⟩=some (.int .i64 (T d 0).2):=hrow.cell (htab.2 d 0 hdN aB).2;have y2:we.cell? ⟨bl,i*8+2,none⟩=some (.int .i64 (T i 1).1):=hrow.cell (htab.2 i 1 hlt aB).1;have f2:=hrow.frozen (d*8+2);have z2:we.cell? ⟨bl,d*8+2,none⟩=some (.int .i64 (T d 1).1):=hrow.cell (htab.2 d 1 hdN aB).1;have y3:we.cell? ⟨bl,i*8+3,none⟩=some (.int .i64 (T i 1).2):=hrow.cell (htab.2 i 1 hlt aB).2;have f3:=hrow.frozen (d*8+3);have z3:we.cell? ⟨bl,d*8+3,none⟩=some (.int .i64 (T d 1).2):=hrow.cell (htab.2 d 1 hdN aB).2;have y4:we.cell? ⟨bl,i*8+4,none⟩=some (.int .i64 (T i 2).1):=hrow.cell (htab.2 i 2 hlt aB).1;have f4:=hrow.frozen (d*8+4);have z4:we.cell? ⟨bl,d*8+4,none⟩=some (.int .i64 (T d 2).1):=hrow.cell (htab.2 d 2 hdN aB).1;have y5:we.cell? ⟨bl,i*8+5,none⟩=some (.int .i64 (T i 2).2):=hrow.cell (htab.2 i 2 hlt aB).2;have f5:=hrow.frozen (d*8+5);have z5:we.cell? ⟨bl,d*8+5,none⟩=some (.int .i64 (T d 2).2):=hrow.cell (htab.2 d 2 hdN aB).2;have y6:we.cell? ⟨bl,i*8+6,none⟩=some (.int .i64 (T i 3).1):=hrow.cell (htab.2 i 3 hlt aB).1;have f6:=hrow.frozen (d*8+6);have z6:we.cell? ⟨bl,d*8+6,none⟩=some (.int .i64 (T d 3).1):=hrow.cell (htab.2 d 3 hdN aB).1;have y7:we.cell? ⟨bl,i*8+7,none⟩=some (.int .i64 (T i 3).2):=hrow.cell (htab.2 i 3 hlt aB).2;have f7:=hrow.frozen (d*8+7);have z7:we.cell? ⟨bl,d*8+7,none⟩=some (.int .i64 (T d 3).2):=hrow.cell (htab.2 d 3 hdN aB).2;have n0:=rn.cell (i:=0) rfl; have n1:=rn.cell (i:=1) rfl; have n2:=rn.cell (i:=2) rfl; have n3:=rn.cell (i:=3) rfl;clear htab hin hrow hwr rn hk zS hx;go_upto_region 26 with(fail)
         obtain⟨W5,hW5,hr5,hw5⟩:=aeC Bd.out d (T i 0) (T i 1) (T i 2) (T i 3);rw[← hW5];have hnlt:=HRN.out.lt;have m0:=(hw5.cell nb 0 hnlt byOmega).trans n0; have m1:=(hw5.cell nb 1 hnlt byOmega).trans n1; have m2:=(hw5.cell nb 2 hnlt byOmega).trans n2;have HT5:=Ae (HTAB.out.copy (s:=i) hdN);have HRN5:=Ae (HRN.out.wrote hw5 byOmega);have HW5:=Ae (HWR.out.trans hw5);have HR5:=Ae hr5;clear hW5 hr5 hw5 n0 n1 n2 n3 ec hnlt HWR HRN Bd HBD y0 y1 y2 y3 y4 y5 y6 y7 z0 z1 z2 z3 z4 z5 z6 z7 f0 f1 f2 f3 f4 f5 f6 f7;by_cases hk2:n.kind=2
         case neg =>
          have t1:(n.kind==2)=false:=by simpa using hk2
          have DN:=Ae (HIN.out.kid HGD.out HNN.out HXD.out (T':=adf T d i) (fun c p h=>if_neg h) (fun p hp=>by unfold adf; rw[if_pos rfl,if_neg (fun h=>hk2 h.1)]));clear hk2;go_wp2_with fail
          go_roundw
          case rel=>exact⟨j+1,_,_,byOmega,by go_num,HT5.out,DN.out,HR5.out,HRN5.out,HW5.out⟩
          case measure=>simp[intOf]; omega
         have t1:(n.kind==2)=true:=by simp[hk2]
         obtain⟨pp,hpp,af8⟩:∃ pp:Nat,n.aI=(pp:Int)∧pp < 4:=by
          have h1:=qc (iw HF.out).1 (List.mem_of_getElem? HNN.out) hk2;have h2:=HP.out;exact⟨n.aI.toNat,byOmega,byOmega⟩
         have DN:=Ae (HIN.out.kid HGD.out HNN.out HXD.out (T':=zX (adf T d i) d pp (n.info,(j:Int))) (fun c p h=>by unfold zX; rw[if_neg (fun e=>h e.1)]; exact if_neg h) (fun p hp=>by
          unfold zX;by_cases e:p=pp
          ·rw[if_pos ⟨rfl,e⟩,if_pos ⟨hk2,by rw[hpp,e]⟩]
          ·rw[if_neg (fun h=>e h.2),if_neg (fun h=>e (by have:=h.2; omega))]; exact if_pos rfl))
         have HPE:=Ae hpp;rw[hpp] at m1;have q0:=HR5.out.cell (HT5.out.2 d pp hdN af8).1; have q1:=HR5.out.cell (HT5.out.2 d pp hdN af8).2;have g0:=HR5.out.frozen (d*8+pp*2); have g1:=HR5.out.frozen (d*8+pp*2+1);have hpi:(pp:Int) < 4:=byOmega;clear hk2 hpp;go_wp2_with fail
         refine bW (fun w'=>w'.cell? ⟨nb,1,none⟩=some (.int .i64 (pp:Int))∧w'.cell? ⟨nb,2,none⟩=some (.int .i64 n.info)) 10 1 aj rfl aj ?_;have hHeld:(fun w':World=>w'.cell? ⟨nb,1,none⟩=some (.int .i64 (pp:Int))∧w'.cell? ⟨nb,2,none⟩=some (.int .i64 n.info)) W5.drew:=⟨m1,m2⟩;simp only[List.take_succ_cons,List.take_zero];refine tk0 [0,1,2,3,4,5,6,7,8,9] ?_;iterate 10 (refine tk (v:=?_) rfl aj aj aj (fun _ _ _ h=>h) (Or.inl ⟨by rfl,?_⟩) hHeld ?_;rotate_left;(focus intro wx hSx;(try dsimp only at hSx);go_split_ands;go_simp;try with_reducible rfl);try simp only[Act.put,lq1,lq2,lq3,lq4,lq5,lq6])
         refine tk1 ?_;refine wpAnyH_done aj ?_ _;clear hHeld;show wpList _ _ _ _ _ _;go_wp2
         unfold Bv;show Exit.inBlock _ _ .normal _ _;go_wp2
         go_roundw
         case rel =>
          (repeat apply Exists.intro)
          refine⟨⟨j+1,_,_,byOmega,by go_num,HT5.out.put hdN af8 (n.info,(j:Int)),DN.out,(HR5.out.drew.set _ _).set _ _,(HRN5.out.drew.other (a:=⟨bl,d*8+pp*2,none⟩) (by show nb≠bl; omega) _).other (a:=⟨bl,d*8+pp*2+1,none⟩) (by show nb≠bl; omega) _,(HW5.out.drew.setCell (p:=⟨bl,d*8+pp*2,none⟩) (.inl rfl) _).setCell (p:=⟨bl,d*8+pp*2+1,none⟩) (.inl rfl) _⟩,rfl⟩
         case measure=>simp[intOf]; omega
        ·have hje:j=n.next.length:=byOmega;subst hje;have DN:=Ae (HIN.out.next HNN.out);clear htab hin hrow rn hwr;go_wp2_with fail
         go_roundw
         case rel=>exact⟨i+1,cs,T,byOmega,by go_num,HTAB.out,DN.out,Bd.out,HWR.out⟩
         case measure=>simp[intOf]; omega
      ·have hie:i=g.nodes.length:=byOmega;subst hie;have hxl:=HRX.out.lt;have x1:=(HWR.out.cell w.heap.size 1 hxl byOmega).trans (HRX.out.cell (i:=1) rfl);have x2:=(HWR.out.cell w.heap.size 2 hxl byOmega).trans (HRX.out.cell (i:=2) rfl);have hwN:IntKind.i64.wrap ((g.nodes.length:Int) - 1)=(g.nodes.length:Int) - 1:=IntWalk.i64_in _ byOmega;go_wp2_with (at_make; refine aaV _ rfl _ _ 41 rfl 89 _ 2 16 Tryz.underlying41 Tryz.infoSeq rfl byOmega g.infos.length rfl rfl byOmega ?_; intro w5 hb5 hz5 hm5)
       obtain⟨b2,hb2⟩:=named wd.heap.size;rw[← hb2] at hm5 ⊢;have HM5:=Ae hm5;have En:=Ae (Bd.out.below hb5 Bd.out.lt);have HX5:=Ae ((HRX.out.wrote HWR.out byOmega).below hb5 byOmega);have HB5:=Ae (HBD.out.trans (hb5.mono HBD.out.size));have hbb:bl < b2:=byOmega;have hb25:=hm5.lt;have hTd:=HIN.out;have HTD:=Ae (fun c p (hc:c < g.nodes.length) (hp:p < 4)=>hTd.done HGD.out hc hp);clear x1 x2 hm5 hb5 hz5 hb2 hTd hwN;go_loopw [16] (fun iv wr=>∃ (m:Nat) (z:Int) (O:List (Int×Int)),m≤g.nodes.length∧iv = .int .i64 z∧z=(m:Int) - 1∧BJ g m O∧Row wr b2 89 (kQ O)∧Wrote (fun x=>x=b2) w5 wr) (fun iv _=>(intOf iv+1).toNat)
       case atStart =>
        refine⟨g.nodes.length,_,List.replicate g.infos.length (0,0),Nat.le_refl _,rfl,rfl,BJ.start g,?_,Wrote.refl _ _⟩;have e:kQ (List.replicate g.infos.length (0,0))=List.replicate (g.infos.length*2) (.int .i64 0):=by
         have:∀ n,kQ (List.replicate n (0,0))=List.replicate (n*2) (.int .i64 0):=by
          intro n;induction n with
          | zero=>rfl
          | succ n ih =>
           rw[List.replicate_succ];show _ :: _ :: kQ (List.replicate n (0,0))=_;rw[ih,show(n+1)*2=n*2+1+1 by omega,List.replicate_succ,List.replicate_succ]
         exact this _
        rw[e]; exact HM5.out
       case round =>
        clear HM5;obtain⟨m,z,O,hm,rfl,hz,hout,hrow,hwr⟩:=hrel;obtain⟨wg,rfl⟩:=named wr;have Du:=Ae hout; have HRO:=Ae hrow; have HW:=Ae hwr;clear hout hrow hwr;rcases Nat.eq_zero_or_pos m with h0 | h0
        ·subst h0;have t0:decide (0≤z)=false:=decide_eq_false byOmega;have HD:=Ae (Du.out.done HF.out);have HBG:=Ae (Wrote.below HB5.out HW.out (fun b hb=>by omega) HB5.out.size);have hln:=Du.out.1;clear hz;go_wp2
         go_ret2;refine⟨_,rfl,HBG.out,_,by rw[HE.out]; rfl,?_⟩;rw[HO.out,← HD.out];have h1:=Row.pairs (rest:=[]) (G:=fun b=>w.heap.size≤b) (by rw[List.append_nil]; exact HRO.out) (show w.heap.size≤b2 by omega) (c:=g.infos.length) byOmega;rw[hln] at h1;exact h1
        ·obtain⟨i,rfl⟩:∃ i,m=i+1:=⟨m - 1,byOmega⟩;obtain rfl:z=(i:Int):=byOmega;have t0:decide (0≤(i:Int))=true:=decide_eq_true byOmega;have hwi:IntKind.i64.wrap ((i:Int) - 1)=(i:Int) - 1:=IntWalk.i64_in _ byOmega;have HBG:=Ae (Wrote.below HB5.out HW.out (fun b hb=>by omega) HB5.out.size);obtain⟨n,hn⟩:=aC (l:=g.nodes) (k:=i) byOmega;have hne:=HC.out i n hn;have n0:=hne.c0; have n1:=hne.c1; have n2:=hne.c2;obtain⟨v3,n3,h3⟩:=hne.c3;obtain⟨v4,n4,h4⟩:=hne.c4;obtain⟨v5,n5,h5⟩:=hne.c5;obtain⟨A3,c3,rfl,_,_⟩:=h3;obtain⟨A4,c4,rfl,_,_⟩:=h4;obtain⟨A5,c5,rfl,_,_⟩:=h5;replace n0:=ah n0 HBG.out; replace n1:=ah n1 HBG.out; replace n2:=ah n2 HBG.out; replace n3:=ah n3 HBG.out; replace n4:=ah n4 HBG.out; replace n5:=ah n5 HBG.out;have HXG:=Ae (HX5.out.wrote HW.out (by have:=HX5.out.lt; have:=HRX.out.lt; omega));have x1:=HXG.out.cell (i:=1) rfl;have HRG:=Ae (En.out.wrote HW.out byOmega);have HNN:=Ae hn;have hiN:i < g.nodes.length:=byOmega;clear hn hne hz;go_upto_region 35 with(fail)
         obtain⟨W1,hW1,rn,hbn,hz1⟩:=aO wg 61 #[.int .i64 n.kind,.int .i64 n.aI,.int .i64 n.info,.slice A3 n.next.length c3,.slice A4 n.weights.length c4,.slice A5 n.pay.length c5];rw[← hW1];obtain⟨nb,hnb⟩:=named wg.heap.size;rw[← hnb] at rn ⊢;have Dv:=Ae (HRO.out.below hbn HRO.out.lt); have HRG1:=Ae (HRG.out.below hbn HRG.out.lt);have HW1:=Ae (HW.out.trans (show Wrote (fun x=>x=b2) wg W1 from⟨hbn.os,hbn.tape,hbn.output,hbn.size,fun b' hb' _=>hbn.block b' hb'⟩));have m0:=rn.cell (i:=0) rfl; have m1:=rn.cell (i:=1) rfl; have m2:=rn.cell (i:=2) rfl;clear hW1 hz1 hnb rn hbn n0 n1 n2 n3 n4 n5 x1;by_cases hk2:n.kind=2
         case neg =>
          have t1:(n.kind==2)=false:=by simpa using hk2
          have HO2:=Ae (Du.out.skip HNN.out hk2);clear hk2;go_wp2_with fail
          go_roundw
          case rel=>exact⟨i,_,O,byOmega,rfl,rfl,HO2.out,Dv.out,HW1.out⟩
          case measure=>simp[intOf] <;> omega
         have t1:(n.kind==2)=true:=by simp[hk2]
         obtain⟨pp,hpp,af8⟩:∃ pp:Nat,n.aI=(pp:Int)∧pp < 4:=by
          have h1:=qc (iw HF.out).1 (List.mem_of_getElem? HNN.out) hk2;have h2:=HP.out;exact⟨n.aI.toNat,byOmega,byOmega⟩
         have hin:=HGD.out.infos n (List.mem_of_getElem? HNN.out) hk2;obtain⟨s,hs⟩:∃ s:Nat,n.info=(s:Int):=⟨n.info.toNat,byOmega⟩;have hsl:s < g.infos.length:=byOmega;obtain⟨inf,hi1,_,hi2⟩:=ny HF.out (List.mem_of_getElem? HNN.out) hk2;have HLP:=Ae (show kP g (pp:Int) i=kP g (g.infos.getD s default).aI i by
          rw[hs,Int.toNat_natCast] at hi1;rw[List.getD_eq_getElem?_getD,hi1,Option.getD_some,hi2,hpp])
         have HO2:=Ae (Du.out.put HNN.out hk2 hs hsl (kP g (pp:Int) i) HLP.out);obtain⟨lp,hlp⟩:=named (kP g (pp:Int) i);have hTc:=HTD.out i pp hiN af8;obtain⟨y0,y1⟩:=HTAB.out.2 i pp hiN af8;rw[hTc,← hlp] at y0 y1;rw[← hlp] at HO2;replace y0:=HRG1.out.cell y0; replace y1:=HRG1.out.cell y1;rw[hpp] at m1;rw[hs] at m2;obtain⟨ox,hox⟩:=aC (l:=O) (k:=s) (by rw[Du.out.1]; exact hsl);obtain⟨z0,z1⟩:=sJ (rest:=[]) hox;rw[List.append_nil] at z0 z1;replace z0:=Dv.out.cell z0; replace z1:=Dv.out.cell z1;have g0:=Dv.out.frozen (s*2); have g1:=Dv.out.frozen (s*2+1);have hpi:(pp:Int) < 4:=byOmega;clear hk2 hpp hin hs hi1 hi2 hlp hTc hox;go_wp2_with fail
         refine bW (fun w'=>w'.cell? ⟨nb,1,none⟩=some (.int .i64 (pp:Int))∧w'.cell? ⟨nb,2,none⟩=some (.int .i64 (s:Int))∧w'.cell? ⟨bl,i*8+pp*2,none⟩=some (.int .i64 lp.1)∧w'.cell? ⟨bl,i*8+pp*2+1,none⟩=some (.int .i64 lp.2)) 11 1 aj rfl aj ?_;have hHeld:(fun w':World=>w'.cell? ⟨nb,1,none⟩=some (.int .i64 (pp:Int))∧w'.cell? ⟨nb,2,none⟩=some (.int .i64 (s:Int))∧w'.cell? ⟨bl,i*8+pp*2,none⟩=some (.int .i64 lp.1)∧w'.cell? ⟨bl,i*8+pp*2+1,none⟩=some (.int .i64 lp.2)) W1.drew:=⟨m1,m2,y0,y1⟩;simp only[List.take_succ_cons,List.take_zero];refine tk0 [0,1,2,3,4,5,6,7,8,9,10] ?_;iterate 11 (refine tk (v:=?_) rfl aj aj aj (fun _ _ _ h=>h) (Or.inl ⟨by rfl,?_⟩) hHeld ?_;rotate_left;(focus intro wx hSx;(try dsimp only at hSx);go_split_ands;go_simp;try with_reducible rfl);try simp only[Act.put,lq1,lq2,lq3,lq4,lq5,lq6])
         refine tk1 ?_;refine wpAnyH_done aj ?_ _;clear hHeld;show wpList _ _ _ _ _ _;go_wp2
         unfold Bv;show Exit.inBlock _ _ .normal _ _;go_wp2
         go_roundw
         case rel =>
          have h1:=(Dv.out.set (s*2) (.int .i64 lp.1)).set (s*2+1) (.int .i64 lp.2);have h2:=xG (rest:=[]) (show s < O.length by rw[Du.out.1]; exact hsl) lp;rw[List.append_nil,List.append_nil] at h2;rw[h2] at h1;exact⟨i,_,O.set s lp,byOmega,rfl,rfl,HO2.out,h1.drew,((HW1.out.setCell (p:=⟨b2,s*2,none⟩) (.inl rfl) _).setCell (p:=⟨b2,s*2+1,none⟩) (.inl rfl) _).drew⟩
         case measure=>simp[intOf] <;> omega
theorem Tryz.infoNumRow:(Tryz.prog.info? 110).map (fun i=>(i.zero,i.size,i.bytes))=some (some (.slice none 0 0),1,24):=aj
def aad (g:Gm):Int:=if aY g≠0 then aY g else oQ g
def l7 (g:Gm):List (Int×Int):=if aY g≠0 then [] else jg g
theorem oq (w:World) (F:Ah) (u:Value) (g:Gm) (hg:AP w F u g) (hsm:Small g) :
  Calls Tryz.prog 26 #[u] w (Ret w fun v w'=>∃ vp,v = .tuple #[vp,.int .i64 (aad g)]∧Az w' (fun b=>w.heap.size≤b) vp (l7 g)):=by
 have HG:=Ae hg; have HSM:=Ae hsm;obtain⟨vn,vi,rfl,⟨A,c,rfl,hc,_⟩,⟨Ai,ci,rfl,hci,_⟩⟩:=hg;clear hsm;go_in
 go_wp2_with fail
 obtain⟨W,hW,rx,hB,hz⟩:=aO w 25 #[.int .i64 g.aA,.slice A g.nodes.length c,.slice Ai g.infos.length ci];rw[← hW];replace HG:=Ae (HG.out.on (Below.same' hB F));have x0:=rx.cell (i:=0) rfl; have x1:=rx.cell (i:=1) rfl; have x2:=rx.cell (i:=2) rfl;clear hW hz;go_wp2_with fail
 clear x0 x1 x2;refine(sG W F _ g HG.out HSM.out).mono ?_;rintro e w1 ⟨_,rfl,hb,rfl⟩;rw[pY];replace HG:=Ae (HG.out.on (Below.same' hb F));replace rx:=rx.below hb rx.lt;replace hB:=hB.trans (hb.mono hB.size);have x0:=rx.cell (i:=0) rfl; have x1:=rx.cell (i:=1) rfl; have x2:=rx.cell (i:=2) rfl;have hPE:aad g=if aY g≠0 then aY g else oQ g:=rfl
 have hPO:l7 g=if aY g≠0 then [] else jg g:=rfl
 have HPE:=Ae hPE; have HPO:=Ae hPO;have HF:=Ae (fun h:aY g=0=>h);obtain⟨fe,hfe⟩:=named (aY g);rw[← hfe] at HPE HPO HF ⊢;have HFE:=Ae hfe;clear hb hPE hPO hfe rx;dsimp only;by_cases h0:fe=0
 ·subst h0;go_wp2_with fail
  clear x0 x1 x2;refine(qA w1 F _ g HG.out HSM.out HFE.out.symm).mono ?_;rintro e w2 ⟨_,rfl,hb,vp,rfl,hvp⟩;have HB2:=Ae (hB.trans (hb.mono hB.size));have HVP:=Ae (Az.keep (G:=fun b=>w.heap.size≤b) hvp (fun b h _=>by have:=hB.size; omega) (Same.refl _ _));obtain⟨Ap,cp,rfl⟩:=hvp.open;clear hb hvp;dsimp only;go_wp2_with fail
  go_ret2;exact⟨_,rfl,HB2.out,_,by rw[HPE.out,if_neg aB]; rfl,by rw[HPO.out,if_neg aB]; exact HVP.out⟩
 ·have t0:(fe != 0)=true:=by simp[h0]
  have H0:=Ae h0;clear h0;go_wp2_with fail
  go_ret2;exact⟨_,rfl,hB,_,by rw[HPE.out,if_pos H0.out]; rfl,by rw[HPO.out,if_pos H0.out]; exact Az.nil _ _⟩
def nD (g:Gm):List (List Rat):=g.infos.map fun i=>lI i.actions.toNat
def qh (g:Gm):List (List Raw):=if aY g≠0 then [] else (nD g).map (List.map aG)
theorem sK {g:Gm} (hf:aY g=0) {i:Nat} {inf:Inf} (hi:g.infos[i]? = some inf):1≤inf.actions∧inf.actions≤10:=by
 obtain⟨n,hn,hk,hin,_⟩:=lq hf (aK hi);obtain⟨inf',h1,h2,_⟩:=ny hf (List.mem_of_getElem? hn) hk;have h3:=qc (iw hf).1 (List.mem_of_getElem? hn) hk;rw[hin,Int.toNat_natCast,hi] at h1;cases h1
 omega
theorem ah4 {n:Nat} (h1:1≤n) (h2:n≤10):∀ x∈lI n,rl x≤4:=by
 intro x hx;unfold lI at hx;rw[List.eq_of_mem_replicate hx];exact aeX ⟨byOmega,byOmega⟩ ⟨byOmega,byOmega⟩
theorem yO {g:Gm} (hf:aY g=0):∀ l∈nD g,l.length≤10∧∀ x∈l,rl x≤4:=by
 intro l hl;unfold nD at hl;obtain⟨inf,hi,rfl⟩:=List.mem_map.1 hl;obtain⟨i,hi⟩:=List.getElem?_of_mem hi;obtain⟨h1,h2⟩:=sK hf hi;exact⟨by unfold lI; rw[List.length_replicate]; omega,ah4 byOmega byOmega⟩
theorem uV {xs:List Rat} (h:∀ x∈xs,rl x≤1024):qE xs=0:=by
 unfold qE;rw[if_neg];intro he;obtain⟨x,hx,h1⟩:=List.any_eq_true.1 he;have:=h x hx;have h2:=of_decide_eq_true h1;omega
theorem yB (w:World) (F:Ah) (u:Value) (g:Gm) (hg:AP w F u g) (hsm:Small g) :
  Calls Tryz.prog 22 #[u] w (Ret w fun v w'=>∃ t,v = .tuple #[t,.int .i64 (aY g)]∧Ag w' (fun b=>w.heap.size≤b) t (qh g)):=by
 have HG:=Ae hg; have HSM:=Ae hsm;have hni:=hsm.infos;obtain⟨vn,vi,rfl,⟨A,c,rfl,hc,_⟩,hI⟩:=hg;have HI:=Ae hI;obtain⟨Ai,ci,rfl,hci,_⟩:=hI;clear hsm;go_in
 go_wp2_with fail
 obtain⟨W,hW,rx,hB,hz⟩:=aO w 25 #[.int .i64 g.aA,.slice A g.nodes.length c,.slice Ai g.infos.length ci];rw[← hW];replace HG:=Ae (HG.out.on (Below.same' hB F));have x0:=rx.cell (i:=0) rfl; have x1:=rx.cell (i:=1) rfl; have x2:=rx.cell (i:=2) rfl;clear hW hz;go_wp2_with fail
 clear x0 x1 x2;refine(sG W F _ g HG.out HSM.out).mono ?_;rintro e w1 ⟨_,rfl,hb,rfl⟩;rw[pY];replace rx:=rx.below hb rx.lt;replace hB:=hB.trans (hb.mono hB.size);have HU:=Ae (show qh g=if aY g≠0 then [] else (nD g).map (List.map aG) from rfl);obtain⟨fe,hfe⟩:=named (aY g);rw[← hfe] at HU ⊢;have HFE:=Ae hfe;clear hb hfe;dsimp only;by_cases h0:fe=0
 case neg =>
  have t0:(fe != 0)=true:=by simp[h0]
  have H0:=Ae h0;clear h0;go_wp2_with fail
  go_ret2;exact⟨_,rfl,hB,_,by rw[← HFE.out]; rfl,by rw[HU.out,if_pos H0.out]; exact Ag.nil _ _⟩
 subst h0;go_wp2_with fail
 refine(afX w1).mono ?_;rintro e w2 ⟨_,rfl,hb,vs,rfl,hev⟩;have hz12:=hb.size;have x2:=ah (rx.cell (i:=2) rfl) hb;have hxl:=rx.lt;replace rx:=rx.below hb rx.lt;replace hB:=hB.trans (hb.mono hB.size);have HEV:=Ae (hev.keep (G:=fun b=>w.heap.size < b) (fun b h _=>by omega) (Same.refl _ _));obtain⟨a0,a1,a2,a3,a4,a5,a6,a7,a8,a9,a10,rfl⟩:=ahn hev.1;clear hev hb;obtain⟨A0,C0,e0,-,-⟩:=HEV.out.2 0 a0 _ rfl rfl;obtain rfl:a0 = .slice A0 0 C0:=e0;obtain⟨A1,C1,e1,-,-⟩:=HEV.out.2 1 a1 _ rfl rfl;obtain rfl:a1 = .slice A1 1 C1:=e1;obtain⟨A2,C2,e2,-,-⟩:=HEV.out.2 2 a2 _ rfl rfl;obtain rfl:a2 = .slice A2 2 C2:=e2;obtain⟨A3,C3,e3,-,-⟩:=HEV.out.2 3 a3 _ rfl rfl;obtain rfl:a3 = .slice A3 3 C3:=e3;obtain⟨A4,C4,e4,-,-⟩:=HEV.out.2 4 a4 _ rfl rfl;obtain rfl:a4 = .slice A4 4 C4:=e4;obtain⟨A5,C5,e5,-,-⟩:=HEV.out.2 5 a5 _ rfl rfl;obtain rfl:a5 = .slice A5 5 C5:=e5;obtain⟨A6,C6,e6,-,-⟩:=HEV.out.2 6 a6 _ rfl rfl;obtain rfl:a6 = .slice A6 6 C6:=e6;obtain⟨A7,C7,e7,-,-⟩:=HEV.out.2 7 a7 _ rfl rfl;obtain rfl:a7 = .slice A7 7 C7:=e7;obtain⟨A8,C8,e8,-,-⟩:=HEV.out.2 8 a8 _ rfl rfl;obtain rfl:a8 = .slice A8 8 C8:=e8;obtain⟨A9,C9,e9,-,-⟩:=HEV.out.2 9 a9 _ rfl rfl;obtain rfl:a9 = .slice A9 9 C9:=e9;obtain⟨A10,C10,e10,-,-⟩:=HEV.out.2 10 a10 _ rfl rfl;obtain rfl:a10 = .slice A10 10 C10:=e10;have x2o:=fun ob=>gQ x2 ob
 dsimp only;go_wp2_with fail
 clear x2o;obtain⟨W3,hW3,re,hb,hz⟩:=aO w2 111 #[.slice A0 0 C0,.slice A1 1 C1,.slice A2 2 C2,.slice A3 3 C3,.slice A4 4 C4,.slice A5 5 C5,.slice A6 6 C6,.slice A7 7 C7,.slice A8 8 C8,.slice A9 9 C9,.slice A10 10 C10];rw[← hW3];obtain⟨vs,hvl,hE,hre⟩:∃ vs:List Value,vs.length=11∧AQ W3 (fun b=>w.heap.size < b∧b < w2.heap.size) vs ((List.range 11).map fun n=>(lI n).map ak)∧Row W3 w2.heap.size 111 vs:=⟨_,rfl,HEV.out.keep (fun b h hl=>⟨h,byOmega⟩) (Below.same' hb _),re⟩;have HE:=Ae hE; have HRE:=Ae hre; have HVL:=Ae hvl;have HI3:=Ae (HI.out.on (Below.same' (hB.trans (hb.mono hB.size)) F));have HB3:=Ae (hB.trans (hb.mono hB.size));have hbew:w.heap.size < w2.heap.size:=byOmega;have hbeW:=re.lt;clear hE re hre hb hz hW3 rx hB x2 HEV hvl;go_loopw [6,18] (fun ov iv wr=>∃ (k:Nat) (L:List (Value×List Raw)),k≤g.infos.length∧iv = .int .i64 (k:Int)∧L.length=k∧L.map Prod.snd=((nD g).take k).map (List.map ak)∧AO qV wr W3.heap.size 110 (fun b=>w.heap.size < b∧b < w2.heap.size) ov L∧Below W3.heap.size W3 wr) (fun _ iv _=>g.infos.length - (intOf iv).toNat)
 case atStart=>exact⟨0,[],byOmega,rfl,rfl,rfl,AO.nil _ _ _ _ _,Below.refl _ _⟩
 case round =>
  obtain⟨k,L,hk,rfl,hLl,hLm,hown,hbel⟩:=hrel;have HLL:=Ae hLl; have HLM:=Ae hLm; have HO:=Ae hown;obtain⟨wa,rfl⟩:=named wr;clear hLl hLm hown;by_cases hlt:k < g.infos.length
  ·obtain⟨inf,dS⟩:=aC hlt;obtain⟨ha1,ha2⟩:=sK HFE.out.symm dS;obtain⟨a,ha⟩:∃ a:Nat,inf.actions=(a:Int):=⟨inf.actions.toNat,byOmega⟩;have ha11:a < 11:=byOmega;obtain⟨va,hva⟩:=aC (l:=vs) (k:=a) (by rw[HVL.out]; exact ha11);have hra:=HE.out.2 a va ((lI a).map ak) hva (by rw[List.getElem?_map,List.getElem?_range ha11]; rfl);have ec:=ah (HRE.out.cell hva) hbel;have HRA:=Ae (AB.keep (G:=fun b=>w.heap.size < b∧b < w2.heap.size) hra (fun _ h _=>h) (Below.same' hbel _));obtain⟨Au,cu,e,_,_⟩:=hra;have hla:((lI a).map ak).length=a:=by rw[List.length_map]; exact List.length_replicate ..
   rw[hla] at e;subst e;have hi4:=HI3.out.on (Below.same' hbel F);obtain⟨A',c',e,_,hx⟩:=hi4;injection e with e1 e2 e3
   subst e1;obtain⟨bI,oI,rfl,_,hbI,hcI⟩:=hx byOmega;have p0:=(hcI k inf dS).c0; have p1:=(hcI k inf dS).c1;rw[ha] at p1;have Cm:=Ae dS; have HA:=Ae ha;have hai:(a:Int) < 11:=byOmega;have hbz:=hbel.size;clear dS ha ha1 ha2 hva hla e2 e3 hx hcI;go_upto_region 9 with(fail)
   obtain⟨W4,hW4,ri,hb4,hz4⟩:=aO wa 59 #[.int .i64 inf.aI,.int .i64 (a:Int)];rw[← hW4];have i1:=ri.cell (i:=1) rfl;have ec4:=ah ec hb4;have HO4:=Ae (HO.out.below hb4);have HRA4:=Ae (AB.keep (G:=Apart (fun b=>w.heap.size < b∧b < w2.heap.size) u6) HRA.out (fun b h _=>⟨h,fun e=>by have:=(HO.out.row.lt b e).1; omega⟩) (Below.same' hb4 _));have aiZ:=hbel.trans (hb4.mono hbz);clear hW4 hz4 ri hb4 p0 p1 ec hbel;go_wp2_with (at_builtin; refine eY (K:=qV) (F:=fun b=>w.heap.size < b∧b < w2.heap.size) rfl _ _ 114 110 24 _ Tryz.underlying114 Tryz.infoNumRow rfl aB rfl W3.heap.size (Nat.le_refl _) u6 L rfl (.slice Au a cu,(lI a).map ak) _ rfl (by have:=HLL.out; omega) rfl HO4.out HRA4.out aiZ ?_; intro g' cap w' hown' aZ hlt' _; have HO':=Ae hown'; clear hown')
   go_roundw
   case rel =>
    refine⟨k+1,_,byOmega,by go_num,by rw[List.length_append,HLL.out]; rfl,?_,HO'.out,aZ⟩;have hu:(nD g)[k]? = some (lI a):=by unfold nD; rw[List.getElem?_map,Cm.out,Option.map_some,HA.out,Int.toNat_natCast]
    rw[take_snoc hu,List.map_append,List.map_append,HLM.out]; rfl
   case measure=>simp[intOf]; omega
  ·have hke:k=g.infos.length:=byOmega;subst hke;have hul:(nD g).length=g.infos.length:=by unfold nD; simp
   have hrows:=HO.out.rows (G:=fun b=>w.heap.size < b) (fun b h=>h.1) (fun b h=>by omega);rw[HLM.out,List.take_of_length_le byOmega] at hrows;have HRW:=Ae hrows;obtain⟨Ar,cr,e,_,_⟩:=hrows;subst e;have hrl:((nD g).map (List.map ak)).length=g.infos.length:=by rw[List.length_map,hul]
   rw[hrl] at HRW ⊢;have hbz:=hbel.size;clear hrl HO;go_wp2_with fail
   refine(xw wa (fun b=>w.heap.size < b) _ (nD g) HRW.out byOmega (fun l hl=>by have:=(yO HFE.out.symm l hl).1; omega) (fun l hl x hx=>by have:=(yO HFE.out.symm l hl).2 x hx; omega)).mono ?_;rintro e w6 ⟨_,rfl,hb6,t,rfl,ht⟩;have he0:qE (nD g).flatten=0:=uV fun x hx=>by
    obtain⟨l,hl,hx⟩:=List.mem_flatten.1 hx;have:=(yO HFE.out.symm l hl).2 x hx;omega
   have hbl:=HB3.out.trans (hbel.mono HB3.out.size);have HB6:=Ae (hbl.trans (hb6.mono hbl.size));have hmx:abN (nD g)=(nD g).map (List.map aG):=by unfold abN; rw[he0]; rfl
   rw[hmx] at ht;rw[he0];have HT:=Ae (Ag.keep (G:=fun b=>w.heap.size≤b) ht (fun b h _=>by have:=hbl.size; omega) (Same.refl _ _));obtain⟨At,ct,e,-,-⟩:=ht;rw[List.length_map,hul] at e;subst e;clear hb6 hbel hbl hmx he0;dsimp only;go_wp2_with fail
   go_ret2;exact⟨_,rfl,HB6.out,_,by rw[← HFE.out]; rfl,by rw[HU.out,if_neg aB]; exact HT.out⟩
theorem af9 (w:World) (n:Nat) (hn:n≤1000) :
  Calls Tryz.prog 73 #[.int .i64 (n:Int)] w (Ret w fun u w'=>CZ w' (fun b=>w.heap.size≤b) u (lI n)):=by
 go_in
 go_wp2
 go_loopw [3,4] (fun u i wr=>∃ (k:Nat) (L:List RV),k≤n∧i = .int .i64 (k:Int)∧L.length=k∧L.map RV.r=(List.replicate k (((1:Int):Rat) / ((n:Int):Rat))).map aG∧AO uI wr w.heap.size 83 (fun b=>w.heap.size≤b) u L∧Below w.heap.size w wr) (fun _ i _=>n - (intOf i).toNat)
 case atStart=>exact⟨0,[],byOmega,rfl,rfl,rfl,AO.nil _ _ _ _ _,Below.refl _ _⟩
 case round =>
  obtain⟨k,L,hk,rfl,hLl,hLr,hown,hbel⟩:=hrel;have HO:=Ae hown; have HL:=Ae hLr;have HLL:=Ae hLl;clear hown hLr hLl;by_cases hlt:k < n
  ·have hz:=hbel.size;go_wp2_with fail
   refine(ad8 wr 1 (n:Int) byOmega byOmega byOmega byOmega byOmega).mono ?_;rintro e w2 ⟨vm,rfl,hb2,hu⟩;obtain⟨q,hq,rfl,hqf⟩:=AL.rv hu;have fZ:=hbel.trans (hb2.mono hbel.size);have HO2:=Ae (HO.out.below hb2);have HF:=Ae (show q.fine w2 (Apart (fun b=>w.heap.size≤b) u3) from hqf.keep (fun b hb _=>⟨byOmega,fun e=>by have:=(HO.out.row.lt b e).2; omega⟩) (Same.refl _ _));have HQ:=Ae hq;clear hqf hu hq hb2 hbel;dsimp only[RV.cells];go_wp2_with (at_builtin; refine eY (K:=uI) (F:=fun b=>w.heap.size≤b) rfl _ _ 64 83 56 _ Tryz.underlying64 Tryz.infoRat rfl aB rfl w.heap.size (Nat.le_refl _) u3 L rfl q _ rfl (by have:=HLL.out; omega) rfl HO2.out HF.out fZ ?_; intro g cap w' hown' aZ hlt' _; have HO':=Ae hown'; clear hown')
   go_roundw
   case rel=>exact⟨k+1,L ++ [q],byOmega,by go_num,by rw[List.length_append,HLL.out]; rfl,by rw[List.map_append,HL.out,List.replicate_succ',List.map_append,List.map_cons,List.map_nil,HQ.out]; rfl,HO'.out,aZ⟩
   case measure=>simp[intOf]; omega
  ·have hke:k=n:=byOmega;subst hke;have h5:=HO.out.pR (G:=fun b=>w.heap.size≤b) (fun b hb=>hb) (fun b hb=>hb);rw[HL.out] at h5;have HR:=Ae h5;clear h5;go_wp2
   go_ret;exact⟨_,rfl,hbel,HR.out⟩
theorem abU (w:World) (F:Ah) (u:Value) (g:Gm) (hg:AP w F u g) (hsm:Small g) :
  Calls Tryz.prog 23 #[u] w (Ret w fun v w'=>∃ t,v = .tuple #[t,.int .i64 (aY g)]∧Ag w' (fun b=>w.heap.size≤b) t (qh g)):=by
 have HG:=Ae hg; have HSM:=Ae hsm;have hni:=hsm.infos;obtain⟨vn,vi,rfl,⟨A,c,rfl,hc,_⟩,hI⟩:=hg;have HI:=Ae hI;obtain⟨Ai,ci,rfl,hci,_⟩:=hI;clear hsm;go_in
 go_wp2_with fail
 obtain⟨W,hW,rx,hB,hz⟩:=aO w 25 #[.int .i64 g.aA,.slice A g.nodes.length c,.slice Ai g.infos.length ci];rw[← hW];replace HG:=Ae (HG.out.on (Below.same' hB F));have x0:=rx.cell (i:=0) rfl; have x1:=rx.cell (i:=1) rfl; have x2:=rx.cell (i:=2) rfl;clear hW hz;go_wp2_with fail
 clear x0 x1 x2;refine(rW W F _ g HG.out HSM.out).mono ?_;rintro e w1 ⟨_,rfl,hb,rfl⟩;replace rx:=rx.below hb rx.lt;replace hB:=hB.trans (hb.mono hB.size);have HU:=Ae (show qh g=if aY g≠0 then [] else (nD g).map (List.map aG) from rfl);obtain⟨fe,hfe⟩:=named (aY g);rw[← hfe] at HU ⊢;have HFE:=Ae hfe;clear hb hfe;dsimp only;by_cases h0:fe=0
 case neg =>
  have t0:(fe != 0)=true:=by simp[h0]
  have H0:=Ae h0;clear h0;go_wp2_with fail
  go_ret2;exact⟨_,rfl,hB,_,by rw[← HFE.out]; rfl,by rw[HU.out,if_pos H0.out]; exact Ag.nil _ _⟩
 subst h0;have HRX:=Ae rx;have HI3:=Ae (HI.out.on (Below.same' hB F));have HB3:=Ae hB;have hbw:=rx.lt;clear rx hB HI;go_wp2
 go_loopw [5,6] (fun ov iv wr=>∃ (k:Nat) (L:List (Value×List Raw)),k≤g.infos.length∧iv = .int .i64 (k:Int)∧L.length=k∧L.map Prod.snd=((nD g).take k).map (List.map aG)∧AO qV wr w1.heap.size 64 (fun b=>w1.heap.size≤b) ov L∧Below w1.heap.size w1 wr) (fun _ iv _=>g.infos.length - (intOf iv).toNat)
 case atStart=>exact⟨0,[],byOmega,rfl,rfl,rfl,AO.nil _ _ _ _ _,Below.refl _ _⟩
 case round =>
  obtain⟨k,L,hk,rfl,hLl,hLm,hown,hbel⟩:=hrel;have HLL:=Ae hLl; have HLM:=Ae hLm; have HO:=Ae hown;obtain⟨wa,rfl⟩:=named wr;have hrx:=HRX.out.below hbel hbw;have x2:=hrx.cell (i:=2) rfl;clear hLl hLm hown hrx;by_cases hlt:k < g.infos.length
  ·obtain⟨inf,dS⟩:=aC hlt;obtain⟨ha1,ha2⟩:=sK HFE.out.symm dS;obtain⟨a,ha⟩:∃ a:Nat,inf.actions=(a:Int):=⟨inf.actions.toNat,byOmega⟩;have hi4:=HI3.out.on (Below.same' hbel F);obtain⟨A',c',e,_,hx⟩:=hi4;injection e with e1 e2 e3
   subst e1;obtain⟨bI,oI,rfl,_,hbI,hcI⟩:=hx byOmega;have p1:=(hcI k inf dS).c1;rw[ha] at p1;have Cm:=Ae dS; have HA:=Ae ha;have hbz:=hbel.size;have ha10:a≤10:=byOmega;clear dS ha ha1 ha2 e2 e3 hx hcI;go_wp2_with fail
   refine(af9 wa a byOmega).mono ?_;rintro e w2 ⟨va,rfl,hb2,hu⟩;have fZ:=hbel.trans (hb2.mono hbel.size);have HO2:=Ae (HO.out.below hb2);have HF:=Ae (show AB w2 (Apart (fun b=>w1.heap.size≤b) u5) va ((lI a).map aG) from AB.keep hu (fun b hb _=>⟨byOmega,fun e=>by have:=(HO.out.row.lt b e).2; omega⟩) (Same.refl _ _));obtain⟨Au,cu,e,-,-⟩:=hu;have hla:((lI a).map aG).length=a:=by rw[List.length_map]; exact List.length_replicate ..
   rw[hla] at e;subst e;clear hb2 hbel x2 p1 hla;dsimp only;go_wp2_with (at_builtin; refine eY (K:=qV) (F:=fun b=>w1.heap.size≤b) rfl _ _ 28 64 24 _ Tryz.underlying28 Tryz.infoRats rfl aB rfl w1.heap.size (Nat.le_refl _) u5 L rfl (.slice Au a cu,(lI a).map aG) _ rfl (by have:=HLL.out; omega) rfl HO2.out HF.out fZ ?_; intro g' cap w' hown' aZ hlt' _; have HO':=Ae hown'; clear hown')
   go_roundw
   case rel =>
    refine⟨k+1,_,byOmega,by go_num,by rw[List.length_append,HLL.out]; rfl,?_,HO'.out,aZ⟩;have hu:(nD g)[k]? = some (lI a):=by unfold nD; rw[List.getElem?_map,Cm.out,Option.map_some,HA.out,Int.toNat_natCast]
    rw[take_snoc hu,List.map_append,List.map_append,HLM.out]; rfl
   case measure=>simp[intOf]; omega
  ·have hke:k=g.infos.length:=byOmega;subst hke;have hul:(nD g).length=g.infos.length:=by unfold nD; simp
   have hrows:=HO.out.rows (G:=fun b=>w.heap.size≤b) (fun b h=>by omega) (fun b h=>by omega);rw[HLM.out,List.take_of_length_le byOmega] at hrows;have HRW:=Ae hrows;have hbl:=HB3.out.trans (hbel.mono HB3.out.size);clear hrows hbel HO;go_wp2
   go_ret2;exact⟨_,rfl,hbl,_,by rw[← HFE.out]; rfl,by rw[HU.out,if_neg aB]; exact HRW.out⟩
def jr (g:Gm) (choice:List Int) (i:Nat):Bool:=decide (choice.getD i 0 < 0)||decide ((g.infos.getD i default).actions≤choice.getD i 0)
def ig (g:Gm) (choice:List Int) (k:Nat):Bool:=(List.range k).any (jr g choice)
theorem rO (g:Gm) (choice:List Int) (k:Nat):ig g choice (k+1)=(ig g choice k||jr g choice k):=by unfold ig; rw[List.range_succ,List.any_append]; simp
theorem l9 {g:Gm} {choice:List Int} {k m:Nat} (h:jr g choice k=true) (hk:k < m):ig g choice m=true:=by
 unfold ig;exact List.any_eq_true.2 ⟨k,List.mem_range.2 hk,h⟩
def oU (g:Gm) (choice:List Int):Int:=if aY g≠0 then aY g else if choice.length≠g.infos.length then 3 else if ig g choice choice.length then 2 else 0
def lQ (n a:Nat):List Rat:=(List.replicate n 0).set a 1
def sN (g:Gm) (choice:List Int) (i:Nat):List Rat:=lQ (g.infos.getD i default).actions.toNat (choice.getD i 0).toNat
def jX (g:Gm) (choice:List Int):List (List Rat):=(List.range choice.length).map (sN g choice)
def qj (g:Gm) (choice:List Int):List (List Raw):=if oU g choice≠0 then [] else (jX g choice).map (List.map aG)
theorem aga {n a:Nat}:∀ x∈lQ n a,x=0∨x=1:=by
 intro x hx;unfold lQ at hx;rcases List.mem_or_eq_of_mem_set hx with h | h
 ·exact .inl (List.eq_of_mem_replicate h)
 ·exact .inr h
theorem ahx {n a:Nat}:∀ x∈lQ n a,rl x≤4:=by
 intro x hx;rcases aga x hx with rfl | rfl
 ·rw[yH]; omega
 ·have:=yX 1;have h1:(dig (1:Int).natAbs).length≤1:=aW (by unfold LB; decide);rw[show((1:Int):Rat)=1 from rfl] at this;omega
theorem ado {g:Gm} {choice:List Int} (hf:aY g=0) (hc:choice.length=g.infos.length):∀ l∈jX g choice,l.length≤10∧∀ x∈l,rl x≤4:=by
 intro l hl;unfold jX at hl;obtain⟨i,hi,rfl⟩:=List.mem_map.1 hl;have hi:=List.mem_range.1 hi;obtain⟨inf,dS⟩:=aC (l:=g.infos) (k:=i) byOmega;obtain⟨h1,h2⟩:=sK hf dS;refine⟨?_,ahx⟩;unfold sN lQ;rw[List.length_set,List.length_replicate,List.getD_eq_getElem?_getD,dS,Option.getD_some];omega
theorem ahy (w:World) (F:Ah) (u vc:Value) (g:Gm) (choice:List Int) (hg:AP w F u g) (hsm:Small g) (hch:AA w F vc choice) (hcl:choice.length≤1000) :
  Calls Tryz.prog 24 #[u,vc] w (Ret w fun v w'=>∃ t,v = .tuple #[t,.int .i64 (oU g choice)]∧Ag w' (fun b=>w.heap.size≤b) t (qj g choice)):=by
 have HG:=Ae hg; have HSM:=Ae hsm; have HCH:=Ae hch;have hni:=hsm.infos;obtain⟨vn,vi,rfl,⟨A,c,rfl,hc,-⟩,hI⟩:=hg;have HI:=Ae hI;obtain⟨Ai,ci,rfl,hci,-⟩:=hI;obtain⟨Ac,cc,rfl,hcc,-⟩:=hch;clear hsm;go_in
 go_wp2_with fail
 obtain⟨W,hW,rx,hB,hz⟩:=aO w 25 #[.int .i64 g.aA,.slice A g.nodes.length c,.slice Ai g.infos.length ci];rw[← hW];replace HG:=Ae (HG.out.on (Below.same' hB F));have x0:=rx.cell (i:=0) rfl; have x1:=rx.cell (i:=1) rfl; have x2:=rx.cell (i:=2) rfl;clear hW hz;go_wp2_with fail
 clear x0 x1 x2;refine(sG W F _ g HG.out HSM.out).mono ?_;rintro e w1 ⟨_,rfl,hb,rfl⟩;rw[pY];replace rx:=rx.below hb rx.lt;replace hB:=hB.trans (hb.mono hB.size);have HU:=Ae (show qj g choice=if oU g choice≠0 then [] else (jX g choice).map (List.map aG) from rfl);have HE:=Ae (show oU g choice=if aY g≠0 then aY g else if choice.length≠g.infos.length then 3 else if ig g choice choice.length then 2 else 0 from rfl);obtain⟨fe,hfe⟩:=named (aY g);rw[← hfe] at HE ⊢;have HFE:=Ae hfe;have x2:=rx.cell (i:=2) rfl;clear hb hfe;dsimp only;by_cases h0:fe=0
 case neg =>
  have t0:(fe != 0)=true:=by simp[h0]
  have hpe:=HE.out;rw[if_pos h0] at hpe;have HPE:=Ae hpe; have H0:=Ae h0;clear h0 hpe;go_wp2_with fail
  go_ret2;exact⟨_,rfl,hB,_,by rw[HPE.out]; rfl,by rw[HU.out,if_pos (by rw[HPE.out]; exact H0.out)]; exact Ag.nil _ _⟩
 subst h0;by_cases hl:choice.length=g.infos.length
 case neg =>
  have t0:((choice.length:Int) != (g.infos.length:Int))=true:=au;have hpe:=HE.out;rw[if_neg aB,if_pos hl] at hpe;have HPE:=Ae hpe;clear hl hpe;go_wp2_with fail
  go_ret2;exact⟨_,rfl,hB,_,by rw[HPE.out]; rfl,by rw[HU.out,if_pos (by rw[HPE.out]; decide)]; exact Ag.nil _ _⟩
 have hpe:=HE.out;rw[if_neg aB,if_neg (by simpa using hl)] at hpe;have HPE:=Ae hpe;obtain⟨n,hn⟩:=named choice.length;have hn2:n=g.infos.length:=byOmega;have HN:=Ae hn; have HN2:=Ae hn2;have HX:=Ae rx;have HI1:=Ae (HI.out.on (Below.same' hB F)); have HC1:=Ae (HCH.out.on (Below.same' hB F));rw[← hn] at HC1;have hn100:n≤1000:=byOmega;have hwlt:=HX.out.lt;rw[show(choice.length:Nat)=n from HN.out.symm];have t0:((n:Int) != (g.infos.length:Int))=false:=au;have x2k:=fun (W':World) (h:Below w1.heap.size w1 W')=>ah x2 h
 clear hl hpe rx hn hn2 hc hcc hci hcl;go_wp2_with (at_make; refine eU _ rfl _ _ 114 rfl 110 (.slice none 0 0) 24 Tryz.underlying114 Tryz.infoNumRow rfl n rfl rfl byOmega byOmega ?_; intro w2 hb2 hz2 hm2)
 have HM:=Ae (MkO.begin (F:=fun _=>False) (B1:=w2.heap.size) hm2 (hB.trans (hb2.mono hB.size)) hB.size byOmega (Nat.le_refl _));have HX2:=Ae (HX.out.below hb2 hwlt);have HI2:=Ae (HI1.out.on (Below.same' hb2 F)); have HC2:=Ae (HC1.out.on (Below.same' hb2 F));clear x2k t0 x2;go_loopw [26] (fun iv wr=>∃ (k:Nat) (vs:List Value),k≤n∧iv = .int .i64 (k:Int)∧vs.length=k∧ig g choice k=false∧MkO (fun _=>False) w w1.heap.size 110 n w2.heap.size vs (((jX g choice).take k).map (List.map ak)) wr∧Below w1.heap.size w1 wr) (fun iv _=>n - (intOf iv).toNat)
 case atStart=>exact⟨0,[],byOmega,rfl,rfl,rfl,HM.out,hb2⟩
 case round =>
  obtain⟨k,vs,hk,rfl,hvl,hbad,hmk,hbw⟩:=hrel;obtain⟨wa,rfl⟩:=named wr;have HVL:=Ae hvl; have HBAD:=Ae hbad; have HM:=Ae hmk; have HBW:=Ae hbw;clear hvl hbad hmk hbw hb2;by_cases hlt:k < n
  ·obtain⟨inf,dS⟩:=aC (l:=g.infos) (k:=k) (by rw[← HN2.out]; exact hlt);obtain⟨ch,hch⟩:=aC (l:=choice) (k:=k) (by rw[← HN.out]; exact hlt);obtain⟨ha1,ha2⟩:=sK HFE.out.symm dS;obtain⟨a,ha⟩:∃ a:Nat,inf.actions=(a:Int):=⟨inf.actions.toNat,byOmega⟩;have x2:=ah (HX.out.cell (i:=2) rfl) HBW.out;obtain⟨bC,oC,rfl,_,hbC,hcC⟩:=oO HC1.out (by have:=HN.out; omega);have ec:=ah (hcC k ch hch) HBW.out;obtain⟨A',c',e,-,hx⟩:=HI1.out;injection e with e1 e2 e3
   subst e1;obtain⟨bI,oI,rfl,_,hbI,hcI⟩:=hx (by have:=HN2.out; omega);have p1:=ah (hcI k inf dS).c1 HBW.out;rw[ha] at p1;have hgl:(k:Nat) < g.infos.length:=by rw[← HN2.out]; exact hlt
   have HBD:=Ae (show jr g choice k=(decide (ch < 0)||decide ((a:Int)≤ch)) by unfold jr; rw[List.getD_eq_getElem?_getD,List.getD_eq_getElem?_getD,hch,dS,Option.getD_some,Option.getD_some,ha]);have Cm:=Ae dS; have D9:=Ae hch; have HA:=Ae ha;have ha10:a≤10:=byOmega;clear dS hch ha ha1 ha2 hx hcI hcC e2 e3;by_cases hc0:ch < 0
   ·have d0:decide (ch < 0)=true:=decide_eq_true hc0;have hb1:=l9 (m:=n) (by rw[HBD.out,d0,Bool.true_or]) hlt;have hpe:=HPE.out;rw[← HN.out,hb1,if_pos rfl] at hpe;have BL:=Ae hpe;have HBF:=Ae HM.out.bel;clear hc0 hb1 hpe;go_wp2_with fail
    go_ret2;exact⟨_,rfl,HBF.out,_,by rw[BL.out]; rfl,by rw[HU.out,if_pos (by rw[BL.out]; decide)]; exact Ag.nil _ _⟩
   obtain⟨x,rfl⟩:∃ x:Nat,ch=(x:Int):=⟨ch.toNat,byOmega⟩;by_cases hca:a≤x
   ·have d0:decide ((x:Int) < 0)=false:=decide_eq_false hc0;have d1:decide (a≤x)=true:=decide_eq_true hca;have hb1:=l9 (m:=n) (show jr g choice k=true by rw[HBD.out,d0,Bool.false_or]; exact decide_eq_true byOmega) hlt;have hpe:=HPE.out;rw[← HN.out,hb1,if_pos rfl] at hpe;have BL:=Ae hpe;have HBF:=Ae HM.out.bel;clear hca hb1 hpe hc0;go_wp2_with fail
    go_ret2;exact⟨_,rfl,HBF.out,_,by rw[BL.out]; rfl,by rw[HU.out,if_pos (by rw[BL.out]; decide)]; exact Ag.nil _ _⟩
   have hxa:x < a:=byOmega;have d0:decide ((x:Int) < 0)=false:=decide_eq_false hc0;have d1:decide (a≤x)=false:=decide_eq_false hca;have HBN:=Ae (show ig g choice (k+1)=false by rw[rO,HBAD.out,HBD.out,d0,Bool.false_or,Bool.false_or]; exact decide_eq_false byOmega);have hgk:(jP vs n)[k]? = some (.slice none 0 0):=by have:=wU (vs:=vs) (n:=n) (by rw[HVL.out]; exact hlt); rwa [HVL.out] at this
   have HGK:=Ae hgk;clear hca hc0 hgk;go_wp2_with (at_make; refine afv _ rfl _ _ 110 rfl 118 Tryz.underlying110 Tryz.infoNum a rfl rfl byOmega ?_; intro w3 hb3 hz3 hm3; have HM3:=Ae (HM.out.below hb3); have hcf:=HM3.out.row.frozen k; have hcu:=HM3.out.row.cell HGK.out)
   obtain⟨bm,hbm⟩:=named wa.heap.size;rw[← hbm] at hm3 ⊢;have hsz:=HM.out.size; have hhi:=HM.out.hi; have hlo:=HM.out.lo;have hbm2:w2.heap.size≤bm:=byOmega;have hbmo:w1.heap.size < bm:=byOmega;have hm4:=hm3 (fun b=>w2.heap.size≤b);have HD3:=Ae (HM.out.done.keep (G:=fun b=>w2.heap.size≤b∧b < bm) (fun b h hl=>h.elim (fun h=>h.1.elim) fun h=>⟨h,byOmega⟩) (Below.same' hb3 _));obtain⟨W4,hW4⟩:=named (w3.setCell ⟨w1.heap.size,k,none⟩ (.slice (some ⟨bm,0,none⟩) a a));rw[← hW4];have HR4:=Ae (show Row W4 w1.heap.size 110 (jP (vs ++ [.slice (some ⟨bm,0,none⟩) a a]) n) by
    have h1:=HM3.out.row.set k (.slice (some ⟨bm,0,none⟩) a a);rw[← hW4] at h1;have h2:=aaN (vs:=vs) (n:=n) (by rw[HVL.out]; exact hlt) (.slice (some ⟨bm,0,none⟩) a a);rw[HVL.out] at h2;rwa [h2] at h1)
   have hw4:Wrote (fun x=>x=w1.heap.size) w3 W4:=by rw[hW4]; exact(Wrote.refl (fun x=>x=w1.heap.size) w3).setCell (p:=⟨w1.heap.size,k,none⟩) (.inl rfl) _
   have HMR:=Ae (hm4.on (w':=W4) (hw4.block bm hm4.row.lt byOmega) (hw4.same fun b hb=>by omega));have HD4:=Ae (HD3.out.keep (fun _ h _=>h) (hw4.same fun b hb=>by omega));have HB4:=Ae (show Below w.heap.size w W4 from Wrote.below HM3.out.bel hw4 (fun b hb=>by omega) HM3.out.bel.size);have Di:=Ae (show Below w1.heap.size w1 W4 from Wrote.below (HBW.out.trans (hb3.mono HBW.out.size)) hw4 (fun b hb=>by omega) (by have:=hb3.size; omega));have hz4:=hw4.size;have hbmW:bm < W4.heap.size:=HMR.out.row.lt;have hc4:=HR4.out.cell (i:=k) (v:=.slice (some ⟨bm,0,none⟩) a a) (by unfold jP; rw[List.append_assoc,List.getElem?_append_right (by rw[HVL.out]; exact Nat.le_refl _),HVL.out,Nat.sub_self]; rfl);clear hm3 hm4 hW4 hw4 hcf hcu hbm hb3 x2 ec p1;go_wp2_with fail
   refine bW (fun w'=>w'.cell? ⟨w1.heap.size,k,none⟩=some (.slice (some ⟨bm,0,none⟩) a a)) 7 1 aj rfl aj ?_;have hHeld:(fun w':World=>w'.cell? ⟨w1.heap.size,k,none⟩=some (.slice (some ⟨bm,0,none⟩) a a)) W4.drew:=hc4;simp only[List.take_succ_cons,List.take_zero];have hb:Below W4.heap.size W4 W4.drew:=aH (Below.refl _ W4) 1;obtain⟨wn,hwn⟩:=named W4.drew;rw[← hwn] at hb hHeld ⊢;have hzn:=hb.size;replace HR4:=Ae (HR4.out.below hb HR4.out.lt); replace HMR:=Ae (HMR.out.below hb); replace HD4:=Ae (HD4.out.keep (fun _ h _=>h) (Below.same' hb _)); replace HB4:=Ae (HB4.out.trans (hb.mono HB4.out.size)); replace Di:=Ae (Di.out.trans (hb.mono Di.out.size)); replace hc4:=ah hc4 hb; replace hz4:=Nat.le_trans hz4 hb.size;clear hb hwn;refine tk0 [0,1,2,3,4] ?_;iterate 5 (refine tk (v:=?_) rfl aj aj aj (fun _ _ _ h=>h) (Or.inl ⟨by rfl,?_⟩) hHeld ?_;rotate_left;(focus intro wx hSx;(try dsimp only at hSx);go_split_ands;go_simp;try with_reducible rfl);try simp only[Act.put,lq1,lq2,lq3,lq4,lq5,lq6])
   refine tk1 ?_;refine tk2 5 aj rfl fun K hK=>?_
   go_simp;refine(mV wn 1 byOmega byOmega).mono ?_;rintro e wm ⟨u1,rfl,hb,hu⟩;obtain⟨fr,hfr⟩:=named (((1:Int):Rat));rw[← hfr] at hu;have HFR:=Ae (show fr=1 by rw[hfr]; rfl);obtain⟨A1,c1,B1,d1,rfl,iq⟩:=hu.opened;have HFN:=Ae (RV.fine.keep (G:=fun b=>bm < b) iq (fun b h _=>by omega) (Same.refl _ _));replace HR4:=Ae (HR4.out.below hb HR4.out.lt); replace HMR:=Ae (HMR.out.below hb); replace HD4:=Ae (HD4.out.keep (fun _ h _=>h) (Below.same' hb _)); replace HB4:=Ae (HB4.out.trans (hb.mono HB4.out.size)); replace Di:=Ae (Di.out.trans (hb.mono Di.out.size)); replace hc4:=ah hc4 hb; replace hz4:=Nat.le_trans hz4 hb.size;clear hb hu iq hfr hHeld;dsimp only;refine hK.out _ _ hc4 (fun hHeld=>?_);clear hK K;try simp only[Act.put,lq1,lq2,lq3,lq4,lq5,lq6]
   refine tk0 [6] ?_;(refine tk (v:=?_) rfl aj aj aj (fun _ _ _ h=>h) (Or.inl ⟨by rfl,?_⟩) hHeld ?_;rotate_left;(focus intro wx hSx;(try dsimp only at hSx);go_split_ands;go_simp;try with_reducible rfl);try simp only[Act.put,lq1,lq2,lq3,lq4,lq5,lq6])
   refine tk1 ?_;refine wpAnyH_done aj ?_ _;clear hHeld;have hget:(List.replicate a rv0)[x]? = some rv0:=by rw[List.getElem?_replicate,if_pos hxa]
   have q0:wm.cell? ⟨bm,x*3,none⟩=some (.bool false):=HMR.out.cell (j:=0) hget byOmega rfl; have q1:=HMR.out.cell (j:=1) hget byOmega rfl; have q2:=HMR.out.cell (j:=2) hget byOmega rfl;have f0:=HMR.out.row.frozen (x*3); have f1:=HMR.out.row.frozen (x*3+1); have f2:=HMR.out.row.frozen (x*3+2);obtain⟨W5,hW5,hm5,hB5,hS5,hz5,hne5⟩:=HMR.out.set x ⟨ak fr,.slice A1 (ak fr).num.length c1,.slice B1 (ak fr).den.length d1⟩ (RV.fine.keep HFN.out (fun b h _=>⟨byOmega,byOmega⟩) (Same.refl _ _));have HM5:=Ae hm5;have HD5:=Ae (HD4.out.keep (fun _ h _=>h) (hS5 _ (fun h=>by omega)));have HB5:=Ae (hB5 w.heap.size w byOmega HB4.out);have HBW5:=Ae (hB5 w1.heap.size w1 byOmega Di.out);have HR5:=Ae (HR4.out.of_block (hne5 _ byOmega));have HW5:=Ae hW5;clear hget hm5 hB5 hS5 hne5 hc4 hW5;show wpList _ _ _ _ _ _;go_wp2
   rw[← HW5.out];unfold Bv;show Exit.inBlock _ _ .normal _ _;go_wp2
   go_roundw
   case rel =>
    refine⟨k+1,vs ++ [.slice (some ⟨bm,0,none⟩) a a],byOmega,by go_num,by rw[List.length_append,HVL.out]; rfl,HBN.out,?_,HBW5.out⟩;have hpr:(jX g choice)[k]? = some (lQ a x):=by
     unfold jX;rw[List.getElem?_map,List.getElem?_range (by have:=HN.out; omega)];show some (sN g choice k)=_;unfold sN;rw[List.getD_eq_getElem?_getD,List.getD_eq_getElem?_getD,Cm.out,D9.out,Option.getD_some,Option.getD_some,HA.out,Int.toNat_natCast,Int.toNat_natCast]
    have hraw:=HM5.out.pR (G:=fun b=>w2.heap.size≤b) (fun c h=>h) hbm2 (c:=a) (by rw[List.length_set,List.length_replicate]; exact Nat.le_refl _);have hmap:((List.replicate a rv0).set x ⟨ak fr,.slice A1 (ak fr).num.length c1,.slice B1 (ak fr).den.length d1⟩).map RV.r=(lQ a x).map ak:=by
     unfold lQ;rw[List.map_set,List.map_set,List.map_replicate,List.map_replicate,agR,HFR.out]
    rw[hmap,List.length_set,List.length_replicate] at hraw;rw[take_snoc hpr,List.map_append];exact⟨HR5.out,(HD5.out.keep (G:=GoF (fun _=>False) w w2.heap.size) (fun b h _=>.inr h.1) (Same.refl _ _)).snoc (hraw.keep (fun b h _=>.inr h) (Same.refl _ _)),HB5.out,hlo,hhi,byOmega⟩
   case measure=>simp[intOf]; omega
  ·have hke:k=n:=byOmega;subst hke;have hpl:(jX g choice).length=k:=by unfold jX; rw[List.length_map,List.length_range]; exact HN.out.symm
   have hpe:=HPE.out;rw[← HN.out,HBAD.out] at hpe;have BL:=Ae (show oU g choice=0 from hpe);have hrows:=HM.out.rows (G:=fun b=>w.heap.size≤b) (by rw[HVL.out]; exact Nat.le_refl _) (fun b h=>h.elim (fun h=>h.1.elim) id) (c:=k) (by rw[List.length_map,List.length_take,hpl]; omega);rw[List.take_of_length_le byOmega,List.length_map,hpl] at hrows;have HRW:=Ae hrows;have HBF:=Ae HM.out.bel;have hmm:=ado (choice:=choice) HFE.out.symm (by rw[← HN.out]; exact HN2.out);have HMM:=Ae hmm;have HPL:=Ae hpl;clear hrows hpe hpl hmm;go_wp2_with fail
   refine(xw wa (fun b=>w.heap.size≤b) _ (jX g choice) HRW.out (by rw[HPL.out]; omega) (fun l hl=>by have:=(HMM.out l hl).1; omega) (fun l hl x hx=>by have:=(HMM.out l hl).2 x hx; omega)).mono ?_;rintro e w6 ⟨_,rfl,hb6,t,rfl,ht⟩;have he0:qE (jX g choice).flatten=0:=uV fun x hx=>by
    obtain⟨l,hl,hx⟩:=List.mem_flatten.1 hx;have:=(HMM.out l hl).2 x hx;omega
   have HB6:=Ae (HBF.out.trans (hb6.mono HBF.out.size));have hmx:abN (jX g choice)=(jX g choice).map (List.map aG):=by unfold abN; rw[he0]; rfl
   rw[hmx] at ht;rw[he0];have HT:=Ae (Ag.keep (G:=fun b=>w.heap.size≤b) ht (fun b h _=>by have:=HBF.out.size; omega) (Same.refl _ _));obtain⟨At,ct,e,-,-⟩:=ht;rw[List.length_map,HPL.out] at e;subst e;clear hb6 hmx he0;dsimp only;go_wp2_with fail
   go_ret2;exact⟨_,rfl,HB6.out,_,by rw[BL.out]; rfl,by rw[HU.out,if_neg (by rw[BL.out]; decide)]; exact HT.out⟩
theorem aa9 {a x j:Nat} (h:j < a):(lQ a x)[j]? = some (if j=x then 1 else 0):=by
 unfold lQ;by_cases e:j=x
 ·subst e;rw[List.getElem?_set_self (by simpa using h),if_pos rfl]
 ·rw[List.getElem?_set_ne (Ne.symm e),List.getElem?_replicate,if_pos h,if_neg e]
theorem agb (w:World) (F:Ah) (u vc:Value) (g:Gm) (choice:List Int) (hg:AP w F u g) (hsm:Small g) (hch:AA w F vc choice) (hcl:choice.length≤1000) :
  Calls Tryz.prog 25 #[u,vc] w (Ret w fun v w'=>∃ t,v = .tuple #[t,.int .i64 (oU g choice)]∧Ag w' (fun b=>w.heap.size≤b) t (qj g choice)):=by
 have HG:=Ae hg; have HSM:=Ae hsm; have HCH:=Ae hch;have hni:=hsm.infos;obtain⟨vn,vi,rfl,⟨A,c,rfl,hc,-⟩,hI⟩:=hg;have HI:=Ae hI;obtain⟨Ai,ci,rfl,hci,-⟩:=hI;obtain⟨Ac,cc,rfl,hcc,-⟩:=hch;clear hsm;go_in
 go_wp2_with fail
 obtain⟨W,hW,rx,hB,hz⟩:=aO w 25 #[.int .i64 g.aA,.slice A g.nodes.length c,.slice Ai g.infos.length ci];rw[← hW];replace HG:=Ae (HG.out.on (Below.same' hB F));have x0:=rx.cell (i:=0) rfl; have x1:=rx.cell (i:=1) rfl; have x2:=rx.cell (i:=2) rfl;clear hW hz;go_wp2_with fail
 clear x0 x1 x2;refine(rW W F _ g HG.out HSM.out).mono ?_;rintro e w1 ⟨_,rfl,hb,rfl⟩;replace rx:=rx.below hb rx.lt;replace hB:=hB.trans (hb.mono hB.size);have HU:=Ae (show qj g choice=if oU g choice≠0 then [] else (jX g choice).map (List.map aG) from rfl);have HE:=Ae (show oU g choice=if aY g≠0 then aY g else if choice.length≠g.infos.length then 3 else if ig g choice choice.length then 2 else 0 from rfl);obtain⟨fe,hfe⟩:=named (aY g);rw[← hfe] at HE ⊢;have HFE:=Ae hfe;have x2:=rx.cell (i:=2) rfl;clear hb hfe;dsimp only;by_cases h0:fe=0
 case neg =>
  have t0:(fe != 0)=true:=by simp[h0]
  have hpe:=HE.out;rw[if_pos h0] at hpe;have HPE:=Ae hpe; have H0:=Ae h0;clear h0 hpe;go_wp2_with fail
  go_ret2;exact⟨_,rfl,hB,_,by rw[HPE.out]; rfl,by rw[HU.out,if_pos (by rw[HPE.out]; exact H0.out)]; exact Ag.nil _ _⟩
 subst h0;by_cases hl:choice.length=g.infos.length
 case neg =>
  have t0:((choice.length:Int) != (g.infos.length:Int))=true:=au;have hpe:=HE.out;rw[if_neg aB,if_pos hl] at hpe;have HPE:=Ae hpe;clear hl hpe;go_wp2_with fail
  go_ret2;exact⟨_,rfl,hB,_,by rw[HPE.out]; rfl,by rw[HU.out,if_pos (by rw[HPE.out]; decide)]; exact Ag.nil _ _⟩
 have hpe:=HE.out;rw[if_neg aB,if_neg (by simpa using hl)] at hpe;have HPE:=Ae hpe;obtain⟨n,hn⟩:=named choice.length;have hn2:n=g.infos.length:=byOmega;have HN:=Ae hn; have HN2:=Ae hn2;have HX:=Ae rx;have HI1:=Ae (HI.out.on (Below.same' hB F)); have HC1:=Ae (HCH.out.on (Below.same' hB F));rw[← hn] at HC1;have hn100:n≤1000:=byOmega;have HB1:=Ae hB;have aiM:=hB.size;rw[show(choice.length:Nat)=n from HN.out.symm];have t0:((n:Int) != (g.infos.length:Int))=false:=au;clear hl hpe rx hn hn2 hc hcc hci hcl hB HI HCH;go_wp2_with fail
 clear x2 t0;go_loopw [7,8] (fun ov iv wr=>∃ (k:Nat) (L:List (Value×List Raw)),k≤n∧iv = .int .i64 (k:Int)∧L.length=k∧ig g choice k=false∧L.map Prod.snd=((jX g choice).take k).map (List.map aG)∧AO qV wr w1.heap.size 64 (fun b=>w1.heap.size≤b) ov L∧Below w1.heap.size w1 wr) (fun _ iv _=>n - (intOf iv).toNat)
 case atStart=>exact⟨0,[],byOmega,rfl,rfl,rfl,rfl,AO.nil _ _ _ _ _,Below.refl _ _⟩
 case round =>
  obtain⟨k,L,hk,rfl,hLl,hbad,hLm,hown,hbel⟩:=hrel;obtain⟨wa,rfl⟩:=named wr;have HLL:=Ae hLl; have HLM:=Ae hLm; have HO:=Ae hown; have HBAD:=Ae hbad; have HBW:=Ae hbel;have hbz:=hbel.size;clear hLl hLm hown hbad hbel;by_cases hlt:k < n
  ·obtain⟨inf,dS⟩:=aC (l:=g.infos) (k:=k) (by rw[← HN2.out]; exact hlt);obtain⟨ch,hch⟩:=aC (l:=choice) (k:=k) (by rw[← HN.out]; exact hlt);obtain⟨ha1,ha2⟩:=sK HFE.out.symm dS;obtain⟨a,ha⟩:∃ a:Nat,inf.actions=(a:Int):=⟨inf.actions.toNat,byOmega⟩;have x2:=ah (HX.out.cell (i:=2) rfl) HBW.out;obtain⟨bC,oC,rfl,_,hbC,hcC⟩:=oO HC1.out (by have:=HN.out; omega);have HEC:=Ae (hcC k ch hch);have ec:=ah HEC.out HBW.out;obtain⟨A',c',e,-,hx⟩:=HI1.out;injection e with e1 e2 e3
   subst e1;obtain⟨bI,oI,rfl,_,hbI,hcI⟩:=hx (by have:=HN2.out; omega);have hp1:=(hcI k inf dS).c1;rw[ha] at hp1;have HP1:=Ae hp1;have p1:=ah HP1.out HBW.out;have hgl:(k:Nat) < g.infos.length:=by rw[← HN2.out]; exact hlt
   have HBD:=Ae (show jr g choice k=(decide (ch < 0)||decide ((a:Int)≤ch)) by unfold jr; rw[List.getD_eq_getElem?_getD,List.getD_eq_getElem?_getD,hch,dS,Option.getD_some,Option.getD_some,ha]);have Cm:=Ae dS; have D9:=Ae hch; have HA:=Ae ha;have ha10:a≤10:=byOmega;clear dS hch ha ha1 ha2 hx hcI hcC e2 e3 hp1;by_cases hc0:ch < 0
   ·have d0:decide (ch < 0)=true:=decide_eq_true hc0;have hb1:=l9 (m:=n) (by rw[HBD.out,d0,Bool.true_or]) hlt;have hpe:=HPE.out;rw[← HN.out,hb1,if_pos rfl] at hpe;have BL:=Ae hpe;have HBF:=Ae (HB1.out.trans (HBW.out.mono aiM));clear hc0 hb1 hpe;go_wp2_with fail
    go_quiet (fail)
    go_wp2_with fail
    go_ret2;exact⟨_,rfl,aH HBF.out _,_,by rw[BL.out]; rfl,by rw[HU.out,if_pos (by rw[BL.out]; decide)]; exact Ag.nil _ _⟩
   obtain⟨x,rfl⟩:∃ x:Nat,ch=(x:Int):=⟨ch.toNat,byOmega⟩;by_cases hca:a≤x
   ·have d0:decide ((x:Int) < 0)=false:=decide_eq_false hc0;have d1:decide (a≤x)=true:=decide_eq_true hca;have hb1:=l9 (m:=n) (show jr g choice k=true by rw[HBD.out,d0,Bool.false_or]; exact decide_eq_true byOmega) hlt;have hpe:=HPE.out;rw[← HN.out,hb1,if_pos rfl] at hpe;have BL:=Ae hpe;have HBF:=Ae (HB1.out.trans (HBW.out.mono aiM));clear hc0 hb1 hpe hca;go_wp2_with fail
    go_quiet (fail)
    go_wp2_with fail
    go_ret2;exact⟨_,rfl,aH HBF.out _,_,by rw[BL.out]; rfl,by rw[HU.out,if_pos (by rw[BL.out]; decide)]; exact Ag.nil _ _⟩
   have d0:decide ((x:Int) < 0)=false:=decide_eq_false hc0;have d1:decide (a≤x)=false:=decide_eq_false hca;have hbk:=rO g choice k;rw[HBAD.out,HBD.out,d0,Bool.false_or,Bool.false_or,decide_eq_false (by omega:¬ ((a:Int)≤(x:Int)))] at hbk;have HBK:=Ae hbk;have hxa:x < a:=byOmega;clear hc0 hca hbk;go_wp2_with fail
   go_quiet (fail)
   go_wp2_with fail
   clear d0 d1 x2 ec p1;go_loopw [9,10] (fun ov iv wr=>∃ (j:Nat) (L2:List RV),j≤a∧iv = .int .i64 (j:Int)∧L2.length=j∧L2.map RV.r=((lQ a x).take j).map aG∧AO uI wr wa.heap.size 83 (fun b=>wa.heap.size≤b) ov L2∧Below wa.heap.size wa wr) (fun _ iv _=>a - (intOf iv).toNat)
   case atStart=>exact⟨0,[],byOmega,rfl,rfl,rfl,AO.nil _ _ _ _ _,aH (Below.refl _ _) _⟩
   case round =>
    obtain⟨j,L2,hj,rfl,hLl,hLm,hown,hbel⟩:=hrel;obtain⟨wb,rfl⟩:=named wr;have DU:=Ae hLl; have Ea:=Ae hLm; have HO2:=Ae hown;have hbw:=HBW.out.trans (hbel.mono hbz);have x2:=ah (HX.out.cell (i:=2) rfl) hbw;have ec:=ah HEC.out hbw;have p1:=ah HP1.out hbw;have hz:=hbel.size;clear hLl hLm hown hbw;by_cases hjt:j < a
    ·by_cases hjx:j=x
     ·have e0:((j:Int)==(x:Int))=true:=by simp[hjx]
      have HOA:=Ae (show(lQ a x)[j]? = some ((1:Int):Rat) by rw[aa9 hjt,if_pos hjx]; rfl);clear hjx;go_wp2_with fail
      refine(pX wb 1 aB aB).mono ?_;rintro e w2 ⟨vm,rfl,hb2,hu⟩;obtain⟨q,hq,rfl,hqf⟩:=AL.rv hu;have fZ:=hbel.trans (hb2.mono hbel.size);have HO3:=Ae (HO2.out.below hb2);have HF:=Ae (show q.fine w2 (Apart (fun b=>wa.heap.size≤b) u9) from hqf.keep (fun b hb _=>⟨byOmega,fun e=>by have:=(HO2.out.row.lt b e).2; omega⟩) (Same.refl _ _));have HQ:=Ae hq;clear hqf hu hq hb2 hbel x2 ec p1 e0;dsimp only[RV.cells];go_wp2_with (at_builtin; refine eY (K:=uI) (F:=fun b=>wa.heap.size≤b) rfl _ _ 64 83 56 _ Tryz.underlying64 Tryz.infoRat rfl aB rfl wa.heap.size (Nat.le_refl _) u9 L2 rfl q _ rfl (by have:=DU.out; omega) rfl HO3.out HF.out fZ ?_; intro g' cap w' hown' aZ hlt' _; have HO':=Ae hown'; clear hown')
      go_roundw
      case rel=>exact⟨j+1,L2 ++ [q],byOmega,by go_num,by rw[List.length_append,DU.out]; rfl,by rw[List.map_append,Ea.out,take_snoc HOA.out,List.map_append,List.map_cons,List.map_nil,HQ.out]; rfl,HO'.out,aZ⟩
      case measure=>simp[intOf]; omega
     ·have e0:((j:Int)==(x:Int))=false:=au;have HOA:=Ae (show(lQ a x)[j]? = some ((0:Int):Rat) by rw[aa9 hjt,if_neg hjx]; rfl);clear hjx;go_wp2_with fail
      refine(pX wb 0 aB aB).mono ?_;rintro e w2 ⟨vm,rfl,hb2,hu⟩;obtain⟨q,hq,rfl,hqf⟩:=AL.rv hu;have fZ:=hbel.trans (hb2.mono hbel.size);have HO3:=Ae (HO2.out.below hb2);have HF:=Ae (show q.fine w2 (Apart (fun b=>wa.heap.size≤b) u9) from hqf.keep (fun b hb _=>⟨byOmega,fun e=>by have:=(HO2.out.row.lt b e).2; omega⟩) (Same.refl _ _));have HQ:=Ae hq;clear hqf hu hq hb2 hbel x2 ec p1 e0;dsimp only[RV.cells];go_wp2_with (at_builtin; refine eY (K:=uI) (F:=fun b=>wa.heap.size≤b) rfl _ _ 64 83 56 _ Tryz.underlying64 Tryz.infoRat rfl aB rfl wa.heap.size (Nat.le_refl _) u9 L2 rfl q _ rfl (by have:=DU.out; omega) rfl HO3.out HF.out fZ ?_; intro g' cap w' hown' aZ hlt' _; have HO':=Ae hown'; clear hown')
      go_roundw
      case rel=>exact⟨j+1,L2 ++ [q],byOmega,by go_num,by rw[List.length_append,DU.out]; rfl,by rw[List.map_append,Ea.out,take_snoc HOA.out,List.map_append,List.map_cons,List.map_nil,HQ.out]; rfl,HO'.out,aZ⟩
      case measure=>simp[intOf]; omega
    ·have hje:j=a:=byOmega;subst hje;have hla:(lQ j x).length=j:=by unfold lQ; simp
     have hrow:=HO2.out.pR (G:=Apart (fun b=>w1.heap.size≤b) u7) (fun b (hb:wa.heap.size≤b)=>⟨byOmega,fun e=>by have:=(HO.out.row.lt b e).2; omega⟩) (fun b hb=>⟨byOmega,fun e=>by have:=(HO.out.row.lt b e).2; omega⟩);rw[Ea.out,List.take_of_length_le byOmega] at hrow;have hbw:=HBW.out.trans (hbel.mono hbz);have HO3:=Ae (HO.out.below hbel);obtain⟨Au,cu,e,-,-⟩:=(show AB _ _ _ _ from hrow);rw[List.length_map,hla] at e;subst e;have HRW:=Ae hrow;have Eo:=Ae (show(jX g choice)[k]? = some (lQ j x) by
      unfold jX;rw[List.getElem?_map,List.getElem?_range (by rw[← HN.out]; exact hlt)];show some (sN g choice k)=_;unfold sN;rw[List.getD_eq_getElem?_getD,List.getD_eq_getElem?_getD,Cm.out,D9.out,Option.getD_some,Option.getD_some,HA.out,Int.toNat_natCast,Int.toNat_natCast])
     clear hla hrow hbel;go_wp2_with (at_builtin; refine eY (K:=qV) (F:=fun b=>w1.heap.size≤b) rfl _ _ 28 64 24 _ Tryz.underlying28 Tryz.infoRats rfl aB rfl w1.heap.size byOmega u7 L rfl (.slice Au j cu,(lQ j x).map aG) _ rfl (by have:=HLL.out; omega) rfl HO3.out HRW.out hbw ?_; intro g' cap w' hown' aZ hlt' _; have HO':=Ae hown'; clear hown')
     go_roundw
     case rel=>exact⟨k+1,_,byOmega,by go_num,by rw[List.length_append,HLL.out]; rfl,HBK.out,by rw[List.map_append,take_snoc Eo.out,List.map_append,HLM.out]; rfl,HO'.out,aZ⟩
     case measure=>simp[intOf]; omega
  ·have hke:k=n:=byOmega;subst hke;have hul:(jX g choice).length=k:=by unfold jX; simp[HN.out]
   have hrows:=HO.out.rows (G:=fun b=>w.heap.size≤b) (fun b h=>by omega) (fun b h=>by omega);rw[HLM.out,List.take_of_length_le byOmega] at hrows;have hpe:=HPE.out;rw[← HN.out,HBAD.out] at hpe;have BL:=Ae (show oU g choice=0 by rw[hpe]; rfl);have HRW:=Ae hrows;have HBF:=Ae (HB1.out.trans (HBW.out.mono aiM));clear hrows HO hpe hul;go_wp2
   go_ret2;exact⟨_,rfl,HBF.out,_,by rw[BL.out]; rfl,by rw[HU.out,if_neg (by rw[BL.out]; decide)]; exact HRW.out⟩
theorem set2 {w:World} {b:Nat} {t:TypeId} {z0 z1:Value} (h:Row w b t [z0,z1]) (a0 a1:Value):∃ W,W=(w.setCell ⟨b,0,none⟩ a0).setCell ⟨b,1,none⟩ a1∧Row W b t [a0,a1]∧Wrote (fun k=>k=b) w W:=by
 refine⟨_,rfl,(h.set 0 a0).set 1 a1,?_⟩;have h0:Wrote (fun k=>k=b) w w:=Wrote.refl _ _;exact(h0.setCell (p:=⟨b,0,none⟩) (.inl rfl) a0).setCell (p:=⟨b,1,none⟩) (.inl rfl) a1
theorem abV {l:List (Int×Int)} {m:Nat} {s:Int×Int} (h:l[m]? = some s) (hl:l.length=m+1):lastStep l=s:=by
 unfold lastStep;rw[List.getLast?_eq_getElem?,hl,Nat.add_sub_cancel,h]; rfl
theorem aae (w:World) (F:Ah) (u:Value) (g:Gm) (hg:AP w F u g) (hsm:Small g) (hf:aY g=0) :
  Calls Tryz.prog 77 #[u] w (Ret w fun v w'=>∃ vp,v = .tuple #[vp,.int .i64 (oQ g)]∧Az w' (fun b=>w.heap.size≤b) vp (jg g)):=by
 have HG:=Ae hg; have HSM:=Ae hsm; have HF:=Ae hf;have hni:=hsm.infos; have hn100:=hsm.nodes;have hgd:=kG hf;have HGD:=Ae hgd;obtain⟨hp1,hp4⟩:=kL hf;obtain⟨P,hP⟩:∃ P:Nat,g.aA=(P:Int):=⟨g.aA.toNat,byOmega⟩;have HP:=Ae hP;have hPP:P≤4:=byOmega;have HPT:=Ae (show g.aA.toNat=P by omega);obtain⟨vn,vi,rfl,⟨A,c,rfl,hc,-⟩,hI⟩:=hg;obtain⟨Ai,ci,rfl,hci,-⟩:=hI;clear hsm hf hgd hp1 hp4 hP;go_in
 go_wp2_with fail
 obtain⟨W,hW,rx,hB,hz⟩:=aO w 25 #[.int .i64 g.aA,.slice A g.nodes.length c,.slice Ai g.infos.length ci];rw[← hW];have HX:=Ae rx; have HB:=Ae hB;have x0:=rx.cell (i:=0) rfl;clear hW hz rx hB;go_wp2_with fail
 go_loopw [4] (fun iv wr=>∃ k:Nat,k≤P∧iv = .int .i64 (k:Int)∧kM g k=true∧Row wr w.heap.size 25 [.int .i64 g.aA,.slice A g.nodes.length c,.slice Ai g.infos.length ci]∧Below w.heap.size w wr) (fun iv _=>P - (intOf iv).toNat)
 case atStart=>exact⟨0,Nat.zero_le _,rfl,rfl,HX.out,HB.out⟩
 case round =>
  clear HX HB x0;obtain⟨k,hk,rfl,hpa,rx,hB⟩:=hrel;obtain⟨wa,rfl⟩:=named wr;have HPA:=Ae hpa;have x0:=rx.cell (i:=0) rfl; have x1:=rx.cell (i:=1) rfl; have x2:=rx.cell (i:=2) rfl;clear hpa;by_cases hlt:k < P
  ·have t0:decide ((k:Int) < g.aA)=true:=decide_eq_true (by rw[HP.out]; omega);go_wp2_with fail
   clear t0 x0 x1 x2;refine(ac9 wa F _ g (k:Int) (HG.out.on (Below.same' hB F)) HSM.out HGD.out).mono ?_;rintro e w1 ⟨_,rfl,hb,rfl⟩;have hs:=qg g k;rw[HPA.out,Bool.true_and,aht HF.out] at hs;replace rx:=rx.below hb rx.lt;replace hB:=hB.trans (hb.mono hB.size);have HRX:=Ae rx;clear hb rx;dsimp only;generalize aa5 g (k:Int)=pf at *;cases pf
   ·have hpf:=uh hs (show k+1≤P by omega);have HE:=Ae (show oQ g=13 by unfold oQ; rw[HPT.out,hpf]; rfl);have HO:=Ae (show jg g = [] by unfold jg; rw[HPT.out,hpf]; rfl);clear hs hpf;go_wp2_with fail
    go_ret2;exact⟨_,rfl,hB,_,by rw[HE.out]; rfl,by rw[HO.out]; exact Az.nil _ _⟩
   ·have HS:=Ae hs;clear hs;go_wp2_with fail
    go_roundw
    case rel=>exact⟨k+1,byOmega,by go_num,HS.out,HRX.out,hB⟩
    case measure=>simp[intOf]; omega
  ·have t0:decide ((k:Int) < g.aA)=false:=decide_eq_false (by rw[HP.out]; omega);have hpf:kM g P=true:=by rw[← HPA.out]; congr 1; omega
   have HE:=Ae (show oQ g=0 by unfold oQ; rw[HPT.out,hpf]; rfl);have HO:=Ae (show jg g=dM g by unfold jg; rw[HPT.out,hpf]; rfl);clear hpf hlt;go_wp2_with fail
   clear t0 x0 x1 x2;refine(uy wa F _ g (HG.out.on (Below.same' hB F)) HSM.out HGD.out.infos).mono ?_;rintro e w1 ⟨vs,rfl,hb,hvs⟩;replace rx:=rx.below hb rx.lt;replace hB:=hB.trans (hb.mono hB.size);have hsl:(dA g).length=g.infos.length:=bZ _ _ _;have HSL:=Ae hsl;have HVS:=Ae hvs;obtain⟨As,cs,e,hcs,-⟩:=hvs;rw[hsl] at e hcs;subst e;have HRX:=Ae rx; have HB1:=Ae hB; have HG1:=Ae (HG.out.on (Below.same' hB F));have hbx:=rx.lt;clear hb rx hB hsl HG;dsimp only;go_wp2_with fail
   go_loopw [6,7] (fun ov iv wr=>∃ (k:Nat) (L:List (Int×Int)),k≤g.infos.length∧iv = .int .i64 (k:Int)∧L.length=k∧L=(dM g).take k∧AO nY wr w1.heap.size 89 (fun _=>False) ov L∧Below w1.heap.size w1 wr) (fun _ iv _=>g.infos.length - (intOf iv).toNat)
   case atStart=>exact⟨0,[],byOmega,rfl,rfl,rfl,AO.nil _ _ _ _ _,Below.refl _ _⟩
   case round =>
    obtain⟨k,L,hk,rfl,hLl,hLm,hown,hbel⟩:=hrel;obtain⟨wc,rfl⟩:=named wr;have HLL:=Ae hLl; have HLM:=Ae hLm; have HOW:=Ae hown;have hrx:=HRX.out.below hbel hbx;have x2:=hrx.cell (i:=2) rfl;have hcz:=hbel.size;clear hLl hLm hown;by_cases hlt:k < g.infos.length
    ·have x0:=hrx.cell (i:=0) rfl; have x1:=hrx.cell (i:=1) rfl;obtain⟨inf,dS⟩:=aC hlt;obtain⟨n0,hn0,hk0,hi0,hpl0,hne0,hfo⟩:=lq HF.out hlt;have hfl:=aK hn0;obtain⟨l,hl⟩:=aC (l:=dA g) (k:=k) (by rw[HSL.out]; exact hlt);have hld:(dA g).getD k []=l:=by rw[List.getD_eq_getElem?_getD,hl]; rfl
     rw[hld] at hne0 hfo;have hl0:0 < l.length:=List.length_pos_iff.2 hne0;obtain⟨z,hz⟩:=aC (l:=l) (k:=0) hl0;have hzf:z=(fM g k:Int):=by rw[← hfo,List.getD_eq_getElem?_getD,hz]; rfl
     rw[hzf] at hz;obtain⟨bS,oS,cS,uS,e,hFS,hbS,e0,hin⟩:=Bj.at (HVS.out.on (Below.same' hbel _)) hl;rw[HSL.out] at e;injection e with e1 e2 e3
     subst e1;obtain⟨A6,c6,rfl,hc6,hx6⟩:=hin;obtain⟨bM,oM,rfl,hFM,hbM,hcM⟩:=hx6 hl0;have m0:=hcM 0 _ hz;unfold jF at m0;rw[Nat.zero_mul,Nat.add_zero] at m0;have hg4:=HG1.out.on (Below.same' hbel F);have HG4:=Ae hg4;obtain⟨vn',vi',e,-,hi4⟩:=hg4;injection e with e
     injection e with e
     injection e with _ e
     injection e with en e
     injection e with ei _
     subst en; subst ei;obtain⟨A',c',e,_,hx⟩:=hi4;injection e with e1 e2' e3'
     subst e1;obtain⟨bI,oI,rfl,_,hbI,hcI⟩:=hx byOmega;have p0:=(hcI k inf dS).c0;have CX:=Ae (show(dM g)[k]? = some (lastStep (iR g inf.aI (fM g k))) by
      rw[rG hlt,List.getD_eq_getElem?_getD,dS]; rfl)
     have hkS:(k:Int) < g.infos.length:=byOmega;clear hne0 hfo hx6 hcM hx hcI hrx e2 e3 e2' e3' hz hzf hld dS hn0 hk0 hi0 hpl0 hl;have hBc:=Below.refl wc.heap.size wc;go_wp2_with fail
     refine wp_region_held_drew (S:=fun w'=>w'.cell? ⟨w.heap.size,0,none⟩=some (.int .i64 g.aA)∧w'.cell? ⟨w.heap.size,1,none⟩=some (.slice A g.nodes.length c)∧w'.cell? ⟨w.heap.size,2,none⟩=some (.slice (some ⟨bI,oI,none⟩) g.infos.length ci)∧w'.cell? ⟨bS,oS+k,none⟩=some (.slice (some ⟨bM,oM,none⟩) l.length c6)∧w'.cell? ⟨bM,oM,none⟩=some (.int .i64 (fM g k:Int))∧w'.cell? ⟨bI,oI+k*2,none⟩=some (.int .i64 inf.aI)) aj ⟨x0,x1,x2,e0,m0,p0⟩ (fun hHeld=>?_);have hb:Below wc.heap.size wc wc.drew:=aH (Below.refl _ wc) 1;replace x0:=ah x0 hb;replace x1:=ah x1 hb;replace x2:=ah x2 hb;replace e0:=ah e0 hb;replace m0:=ah m0 hb;replace p0:=ah p0 hb;replace hBc:=hBc.trans (hb.mono hBc.size);clear hb;generalize wc.drew=wn at *;refine tk0 [0,1,2,3,4,5,6,7,8,9,10,11,12] ?_;iterate 13 (refine tk (v:=?_) rfl aj aj aj (fun _ _ _ h=>h) (Or.inl ⟨by rfl,?_⟩) hHeld ?_;rotate_left;(focus intro wx hSx;(try dsimp only at hSx);go_split_ands;go_simp;try with_reducible rfl);try simp only[Act.put,lq1,lq2,lq3,lq4,lq5,lq6])
     refine tk1 ?_;refine tk2 13 aj rfl fun K hK=>?_
     go_simp;refine(abL wn F _ g (fM g k) inf.aI (HG4.out.on (Below.same' hBc F)) HSM.out HGD.out hfl).mono ?_;rintro e wn ⟨vw,rfl,hb,hw⟩;have HW:=Ae hw;obtain⟨Aw,cw,rfl⟩:=hw.open;clear hw;replace x0:=ah x0 hb;replace x1:=ah x1 hb;replace x2:=ah x2 hb;replace e0:=ah e0 hb;replace m0:=ah m0 hb;replace p0:=ah p0 hb;replace hBc:=hBc.trans (hb.mono hBc.size);clear hb;dsimp only;clear hHeld;refine hK.out _ _ ⟨x0,x1,x2,e0,m0,p0⟩ (fun hHeld=>?_);clear hK K;try simp only[Act.put,lq1,lq2,lq3,lq4,lq5,lq6]
     refine tk0 [14] ?_;(refine tk (v:=?_) rfl aj aj aj (fun _ _ _ h=>h) (Or.inl ⟨by rfl,?_⟩) hHeld ?_;rotate_left;(focus intro wx hSx;(try dsimp only at hSx);go_split_ands;go_simp;try with_reducible rfl);try simp only[Act.put,lq1,lq2,lq3,lq4,lq5,lq6])
     refine tk1 ?_;refine wpAnyH_done aj ?_ _;clear hHeld;obtain⟨wl,hwl⟩:=named (iR g inf.aI (fM g k));have hwl10:wl.length≤10000:=by rw[hwl]; exact zl HGD.out HSM.out inf.aI hfl
     rw[← hwl] at HW CX ⊢;clear hwl x0 x1 x2 e0 m0 p0 HG4 hFS hFM hc6 hbS hbM hbI;show Exit.then _ _ .normal _ _;go_upto_region 13 with(fail)
     obtain⟨Wb,hWb,rb,hb,hzb⟩:=aO wn 89 #[.int .i64 (-1),.int .i64 (-1)];rw[← hWb];clear hWb;obtain⟨qb,hqb⟩:=named wn.heap.size;have hwnz:=hBc.size;replace HW:=Ae (HW.out.on (Below.same' hb _));have hBb:=hBc.trans (hb.mono hBc.size);rw[← hqb] at rb ⊢;have hqw:wc.heap.size≤qb:=byOmega;clear hb hBc hzb hqb hwnz;by_cases hw0:wl.length=0
     ·have HLS:=Ae (show(dM g)[k]? = some (-1,-1) by rw[CX.out,List.eq_nil_of_length_eq_zero hw0]; rfl);have c0:=rb.cell (i:=0) rfl; have c1:=rb.cell (i:=1) rfl;have HO5:=Ae (HOW.out.below hBb);have hb5:=hbel.trans (hBb.mono hcz);rw[hw0];clear CX HW hw0 rb hBb hbel;go_wp2_with (at_builtin; refine eY (K:=nY) (F:=fun _=>False) rfl _ _ 41 89 16 _ Tryz.underlying41 Tryz.infoSeq rfl aB rfl w1.heap.size (Nat.le_refl _) u6 L rfl ((-1:Int),(-1:Int)) _ rfl (by have:=HLL.out; omega) rfl HO5.out trivial hb5 ?_; intro g' cap w' hown' aZ hlt' _; have HO':=Ae hown'; clear hown')
      go_roundw
      case rel=>exact⟨k+1,L ++ [((-1:Int),(-1:Int))],byOmega,by go_num,by rw[List.length_append,HLL.out]; rfl,by rw[take_snoc HLS.out,HLM.out],HO'.out,aZ⟩
      case measure=>simp[intOf]; omega
     ·obtain⟨m,hm⟩:∃ m,wl.length=m+1:=⟨wl.length - 1,byOmega⟩;have hm10:m≤10000:=byOmega;obtain⟨sl,hsl⟩:=aC (l:=wl) (k:=m) byOmega;have HLS:=Ae (show(dM g)[k]? = some sl by rw[CX.out,abV hsl hm]);obtain⟨A7,c7,e,-,hx7⟩:=HW.out;injection e with e1 e2 e3
      subst e1;obtain⟨bw,ow,rfl,-,-,hcw⟩:=hx7 byOmega;obtain⟨y0,y1⟩:=hcw m sl hsl;have c0:=rb.cell (i:=0) rfl; have c1:=rb.cell (i:=1) rfl;have f0:=rb.frozen 0; have f1:=rb.frozen 1;obtain⟨Wd,hWd,rd,hwd⟩:=set2 rb (.int .i64 sl.1) (.int .i64 sl.2);have hBd:=Wrote.below hBb hwd (fun b (e:b=qb)=>by omega) hBb.size;have HO5:=Ae (HOW.out.below hBd);have hb5:=hbel.trans (hBd.mono hcz);have HWD:=Ae hWd;have z0:=rd.cell (i:=0) rfl; have z1:=rd.cell (i:=1) rfl;rw[hm];clear CX HW hx7 hcw e2 e3 hsl hm rb hBb hbel hwd hWd hw0 hBd rd;go_wp2_with fail
      go_region
      show Exit.then _ _ .normal _ _;rw[← HWD.out];have hbf:Below Wd.heap.size Wd Wd.drew:=aH (Below.refl _ Wd) 1;obtain⟨Wf,hWf⟩:=named Wd.drew;rw[← hWf] at hbf ⊢;replace z0:=ah z0 hbf; replace z1:=ah z1 hbf;replace HO5:=Ae (HO5.out.below hbf);replace hb5:=hb5.trans (hbf.mono hb5.size);clear HWD c0 c1 f0 f1 y0 y1 hWf hbf;go_wp2_with (at_builtin; refine eY (K:=nY) (F:=fun _=>False) rfl _ _ 41 89 16 _ Tryz.underlying41 Tryz.infoSeq rfl aB rfl w1.heap.size (Nat.le_refl _) u6 L rfl sl _ rfl (by have:=HLL.out; omega) rfl HO5.out trivial hb5 ?_; intro g' cap w' hown' aZ hlt' _; have HO':=Ae hown'; clear hown')
      go_roundw
      case rel=>exact⟨k+1,L ++ [sl],byOmega,by go_num,by rw[List.length_append,HLL.out]; rfl,by rw[take_snoc HLS.out,HLM.out],HO'.out,aZ⟩
      case measure=>simp[intOf]; omega
    ·have hke:k=g.infos.length:=byOmega;subst hke;have hr:=HOW.out.pairs (G:=fun b=>w.heap.size≤b) (fun b hb=>by have:=HB1.out.size; omega);have hLe:L=dM g:=by rw[HLM.out,List.take_of_length_le (by rw[gZ]; exact Nat.le_refl _)]
     have HR:=Ae hr; have HLE:=Ae hLe;have hb2:=HB1.out.trans (hbel.mono HB1.out.size);clear hr hLe HOW hbel;go_wp2
     go_ret2;exact⟨_,rfl,hb2,_,by rw[HE.out]; rfl,by rw[HO.out,← HLE.out]; exact HR.out⟩
theorem abW (w:World) (F:Ah) (u:Value) (g:Gm) (hg:AP w F u g) (hsm:Small g) :
  Calls Tryz.prog 27 #[u] w (Ret w fun v w'=>∃ vp,v = .tuple #[vp,.int .i64 (aad g)]∧Az w' (fun b=>w.heap.size≤b) vp (l7 g)):=by
 have HG:=Ae hg; have HSM:=Ae hsm;obtain⟨vn,vi,rfl,⟨A,c,rfl,hc,_⟩,⟨Ai,ci,rfl,hci,_⟩⟩:=hg;clear hsm;go_in
 go_wp2_with fail
 obtain⟨W,hW,rx,hB,hz⟩:=aO w 25 #[.int .i64 g.aA,.slice A g.nodes.length c,.slice Ai g.infos.length ci];rw[← hW];replace HG:=Ae (HG.out.on (Below.same' hB F));have x0:=rx.cell (i:=0) rfl; have x1:=rx.cell (i:=1) rfl; have x2:=rx.cell (i:=2) rfl;clear hW hz;go_wp2_with fail
 clear x0 x1 x2;refine(rW W F _ g HG.out HSM.out).mono ?_;rintro e w1 ⟨_,rfl,hb,rfl⟩;replace HG:=Ae (HG.out.on (Below.same' hb F));replace rx:=rx.below hb rx.lt;replace hB:=hB.trans (hb.mono hB.size);have x0:=rx.cell (i:=0) rfl; have x1:=rx.cell (i:=1) rfl; have x2:=rx.cell (i:=2) rfl;have hPE:aad g=if aY g≠0 then aY g else oQ g:=rfl
 have hPO:l7 g=if aY g≠0 then [] else jg g:=rfl
 have HPE:=Ae hPE; have HPO:=Ae hPO;obtain⟨fe,hfe⟩:=named (aY g);rw[← hfe] at HPE HPO ⊢;have HFE:=Ae hfe;clear hb hPE hPO hfe rx;dsimp only;by_cases h0:fe=0
 ·subst h0;go_wp2_with fail
  clear x0 x1 x2;refine(aae w1 F _ g HG.out HSM.out HFE.out.symm).mono ?_;rintro e w2 ⟨_,rfl,hb,vp,rfl,hvp⟩;have HB2:=Ae (hB.trans (hb.mono hB.size));have HVP:=Ae (Az.keep (G:=fun b=>w.heap.size≤b) hvp (fun b h _=>by have:=hB.size; omega) (Same.refl _ _));obtain⟨Ap,cp,rfl⟩:=hvp.open;clear hb hvp;dsimp only;go_wp2_with fail
  go_ret2;exact⟨_,rfl,HB2.out,_,by rw[HPE.out,if_neg aB]; rfl,by rw[HPO.out,if_neg aB]; exact HVP.out⟩
 ·have t0:(fe != 0)=true:=by simp[h0]
  have H0:=Ae h0;clear h0;go_wp2_with fail
  go_ret2;exact⟨_,rfl,hB,_,by rw[HPE.out,if_pos H0.out]; rfl,by rw[HPO.out,if_pos H0.out]; exact Az.nil _ _⟩
end Go.Proofs.YthmklhapjegfdaaGreatDoor
