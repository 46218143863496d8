/- parlourref26.Replace. -/
import Derived.Test.YthmklhapjegfdaaGreatDoorK34
import Derived.Test.YthmklhapjegfdaaGreatDoorK47
set_option linter.all false
set_option maxRecDepth 100000
set_option maxHeartbeats 12800000
namespace Go.Proofs.YthmklhapjegfdaaGreatDoor
open Lib renaming hid → Ac
open List renaming getElem_toArray → lq1, getElem_cons_zero → lq2, getElem_cons_succ → lq3, setIfInBounds_toArray → lq4, set_cons_zero → lq5, set_cons_succ → lq6
open Go.RowKit
theorem A8.badR {F:Ag} {g:Gm} {roots:List Int} {m o:List (List Raw)} {er:Int} {w':World} (h:aey g roots m o=er) (h0:er≠0):A8 F (aey g roots m o) (uG g roots m o) (.tuple #[.slice none 0 0,.int .i64 er]) w':=by
 unfold uG;rw[h,if_neg h0];exact⟨_,rfl,Ae.nil _ _⟩
theorem agf {w:World} {b o:Nat} {v:Value} (h:w.cell? ⟨b,o,none⟩=some v) (ob:Obj):(w.alloc ob).cell? ⟨b,o,none⟩=some v:=ah h ((Below.refl _ w).alloc (Nat.le_refl _) _)
theorem aeJ (g:Gm) (roots:List Int):(jg g roots).length≤g.infos.length:=qo _ _ _
theorem ab2 {g:Gm} {roots:List Int}:∀ s∈jg g roots,0≤s∧s < (g.infos.length:Int):=by
 intro s hs;unfold jg fG at hs;obtain⟨⟨l,i⟩,h1,rfl⟩:=List.mem_map.1 hs;have h2:=List.mem_zipIdx (List.mem_filter.1 h1).1;simp only[List.length_take,Nat.zero_add] at h2;have h3:(aT g).length=g.infos.length:=bC _ _ _;omega
theorem zZ (w:World) (F:Ag) (u vr vm vo:Value) (g:Gm) (roots:List Int) (m o:List (List Raw)) (hg:Az w F u g) (hr:Ak w F vr roots) (hm:Ae w F vm m) (ho:Ae w F vo o) (hsm:Small g) (hl:roots.length≤1000)
  (hlm:m.length≤1000∧∀ l∈m,l.length≤1000) (hlo:o.length≤1000∧∀ l∈o,l.length≤1000) (hbm:Bh m) (hbo:Bh o) :
  Calls Tryz.prog 17 #[u,vr,vm,vo] w (Ret w (A8 (fun b=>F b∨w.heap.size≤b) (aey g roots m o) (uG g roots m o))):=by
 have HG:=Ac hg; have HR:=Ac hr; have HM:=Ac hm; have HO:=Ac ho;have hn:=hsm.nodes; have hni:=hsm.infos;have HS:=Ac hsm; have HBM:=Ac hbm; have HBO:=Ac hbo;have HLM:=Ac hlm; have HLO:=Ac hlo;have lm:=hlm.1; have lo:=hlo.1;obtain⟨vn,vi,rfl,⟨A,c,rfl,hc,hN⟩,⟨Ai,ci,rfl,hci,hI⟩⟩:=hg;obtain⟨Am,cm,rfl,hcm,hMM⟩:=hm;obtain⟨Ao,co,rfl,hco,hOO⟩:=ho;clear hN hI hMM hOO hr hsm hbm hbo hlm hlo;go_enter Tryz.func17,Tryz.ntmps17;go_wp2_with fail
 obtain⟨W,hW,rx,hB,hz⟩:=aN w 25 #[.int .i64 g.aj,.slice A g.nodes.length c,.slice Ai g.infos.length ci];rw[← hW];clear hW hz;replace HG:=Ac (HG.out.on (Below.same' hB _));replace HR:=Ac (HR.out.on (Below.same' hB _));replace HM:=Ac (Ae.on HM.out (Below.same' hB _));replace HO:=Ac (Ae.on HO.out (Below.same' hB _));refine(check_any W F _ _ g roots HG.out HR.out HS.out hl).mono ?_;rintro e w1 ⟨_,rfl,hb,rfl⟩;replace HG:=Ac (HG.out.on (Below.same' hb _));replace HR:=Ac (HR.out.on (Below.same' hb _));replace HM:=Ac (Ae.on HM.out (Below.same' hb _));replace HO:=Ac (Ae.on HO.out (Below.same' hb _));replace rx:=rx.below hb rx.lt;replace hB:=hB.trans (hb.mono hB.size);clear hb;have HOI:=Ac (fun h:iD g roots=0=>uq h);have H0:=Ac (show aey g roots m o=if iD g roots≠0 then iD g roots else if pV g roots=false then 13 else if gZ (g.infos.map Inf.actions) m≠0 then gZ (g.infos.map Inf.actions) m else gZ (g.infos.map Inf.actions) o from rfl);have HFC:=Ac (fun h:iD g roots=0=>(nD (g:=g) (roots:=roots) (by rw[pX]; exact h)).1);generalize iD g roots=er at *;dsimp only;by_cases he:er=0
 case neg =>
  have hd:(er != 0)=true:=by simp[he]
  have HFN:=Ac (H0.out.trans (if_pos he));have HNZ:=Ac he;clear he rx;go_wp2
  go_ret2;exact⟨_,rfl,hB,A8.badR HFN.out HNZ.out⟩
 have HF:=Ac (H0.out.trans (if_neg (by simpa using he)));have HZ:=Ac he;obtain⟨hgd,hrt⟩:=HOI.out he;have HFM:=Ac (HFC.out he);have HK:=Ac hgd.zy; have HII:=Ac hgd.infos;have hp:=hgd.pos;have HIN:=Ac (zB hrt);subst he;clear hgd hrt H0 HOI HZ HFC;have x0:=rx.cell (i:=0) rfl; have x1:=rx.cell (i:=1) rfl; have x2:=rx.cell (i:=2) rfl;go_wp2_with fail
 clear x0 x1 x2;refine(aed w1 F _ _ g roots HG.out HR.out HS.out hp HK.out HII.out hl HIN.out).mono ?_;rintro e w2 ⟨_,rfl,hb,vs,rfl,hvs⟩;replace HG:=Ac (HG.out.on (Below.same' hb _));replace HR:=Ac (HR.out.on (Below.same' hb _));replace HM:=Ac (Ae.on HM.out (Below.same' hb _));replace HO:=Ac (Ae.on HO.out (Below.same' hb _));replace rx:=rx.below hb rx.lt;replace hB:=hB.trans (hb.mono hB.size);have HV:=Ac (Ak.keep (G:=fun _=>True) hvs (fun _ _ _=>trivial) (Same.refl _ _));obtain⟨As,cs,rfl,hcs,_⟩:=hvs;clear hb;obtain⟨cl,hcl⟩:∃ cl,cl=pV g roots:=⟨_,rfl⟩;rw[← hcl] at HF ⊢;clear hcl;dsimp only;cases cl
 case false =>
  have HF:=Ac (HF.out.trans (if_pos rfl));clear rx;go_wp2
  go_ret2;exact⟨_,rfl,hB,A8.badR HF.out (by decide)⟩
 replace HF:=Ac (HF.out.trans (if_neg (by decide)));have x0:=rx.cell (i:=0) rfl; have x1:=rx.cell (i:=1) rfl; have x2:=rx.cell (i:=2) rfl;go_wp2_with fail
 clear x0 x1 x2;refine(abb w2 F _ _ g m HG.out HM.out (by omega) (by omega) HBM.out (uD HFM.out)).mono ?_;rintro e w3 ⟨_,rfl,hb,rfl⟩;replace HG:=Ac (HG.out.on (Below.same' hb _));replace HR:=Ac (HR.out.on (Below.same' hb _));replace HM:=Ac (Ae.on HM.out (Below.same' hb _));replace HO:=Ac (Ae.on HO.out (Below.same' hb _));replace HV:=Ac (HV.out.on (Below.same' hb _));replace rx:=rx.below hb rx.lt;replace hB:=hB.trans (hb.mono hB.size);clear hb;have HPM:=Ac (fun h:gZ (g.infos.map Inf.actions) m=0=>(pY h).1);generalize gZ (g.infos.map Inf.actions) m=em at *;dsimp only;by_cases he:em=0
 case neg =>
  have hd:(em != 0)=true:=by simp[he]
  have HFN:=Ac (HF.out.trans (if_pos he));have HNZ:=Ac he;clear he rx;go_wp2
  go_ret2;exact⟨_,rfl,hB,A8.badR HFN.out HNZ.out⟩
 replace HF:=Ac (HF.out.trans (if_neg (by simpa using he)));have HZ:=Ac he;have hml:m.length=g.infos.length:=by have:=HPM.out he; rwa [List.length_map] at this
 have HML:=Ac hml;subst he;clear hml HPM HZ;have x0:=rx.cell (i:=0) rfl; have x1:=rx.cell (i:=1) rfl; have x2:=rx.cell (i:=2) rfl;go_wp2_with fail
 clear x0 x1 x2;refine(abb w3 F _ _ g o HG.out HO.out (by omega) (by omega) HBO.out (uD HFM.out)).mono ?_;rintro e w4 ⟨_,rfl,hb,rfl⟩;replace HG:=Ac (HG.out.on (Below.same' hb _));replace HR:=Ac (HR.out.on (Below.same' hb _));replace HM:=Ac (Ae.on HM.out (Below.same' hb _));replace HO:=Ac (Ae.on HO.out (Below.same' hb _));replace HV:=Ac (HV.out.on (Below.same' hb _));replace rx:=rx.below hb rx.lt;replace hB:=hB.trans (hb.mono hB.size);clear hb;have HPM:=Ac (fun h:gZ (g.infos.map Inf.actions) o=0=>(pY h).1);generalize gZ (g.infos.map Inf.actions) o=eo at *;dsimp only;by_cases he:eo=0
 case neg =>
  have hd:(eo != 0)=true:=by simp[he]
  have HFN:=Ac (HF.out.trans rfl);have HNZ:=Ac he;clear he rx;go_wp2
  go_ret2;exact⟨_,rfl,hB,A8.badR HFN.out HNZ.out⟩
 replace HF:=Ac (HF.out);have HZ:=Ac he;have hol:o.length=g.infos.length:=by have:=HPM.out he; rwa [List.length_map] at this
 have HOL:=Ac hol;subst he;clear hol HPM HZ rx;have HR0:=Ac (show uG g roots m o=rC (jg g roots) o (jg g roots).length m by unfold uG; rw[if_pos HF.out]);have hB4:=hB.size;have HBB:=Ac hB;clear hB;go_wp2
 go_loopw [15,16] (fun u i wr=>∃ (k:Nat) (L:List (Value×List Raw)),k≤m.length∧i = .int .i64 (k:Int)∧L.length=k∧L.map Prod.snd=m.take k∧Bg wO wr w4.heap.size 64 (fun b=>(F b∧b < w4.heap.size)∨w4.heap.size≤b) u L∧Below w4.heap.size w4 wr) (fun _ i _=>m.length - (intOf i).toNat)
 case atStart=>exact⟨0,[],by omega,rfl,rfl,rfl,Bg.nil _ _ _ _ _,Below.refl _ _⟩
 case round =>
  obtain⟨k,L,hk,rfl,hLl,hLr,hown,hbel⟩:=hrel;have HOW:=Ac hown; have HL:=Ac hLr;have HLL:=Ac hLl;clear hown hLr hLl;by_cases hlt:k < m.length
  case pos =>
   obtain⟨x,hxk⟩:=ak hlt;obtain⟨bb,oo,cc,vx,e1,hF1,hlt1,x0,i1⟩:=Ae.at HM.out hxk;injection e1 with e11 e12 e13
   subst e11;clear e12 e13;have V1:=Ac ((Aw.keep (G:=fun b=>F b∧b < w4.heap.size) i1 (fun b hb hl=>⟨hb,hl⟩) (Below.same' hbel F)));obtain⟨An,cn,rfl,_,_⟩:=i1;have hxl:=HLM.out.2 x (List.mem_of_getElem? hxk);have HXK:=Ac hxk;have x9:=fun o=>agf (ah x0 hbel) o
   clear x0;clear hxk;have hz:=hbel.size;go_wp2_with (at_builtin; first | (refine abx (F:=fun b=>F b∧b < w4.heap.size) rfl _ _ rfl wr.heap.size _ x rfl rfl (Aw.on V1.out (Same.alloc _ _ _)) (by omega) ?_; intro A3 c3 w6 hb6 hi6; have hb7:=((Below.refl _ wr).alloc (Nat.le_refl _) _).trans (hb6.mono (by simp)); have ajl:=hbel.trans (hb7.mono hbel.size); have HO6:=Ac (HOW.out.below hb7); have HF6:=Ac (show wO.fine w6 (Apart (fun b=>(F b∧b < w4.heap.size)∨w4.heap.size≤b) u15) (.slice A3 x.length c3,x) from Aw.keep hi6 (fun b hb _=>⟨hb.elim (fun h=>.inl h.1) (fun h=>.inr (by simp at h; omega)),(fun e=>by have h1:=HOW.out.row.lt b e; rcases hb with h | h <;> first | omega | (simp at h; omega))⟩) (Same.refl _ _)); clear hi6 hb6 hb7 x9) | (refine adQ (K:=wO) (F:=fun b=>(F b∧b < w4.heap.size)∨w4.heap.size≤b) rfl _ _ 28 64 24 _ Tryz.underlying28 Tryz.infoRats rfl (by decide) rfl w4.heap.size (Nat.le_refl _) u15 L rfl (.slice A3 x.length c3,x) _ rfl (by have:=HLL.out; omega) rfl HO6.out HF6.out ajl ?_; intro g' cap w' hown' dB hlt' _; have HO':=Ac hown'; clear hown'))
   go_roundw
   case rel=>exact⟨k+1,L ++ [(.slice A3 x.length c3,x)],by omega,by go_num,by rw[List.length_append,HLL.out]; rfl,by rw[List.map_append,HL.out,take_snoc HXK.out,List.map_cons,List.map_nil],HO'.out,dB⟩
   case measure=>simp[intOf]; omega
  have hkm:k=m.length:=by omega
  subst hkm;rw[List.take_of_length_le (Nat.le_refl _)] at HL;have hsl:=aeJ g roots;by_cases hm0:m.length=0
  case pos =>
   have hs0:(jg g roots).length=0:=by have:=HML.out; omega
   have HM0:=Ac hm0; have HS0:=Ac hs0;rw[hs0];clear hm0 hs0 hsl;go_wp2_with fail
   go_loopw [17] (fun iv wr2=>iv = .int .i64 0∧wr2=wr) (fun _ _=>0)
   case atStart=>exact⟨rfl,rfl⟩
   case round =>
    obtain⟨rfl,rfl⟩:=hrel;go_wp2_with fail
    go_ret2;refine⟨_,rfl,HBB.out.trans (hbel.mono hB4),_,by rw[HF.out]; rfl,?_⟩;have h5:=HOW.out.rows (G:=fun b=>F b∨w.heap.size≤b) (fun b hb=>hb.elim (fun h=>.inl h.1) (fun h=>.inr (by omega))) (fun b hb=>.inr (by omega));rw[HL.out] at h5;rw[HR0.out,HS0.out];exact h5
  obtain⟨gb,cap,S,hu,hcap,hgb,hH⟩:=HOW.out.agI (by rw[HLL.out]; omega);have HH:=Ac hH;rw[HLL.out] at hu;subst hu;have hcap2:m.length≤cap:=by rw[← HLL.out]; exact hcap
  have HSR:=Ac (ab2 (g:=g) (roots:=roots));have HV0:=Ac (HV.out.on (Below.same' hbel _));have hml:=HML.out;have hol:=HOL.out;have hbel0:=hbel;generalize jg g roots=ss at *;have hgl:=hH.row.lt;clear hcap hH HOW;go_wp2_with fail
  go_loopw [17] (fun iv wr=>∃ (j:Nat) (L2:List (Value×List Raw)),j≤ss.length∧iv = .int .i64 (j:Int)∧L2.length=m.length∧L2.map Prod.snd=rC ss o j m∧HeldRows wr gb 64 (fun b=>((F b∧b < w4.heap.size)∨w4.heap.size≤b)∧b≠gb) L2 S∧Below w4.heap.size w4 wr) (fun iv _=>ss.length - (intOf iv).toNat)
  case atStart=>exact⟨0,L,Nat.zero_le _,rfl,HLL.out,by rw[HL.out]; rfl,HH.out,hbel0⟩
  case round =>
   clear hbel HH hbel0 HL HLL hgl;obtain⟨j,L2,hj,rfl,hL2,hL2r,hH,hbel⟩:=hrel;have HH:=Ac hH; have HL2:=Ac hL2; have HR2:=Ac hL2r;clear hH hL2 hL2r;by_cases hjt:j < ss.length
   case neg =>
    go_wp2_with fail
    go_ret2;refine⟨_,rfl,HBB.out.trans (hbel.mono hB4),_,by rw[HF.out]; rfl,?_⟩;have h5:=HH.out.rows (F:=fun b=>F b∨w.heap.size≤b) (fun b hb=>hb.1.elim (fun h=>.inl h.1) (fun h=>.inr (by omega))) (.inr (by omega)) (c:=cap) (by rw[HL2.out]; exact hcap2);rw[HL2.out,HR2.out,show j=ss.length by omega] at h5;rw[HR0.out];exact h5
   obtain⟨s,hsj⟩:=ak hjt;obtain⟨hs0,hs1⟩:=HSR.out s (List.mem_of_getElem? hsj);obtain⟨q,rfl⟩:=Int.eq_ofNat_of_zero_le hs0;obtain⟨x,hxq⟩:=ak (l:=o) (k:=q) (by omega);obtain⟨p0,hp0⟩:=ak (l:=L2) (k:=q) (by rw[HL2.out]; omega);obtain⟨bs,os,cs',e2,_,hbs,e1⟩:=Ak.get HV.out hsj;injection e2 with e21 e22 e23
   subst e21;clear e22 e23;obtain⟨bb,oo,cc,vx,e3,hF1,hlt1,z0,i1⟩:=Ae.at HO.out hxq;injection e3 with e31 e32 e33
   subst e31;clear e32 e33;have V1:=Ac ((Aw.keep (G:=fun b=>F b∧b < w4.heap.size) i1 (fun b hb hl=>⟨hb,hl⟩) (Below.same' hbel F)));obtain⟨An,cn,rfl,_,_⟩:=i1;have hxl:=HLO.out.2 x (List.mem_of_getElem? hxq);replace e1:=ah e1 hbel; replace z0:=ah z0 hbel;have HSJ:=Ac hsj; have HXQ:=Ac hxq; have HP0:=Ac hp0;have hq:q < m.length:=by omega
   have hqo:q < o.length:=by omega
   clear hsj hxq hp0 hs0 hs1 hml hol;go_wp2_with fail
   refine dQ (fun w'=>w'.cell? ⟨bs,os+j,none⟩=some (.int .i64 (q:Int))∧w'.cell? ⟨bb,oo+q,none⟩=some (.slice An x.length cn)) 14 2 (by kernel_rfl) rfl (by kernel_rfl) ?_;have hHeld:(fun w':World=>w'.cell? ⟨bs,os+j,none⟩=some (.int .i64 (q:Int))∧w'.cell? ⟨bb,oo+q,none⟩=some (.slice An x.length cn)) wr.drew:=⟨e1,z0⟩;simp only[List.take_succ_cons,List.take_zero];have hb:Below wr.heap.size wr wr.drew:=aF (Below.refl _ wr) 1;replace e1:=ah e1 hb;replace z0:=ah z0 hb;replace HH:=Ac (HH.out.below hb);replace V1:=Ac (Aw.on V1.out (Below.same' hb _));replace hbel:=hbel.trans (hb.mono hbel.size);clear hb;generalize wr.drew=wn at *;refine tk0 [0,1,2,3,4,6,7,8,9,10,11,12] ?_;iterate 12 (refine tk (v:=?_) rfl (by kernel_rfl) (by kernel_rfl) (by kernel_rfl) (fun _ _ _ h=>h) (Or.inl ⟨by rfl,?_⟩) hHeld ?_;rotate_left;(focus intro wx hSx;(try dsimp only at hSx);go_split_ands;go_simp;try with_reducible rfl);try simp only[Act.put,lq1,lq2,lq3,lq4,lq5,lq6])
   refine tk1 ?_;refine tk2 5 (by kernel_rfl) rfl fun K hK=>?_
   go_simp;obtain⟨w8,hw8,_,hb,_⟩:=aN wn 83 #[];rw[← hw8];obtain⟨nb,hnb⟩:∃ nb,nb=wn.heap.size:=⟨_,rfl⟩;rw[← hnb];clear hw8 hnb;replace e1:=ah e1 hb;replace z0:=ah z0 hb;replace HH:=Ac (HH.out.below hb);replace V1:=Ac (Aw.on V1.out (Below.same' hb _));replace hbel:=hbel.trans (hb.mono hbel.size);clear hb;clear hHeld;refine hK.out _ _ ⟨e1,z0⟩ (fun hHeld=>?_);clear hK K;try simp only[Act.put,lq1,lq2,lq3,lq4,lq5,lq6]
   refine tk2 13 (by kernel_rfl) rfl fun K hK=>?_
   refine aiN rfl ?_;refine sH (F:=fun b=>F b∧b < w4.heap.size) _ _ rfl nb _ x rfl rfl V1.out (by omega) ?_;intro A3 c3 w9 hb hi;have HI:=Ac (show Aw w9 (fun b=>((F b∧b < w4.heap.size)∨w4.heap.size≤b)∧b≠gb) (.slice A3 x.length c3) x from Aw.keep hi (fun b hb _=>⟨hb.elim (fun h=>.inl h.1) (fun h=>.inr (Nat.le_trans hbel.size h)),fun e=>by subst e; have h2:=HH.out.row.lt; rcases hb with h | h <;> omega⟩) (Same.refl _ _));clear hi;replace e1:=ah e1 hb;replace z0:=ah z0 hb;replace HH:=Ac (HH.out.below hb);replace V1:=Ac (Aw.on V1.out (Below.same' hb _));replace hbel:=hbel.trans (hb.mono hbel.size);clear hb;clear hHeld;refine hK.out _ _ ⟨e1,z0⟩ (fun hHeld=>?_);clear hK K;try simp only[Act.put,lq1,lq2,lq3,lq4,lq5,lq6]
   refine wpAnyH_done (by kernel_rfl) ?_ _;clear hHeld;show wpList _ _ _ _ _ _;have y0:=HH.out.cell HP0.out;have g0:=HH.out.row.frozen q;have HW2:=Ac (HH.out.set (k:=q) (q:=(.slice A3 x.length c3,x)) (by rw[HL2.out]; exact hq) HI.out);have HBZ:=Ac (hbel.setCell (p:=⟨gb,q,none⟩) hgb (.slice A3 x.length c3));clear HI HH hbel V1 e1 z0;go_wp2
   show wpList _ _ _ _ _ _;go_wp2
   show Exit.inBlock _ _ .normal _ _;go_wp2
   go_roundw
   case rel=>exact⟨j+1,_,by omega,by go_num,by rw[List.length_set,HL2.out],by rw[List.map_set,HR2.out,adn HSJ.out,Int.toNat_natCast,List.getD_eq_getElem?_getD,HXQ.out]; rfl,HW2.out,HBZ.out⟩
   case measure=>simp[intOf]; omega
end Go.Proofs.YthmklhapjegfdaaGreatDoor
