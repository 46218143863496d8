/- parlourref17.Nodes, Value. -/
import Derived.Test.YtkcheepafifjaaaGreatDoorU37
import Derived.Test.YtkcheepafifjaaaGreatDoorU41
import Derived.Test.YtkcheepafifjaaaGreatDoorU44
set_option linter.all false
set_option maxRecDepth 100000
set_option maxHeartbeats 12800000
namespace Go.Proofs.YtkcheepafifjaaaGreatDoor
open Lib renaming hid → Ac
open Go.RowKit
theorem afQ (w:World) (F:Ag) (vg vm:Value) (g:Gm) (m:List (List Rat)) (hg:AA w F vg g) (hsm:Small g) (hm:AP w F vm m) (hlm:m.length≤100000) (hb:AO (m.map (List.map au))) (h0:bF g (m.map (List.map au))=0) (hf:Fit g m) :
  Calls Tryz.prog 21 #[vg,vm] w (Ret w (Cb F w.heap.size (zI (vC g m)) (qW (vC g m)))):=by
 have HG:=Ac hg; have HM:=Ac hm; have HS:=Ac hsm; have HBB:=Ac hb; have HE0:=Ac h0; have HFT:=Ac hf;have hn100:=hsm.nodes;obtain⟨vn,vi,rfl,⟨A,c,rfl,hc,_⟩,⟨Ai,ci,rfl,hci,_⟩⟩:=hg;clear hm hsm hb hf h0;have hpos:0 < g.nodes.length:=HFT.out.good.pos;obtain⟨vs,hvs⟩:∃ vs,vs=vC g m:=⟨_,rfl⟩;have HRL:=Ac (qV HFT.out);have HVS:=Ac hvs;rw[← hvs] at HRL ⊢;have hvl:g.nodes.length≤vs.length:=by rw[hvs]; simp
 have aiI:vs.length≤g.nodes.length:=by rw[hvs]; simp
 clear hvs;go_enter Tryz.func21,Tryz.ntmps21;go_wp2_with fail
 obtain⟨W,hW,rx,hB,hz⟩:=aB w 25 #[.int .i64 g.ak,.slice A g.nodes.length c,.slice Ai g.infos.length ci];rw[← hW];clear hW;have hz2:=hB.size;replace HG:=Ac (HG.out.on (Below.same' hB F)); replace HM:=Ac (Ae.below HM.out hB);have x0:=rx.cell (i:=0) rfl; have x1:=rx.cell (i:=1) rfl; have x2:=rx.cell (i:=2) rfl;clear rx;go_wp2_with fail
 refine(jo W F _ _ g (m.map (List.map au)) HG.out HS.out HM.out (by rw[List.length_map]; exact hlm) HBB.out).mono ?_;rintro e w1 ⟨u,rfl,hb1,rfl⟩;rw[HE0.out];replace x0:=ah x0 hb1; replace x1:=ah x1 hb1; replace x2:=ah x2 hb1;replace HG:=Ac (HG.out.on (Below.same' hb1 F)); replace HM:=Ac (Ae.below HM.out hb1);have hB1:=hB.trans (hb1.mono hB.size);have hz3:=hb1.size;clear hb1 hB;dsimp only;go_wp2_with fail
 refine(vw w1 F _ _ g m HG.out HM.out HFT.out hn100 hlm).mono ?_;rintro e w2 ⟨u,rfl,hb2,⟨b2,rfl⟩,hu⟩;have hB2:=hB1.trans (hb2.mono hB1.size);have hz4:=hb2.size;rw[show(List.range g.nodes.length).map (bT g m)=vs from HVS.out.symm] at hu;have HU:=Ac hu;clear hu hb2 hB1 x0 x1 x2;dsimp only;go_wp2_with fail
 go_loopw [8] (fun i wr=>∃ (k:Nat),k≤g.nodes.length∧i = .int .i64 (k:Int)∧(vs.take k).any (fun r=>decide (jR r≠0))=false∧Below w2.heap.size w2 wr) (fun i _=>g.nodes.length - (intOf i).toNat)
 case atStart=>exact⟨0,by omega,rfl,rfl,Below.refl _ _⟩
 case round =>
  obtain⟨k,hk,rfl,hany,hbel⟩:=hrel;have HA:=Ac hany;clear hany;by_cases hlt:k < g.nodes.length
  ·obtain⟨r,hr⟩:=ay (l:=vs) (k:=k) (by omega);obtain⟨b,o,cc,vx,e1,hF1,hlt1,x0,i1⟩:=Ae.at (l:=r.map au) HU.out (by rw[List.getElem?_map,hr]; rfl);injection e1 with e11 e12 e13
   injection e11 with e11
   injection e11 with e14 e15
   subst e14 e15;clear e12 e13;have V1:=Ac (Aj.on i1 (Below.same' hbel (Ext F w1.heap.size)));obtain⟨An,cn,rfl,_,_⟩:=i1;rw[List.length_map] at x0 V1;rw[Nat.zero_add] at x0;have hR:=HRL.out r (List.mem_of_getElem? hr);have hR1:=hR.1;have HR2:=Ac hR.2;have HK:=Ac hr;have hold:=aI hbel;clear hr hR;have hz:=hbel.size;obtain⟨oe,hoe⟩:∃ oe,oe=jR r:=⟨_,rfl⟩;have hcs:oe=0∨oe=5:=by rw[hoe]; exact zH r
   have HOE:=Ac hoe;clear hoe;go_wp2_with fail
   refine(uo wr _ _ r V1.out (by omega) (fun x hx=>by have:=HR2.out x hx; omega)).mono ?_;rintro e w3 ⟨u,rfl,hb3,t,rfl,ht⟩;rw[← HOE.out];have jc:=hbel.trans (hb3.mono hbel.size);clear hb3 hbel ht hold;rcases hcs with rfl | rfl
   ·clear x0;dsimp only;go_wp2_with fail
    go_roundw
    case rel=>exact⟨k+1,by omega,by go_num,iO HK.out HA.out (by rw[← HOE.out]; rfl),jc⟩
    case measure=>simp[intOf]; omega
   ·have HEV:=Ac (ac1 HK.out HOE.out.symm);clear HOE;dsimp only;go_wp2
    go_ret2;refine⟨_,rfl,hB2.trans (jc.mono (by omega)),_,by rw[HEV.out]; rfl,?_⟩;unfold qW;rw[HEV.out,if_pos (by decide)];exact Ae.nil _ _
  ·have HEV:=Ac (aaV HA.out (by omega));go_wp2
   go_ret2;refine⟨_,rfl,hB2.trans (hbel.mono (by omega)),_,by rw[HEV.out]; rfl,?_⟩;unfold qW;rw[HEV.out,if_neg (by decide)];exact Ae.keep HU.out (fun b hb _=>Ext.mono (by omega) hb) (Below.same' hbel _)
theorem aef (w:World) (F:Ag) (vg vm:Value) (g:Gm) (m:List (List Raw)) (hg:AA w F vg g) (hsm:Small g) (hm:Ae w F vm m) (hlm:m.length≤100000) (hb:AO m) (h0:bF g m≠0) :
  Calls Tryz.prog 21 #[vg,vm] w (Ret w fun u _=>u = .tuple #[.slice none 0 0,.int .i64 (bF g m)]):=by
 have HG:=Ac hg; have HM:=Ac hm; have HS:=Ac hsm; have HBB:=Ac hb; have HE0:=Ac h0;have hn100:=hsm.nodes;obtain⟨vn,vi,rfl,⟨A,c,rfl,hc,_⟩,⟨Ai,ci,rfl,hci,_⟩⟩:=hg;clear hm hsm hb;obtain⟨fe,hfe⟩:∃ fe,fe=bF g m:=⟨_,rfl⟩;have HFE:=Ac hfe;rw[← hfe] at h0 ⊢;clear hfe;have t0:decide (fe=0)=false:=decide_eq_false h0;go_enter Tryz.func21,Tryz.ntmps21;go_wp2_with fail
 obtain⟨W,hW,rx,hB,hz⟩:=aB w 25 #[.int .i64 g.ak,.slice A g.nodes.length c,.slice Ai g.infos.length ci];rw[← hW];clear hW;have hz2:=hB.size;replace HG:=Ac (HG.out.on (Below.same' hB F)); replace HM:=Ac (Ae.below HM.out hB);have x0:=rx.cell (i:=0) rfl; have x1:=rx.cell (i:=1) rfl; have x2:=rx.cell (i:=2) rfl;clear rx;go_wp2_with fail
 refine(jo W F _ _ g m HG.out HS.out HM.out hlm HBB.out).mono ?_;rintro e w1 ⟨u,rfl,hb1,rfl⟩;rw[← HFE.out];replace x0:=ah x0 hb1; replace x1:=ah x1 hb1; replace x2:=ah x2 hb1;replace HG:=Ac (HG.out.on (Below.same' hb1 F)); replace HM:=Ac (Ae.below HM.out hb1);have hB1:=hB.trans (hb1.mono hB.size);have hz3:=hb1.size;clear hb1 hB;dsimp only;go_wp2
 go_ret2;exact⟨_,rfl,hB1,rfl⟩
theorem afR (w:World) (F:Ag) (vg vm:Value) (g:Gm) (m:List (List Rat)) (hg:AA w F vg g) (hsm:Small g) (hm:AP w F vm m) (hlm:m.length≤100000) (hb:AO (m.map (List.map au))) (h0:bF g (m.map (List.map au))=0) (hf:Fit g m) :
  Calls Tryz.prog 23 #[vg,vm] w (Ret w (BQ F w.heap.size (jR (bT g m 0)) (fitsV (bT g m 0)))):=by
 have HG:=Ac hg; have HM:=Ac hm; have HS:=Ac hsm; have HBB:=Ac hb; have HE0:=Ac h0; have HFT:=Ac hf;have hn100:=hsm.nodes;obtain⟨vn,vi,rfl,⟨A,c,rfl,hc,_⟩,⟨Ai,ci,rfl,hci,_⟩⟩:=hg;clear hm hsm hb hf h0;have hpos:0 < g.nodes.length:=HFT.out.good.pos;obtain⟨r0,hr0⟩:∃ r0,r0=bT g m 0:=⟨_,rfl⟩;have HRL:=Ac (qV HFT.out _ (List.mem_of_getElem? (nH HFT.out)));have HZ:=Ac (nH HFT.out);rw[← hr0] at HRL HZ ⊢;clear hr0;have hrl:r0.length≤100000:=by have:=HRL.out.1; omega
 go_enter Tryz.func23,Tryz.ntmps23;go_wp2_with fail
 obtain⟨W,hW,rx,hB,hz⟩:=aB w 25 #[.int .i64 g.ak,.slice A g.nodes.length c,.slice Ai g.infos.length ci];rw[← hW];clear hW;have hz2:=hB.size;replace HG:=Ac (HG.out.on (Below.same' hB F)); replace HM:=Ac (Ae.below HM.out hB);have x0:=rx.cell (i:=0) rfl; have x1:=rx.cell (i:=1) rfl; have x2:=rx.cell (i:=2) rfl;clear rx;go_wp2_with fail
 refine(jo W F _ _ g (m.map (List.map au)) HG.out HS.out HM.out (by rw[List.length_map]; exact hlm) HBB.out).mono ?_;rintro e w1 ⟨u,rfl,hb1,rfl⟩;rw[HE0.out];replace x0:=ah x0 hb1; replace x1:=ah x1 hb1; replace x2:=ah x2 hb1;replace HG:=Ac (HG.out.on (Below.same' hb1 F)); replace HM:=Ac (Ae.below HM.out hb1);have hB1:=hB.trans (hb1.mono hB.size);have hz3:=hb1.size;clear hb1 hB;dsimp only;go_wp2_with fail
 refine(vw w1 F _ _ g m HG.out HM.out HFT.out hn100 hlm).mono ?_;rintro e w2 ⟨u,rfl,hb2,⟨b2,rfl⟩,hu⟩;have hB2:=hB1.trans (hb2.mono hB1.size);have hz4:=hb2.size;obtain⟨b,o,cc,vx,e1,hF1,hlt1,y0,i1⟩:=Ae.at (l:=r0.map au) hu (by rw[List.getElem?_map,HZ.out]; rfl);injection e1 with e11 e12 e13
 injection e11 with e11
 injection e11 with e14 e15
 subst e14 e15;clear e12 e13 hu;have HU:=Ac i1;obtain⟨Ar,cr,rfl,_,_⟩:=i1;rw[List.length_map] at y0 HU;simp only[Nat.add_zero] at y0;have hlm0:0 < g.nodes.length:=hpos;clear hb2 hB1 x0 x1 x2;dsimp only;go_wp2_with fail
 refine(uo w2 _ _ r0 HU.out hrl (fun x hx=>by have:=HRL.out.2 x hx; omega)).mono ?_;rintro e w3 ⟨u,rfl,hb3,t,rfl,ht⟩;have hB3:=hB2.trans (hb3.mono hB2.size);have HTT:=Ac (ht.keep (G:=Ext F w.heap.size) (fun b hb _=>Ext.mono (by omega) hb) (Same.refl _ _));clear ht hb3 hB2;dsimp only;go_wp2
 go_ret2;exact⟨_,rfl,hB3,_,rfl,HTT.out⟩
theorem aeg (w:World) (F:Ag) (vg vm:Value) (g:Gm) (m:List (List Raw)) (hg:AA w F vg g) (hsm:Small g) (hm:Ae w F vm m) (hlm:m.length≤100000) (hb:AO m) (h0:bF g m≠0) :
  Calls Tryz.prog 23 #[vg,vm] w (Ret w fun u _=>u = .tuple #[.slice none 0 0,.int .i64 (bF g m)]):=by
 have HG:=Ac hg; have HM:=Ac hm; have HS:=Ac hsm; have HBB:=Ac hb; have HE0:=Ac h0;have hn100:=hsm.nodes;obtain⟨vn,vi,rfl,⟨A,c,rfl,hc,_⟩,⟨Ai,ci,rfl,hci,_⟩⟩:=hg;clear hm hsm hb;obtain⟨fe,hfe⟩:∃ fe,fe=bF g m:=⟨_,rfl⟩;have HFE:=Ac hfe;rw[← hfe] at h0 ⊢;clear hfe;have t0:decide (fe=0)=false:=decide_eq_false h0;go_enter Tryz.func23,Tryz.ntmps23;go_wp2_with fail
 obtain⟨W,hW,rx,hB,hz⟩:=aB w 25 #[.int .i64 g.ak,.slice A g.nodes.length c,.slice Ai g.infos.length ci];rw[← hW];clear hW;have hz2:=hB.size;replace HG:=Ac (HG.out.on (Below.same' hB F)); replace HM:=Ac (Ae.below HM.out hB);have x0:=rx.cell (i:=0) rfl; have x1:=rx.cell (i:=1) rfl; have x2:=rx.cell (i:=2) rfl;clear rx;go_wp2_with fail
 refine(jo W F _ _ g m HG.out HS.out HM.out hlm HBB.out).mono ?_;rintro e w1 ⟨u,rfl,hb1,rfl⟩;rw[← HFE.out];replace x0:=ah x0 hb1; replace x1:=ah x1 hb1; replace x2:=ah x2 hb1;replace HG:=Ac (HG.out.on (Below.same' hb1 F)); replace HM:=Ac (Ae.below HM.out hb1);have hB1:=hB.trans (hb1.mono hB.size);have hz3:=hb1.size;clear hb1 hB;dsimp only;go_wp2
 go_ret2;exact⟨_,rfl,hB1,rfl⟩
theorem afS (w:World) (F:Ag) (vg vm:Value) (g:Gm) (m:List (List Rat)) (hg:AA w F vg g) (hsm:Small g) (hm:AP w F vm m) (hlm:m.length≤100000) (hb:AO (m.map (List.map au))) (h0:bF g (m.map (List.map au))=0) (hf:Fit g m) :
  Calls Tryz.prog 25 #[vg,vm] w (Ret w (BM F w.heap.size (zG g (kM dB g m)) (xH g (kM dB g m)))):=by
 have HG:=Ac hg; have HM:=Ac hm; have HS:=Ac hsm; have HBB:=Ac hb; have HE0:=Ac h0; have HFT:=Ac hf;have hn100:=hsm.nodes;obtain⟨vn,vi,rfl,⟨A,c,rfl,hc,hN⟩,⟨Ai,ci,rfl,hci,_⟩⟩:=hg;have hpos:0 < g.nodes.length:=hf.good.pos;obtain⟨b,q,rfl,hFb,hbl,hcell⟩:=hN hpos;have HC:=Ac hcell;clear hm hsm hb hf h0 hN hcell;have HRL:=Ac (mG (cnt:=dB) HFT.out iW);obtain⟨rs,hrs⟩:∃ rs,rs=kM dB g m:=⟨_,rfl⟩;have HRS:=Ac hrs;rw[← hrs] at HRL ⊢;have hvl:g.nodes.length≤rs.length:=by rw[hrs]; simp
 have aiI:rs.length≤g.nodes.length:=by rw[hrs]; simp
 clear hrs;go_enter Tryz.func25,Tryz.ntmps25;go_wp2_with fail
 obtain⟨W,hW,rx,hB,hz⟩:=aB w 25 #[.int .i64 g.ak,.slice (some ⟨b,q,none⟩) g.nodes.length c,.slice Ai g.infos.length ci];rw[← hW];clear hW;have hz2:=hB.size;replace HG:=Ac (HG.out.on (Below.same' hB F)); replace HM:=Ac (Ae.below HM.out hB);have x0:=rx.cell (i:=0) rfl; have x1:=rx.cell (i:=1) rfl; have x2:=rx.cell (i:=2) rfl;clear rx;go_wp2_with fail
 refine(jo W F _ _ g (m.map (List.map au)) HG.out HS.out HM.out (by rw[List.length_map]; exact hlm) HBB.out).mono ?_;rintro e w1 ⟨u,rfl,hb1,rfl⟩;rw[HE0.out];replace x0:=ah x0 hb1; replace x1:=ah x1 hb1; replace x2:=ah x2 hb1;replace HG:=Ac (HG.out.on (Below.same' hb1 F)); replace HM:=Ac (Ae.below HM.out hb1);have hB1:=hB.trans (hb1.mono hB.size);have hz3:=hb1.size;clear hb1 hB;dsimp only;go_wp2_with fail
 refine(xu w1 F _ _ g m 0 0 dB HG.out HM.out HFT.out hn100 hlm (cnt0 0) iW).mono ?_;rintro e w2 ⟨u,rfl,hb2,⟨b2,rfl⟩,hu⟩;rw[show(List.range g.nodes.length).map (dA dB g.nodes m)=rs from HRS.out.symm] at hu;replace x1:=ah x1 hb2;have hB2:=hB1.trans (hb2.mono hB1.size);have hz4:=hb2.size;have HU:=Ac (Aj.keep (G:=fun b=>Ext F w1.heap.size b∧b < w2.heap.size) hu (fun b hb hl=>⟨hb,hl⟩) (Same.refl _ _));clear hu hb2 hB1 x0 x2;dsimp only;go_wp2_with fail
 go_loopw [8,9] (fun acc i wr=>∃ (k:Nat) (L:List (Int×RV)),k≤g.nodes.length∧i = .int .i64 (k:Int)∧L.length≤k∧L.map (fun q=>(q.1,q.2.r))=afN (fM g rs k)∧(fM g rs k).any (fun x=>decide (1024 < rl x.2))=false∧AY pG wr w2.heap.size 56 (fun b=>Ext F w1.heap.size b∧b < w2.heap.size) acc L∧Below w2.heap.size w2 wr) (fun _ i _=>g.nodes.length - (intOf i).toNat)
 case atStart=>exact⟨0,[],by omega,rfl,Nat.le_refl _,rfl,rfl,AY.nil _ _ _ _ _,Below.refl _ _⟩
 case round =>
  obtain⟨k,L,hk,rfl,hLl,hLr,hany,hown,hbel⟩:=hrel;have HO:=Ac hown; have HL:=Ac hLr; have HA:=Ac hany;clear hown hLr hany;by_cases hlt:k < g.nodes.length
  ·obtain⟨r,hr⟩:=ay (l:=rs) (k:=k) (by omega);obtain⟨n,hni⟩:=ay hlt;obtain⟨bb,o,cc,vn3,vd3,e1,hF1,hlt1,r0,r1,r2,i1,i2⟩:=Aj.at (r:=au r) HU.out (by rw[List.getElem?_map,hr]; rfl);injection e1 with e11 e12 e13
   injection e11 with e11
   injection e11 with e14 e15
   subst e14 e15;clear e12 e13;rw[Nat.zero_add] at r0 r1 r2;have hfin:(⟨au r,vn3,vd3⟩:RV).fine wr (fun b=>Ext F w1.heap.size b∧b < w2.heap.size):=RV.fine.keep ⟨i1,i2⟩ (fun _ h _=>h) (Below.same' hbel _);obtain⟨An,cn,rfl,_,_⟩:=i1;obtain⟨Ad,cd,rfl,_,_⟩:=i2;have hne:=HC.out k n hni;have n0:=hne.c0;have hB3:=hB2.trans (hbel.mono hB2.size);replace n0:=ah n0 hB3;have y1:=ah x1 hbel;replace r0:=ah r0 hbel; replace r1:=ah r1 hbel; replace r2:=ah r2 hbel;have hR:=HRL.out r (List.mem_of_getElem? hr);have HK:=Ac hr; have HX:=Ac hni;have hz:=hbel.size;have HF3:=Ac hfin;clear hr hni hne hfin x1 hB3;by_cases hk3:n.kind=3
   case neg =>
    have t3:(n.kind != 3)=true:=by simpa using hk3
    have HKP:=Ac (lM (rs:=rs) (aeE HX.out hk3));clear hk3;go_wp2_with fail
    go_roundw
    case rel=>exact⟨k+1,L,by omega,by go_num,by omega,by rw[HKP.out]; exact HL.out,by rw[HKP.out]; exact HA.out,HO.out,hbel⟩
    case measure=>simp[intOf]; omega
   have t3:(n.kind != 3)=false:=by simp[hk3]
   have HK3:=Ac hk3;clear hk3;go_wp2_with fail
   refine(ae9 wr _ _ r (Az.make (r:=au r) rfl HF3.out.1 HF3.out.2)).mono ?_;rintro e w5 ⟨u,rfl,hb5,rfl⟩;replace HO:=Ac (HO.out.below hb5);replace HF3:=Ac (HF3.out.below hb5);replace r0:=ah r0 hb5; replace r1:=ah r1 hb5; replace r2:=ah r2 hb5;replace hbel:=hbel.trans (hb5.mono hbel.size);clear hb5 n0 y1 t3;by_cases hr0:r=0
   case pos =>
    have HKP:=Ac (lM (g:=g) (rs:=rs) (k:=k) (aaU (by rw[← hr0]; exact HK.out)));rw[decide_eq_true hr0];clear r0 r1 r2 HF3 hr0;dsimp only;go_wp2_with fail
    go_roundw
    case rel=>exact⟨k+1,L,by omega,by go_num,by omega,by rw[HKP.out]; exact HL.out,by rw[HKP.out]; exact HA.out,HO.out,hbel⟩
    case measure=>simp[intOf]; omega
   rw[decide_eq_false hr0];have HKB:=Ac (acZ HX.out HK.out HK3.out hr0);obtain⟨oe,hoe⟩:∃ oe,oe=eU r:=⟨_,rfl⟩;have hcs:oe=0∨oe=5:=by rw[hoe]; exact xW
   have HOE:=Ac hoe;clear hoe hr0;dsimp only;go_wp2_with fail
   refine(uU w5 _ _ r (Az.make (r:=au r) rfl HF3.out.1 HF3.out.2) (by omega)).mono ?_;rintro e w6 ⟨u,rfl,hb6,t,rfl,ht⟩;rw[← HOE.out];obtain⟨A6,c6,B6,d6,rfl,bV⟩:=ht.opened;replace HO:=Ac (HO.out.below hb6);replace HF3:=Ac (HF3.out.below hb6);replace r0:=ah r0 hb6; replace r1:=ah r1 hb6; replace r2:=ah r2 hb6;replace hbel:=hbel.trans (hb6.mono hbel.size);clear ht bV hb6;dsimp only;go_upto_region 11 with(fail)
   obtain⟨W7,hW7,rb,hb7,hz7⟩:=aB w6 53 #[.bool (bD r).neg,.slice A6 (bD r).num.length c6,.slice B6 (bD r).den.length d6];rw[← hW7];clear hW7 rb;replace HO:=Ac (HO.out.below hb7);replace HF3:=Ac (HF3.out.below hb7);replace r0:=ah r0 hb7; replace r1:=ah r1 hb7; replace r2:=ah r2 hb7;replace hbel:=hbel.trans (hb7.mono hbel.size);clear hb7;rcases hcs with rfl | rfl
   ·have hno:¬ 1024 < rl r:=fun h=>by have:=HOE.out; unfold eU at this; rw[if_pos h] at this; simp at this
    have HNO:=Ac hno;have HQ:=Ac (show pG.fine W7 (Apart (fun b=>Ext F w1.heap.size b∧b < w2.heap.size) u8) ((k:Int),⟨au r,.slice An (au r).num.length cn,.slice Ad (au r).den.length cd⟩) from RV.fine.keep HF3.out (fun b hb _=>⟨hb,fun e=>by have:=(HO.out.row.lt b e).1; have:=hb.2; omega⟩) (Same.refl _ _));clear hno;go_wp2_with (at_builtin; refine pF (K:=pG) (F:=fun b=>Ext F w1.heap.size b∧b < w2.heap.size) rfl _ _ 41 56 64 _ Tryz.underlying41 Tryz.infoLine rfl (by decide) rfl w2.heap.size (Nat.le_refl _) u8 L rfl ((k:Int),⟨au r,.slice An (au r).num.length cn,.slice Ad (au r).den.length cd⟩) _ rfl (by omega) rfl HO.out HQ.out hbel ?_; intro g' cap w' hown' aZ hlt' _; have HO':=Ac hown')
    go_roundw
    case rel =>
     refine⟨k+1,L ++ [((k:Int),⟨au r,.slice An (au r).num.length cn,.slice Ad (au r).den.length cd⟩)],by omega,by go_num,by rw[List.length_append]; simp; omega,?_,?_,HO'.out,aZ⟩
     ·rw[kY HK.out HKB.out,List.map_append,HL.out];unfold afN;rw[List.map_append,List.map_cons,List.map_nil,List.map_cons,List.map_nil]
     ·rw[kY HK.out HKB.out];exact ac0 HA.out HNO.out
    case measure=>simp[intOf]; omega
   ·have HEV:=Ac (acY hlt HK.out HKB.out HOE.out.symm);clear HOE r0 r1 r2;go_wp2
    go_ret2;refine⟨_,rfl,hB2.trans (hbel.mono (by omega)),_,by rw[HEV.out]; rfl,?_⟩;unfold xH;rw[HEV.out,if_pos (by decide)];exact AL.nil _ _
  ·have HEV:=Ac (aaT HA.out (by omega));go_wp2
   go_ret2;refine⟨_,rfl,hB2.trans (hbel.mono (by omega)),_,by rw[HEV.out]; rfl,?_⟩;unfold xH;rw[HEV.out,if_neg (by decide)];have h5:=HO.out.lines (G:=Ext F w.heap.size) (fun b hb=>Ext.mono (by omega) hb.1) (fun b hb=>.inr (by omega));rw[HL.out,show k=g.nodes.length by omega] at h5;exact h5
theorem aeh (w:World) (F:Ag) (vg vm:Value) (g:Gm) (m:List (List Raw)) (hg:AA w F vg g) (hsm:Small g) (hm:Ae w F vm m) (hlm:m.length≤100000) (hb:AO m) (h0:bF g m≠0) :
  Calls Tryz.prog 25 #[vg,vm] w (Ret w fun u _=>u = .tuple #[.slice none 0 0,.int .i64 (bF g m)]):=by
 have HG:=Ac hg; have HM:=Ac hm; have HS:=Ac hsm; have HBB:=Ac hb; have HE0:=Ac h0;have hn100:=hsm.nodes;obtain⟨vn,vi,rfl,⟨A,c,rfl,hc,hN⟩,⟨Ai,ci,rfl,hci,_⟩⟩:=hg;clear hm hsm hb hN;obtain⟨fe,hfe⟩:∃ fe,fe=bF g m:=⟨_,rfl⟩;have HFE:=Ac hfe;rw[← hfe] at h0 ⊢;clear hfe;have t0:decide (fe=0)=false:=decide_eq_false h0;go_enter Tryz.func25,Tryz.ntmps25;go_wp2_with fail
 obtain⟨W,hW,rx,hB,hz⟩:=aB w 25 #[.int .i64 g.ak,.slice A g.nodes.length c,.slice Ai g.infos.length ci];rw[← hW];clear hW;have hz2:=hB.size;replace HG:=Ac (HG.out.on (Below.same' hB F)); replace HM:=Ac (Ae.below HM.out hB);have x0:=rx.cell (i:=0) rfl; have x1:=rx.cell (i:=1) rfl; have x2:=rx.cell (i:=2) rfl;clear rx;go_wp2_with fail
 refine(jo W F _ _ g m HG.out HS.out HM.out hlm HBB.out).mono ?_;rintro e w1 ⟨u,rfl,hb1,rfl⟩;rw[← HFE.out];replace x0:=ah x0 hb1; replace x1:=ah x1 hb1; replace x2:=ah x2 hb1;replace HG:=Ac (HG.out.on (Below.same' hb1 F)); replace HM:=Ac (Ae.below HM.out hb1);have hB1:=hB.trans (hb1.mono hB.size);have hz3:=hb1.size;clear hb1 hB;dsimp only;go_wp2
 go_ret2;exact⟨_,rfl,hB1,rfl⟩
end Go.Proofs.YtkcheepafifjaaaGreatDoor
