/- value.Own, Others. -/
import Derived.Test.YtkcheepafifjaaaGreatDoorU39
set_option linter.all false
set_option maxRecDepth 100000
set_option maxHeartbeats 12800000
namespace Go.Proofs.YtkcheepafifjaaaGreatDoor
open Lib renaming hid → Ac
open Go.RowKit
theorem ajz (w:World) (F:Ag) (vg vm:Value) (g:Gm) (m:List (List Rat)) (pl:Int) (hg:AA w F vg g) (hsm:Small g) (hm:AP w F vm m) (hT:AZ w) (hlm:m.length≤100000) (hb:AO (m.map (List.map au))) (h0:bF g (m.map (List.map au))=0) (hf:Fit g m) (hpl:0≤pl) (hpl2:pl < g.ak) :
  Calls Tryz.prog 13 #[vg,vm,.int .i64 pl] w (Ret w (BQ F w.heap.size (jR (kM (ownB pl) g m)) (fitsV (kM (ownB pl) g m)))):=by
 have HG:=Ac hg; have HM:=Ac hm; have HS:=Ac hsm; have HT:=Ac hT; have HBB:=Ac hb; have HE0:=Ac h0; have HFT:=Ac hf;have hn100:=hsm.nodes;have HRL:=Ac (mG (cnt:=ownB pl) hf (ai9 pl));obtain⟨vn,vi,rfl,⟨A,c,rfl,hc,_⟩,⟨Ai,ci,rfl,hci,_⟩⟩:=hg;clear hm hsm hT hb h0 hf;obtain⟨rs,hrs⟩:∃ rs,rs=kM (ownB pl) g m:=⟨_,rfl⟩;have HRS:=Ac hrs;rw[← hrs] at HRL ⊢;have hrl:rs.length≤100000:=by rw[hrs]; simp; omega
 clear hrs;go_enter Tryz.func13,Tryz.ntmps13;go_wp2_with fail
 obtain⟨W,hW,rx,rp,hB,hz⟩:=alloc2 w 25 #[.int .i64 g.ak,.slice A g.nodes.length c,.slice Ai g.infos.length ci] 3 #[.int .i64 pl];rw[← hW];clear hW;have hz2:=hB.size;replace HG:=Ac (HG.out.on (Below.same' hB F)); replace HM:=Ac (Ae.below HM.out hB); replace HT:=Ac (HT.out.on hB);have x0:=rx.cell (i:=0) rfl; have x1:=rx.cell (i:=1) rfl; have x2:=rx.cell (i:=2) rfl; have p0:=rp.cell (i:=0) rfl;clear rx rp;go_wp2_with fail
 refine(uZ W F _ _ g m HG.out HS.out HM.out HT.out hlm HBB.out HE0.out).mono ?_;rintro e w1 ⟨u,rfl,hb1,bp,up,place,vn',vi',vu',vp',rfl,hpl',zD⟩;replace x0:=ah x0 hb1;replace p0:=ah p0 hb1;have hB1:=hB.trans (hb1.mono hB.size);have hz3:=hb1.size;have HP:=Ac hpl'; have Df:=Ac zD;clear hpl' zD hb1 hB x1 x2;have t3:decide (pl < 0)=false:=decide_eq_false (by omega);have t4:decide (g.ak≤pl)=false:=decide_eq_false (by omega);dsimp only;go_wp2_with fail
 refine(aaP w1 (Ext F W.heap.size) bp g m up place vn' vi' vu' vp' _ 53 #[.pointer (some ⟨w.heap.size+1,0,none⟩)] (ownB pl) HP.out Df.out HFT.out ⟨enters' Tryz.func53 (by kernel_rfl) (by kernel_rfl),fun W' n v _ hv hb'=>ai8 W' _ v n (w.heap.size+1) pl (ah p0 hb') hv⟩ (ai9 pl) hn100 hlm).mono ?_;rintro e w2 ⟨u,rfl,hb2,⟨b2,rfl⟩,hu⟩;rw[show(List.range g.nodes.length).map (dA (ownB pl) g.nodes m)=rs from HRS.out.symm] at hu;have hB2:=hB1.trans (hb2.mono hB1.size);have hz4:=hb2.size;have HU:=Ac hu;clear hu hb2 hB1 x0 p0;dsimp only;go_wp2_with fail
 refine(y5 w2 _ _ rs HU.out hrl (fun x hx=>by have:=HRL.out x hx; omega)).mono ?_;rintro e w3 ⟨u,rfl,hb3,t,rfl,ht⟩;have hB3:=hB2.trans (hb3.mono hB2.size);have HTT:=Ac (ht.keep (G:=Ext F w.heap.size) (fun b hb _=>.inr (by omega)) (Same.refl _ _));clear ht hb3 hB2;dsimp only;go_wp2
 go_ret2;exact⟨_,rfl,hB3,_,rfl,HTT.out⟩
theorem ajp (w:World) (F:Ag) (vg vm:Value) (g:Gm) (m:List (List Rat)) (pl:Int) (hg:AA w F vg g) (hsm:Small g) (hm:AP w F vm m) (hT:AZ w) (hlm:m.length≤100000) (hb:AO (m.map (List.map au))) (h0:bF g (m.map (List.map au))=0) (hf:Fit g m) (hpl:0≤pl) (hpl2:pl < g.ak) :
  Calls Tryz.prog 15 #[vg,vm,.int .i64 pl] w (Ret w (BQ F w.heap.size (jR (kM (nY pl) g m)) (fitsV (kM (nY pl) g m)))):=by
 have HG:=Ac hg; have HM:=Ac hm; have HS:=Ac hsm; have HT:=Ac hT; have HBB:=Ac hb; have HE0:=Ac h0; have HFT:=Ac hf;have hn100:=hsm.nodes;have HRL:=Ac (mG (cnt:=nY pl) hf (aiF pl));obtain⟨vn,vi,rfl,⟨A,c,rfl,hc,_⟩,⟨Ai,ci,rfl,hci,_⟩⟩:=hg;clear hm hsm hT hb h0 hf;obtain⟨rs,hrs⟩:∃ rs,rs=kM (nY pl) g m:=⟨_,rfl⟩;have HRS:=Ac hrs;rw[← hrs] at HRL ⊢;have hrl:rs.length≤100000:=by rw[hrs]; simp; omega
 clear hrs;go_enter Tryz.func15,Tryz.ntmps15;go_wp2_with fail
 obtain⟨W,hW,rx,rp,hB,hz⟩:=alloc2 w 25 #[.int .i64 g.ak,.slice A g.nodes.length c,.slice Ai g.infos.length ci] 3 #[.int .i64 pl];rw[← hW];clear hW;have hz2:=hB.size;replace HG:=Ac (HG.out.on (Below.same' hB F)); replace HM:=Ac (Ae.below HM.out hB); replace HT:=Ac (HT.out.on hB);have x0:=rx.cell (i:=0) rfl; have x1:=rx.cell (i:=1) rfl; have x2:=rx.cell (i:=2) rfl; have p0:=rp.cell (i:=0) rfl;clear rx rp;go_wp2_with fail
 refine(uZ W F _ _ g m HG.out HS.out HM.out HT.out hlm HBB.out HE0.out).mono ?_;rintro e w1 ⟨u,rfl,hb1,bp,up,place,vn',vi',vu',vp',rfl,hpl',zD⟩;replace x0:=ah x0 hb1;replace p0:=ah p0 hb1;have hB1:=hB.trans (hb1.mono hB.size);have hz3:=hb1.size;have HP:=Ac hpl'; have Df:=Ac zD;clear hpl' zD hb1 hB x1 x2;have t3:decide (pl < 0)=false:=decide_eq_false (by omega);have t4:decide (g.ak≤pl)=false:=decide_eq_false (by omega);dsimp only;go_wp2_with fail
 refine(aaP w1 (Ext F W.heap.size) bp g m up place vn' vi' vu' vp' _ 55 #[.pointer (some ⟨w.heap.size+1,0,none⟩)] (nY pl) HP.out Df.out HFT.out ⟨enters' Tryz.func55 (by kernel_rfl) (by kernel_rfl),fun W' n v _ hv hb'=>aiu W' _ v n (w.heap.size+1) pl (ah p0 hb') hv⟩ (aiF pl) hn100 hlm).mono ?_;rintro e w2 ⟨u,rfl,hb2,⟨b2,rfl⟩,hu⟩;rw[show(List.range g.nodes.length).map (dA (nY pl) g.nodes m)=rs from HRS.out.symm] at hu;have hB2:=hB1.trans (hb2.mono hB1.size);have hz4:=hb2.size;have HU:=Ac hu;clear hu hb2 hB1 x0 p0;dsimp only;go_wp2_with fail
 refine(y5 w2 _ _ rs HU.out hrl (fun x hx=>by have:=HRL.out x hx; omega)).mono ?_;rintro e w3 ⟨u,rfl,hb3,t,rfl,ht⟩;have hB3:=hB2.trans (hb3.mono hB2.size);have HTT:=Ac (ht.keep (G:=Ext F w.heap.size) (fun b hb _=>.inr (by omega)) (Same.refl _ _));clear ht hb3 hB2;dsimp only;go_wp2
 go_ret2;exact⟨_,rfl,hB3,_,rfl,HTT.out⟩
theorem ajF (w:World) (F:Ag) (vg vm:Value) (g:Gm) (m:List (List Raw)) (pl:Int) (hg:AA w F vg g) (hsm:Small g) (hm:Ae w F vm m) (hT:AZ w) (hlm:m.length≤100000) (hb:AO m) (h0:bF g m≠0) :
  Calls Tryz.prog 13 #[vg,vm,.int .i64 pl] w (Ret w fun u _=>u = .tuple #[.slice none 0 0,.int .i64 (bF g m)]):=by
 have HM:=Ac hm; have HE0:=Ac h0;have HG:=Ac hg; have HS:=Ac hsm; have HT:=Ac hT; have HBB:=Ac hb;obtain⟨vn,vi,rfl,⟨A,c,rfl,hc,_⟩,⟨Ai,ci,rfl,hci,_⟩⟩:=hg;clear hm hsm hT hb;obtain⟨fe,hfe⟩:∃ fe,fe=bF g m:=⟨_,rfl⟩;have HFE:=Ac hfe;rw[← hfe] at h0 ⊢;clear hfe;have t0:decide (fe=0)=false:=decide_eq_false h0;go_enter Tryz.func13,Tryz.ntmps13;go_wp2_with fail
 obtain⟨W,hW,rx,rp,hB,hz⟩:=alloc2 w 25 #[.int .i64 g.ak,.slice A g.nodes.length c,.slice Ai g.infos.length ci] 3 #[.int .i64 pl];rw[← hW];clear hW;have hz2:=hB.size;replace HG:=Ac (HG.out.on (Below.same' hB F)); replace HM:=Ac (Ae.below HM.out hB); replace HT:=Ac (HT.out.on hB);have x0:=rx.cell (i:=0) rfl; have x1:=rx.cell (i:=1) rfl; have x2:=rx.cell (i:=2) rfl; have p0:=rp.cell (i:=0) rfl;clear rx rp;go_wp2_with fail
 refine(rO W F _ _ g m HG.out HS.out HM.out HT.out hlm HBB.out HE0.out).mono ?_;rintro e w1 ⟨u,rfl,hb1,rfl⟩;rw[← HFE.out];have hB1:=hB.trans (hb1.mono hB.size);clear hb1 hB;dsimp only;go_wp2
 go_ret2;exact⟨_,rfl,hB1,rfl⟩
theorem ajC (w:World) (F:Ag) (vg vm:Value) (g:Gm) (m:List (List Raw)) (pl:Int) (hg:AA w F vg g) (hsm:Small g) (hm:Ae w F vm m) (hT:AZ w) (hlm:m.length≤100000) (hb:AO m) (h0:bF g m≠0) :
  Calls Tryz.prog 15 #[vg,vm,.int .i64 pl] w (Ret w fun u _=>u = .tuple #[.slice none 0 0,.int .i64 (bF g m)]):=by
 have HM:=Ac hm; have HE0:=Ac h0;have HG:=Ac hg; have HS:=Ac hsm; have HT:=Ac hT; have HBB:=Ac hb;obtain⟨vn,vi,rfl,⟨A,c,rfl,hc,_⟩,⟨Ai,ci,rfl,hci,_⟩⟩:=hg;clear hm hsm hT hb;obtain⟨fe,hfe⟩:∃ fe,fe=bF g m:=⟨_,rfl⟩;have HFE:=Ac hfe;rw[← hfe] at h0 ⊢;clear hfe;have t0:decide (fe=0)=false:=decide_eq_false h0;go_enter Tryz.func15,Tryz.ntmps15;go_wp2_with fail
 obtain⟨W,hW,rx,rp,hB,hz⟩:=alloc2 w 25 #[.int .i64 g.ak,.slice A g.nodes.length c,.slice Ai g.infos.length ci] 3 #[.int .i64 pl];rw[← hW];clear hW;have hz2:=hB.size;replace HG:=Ac (HG.out.on (Below.same' hB F)); replace HM:=Ac (Ae.below HM.out hB); replace HT:=Ac (HT.out.on hB);have x0:=rx.cell (i:=0) rfl; have x1:=rx.cell (i:=1) rfl; have x2:=rx.cell (i:=2) rfl; have p0:=rp.cell (i:=0) rfl;clear rx rp;go_wp2_with fail
 refine(rO W F _ _ g m HG.out HS.out HM.out HT.out hlm HBB.out HE0.out).mono ?_;rintro e w1 ⟨u,rfl,hb1,rfl⟩;rw[← HFE.out];have hB1:=hB.trans (hb1.mono hB.size);clear hb1 hB;dsimp only;go_wp2
 go_ret2;exact⟨_,rfl,hB1,rfl⟩
theorem ajx (w:World) (F:Ag) (vg vm:Value) (g:Gm) (m:List (List Rat)) (pl:Int) (hg:AA w F vg g) (hsm:Small g) (hm:AP w F vm m) (hT:AZ w) (hlm:m.length≤100000) (hb:AO (m.map (List.map au))) (h0:bF g (m.map (List.map au))=0) (hpl:pl < 0∨g.ak≤pl) :
  Calls Tryz.prog 13 #[vg,vm,.int .i64 pl] w (Ret w fun u _=>u = .tuple #[.slice none 0 0,.int .i64 2]):=by
 have HM:=Ac hm; have HE0:=Ac h0;have HG:=Ac hg; have HS:=Ac hsm; have HT:=Ac hT; have HBB:=Ac hb;obtain⟨vn,vi,rfl,⟨A,c,rfl,hc,_⟩,⟨Ai,ci,rfl,hci,_⟩⟩:=hg;clear hm hsm hT hb;go_enter Tryz.func13,Tryz.ntmps13;go_wp2_with fail
 obtain⟨W,hW,rx,rp,hB,hz⟩:=alloc2 w 25 #[.int .i64 g.ak,.slice A g.nodes.length c,.slice Ai g.infos.length ci] 3 #[.int .i64 pl];rw[← hW];clear hW;have hz2:=hB.size;replace HG:=Ac (HG.out.on (Below.same' hB F)); replace HM:=Ac (Ae.below HM.out hB); replace HT:=Ac (HT.out.on hB);have x0:=rx.cell (i:=0) rfl; have x1:=rx.cell (i:=1) rfl; have x2:=rx.cell (i:=2) rfl; have p0:=rp.cell (i:=0) rfl;clear rx rp;go_wp2_with fail
 refine(uZ W F _ _ g m HG.out HS.out HM.out HT.out hlm HBB.out HE0.out).mono ?_;rintro e w1 ⟨u,rfl,hb1,bp,up,place,vn',vi',vu',vp',rfl,hpl',zD⟩;replace x0:=ah x0 hb1; replace p0:=ah p0 hb1;have hB1:=hB.trans (hb1.mono hB.size);clear hb1 hB;dsimp only;rcases hpl with h | h
 ·have t3:decide (pl < 0)=true:=decide_eq_true h;go_wp2; go_ret2
  exact⟨_,rfl,hB1,rfl⟩
 ·by_cases h3:pl < 0
  ·have t3:decide (pl < 0)=true:=decide_eq_true h3;go_wp2; go_ret2
   exact⟨_,rfl,hB1,rfl⟩
  ·have t3:decide (pl < 0)=false:=decide_eq_false h3;have t4:decide (g.ak≤pl)=true:=decide_eq_true h;go_wp2; go_ret2
   exact⟨_,rfl,hB1,rfl⟩
theorem ajD (w:World) (F:Ag) (vg vm:Value) (g:Gm) (m:List (List Rat)) (pl:Int) (hg:AA w F vg g) (hsm:Small g) (hm:AP w F vm m) (hT:AZ w) (hlm:m.length≤100000) (hb:AO (m.map (List.map au))) (h0:bF g (m.map (List.map au))=0) (hpl:pl < 0∨g.ak≤pl) :
  Calls Tryz.prog 15 #[vg,vm,.int .i64 pl] w (Ret w fun u _=>u = .tuple #[.slice none 0 0,.int .i64 2]):=by
 have HM:=Ac hm; have HE0:=Ac h0;have HG:=Ac hg; have HS:=Ac hsm; have HT:=Ac hT; have HBB:=Ac hb;obtain⟨vn,vi,rfl,⟨A,c,rfl,hc,_⟩,⟨Ai,ci,rfl,hci,_⟩⟩:=hg;clear hm hsm hT hb;go_enter Tryz.func15,Tryz.ntmps15;go_wp2_with fail
 obtain⟨W,hW,rx,rp,hB,hz⟩:=alloc2 w 25 #[.int .i64 g.ak,.slice A g.nodes.length c,.slice Ai g.infos.length ci] 3 #[.int .i64 pl];rw[← hW];clear hW;have hz2:=hB.size;replace HG:=Ac (HG.out.on (Below.same' hB F)); replace HM:=Ac (Ae.below HM.out hB); replace HT:=Ac (HT.out.on hB);have x0:=rx.cell (i:=0) rfl; have x1:=rx.cell (i:=1) rfl; have x2:=rx.cell (i:=2) rfl; have p0:=rp.cell (i:=0) rfl;clear rx rp;go_wp2_with fail
 refine(uZ W F _ _ g m HG.out HS.out HM.out HT.out hlm HBB.out HE0.out).mono ?_;rintro e w1 ⟨u,rfl,hb1,bp,up,place,vn',vi',vu',vp',rfl,hpl',zD⟩;replace x0:=ah x0 hb1; replace p0:=ah p0 hb1;have hB1:=hB.trans (hb1.mono hB.size);clear hb1 hB;dsimp only;rcases hpl with h | h
 ·have t3:decide (pl < 0)=true:=decide_eq_true h;go_wp2; go_ret2
  exact⟨_,rfl,hB1,rfl⟩
 ·by_cases h3:pl < 0
  ·have t3:decide (pl < 0)=true:=decide_eq_true h3;go_wp2; go_ret2
   exact⟨_,rfl,hB1,rfl⟩
  ·have t3:decide (pl < 0)=false:=decide_eq_false h3;have t4:decide (g.ak≤pl)=true:=decide_eq_true h;go_wp2; go_ret2
   exact⟨_,rfl,hB1,rfl⟩
end Go.Proofs.YtkcheepafifjaaaGreatDoor
