/- parlourref17.Reach. -/
import Derived.Test.YtkcheepafifjaaaGreatDoorU39
import Derived.Test.YtkcheepafifjaaaGreatDoorU35
set_option linter.all false
set_option maxRecDepth 100000
set_option maxHeartbeats 12800000
namespace Go.Proofs.YtkcheepafifjaaaGreatDoor
open Lib renaming hid → Ac
open Go.RowKit
theorem cnt0 (pl:Int):∀ n:Nd,n.kind≠3→dB n = !((((0:Int)==1) && !(ownB pl n))||(((0:Int)==2)&&ownB pl n)):=by
 intro n h; simp[dB,h]
theorem aiR (w:World) (F:Ag) (vg vm:Value) (g:Gm) (m:List (List Rat)) (hg:AA w F vg g) (hsm:Small g) (hm:AP w F vm m) (hlm:m.length≤100000) (hb:AO (m.map (List.map au))) (h0:bF g (m.map (List.map au))=0) (hf:Fit g m) :
  Calls Tryz.prog 12 #[vg,vm] w (Ret w (BQ F w.heap.size (jR (kM (dB) g m)) (fitsV (kM (dB) g m)))):=by
 have HG:=Ac hg; have HM:=Ac hm; have HS:=Ac hsm; have HBB:=Ac hb; have HE0:=Ac h0; have HFT:=Ac hf;have hn100:=hsm.nodes;obtain⟨vn,vi,rfl,⟨A,c,rfl,hc,_⟩,⟨Ai,ci,rfl,hci,_⟩⟩:=hg;clear hm hsm hb hf h0;have HRL:=Ac (mG (cnt:=dB) HFT.out iW);obtain⟨rs,hrs⟩:∃ rs,rs=kM (dB) g m:=⟨_,rfl⟩;have HRS:=Ac hrs;rw[← hrs] at HRL ⊢;have hrl:rs.length≤100000:=by rw[hrs]; simp; omega
 clear hrs;go_enter Tryz.func12,Tryz.ntmps12;go_wp2_with fail
 obtain⟨W,hW,rx,hB,hz⟩:=aB w 25 #[.int .i64 g.ak,.slice A g.nodes.length c,.slice Ai g.infos.length ci];rw[← hW];clear hW;have hz2:=hB.size;replace HG:=Ac (HG.out.on (Below.same' hB F)); replace HM:=Ac (Ae.below HM.out hB);have x0:=rx.cell (i:=0) rfl; have x1:=rx.cell (i:=1) rfl; have x2:=rx.cell (i:=2) rfl;clear rx;go_wp2_with fail
 refine(jo W F _ _ g (m.map (List.map au)) HG.out HS.out HM.out (by rw[List.length_map]; exact hlm) HBB.out).mono ?_;rintro e w1 ⟨u,rfl,hb1,rfl⟩;rw[HE0.out];replace x0:=ah x0 hb1; replace x1:=ah x1 hb1; replace x2:=ah x2 hb1;replace HG:=Ac (HG.out.on (Below.same' hb1 F)); replace HM:=Ac (Ae.below HM.out hb1);have hB1:=hB.trans (hb1.mono hB.size);have hz3:=hb1.size;clear hb1 hB;dsimp only;go_wp2_with fail
 refine(xu w1 F _ _ g m 0 0 dB HG.out HM.out HFT.out hn100 hlm (cnt0 0) iW).mono ?_;rintro e w2 ⟨u,rfl,hb2,⟨b2,rfl⟩,hu⟩;rw[show(List.range g.nodes.length).map (dA (dB) g.nodes m)=rs from HRS.out.symm] at hu;have hB2:=hB1.trans (hb2.mono hB1.size);have hz4:=hb2.size;have HU:=Ac hu;clear hu hb2 hB1 x0 x1 x2;dsimp only;go_wp2_with fail
 refine(uo w2 _ _ rs HU.out hrl (fun x hx=>by have:=HRL.out x hx; omega)).mono ?_;rintro e w3 ⟨u,rfl,hb3,t,rfl,ht⟩;have hB3:=hB2.trans (hb3.mono hB2.size);have HTT:=Ac (ht.keep (G:=Ext F w.heap.size) (fun b hb _=>Ext.mono (by omega) hb) (Same.refl _ _));clear ht hb3 hB2;dsimp only;go_wp2
 go_ret2;exact⟨_,rfl,hB3,_,rfl,HTT.out⟩
theorem aiH (w:World) (F:Ag) (vg vm:Value) (g:Gm) (m:List (List Raw)) (hg:AA w F vg g) (hsm:Small g) (hm:Ae w F vm m) (hlm:m.length≤100000) (hb:AO m) (h0:bF g m≠0) :
  Calls Tryz.prog 12 #[vg,vm] w (Ret w fun u _=>u = .tuple #[.slice none 0 0,.int .i64 (bF g m)]):=by
 have HG:=Ac hg; have HM:=Ac hm; have HS:=Ac hsm; have HBB:=Ac hb; have HE0:=Ac h0;have hn100:=hsm.nodes;obtain⟨vn,vi,rfl,⟨A,c,rfl,hc,_⟩,⟨Ai,ci,rfl,hci,_⟩⟩:=hg;clear hm hsm hb;obtain⟨fe,hfe⟩:∃ fe,fe=bF g m:=⟨_,rfl⟩;have HFE:=Ac hfe;rw[← hfe] at h0 ⊢;clear hfe;have t0:decide (fe=0)=false:=decide_eq_false h0;go_enter Tryz.func12,Tryz.ntmps12;go_wp2_with fail
 obtain⟨W,hW,rx,hB,hz⟩:=aB w 25 #[.int .i64 g.ak,.slice A g.nodes.length c,.slice Ai g.infos.length ci];rw[← hW];clear hW;have hz2:=hB.size;replace HG:=Ac (HG.out.on (Below.same' hB F)); replace HM:=Ac (Ae.below HM.out hB);have x0:=rx.cell (i:=0) rfl; have x1:=rx.cell (i:=1) rfl; have x2:=rx.cell (i:=2) rfl;clear rx;go_wp2_with fail
 refine(jo W F _ _ g m HG.out HS.out HM.out hlm HBB.out).mono ?_;rintro e w1 ⟨u,rfl,hb1,rfl⟩;rw[← HFE.out];replace x0:=ah x0 hb1; replace x1:=ah x1 hb1; replace x2:=ah x2 hb1;replace HG:=Ac (HG.out.on (Below.same' hb1 F)); replace HM:=Ac (Ae.below HM.out hb1);have hB1:=hB.trans (hb1.mono hB.size);have hz3:=hb1.size;clear hb1 hB;dsimp only;go_wp2
 go_ret2;exact⟨_,rfl,hB1,rfl⟩
end Go.Proofs.YtkcheepafifjaaaGreatDoor
