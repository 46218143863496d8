/- parlourref17: Reaches. -/
import Derived.Test.YthmklhapjegfdaaGreatDoorP27
import Derived.Deep.Cut
set_option linter.all false
set_option maxRecDepth 100000
set_option maxHeartbeats 12800000
namespace Go.Proofs.YthmklhapjegfdaaGreatDoor
open Lib renaming hid → Ae
open Go.RowKit
section
variable {w:World} {F:Ah} {g:Gm} {m:List (List Rat)} {cnt:Nd→Bool} {bo i k:Nat} {L:List RV} {W W':World}
end
theorem ael (w:World) (F:Ah) (vg vm:Value) (g:Gm) (m:List (List Raw)) (hg:AP w F vg g) (hsm:Small g) (hm:Ag w F vm m) (hlm:m.length≤100000) (hb:BA m) :
  Calls Tryz.prog 29 #[vg,vm] w (Ret w fun v _=>v = .int .i64 (iF g m)):=by
 have HG:=Ae hg; have HM:=Ae hm; have HS:=Ae hsm;have hli:=hsm.infos;have hact:aY g=0→∀ i∈g.infos,i.actions≤10:=zK;obtain⟨vn,vi,rfl,⟨A,c,rfl,hc,_⟩,⟨Ai,ci,rfl,hci,_⟩⟩:=hg;clear hm hsm;go_in
 go_wp2_with fail
 obtain⟨W,hW,rx,hB,hz⟩:=aO w 25 #[.int .i64 g.aA,.slice A g.nodes.length c,.slice Ai g.infos.length ci];rw[← hW];clear hW hz;replace HG:=Ae (HG.out.on (Below.same' hB F)); replace HM:=Ae (Ag.below HM.out hB);have x0:=rx.cell (i:=0) rfl; have x1:=rx.cell (i:=1) rfl; have x2:=rx.cell (i:=2) rfl;clear rx;go_wp2_with fail
 refine(rW W F _ g HG.out HS.out).mono ?_;rintro e w1 ⟨_,rfl,hb1,rfl⟩;replace HG:=Ae (HG.out.on (Below.same' hb1 F)); replace HM:=Ae (Ag.below HM.out hb1);replace x0:=ah x0 hb1; replace x1:=ah x1 hb1; replace x2:=ah x2 hb1;have hB1:=hB.trans (hb1.mono hB.size);clear hb1;have HE:=Ae (show iF g m=if aY g≠0 then aY g else lS (g.infos.map Inf.actions) m from rfl);generalize aY g=fe at *;by_cases h0:fe=0
 ·have t1:(fe != 0)=false:=by rw[h0]; rfl
  have HF:=Ae (HE.out.trans (if_neg (by simpa using h0)));have ha:=hact h0;clear h0 hact;dsimp only;go_wp2_with fail
  refine(afM w1 F _ _ g m HG.out HM.out hlm byOmega hb ha).mono ?_;rintro e w2 ⟨_,rfl,hb2,rfl⟩;have hB2:=hB1.trans (hb2.mono hB1.size);rw[← HF.out];dsimp only;go_wp2
  go_ret;exact⟨_,rfl,hB2,rfl⟩
 ·have t1:(fe != 0)=true:=by simp[h0]
  have HF:=Ae (HE.out.trans (if_pos h0));clear h0 hact;dsimp only;go_wp2
  go_ret;exact⟨_,rfl,hB1,by rw[HF.out]; rfl⟩
end Go.Proofs.YthmklhapjegfdaaGreatDoor
