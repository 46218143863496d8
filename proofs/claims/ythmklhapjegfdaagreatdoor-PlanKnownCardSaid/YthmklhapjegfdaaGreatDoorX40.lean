/- parlourref16.Check; parlourref17: Reach, Own, Others. -/
import Derived.Test.YthmklhapjegfdaaGreatDoorX22
import Derived.Test.YthmklhapjegfdaaGreatDoorX28
import Derived.Deep.Cut
set_option linter.all false
set_option maxRecDepth 100000
set_option maxHeartbeats 12800000
namespace Go.Proofs.YthmklhapjegfdaaGreatDoor
open Lib renaming hid → Ag
open Go.RowKit
theorem afW (w:World) (F:Aj) (vg vm:Value) (g:Gm) (m:List (List Raw)) (hg:AU w F vg g) (hsm:Small g) (hm:Ah w F vm m) (hlm:m.length≤100000) (hb:Bf m) :
  Calls Tryz.prog 29 #[vg,vm] w (Ret w fun v _=>v = .int .i64 (dS g m)):=by
 have HG:=Ag hg;have HM:=Ag hm;have HS:=Ag hsm;have hli:=hsm.infos;have hact:bP g=0→∀ i∈g.infos,i.actions≤10:=oU;obtain⟨vn,vi,rfl,⟨A,c,rfl,hc,_⟩,⟨Ai,ci,rfl,hci,_⟩⟩:=hg;clear hm hsm;go_in;go_wp2_with fail
 refine Zz ?_;intro W hW rx hB hz;clear hW hz;refine zcV ?_;clear HG;intro HG;replace HM:=Ag (Ah.below HM.out hB);refine Ze ?_;intro x0 x1 x2;clear rx;go_wp2_with fail
 refine(agH W F _ g HG.out HS.out).mono ?_;rintro e w1 ⟨_,rfl,hb1,rfl⟩;replace HG:=Ag (HG.out.on (Below.same' hb1 F));replace HM:=Ag (Ah.below HM.out hb1);replace x0:=ah x0 hb1;replace x1:=ah x1 hb1;replace x2:=ah x2 hb1;have hB1:=hB.trans (hb1.mono hB.size);clear hb1;have HE:=Ag (show dS g m=if bP g≠0 then bP g else iV (g.infos.map Inf.actions) m from rfl);generalize bP g=fe at *;by_cases h0:fe=0
 ·have t1:(fe != 0)=false:=by rw[h0];rfl
  have HF:=Ag (HE.out.trans (if_neg (by simpa using h0)));have ha:=hact h0;clear h0 hact;dsimp only;go_wp2_with fail
  refine(ach w1 F _ _ g m HG.out HM.out hlm byOmega hb ha).mono ?_;exact zcb
 ·exact zbL
end Go.Proofs.YthmklhapjegfdaaGreatDoor
