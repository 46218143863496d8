/- Part of a claim. -/
import Derived.Test.YtnmeejofpkhlkaaGreatDoorE27
import Derived.Deep.Cut
set_option linter.all false
set_option maxRecDepth 100000
set_option maxHeartbeats 12800000
namespace Go.Proofs.YtnmeejofpkhlkaaGreatDoor
open Below renaming same'->FZ
open Lib renaming hid → Ac
open Go.RowKit
theorem ac4 (w:World) (F:FI) (vg vm:Value) (g:Gm) (m:List (List Raw)) (hg:AA w F vg g) (hsm:Small g) (hm:FM w F vm m) (hlm:m.length<=100000) (hb:AX m) :
  Calls Tryz.prog 40 #[vg,vm] w (Ret w λv _=>v = .int .i64 (fH g m)):=by
 have HG:=Ac hg;have HM:=Ac hm;have HS:=Ac hsm;have hli:=hsm.Fh;have hact:bF g=0->∀ i∈g.Fh,i.actions<=10:=mQ;obtain⟨vn,vi,rfl,⟨A,c,rfl,hc,_⟩,⟨Ai,ci,rfl,hci,_⟩⟩:=hg;clear hm hsm;go_in;go_wp2_with fail
 refine ZJ ?_;intro W hW rx hB hz;clear hW hz;replace HG:=Ac (HG.out.on (FZ hB F));replace HM:=Ac (FM.below HM.out hB);refine Zd ?_;intro x0 x1 x2;clear rx;go_wp2_with fail
 refine(adT W F _ g HG.out HS.out).mono ?_;rintro e w1 ⟨_,rfl,hb1,rfl⟩;replace HG:=Ac (HG.out.on (FZ hb1 F));replace HM:=Ac (FM.below HM.out hb1);replace x0:=ah x0 hb1;replace x1:=ah x1 hb1;replace x2:=ah x2 hb1;have hB1:=hB.trans (hb1.mono hB.size);clear hb1;have HE:=Ac (show fH g m=if bF g≠0 then bF g else kS (g.Fh.map Inf.actions) m from rfl);generalize bF g=fe at *;by_cases h0:fe=0
 ·have t1:(fe != 0)=false:=by rw[h0];rfl
  have HF:=Ac (HE.out.trans (L6 (by simpa using h0)));have ha:=hact h0;clear h0 hact;dsimp only;go_wp2_with fail
  refine(aef w1 F _ _ g m HG.out HM.out hlm EN hb ha).mono ?_;exact zb9
 ·exact zbN
end Go.Proofs.YtnmeejofpkhlkaaGreatDoor
