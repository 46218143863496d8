import Derived.Test.YtenaplhghbcjhaaGreatDoorQ21
import Derived.Test.YtenaplhghbcjhaaGreatDoorQ26
import Derived.Deep.Cut
set_option linter.all false
set_option maxRecDepth 100000
set_option maxHeartbeats 0
namespace Go.Proofs.YtenaplhghbcjhaaGreatDoor
open Below renaming same'->GL
open Go.RowKit
theorem adh (w:World) (F:Gq) (vg vm:Value) (g:Gm) (m:List (List Raw)) (hg:AB w F vg g) (hsm:Small g) (hm:Gt w F vm m) (hlm:m.length<=100000) (hb:Bv m) :
  Calls Tryz.prog 59 #[vg,vm] w (Ret w λv _=>v = .int .i64 (iw g m)):=by
 have HG:=Ag hg;have HM:=Ag hm;have HS:=Ag hsm;have hli:=hsm.F8;have hact:aQ g=0->∀ i∈g.F8,i.actions<=10:=dJ;obtain⟨vn,vi,rfl,⟨A,c,rfl,hc,_⟩,⟨Ai,ci,rfl,hci,_⟩⟩:=hg;clear hm hsm;go_in;go_wp2_with fail
 generalize hW:World.alloc _ _=W;obtain⟨rx,hB,hz⟩:=aI hW;clear hW hz;replace HG:=Ag (HG.o.on (GL hB F));replace HM:=Ag (Gt.below HM.o hB);refine Zd ?_;intro x0 x1 x2;clear rx;go_wp2_with fail
 refine(aa3 W F _ g HG.o HS.o).mono ?_;rintro e w1 ⟨_,rfl,hb1,rfl⟩;replace HG:=Ag (HG.o.on (GL hb1 F));replace HM:=Ag (Gt.below HM.o hb1);replace x0:=ah x0 hb1;replace x1:=ah x1 hb1;replace x2:=ah x2 hb1;have hB1:=hB.trans (hb1.mono hB.size);clear hb1;have HE:=Ag (show iw g m=if aQ g≠0 then aQ g else pF (g.F8.map Inf.actions) m from rfl);generalize aQ g=fe at *;by_cases h0:fe=0
 ·have t1:(fe != 0)=false:=by rw[h0];rfl
  have HF:=Ag (HE.o.trans (LG (by simpa using h0)));have ha:=hact h0;clear h0 hact;dsimp only;go_wp2_with fail
  refine(akq w1 F _ _ g m HG.o HM.o hlm FI hb ha).mono ?_;exact zcr
 ·exact zb3
