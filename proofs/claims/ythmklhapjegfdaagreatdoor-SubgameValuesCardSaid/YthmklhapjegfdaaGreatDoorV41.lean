/- parlourlaw26.closed, least, awake: the chapter's examples -/
import Derived.Test.YthmklhapjegfdaaGreatDoorV31
import Derived.Test.YthmklhapjegfdaaGreatDoorV35
set_option linter.all false
set_option maxRecDepth 100000
set_option maxHeartbeats 12800000
namespace Go.Proofs.YthmklhapjegfdaaGreatDoor
open Lib renaming hid → Ac
open Go.RowKit
theorem ex1:bF eU=0:=by decide +kernel
theorem ex2:jB eU = [0,2,4]:=by decide +kernel
theorem ex3:kX eU [2]=true:=by decide +kernel
theorem ex4:dD eU [2]=0:=by decide +kernel
theorem ex5:kX dL [1]=false:=by decide +kernel
theorem ex6:dD dL [1]=0:=by decide +kernel
theorem ex7:rF dL 1 = [1,4]:=by decide +kernel
theorem ex8:jA dL 1=0:=by decide +kernel
theorem gK:Small eU:=⟨aA,aA,aA,aA,aA⟩
theorem iY:Small dL:=⟨aA,aA,aA,aA,aA⟩
theorem mX (w:World) (F:Ag) (u vr:Value) (want:Bool) (g:Gm) (roots:List Int) (hg:AB w F u g) (hr:Ah w F vr roots) (hsm:Small g) (hl:roots.length≤1000) (hc:kX g roots=want) (ho:dD g roots=0) :
  Calls Tryz.prog 35 #[u,.bool want,vr] w (Ret w fun v _=>v = .bool true):=by
 have HG:=Ac hg;obtain⟨vn,vi,rfl,⟨A,c,rfl,hcc,hN⟩,⟨Ai,ci,rfl,hci,hI⟩⟩:=hg;clear hN hI;have HR:=Ac hr;clear hr;have HS:=Ac hsm;clear hsm;have HC:=Ac hc;have HO:=Ac ho;clear hc ho;go_in;go_wp2_with fail
 refine(ru _ F _ _ g roots (HG.out.on (Same.alloc _ _ _)) (HR.out.on (Same.alloc _ _ _)) HS.out hl fine).mono ?_;rintro e w1 ⟨_,rfl,hb1,rfl⟩;refine Ya ?_;intro hB;rw[HC.out,HO.out];dsimp only;cases want
 ·exact zc3
 ·exact zc3
theorem rM (w:World) (F:Ag) (u vr:Value) (node:Int) (g:Gm) (want:List Int) (hg:AB w F u g) (hr:Ah w F vr want) (hsm:Small g) (hl:want.length≤1000) (hc:rF g node=want) (ho:jA g node=0) :
  Calls Tryz.prog 36 #[u,.int .i64 node,vr] w (Ret w fun v _=>v = .bool true):=by
 have HG:=Ac hg;obtain⟨vn,vi,rfl,⟨A,c,rfl,hcc,hN⟩,⟨Ai,ci,rfl,hci,hI⟩⟩:=hg;clear hN hI;have HR:=Ac hr;clear hr;have HS:=Ac hsm;clear hsm;have HC:=Ac hc;have HO:=Ac ho;clear hc ho;go_in;go_wp2_with fail
 refine(aic _ F _ node g (HG.out.on (Same.alloc _ _ _)) HS.out fine).mono ?_;rintro e w1 ⟨_,rfl,hb1,v1,rfl,hv1⟩;refine Ya ?_;intro hB;rw[HC.out] at hv1;rw[HO.out];have HV:=Ac (hv1.keep (G:=fun _=>True) (fun _ _ _=>trivial) (Same.refl _ _));clear hv1;have HR1:=Ac (Ah.keep (G:=fun _=>True) (HR.out.on (Below.same' hB F)) (fun _ _ _=>trivial) (Same.refl _ _));dsimp only;go_wp2_with fail
 refine(bU _ (fun _=>True) _ _ want want HV.out HR1.out byOmega byOmega).mono ?_;rintro e w2 ⟨rfl,nn,rfl⟩;have hd:decide (want=want)=true:=ay;rw[hd];dsimp only;go_wp2
 go_ret;exact⟨_,rfl,aK hB _,rfl⟩
theorem aiz (w:World):Calls Tryz.prog 15 #[] w (Ret w fun v _=>v = .bool true):=by
 go_in;go_wp2_with fail
 refine(aar w).mono ?_;rintro e w1 ⟨vg,rfl,hb1,hg1⟩;have HG:=Ac hg1;obtain⟨vn,vi,rfl,⟨A,c,rfl,hcc,hN⟩,⟨Ai,ci,rfl,hci,hI⟩⟩:=hg1;clear hN hI;dsimp only;go_wp2_with fail
 obtain⟨W,hW,hbx,hWb,hWz⟩:=aT w1 25 #[.int .i64 eU.au,.slice A eU.nodes.length c,.slice Ai eU.infos.length ci];rw[← hW];clear hW hWz;refine(wI _ (fun b=>w.heap.size≤b) _ eU (HG.out.on (Below.same' hWb _)) gK).mono ?_;rintro e w2 ⟨_,rfl,hb2,vp,rfl,hvp⟩;rw[ex2] at hvp;rw[ex1];have hbx2:=hbx.below hb2 hbx.lt;have hB2:=hb1.trans ((hWb.trans (hb2.mono hWb.size)).mono hb1.size);have h12:=hWb.trans (hb2.mono hWb.size);have HVP:=Ac hvp;obtain⟨Ap,cp,rfl,hcp,hP⟩:=hvp;clear hP hbx hb2 hWb;refine zbG ?_;intro x0 x1 x2;have hlt2:=hbx2.lt;dsimp only;go_wp2_with fail
 have key:∀ (W0:World) (l:List Int),∃ W1,W1=W0.alloc (.cells (l.map (Value.int .i64)).toArray 3)∧Ah W1 (fun _=>True) (.slice (some ⟨W0.heap.size,0,none⟩) l.length l.length) l∧Below W0.heap.size W0 W1:=fun W0 l =>
  ⟨_,rfl,Row.ints (by simpa using Row.new W0 3 (l.map (Value.int .i64)).toArray) trivial (Nat.le_refl _),(Below.refl _ _).alloc (Nat.le_refl _) _⟩
 obtain⟨w3,hw3,hi3,hb3⟩:=key w2 [2];change w3=w2.alloc (.cells #[.int .i64 2] 3) at hw3;rw[← hw3];refine(mX _ (fun _=>True) _ _ true eU [2] ((HG.out.keep (G:=fun _=>True) (fun _ _ _=>trivial) (Below.same' (h12.trans (hb3.mono h12.size)) _))) hi3 gK ay ex3 ex4).mono ?_;rintro e w4 ⟨_,rfl,hb4,rfl⟩;have hB4:=hB2.trans ((hb3.trans (hb4.mono hb3.size)).mono hB2.size);have h24:=hb3.trans (hb4.mono hb3.size);clear hw3 x0 x1 x2;dsimp only;go_wp2_with fail
 refine(qP w4).mono ?_;rintro e w5 ⟨vg5,rfl,hb5,hg5⟩;dsimp only;go_wp2_with fail
 obtain⟨w6,hw6,hi6,hb6⟩:=key w5 [1];change w6=w5.alloc (.cells #[.int .i64 1] 3) at hw6;rw[← hw6];refine(mX _ (fun _=>True) _ _ false dL [1] (hg5.keep (G:=fun _=>True) (fun _ _ _=>trivial) (Below.same' hb6 _)) hi6 iY ay ex5 ex6).mono ?_;rintro e w7 ⟨_,rfl,hb7,rfl⟩;have h57:=hb6.trans (hb7.mono hb6.size);have h47:=hb5.trans (h57.mono hb5.size);clear hw6;dsimp only;go_wp2_with fail
 refine(qP w7).mono ?_;rintro e w8 ⟨vg8,rfl,hb8,hg8⟩;dsimp only;go_wp2_with fail
 obtain⟨w9,hw9,hi9,hb9⟩:=key w8 [1,4];change w9=w8.alloc (.cells #[.int .i64 1,.int .i64 4] 3) at hw9;rw[← hw9];refine(rM _ (fun _=>True) _ _ 1 dL [1,4] (hg8.keep (G:=fun _=>True) (fun _ _ _=>trivial) (Below.same' hb9 _)) hi9 iY ay ex7 ex8).mono ?_;rintro e w10 ⟨_,rfl,hb10,rfl⟩;have h810:=hb9.trans (hb10.mono hb9.size);have h710:=hb8.trans (h810.mono hb8.size);have h410:=h47.trans (h710.mono h47.size);have h210:=h24.trans (h410.mono h24.size);clear hw9;dsimp only;go_wp2_with fail
 obtain⟨w11,hw11,hi11,hb11⟩:=key w10 [0,2,4];change w11=w10.alloc (.cells #[.int .i64 0,.int .i64 2,.int .i64 4] 3) at hw11;rw[← hw11];refine(bU _ (fun _=>True) _ _ [0,2,4] [0,2,4] (HVP.out.keep (fun _ _ _=>trivial) (Below.same' (h210.trans (hb11.mono h210.size)) _)) hi11 ay ay).mono ?_;rintro e w12 ⟨rfl,nn,rfl⟩;have hB11:=hB4.trans ((h410.trans (hb11.mono h410.size)).mono hB4.size);clear hw11;have hd:decide (([0,2,4]:List Int) = [0,2,4])=true:=aA;rw[hd];dsimp only;go_wp2
 go_ret;exact⟨_,rfl,aK hB11 _,rfl⟩
end Go.Proofs.YthmklhapjegfdaaGreatDoor
