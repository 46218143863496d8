/- parlourlaw26.closed, least, awake: the chapter's examples -/
import Derived.Test.YthmklhapjegfdaaGreatDoorL37
import Derived.Test.YthmklhapjegfdaaGreatDoorL25
set_option linter.all false
set_option maxRecDepth 100000
set_option maxHeartbeats 12800000
namespace Go.Proofs.YthmklhapjegfdaaGreatDoor
open Lib renaming hid → Aa
open Go.RowKit
theorem ex1:bg dG=0:=by decide +kernel
theorem ex2:rV dG = [0,2,4]:=by decide +kernel
theorem ex3:fE dG [2]=true:=by decide +kernel
theorem ex4:aZ dG [2]=0:=by decide +kernel
theorem ex5:fE bT [1]=false:=by decide +kernel
theorem ex6:aZ bT [1]=0:=by decide +kernel
theorem ex7:jd bT 1 = [1,4]:=by decide +kernel
theorem ex8:gG bT 1=0:=by decide +kernel
theorem eF:Small dG:=⟨by decide,by decide,by decide,by decide,by decide⟩
theorem iE:Small bT:=⟨by decide,by decide,by decide,by decide,by decide⟩
theorem iF (w:World) (F:Ac) (u vr:Value) (want:Bool) (g:Gm) (roots:List Int) (hg:Az w F u g) (hr:Ae w F vr roots) (hsm:Small g) (hl:roots.length≤1000) (hc:fE g roots=want) (ho:aZ g roots=0) :
  Calls Tryz.prog 35 #[u,.bool want,vr] w (Ret w fun v _=>v = .bool true):=by
 have HG:=Aa hg;obtain⟨vn,vi,rfl,⟨A,c,rfl,hcc,hN⟩,⟨Ai,ci,rfl,hci,hI⟩⟩:=hg;clear hN hI;have HR:=Aa hr; clear hr;have HS:=Aa hsm; clear hsm;have HC:=Aa hc; have HO:=Aa ho; clear hc ho;go_enter Tryz.func35,Tryz.ntmps35;go_wp2_with fail
 refine(nO _ F _ _ g roots (HG.out.on (Same.alloc _ _ _)) (HR.out.on (Same.alloc _ _ _)) HS.out hl fine).mono ?_;rintro e w1 ⟨_,rfl,hb1,rfl⟩;have hB:Below w.heap.size w w1:=((Below.refl w.heap.size w).alloc (Nat.le_refl _) _).trans (hb1.mono (by simp));rw[HC.out,HO.out];dsimp only;cases want
 ·go_wp2
  go_ret;exact⟨_,rfl,hB,rfl⟩
 ·go_wp2
  go_ret;exact⟨_,rfl,hB,rfl⟩
theorem qK (w:World) (F:Ac) (u vr:Value) (node:Int) (g:Gm) (want:List Int) (hg:Az w F u g) (hr:Ae w F vr want) (hsm:Small g) (hl:want.length≤1000) (hc:jd g node=want) (ho:gG g node=0) :
  Calls Tryz.prog 36 #[u,.int .i64 node,vr] w (Ret w fun v _=>v = .bool true):=by
 have HG:=Aa hg;obtain⟨vn,vi,rfl,⟨A,c,rfl,hcc,hN⟩,⟨Ai,ci,rfl,hci,hI⟩⟩:=hg;clear hN hI;have HR:=Aa hr; clear hr;have HS:=Aa hsm; clear hsm;have HC:=Aa hc; have HO:=Aa ho; clear hc ho;go_enter Tryz.func36,Tryz.ntmps36;go_wp2_with fail
 refine(sW _ F _ node g (HG.out.on (Same.alloc _ _ _)) HS.out fine).mono ?_;rintro e w1 ⟨_,rfl,hb1,v1,rfl,hv1⟩;have hB:Below w.heap.size w w1:=((Below.refl w.heap.size w).alloc (Nat.le_refl _) _).trans (hb1.mono (by simp));rw[HC.out] at hv1;rw[HO.out];have HV:=Aa (hv1.keep (G:=fun _=>True) (fun _ _ _=>trivial) (Same.refl _ _)); clear hv1;have HR1:=Aa (Ae.keep (G:=fun _=>True) (HR.out.on (Below.same' hB F)) (fun _ _ _=>trivial) (Same.refl _ _));dsimp only;go_wp2_with fail
 refine(aX _ (fun _=>True) _ _ want want HV.out HR1.out (by omega) (by omega)).mono ?_;rintro e w2 ⟨rfl,nn,rfl⟩;have hd:decide (want=want)=true:=by simp
 rw[hd];dsimp only;go_wp2
 go_ret;exact⟨_,rfl,aG hB _,rfl⟩
theorem ag8 (w:World):Calls Tryz.prog 15 #[] w (Ret w fun v _=>v = .bool true):=by
 go_enter Tryz.func15,Tryz.ntmps15;go_wp2_with fail
 refine(zM w).mono ?_;rintro e w1 ⟨vg,rfl,hb1,hg1⟩;have HG:=Aa hg1;obtain⟨vn,vi,rfl,⟨A,c,rfl,hcc,hN⟩,⟨Ai,ci,rfl,hci,hI⟩⟩:=hg1;clear hN hI;dsimp only;go_wp2_with fail
 obtain⟨W,hW,hbx,hWb,hWz⟩:=aH w1 25 #[.int .i64 dG.aj,.slice A dG.nodes.length c,.slice Ai dG.infos.length ci];rw[← hW];clear hW hWz;refine(aaN _ (fun b=>w.heap.size≤b) _ dG (HG.out.on (Below.same' hWb _)) eF).mono ?_;rintro e w2 ⟨_,rfl,hb2,vp,rfl,hvp⟩;rw[ex2] at hvp;rw[ex1];have hbx2:=hbx.below hb2 hbx.lt;have hB2:=hb1.trans ((hWb.trans (hb2.mono hWb.size)).mono hb1.size);have h12:=hWb.trans (hb2.mono hWb.size);have HVP:=Aa hvp;obtain⟨Ap,cp,rfl,hcp,hP⟩:=hvp;clear hP hbx hb2 hWb;have x0:=hbx2.cell (i:=0) rfl;have x1:=hbx2.cell (i:=1) rfl;have x2:=hbx2.cell (i:=2) rfl;have hlt2:=hbx2.lt;dsimp only;go_wp2_with fail
 have key:∀ (W0:World) (l:List Int),∃ W1,W1=W0.alloc (.cells (l.map (Value.int .i64)).toArray 3)∧Ae W1 (fun _=>True) (.slice (some ⟨W0.heap.size,0,none⟩) l.length l.length) l∧Below W0.heap.size W0 W1:=fun W0 l =>
  ⟨_,rfl,Row.ints (by simpa using Row.new W0 3 (l.map (Value.int .i64)).toArray) trivial (Nat.le_refl _),(Below.refl _ _).alloc (Nat.le_refl _) _⟩
 obtain⟨w3,hw3,hi3,hb3⟩:=key w2 [2];change w3=w2.alloc (.cells #[.int .i64 2] 3) at hw3;rw[← hw3];refine(iF _ (fun _=>True) _ _ true dG [2] ((HG.out.keep (G:=fun _=>True) (fun _ _ _=>trivial) (Below.same' (h12.trans (hb3.mono h12.size)) _))) hi3 eF (by simp) ex3 ex4).mono ?_;rintro e w4 ⟨_,rfl,hb4,rfl⟩;have hB4:=hB2.trans ((hb3.trans (hb4.mono hb3.size)).mono hB2.size);have h24:=hb3.trans (hb4.mono hb3.size);clear hw3 x0 x1 x2;dsimp only;go_wp2_with fail
 refine(pW w4).mono ?_;rintro e w5 ⟨vg5,rfl,hb5,hg5⟩;dsimp only;go_wp2_with fail
 obtain⟨w6,hw6,hi6,hb6⟩:=key w5 [1];change w6=w5.alloc (.cells #[.int .i64 1] 3) at hw6;rw[← hw6];refine(iF _ (fun _=>True) _ _ false bT [1] (hg5.keep (G:=fun _=>True) (fun _ _ _=>trivial) (Below.same' hb6 _)) hi6 iE (by simp) ex5 ex6).mono ?_;rintro e w7 ⟨_,rfl,hb7,rfl⟩;have h57:=hb6.trans (hb7.mono hb6.size);have h47:=hb5.trans (h57.mono hb5.size);clear hw6;dsimp only;go_wp2_with fail
 refine(pW w7).mono ?_;rintro e w8 ⟨vg8,rfl,hb8,hg8⟩;dsimp only;go_wp2_with fail
 obtain⟨w9,hw9,hi9,hb9⟩:=key w8 [1,4];change w9=w8.alloc (.cells #[.int .i64 1,.int .i64 4] 3) at hw9;rw[← hw9];refine(qK _ (fun _=>True) _ _ 1 bT [1,4] (hg8.keep (G:=fun _=>True) (fun _ _ _=>trivial) (Below.same' hb9 _)) hi9 iE (by simp) ex7 ex8).mono ?_;rintro e w10 ⟨_,rfl,hb10,rfl⟩;have h810:=hb9.trans (hb10.mono hb9.size);have h710:=hb8.trans (h810.mono hb8.size);have h410:=h47.trans (h710.mono h47.size);have h210:=h24.trans (h410.mono h24.size);clear hw9;dsimp only;go_wp2_with fail
 obtain⟨w11,hw11,hi11,hb11⟩:=key w10 [0,2,4];change w11=w10.alloc (.cells #[.int .i64 0,.int .i64 2,.int .i64 4] 3) at hw11;rw[← hw11];refine(aX _ (fun _=>True) _ _ [0,2,4] [0,2,4] (HVP.out.keep (fun _ _ _=>trivial) (Below.same' (h210.trans (hb11.mono h210.size)) _)) hi11 (by simp) (by simp)).mono ?_;rintro e w12 ⟨rfl,nn,rfl⟩;have hB11:=hB4.trans ((h410.trans (hb11.mono h410.size)).mono hB4.size);clear hw11;have hd:decide (([0,2,4]:List Int) = [0,2,4])=true:=by decide
 rw[hd];dsimp only;go_wp2
 go_ret;exact⟨_,rfl,aG hB11 _,rfl⟩
end Go.Proofs.YthmklhapjegfdaaGreatDoor
