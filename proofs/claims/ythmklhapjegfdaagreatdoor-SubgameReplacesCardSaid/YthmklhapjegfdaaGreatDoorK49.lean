/- parlourlaw26.SubgameReplaces returns true. -/
import Derived.Test.YthmklhapjegfdaaGreatDoorK46
import Derived.Test.YthmklhapjegfdaaGreatDoorK48
import Derived.Test.YthmklhapjegfdaaGreatDoorK40
import Derived.Test.YthmklhapjegfdaaGreatDoorK45
set_option linter.all false
set_option maxRecDepth 100000
set_option maxHeartbeats 12800000
namespace Go.Proofs.YthmklhapjegfdaaGreatDoor
open Lib renaming hid → Ac
open Go.RowKit
theorem aac {m:List (List Raw)} (hr:∀ l∈m,l.length≤20) (h4:BI m) (i:Nat):BJ (m.getD i []):=by
 rw[List.getD_eq_getElem?_getD];cases h:m[i]? with
 | none=>exact agd
 | some l =>
  have hl:=List.mem_of_getElem? h;exact⟨by have:=hr l hl; simp only[Option.getD_some]; omega,fun r hr=>by have:=h4 l hl r hr; omega⟩
theorem aaD {g:Gm} {roots:List Int} {m o:List (List Raw)} (hm:m.length≤30) (h1:∀ l∈m,l.length≤20) (h2:BI m) (h3:∀ l∈o,l.length≤20) (h4:BI o):BM (kJ g roots m o):=by
 unfold kJ;split
 ·refine⟨by unfold uF; rw[List.length_map,List.length_range]; omega,fun r hr=>?_⟩;unfold uF at hr;obtain⟨i,_,rfl⟩:=List.mem_map.1 hr;unfold og;split
  ·exact aac h3 h4 i
  ·exact aac h1 h2 i
 ·exact⟨by simp,fun r hr=>by cases hr⟩
theorem aic (w:World) (F:Ag) (u vr vm vo:Value) (g:Gm) (roots:List Int) (m o:List (List Raw)) (hg:Az w F u g) (hr:Ak w F vr roots) (hm:Ae w F vm m) (ho:Ae w F vo o) (hUm:∀ l∈m,∀ r∈l,U32 r) (hUo:∀ l∈o,∀ r∈l,U32 r) (hT:BF w) :
  Calls Tryz.prog 3 #[u,vr,vm,vo] w (Ret w fun v _=>v = .bool true):=by
 have HG:=Ac hg; have HR:=Ac hr; have HM:=Ac hm; have HO:=Ac ho; have HT:=Ac hT; have HUM:=Ac hUm; have HUO:=Ac hUo;obtain⟨vn,vi,rfl,⟨A,c,rfl,hc,hN⟩,⟨Ai,ci,rfl,hci,hI⟩⟩:=hg;obtain⟨Ar,cr,rfl,hcr,hRr⟩:=hr;obtain⟨Am,cm,rfl,hcm,hMM⟩:=hm;obtain⟨Ao,co,rfl,hco,hOO⟩:=ho;clear hN hI hRr hMM hOO hT hUm hUo;go_enter Tryz.func3,Tryz.ntmps3;go_wp2_with fail
 obtain⟨W,hW,rx,hB,hz⟩:=aN w 25 #[.int .i64 g.aj,.slice A g.nodes.length c,.slice Ai g.infos.length ci];rw[← hW];clear hW hz;replace HG:=Ac (HG.out.on (Below.same' hB _));replace HR:=Ac (HR.out.on (Below.same' hB _));replace HM:=Ac (Ae.on HM.out (Below.same' hB _));replace HO:=Ac (Ae.on HO.out (Below.same' hB _));replace HT:=Ac (HT.out.on hB);refine(afj W F _ g HG.out 60 20 (by omega)).mono ?_;rintro e w1 ⟨_,rfl,hb,rfl⟩;replace HG:=Ac (HG.out.on (Below.same' hb _));replace HR:=Ac (HR.out.on (Below.same' hb _));replace HM:=Ac (Ae.on HM.out (Below.same' hb _));replace HO:=Ac (Ae.on HO.out (Below.same' hb _));replace HT:=Ac (HT.out.on hb);replace rx:=rx.below hb rx.lt;replace hB:=hB.trans (hb.mono hB.size);clear hb;have HSM:=Ac (fun h:kU g 60 20=false=>zY h (by omega) (by omega));generalize kU g 60 20=lg at *;dsimp only;cases lg
 case true =>
  clear rx;go_wp2_with fail
  refine(mJ _).mono ?_;rintro e wz ⟨_,rfl,hbz,rfl⟩;dsimp only;go_wp2
  go_ret;exact⟨_,rfl,hB.trans (hbz.mono hB.size),rfl⟩
 have hsm:=HSM.out rfl;have HS:=Ac hsm;have hn:=hsm.nodes; have hni:=hsm.infos;clear hsm HSM;by_cases hrl:30 < roots.length
 ·have hd:decide ((30:Int) < (roots.length:Int))=true:=decide_eq_true (by omega);clear rx;go_wp2_with fail
  refine(mJ _).mono ?_;rintro e wz ⟨_,rfl,hbz,rfl⟩;dsimp only;go_wp2
  go_ret;exact⟨_,rfl,hB.trans (hbz.mono hB.size),rfl⟩
 have hd:decide ((30:Int) < (roots.length:Int))=false:=decide_eq_false (by omega);go_wp2_with fail
 refine(ac0 w1 F _ m HM.out 30 20 4 (by decide) (by decide)).mono ?_;rintro e w2 ⟨rfl,rfl⟩;have HWM:=Ac (fun h:nV m 30 20 4=false=>tq h);generalize nV m 30 20 4=wm at *;dsimp only;cases wm
 case true =>
  clear rx;go_wp2_with fail
  refine(mJ _).mono ?_;rintro e wz ⟨_,rfl,hbz,rfl⟩;dsimp only;go_wp2
  go_ret;exact⟨_,rfl,hB.trans (hbz.mono hB.size),rfl⟩
 go_wp2_with fail
 refine(ac0 w2 F _ o HO.out 30 20 4 (by decide) (by decide)).mono ?_;rintro e w3 ⟨rfl,rfl⟩;have HWO:=Ac (fun h:nV o 30 20 4=false=>tq h);generalize nV o 30 20 4=wo at *;dsimp only;cases wo
 case true =>
  clear rx;go_wp2_with fail
  refine(mJ _).mono ?_;rintro e wz ⟨_,rfl,hbz,rfl⟩;dsimp only;go_wp2
  go_ret;exact⟨_,rfl,hB.trans (hbz.mono hB.size),rfl⟩
 have CG:=Ac (HWM.out (by first | rfl | trivial)); have CU:=Ac (HWO.out (by first | rfl | trivial));have x0:=rx.cell (i:=0) rfl; have x1:=rx.cell (i:=1) rfl; have x2:=rx.cell (i:=2) rfl;clear HWM HWO hd;go_wp2_with fail
 clear x0 x1 x2;refine(xH w3 F _ _ _ _ g roots m o HG.out HR.out HM.out HO.out HT.out HS.out (by omega) ⟨by have:=CG.out.1; omega,fun l hl=>by have:=CG.out.2.1 l hl; omega⟩ ⟨by have:=CU.out.1; omega,fun l hl=>by have:=CU.out.2.1 l hl; omega⟩ (yj CG.out.2.1 CG.out.2.2 HUM.out) (yj CU.out.2.1 CU.out.2.2 HUO.out) CG.out.2.2 CU.out.2.2).mono ?_;rintro e w4 ⟨_,rfl,hb,v1,rfl,h1⟩;replace HG:=Ac (HG.out.on (Below.same' hb _));replace HR:=Ac (HR.out.on (Below.same' hb _));replace HM:=Ac (Ae.on HM.out (Below.same' hb _));replace HO:=Ac (Ae.on HO.out (Below.same' hb _));replace HT:=Ac (HT.out.on hb);replace rx:=rx.below hb rx.lt;replace hB:=hB.trans (hb.mono hB.size);clear hb;have H1:=Ac (Ae.keep (G:=fun _=>True) h1 (fun _ _ _=>trivial) (Same.refl _ _));obtain⟨A1,c1,rfl,_,_⟩:=h1;have x0:=rx.cell (i:=0) rfl; have x1:=rx.cell (i:=1) rfl; have x2:=rx.cell (i:=2) rfl;dsimp only;go_wp2_with fail
 clear x0 x1 x2;refine(zZ w4 F _ _ _ _ g roots m o HG.out HR.out HM.out HO.out HS.out (by omega) ⟨by have:=CG.out.1; omega,fun l hl=>by have:=CG.out.2.1 l hl; omega⟩ ⟨by have:=CU.out.1; omega,fun l hl=>by have:=CU.out.2.1 l hl; omega⟩ (yj CG.out.2.1 CG.out.2.2 HUM.out) (yj CU.out.2.1 CU.out.2.2 HUO.out)).mono ?_;rintro e w5 ⟨_,rfl,hb,v2,rfl,h2⟩;replace HG:=Ac (HG.out.on (Below.same' hb _));replace HR:=Ac (HR.out.on (Below.same' hb _));replace HM:=Ac (Ae.on HM.out (Below.same' hb _));replace HO:=Ac (Ae.on HO.out (Below.same' hb _));replace HT:=Ac (HT.out.on hb);replace rx:=rx.below hb rx.lt;replace hB:=hB.trans (hb.mono hB.size);rw[← aez] at h2;rw[← adq];replace H1:=Ac (Ae.on H1.out (Below.same' hb _));clear hb;have H2:=Ac (Ae.keep (G:=fun _=>True) h2 (fun _ _ _=>trivial) (Same.refl _ _));obtain⟨A2,c2,rfl,_,_⟩:=h2;have HSH:=Ac (aaD (g:=g) (roots:=roots) CG.out.1 CG.out.2.1 CG.out.2.2 CU.out.2.1 CU.out.2.2);generalize kJ g roots m o=ro at *;generalize kN g roots m o=re at *;dsimp only;go_wp2_with fail
 refine(sQ w5 (fun _=>True) _ _ ro ro H1.out H2.out HSH.out HSH.out).mono ?_;rintro e w6 ⟨_,rfl,hb,rfl⟩;replace HG:=Ac (HG.out.on (Below.same' hb _));replace HR:=Ac (HR.out.on (Below.same' hb _));replace HM:=Ac (Ae.on HM.out (Below.same' hb _));replace HO:=Ac (Ae.on HO.out (Below.same' hb _));replace HT:=Ac (HT.out.on hb);replace rx:=rx.below hb rx.lt;replace hB:=hB.trans (hb.mono hB.size);clear hb;rw[decide_eq_true (rfl:ro=ro)];have hre:(re==re)=true:=by simp
 dsimp only;clear rx;go_wp2_with fail
 refine(mJ _).mono ?_;rintro e wz ⟨_,rfl,hbz,rfl⟩;dsimp only;go_wp2
 go_ret;exact⟨_,rfl,hB.trans (hbz.mono hB.size),rfl⟩
end Go.Proofs.YthmklhapjegfdaaGreatDoor
