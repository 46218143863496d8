/- parlourlaw17.ValueNodes is true. -/
import Derived.Test.YtkcheepafifjaaaGreatDoorU42
import Derived.Test.YtkcheepafifjaaaGreatDoorU45
import Derived.Test.YtkcheepafifjaaaGreatDoorU47
set_option linter.all false
set_option maxRecDepth 100000
set_option maxHeartbeats 12800000
namespace Go.Proofs.YtkcheepafifjaaaGreatDoor
open Lib renaming hid → Ac
open Go.RowKit
abbrev AU:Ag:=fun _=>True
theorem ac4 {B:World} {f:Nat} {args:Array Value} {F':Ag} {e:Int} (h:Calls Tryz.prog f args B (Ret B fun u _=>u = .tuple #[.slice none 0 0,.int .i64 e])):Calls Tryz.prog f args B (Ret B (Cb F' B.heap.size e [])):=by
 refine h.mono ?_;rintro e w' ⟨u,rfl,hb,rfl⟩;exact⟨_,rfl,hb,_,rfl,Ae.nil _ _⟩
theorem aaW {B:World} {f:Nat} {args:Array Value} {F':Ag} {e:Int} (h:Calls Tryz.prog f args B (Ret B fun u _=>u = .tuple #[.slice none 0 0,.int .i64 e])):Calls Tryz.prog f args B (Ret B (BM F' B.heap.size e [])):=by
 refine h.mono ?_;rintro e w' ⟨u,rfl,hb,rfl⟩;exact⟨_,rfl,hb,_,rfl,AL.nil _ _⟩
theorem sV:Bl []:=⟨by decide,fun r h=>by cases h⟩
theorem qX:BD []:=⟨by decide,fun r h=>by cases h⟩
theorem abG {l:List (List Rat)} (h:∀ r∈l,r.length≤1000∧∀ x∈r,rl x≤1024) (hl:l.length≤1000):Bl (qW l):=by
 unfold qW;split
 ·exact sV
 ·refine⟨by rw[List.length_map]; omega,fun r hr=>?_⟩;obtain⟨x,hx,rfl⟩:=List.mem_map.1 hr;exact oN (h x hx).2 (h x hx).1
theorem zL {g:Gm} {rs:List Rat} (h:∀ x∈rs,rl x≤1024):∀ k,(fM g rs k).length≤k∧∀ x∈fM g rs k,rl x.2≤1024
 | 0=>⟨Nat.le_refl _,fun x hx=>by cases hx⟩
 | k+1=>by
  obtain⟨h1,h2⟩:=zL h k;cases hk:qc g rs k with
  | false=>rw[lM hk]; exact⟨by omega,h2⟩
  | true =>
   cases hr:rs[k]? with
   | none=>unfold qc at hk; rw[hr] at hk; cases hg:g.nodes[k]? <;> rw[hg] at hk <;> cases hk
   | some r =>
    rw[kY hr hk];refine⟨by rw[List.length_append]; simp; omega,fun x hx=>?_⟩;rcases List.mem_append.1 hx with hx | hx
    ·exact h2 x hx
    ·rw[List.mem_singleton.1 hx]; exact h r (List.mem_of_getElem? hr)
theorem aah {g:Gm} {rs:List Rat} (h:∀ x∈rs,rl x≤1024) (hn:g.nodes.length≤1000):BD (xH g rs):=by
 unfold xH;split
 ·exact qX
 ·obtain⟨h1,h2⟩:=zL (g:=g) h g.nodes.length;refine⟨by unfold afN; rw[List.length_map]; omega,fun r hr=>?_⟩;obtain⟨x,hx,rfl⟩:=List.mem_map.1 hr;have:=h2 x hx;unfold rl at this;show(dig x.2.num.natAbs).length≤500000∧(dig x.2.den).length≤500000;omega
theorem abH {m:List (List Raw)} (hl:m.length≤100000) (hll:∀ l∈m,l.length≤20) (h4:CO m):Bl m :=
 ⟨by omega,fun l hl'=>⟨by have:=hll l hl'; omega,fun r hr=>by have:=h4 l hl' r hr; omega⟩⟩
theorem sW (w:World) (F:Ag) (vg vm:Value) (g:Gm) (m:List (List Raw)) (hg0:AA w F vg g) (hm0:Ae w F vm m) (hT:AZ w) (hsm:Small g) (hsr:Bl m) (E0 E1 E2:Int) (L0:List (List Raw)) (L1:List Raw) (L2:List (Int×Raw)) (hs0:Bl L0) (hs1:Bj L1) (hs2:BD L2) (hlg:(jD g 60 20||mZ m 30 20 4)=false)
  (C0:∀ (w':World) (vg vm:Value),AA w' AU vg g→Ae w' AU vm m→AZ w'→Calls Tryz.prog 20 #[vg,vm] w' (Ret w' (Cb AU w'.heap.size E0 L0)))
  (C1:∀ (w':World) (vg vm:Value),AA w' AU vg g→Ae w' AU vm m→AZ w'→Calls Tryz.prog 21 #[vg,vm] w' (Ret w' (Cb AU w'.heap.size E0 L0)))
  (C2:∀ (w':World) (vg vm:Value),AA w' AU vg g→Ae w' AU vm m→AZ w'→Calls Tryz.prog 22 #[vg,vm] w' (Ret w' (BQ AU w'.heap.size E1 L1)))
  (C3:∀ (w':World) (vg vm:Value),AA w' AU vg g→Ae w' AU vm m→AZ w'→Calls Tryz.prog 23 #[vg,vm] w' (Ret w' (BQ AU w'.heap.size E1 L1)))
  (C4:∀ (w':World) (vg vm:Value),AA w' AU vg g→Ae w' AU vm m→AZ w'→Calls Tryz.prog 24 #[vg,vm] w' (Ret w' (BM AU w'.heap.size E2 L2)))
  (C5:∀ (w':World) (vg vm:Value),AA w' AU vg g→Ae w' AU vm m→AZ w'→Calls Tryz.prog 25 #[vg,vm] w' (Ret w' (BM AU w'.heap.size E2 L2))) :
  Calls Tryz.prog 4 #[vg,vm] w (Ret w fun v _=>v = .bool true):=by
 have hg:=hg0.keep (G:=AU) (fun _ _ _=>trivial) (Same.refl _ _);have hm:=Ae.keep (G:=AU) hm0 (fun _ _ _=>trivial) (Same.refl _ _);clear hg0 hm0;have HG:=Ac hg; have HM:=Ac hm; have HT:=Ac hT; have HS0:=Ac hs0; have HS1:=Ac hs1; have HS2:=Ac hs2; have HLG:=Ac hlg; have HSM:=Ac hsm; have HSR:=Ac hsr;obtain⟨vn,vi,rfl,⟨A,c,rfl,hc,_⟩,⟨Ai,ci,rfl,hci,_⟩⟩:=hg;obtain⟨Am,cm,rfl,hcm,_⟩:=hm;clear hT hs0 hs1 hs2 hlg hsm hsr;have D0:=Ac C0; have D1:=Ac C1; have D2:=Ac C2; have D3:=Ac C3; have D4:=Ac C4; have D5:=Ac C5;clear C0 C1 C2 C3 C4 C5;go_enter Tryz.func4,Tryz.ntmps4;go_wp2_with fail
 obtain⟨W,hW,rx,hB,hz⟩:=aB w 25 #[.int .i64 g.ak,.slice A g.nodes.length c,.slice Ai g.infos.length ci];rw[← hW];clear hW;replace HG:=Ac (HG.out.on (Below.same' hB _)); replace HM:=Ac (Ae.on HM.out (Below.same' hB _)); replace HT:=Ac (HT.out.on hB);have x0:=rx.cell (i:=0) rfl; have x1:=rx.cell (i:=1) rfl; have x2:=rx.cell (i:=2) rfl;clear rx;refine(xG W AU _ _ g m HG.out HM.out).mono ?_;rintro e wl ⟨u,rfl,hb,rfl⟩;rw[HLG.out];replace HG:=Ac (HG.out.on (Below.same' hb _));replace HM:=Ac (Ae.on HM.out (Below.same' hb _));replace HT:=Ac (HT.out.on hb);replace x0:=ah x0 hb;replace x1:=ah x1 hb;replace x2:=ah x2 hb;replace hB:=hB.trans (hb.mono hB.size);clear hb;dsimp only;go_wp2_with fail
 refine(ac2 wl AU _ g HG.out HSM.out).mono ?_;rintro e wg ⟨u,rfl,hb,hu⟩;replace HG:=Ac (HG.out.on (Below.same' hb _));replace HM:=Ac (Ae.on HM.out (Below.same' hb _));replace HT:=Ac (HT.out.on hb);replace x0:=ah x0 hb;replace x1:=ah x1 hb;replace x2:=ah x2 hb;replace hB:=hB.trans (hb.mono hB.size);have HH:=Ac (hu.keep (G:=AU) (fun _ _ _=>trivial) (Same.refl _ _));obtain⟨vn',vi',rfl,⟨A',c',rfl,_,_⟩,⟨Ai',ci',rfl,_,_⟩⟩:=hu;clear hb;dsimp only;go_wp2_with fail
 refine(abD wg AU _ m HM.out HSR.out).mono ?_;rintro e wo ⟨u,rfl,hb,hu⟩;replace HG:=Ac (HG.out.on (Below.same' hb _));replace HH:=Ac (HH.out.on (Below.same' hb _));replace HM:=Ac (Ae.on HM.out (Below.same' hb _));replace HT:=Ac (HT.out.on hb);replace x0:=ah x0 hb;replace x1:=ah x1 hb;replace x2:=ah x2 hb;replace hB:=hB.trans (hb.mono hB.size);have HN:=Ac (Ae.keep (G:=AU) hu (fun _ _ _=>trivial) (Same.refl _ _));obtain⟨An,cn,rfl,_,_⟩:=hu;clear hb;dsimp only;go_upto_region 4 with(fail)
 obtain⟨Wh,hWh,rh,hb,hzh⟩:=aB wo 25 #[.int .i64 g.ak,.slice A' g.nodes.length c',.slice Ai' g.infos.length ci'];rw[← hWh];clear hWh;replace HG:=Ac (HG.out.on (Below.same' hb _));replace HH:=Ac (HH.out.on (Below.same' hb _));replace HM:=Ac (Ae.on HM.out (Below.same' hb _));replace HN:=Ac (Ae.on HN.out (Below.same' hb _));replace HT:=Ac (HT.out.on hb);replace x0:=ah x0 hb;replace x1:=ah x1 hb;replace x2:=ah x2 hb;replace hB:=hB.trans (hb.mono hB.size);have z0:=rh.cell (i:=0) rfl; have z1:=rh.cell (i:=1) rfl; have z2:=rh.cell (i:=2) rfl;clear rh;clear hb;try dsimp only
 go_wp2_with fail
 refine(D0.out Wh _ _ HH.out HN.out HT.out).mono ?_;rintro e w0 ⟨u,rfl,hb,t0,rfl,hu⟩;replace HG:=Ac (HG.out.on (Below.same' hb _));replace HH:=Ac (HH.out.on (Below.same' hb _));replace HM:=Ac (Ae.on HM.out (Below.same' hb _));replace HN:=Ac (Ae.on HN.out (Below.same' hb _));replace HT:=Ac (HT.out.on hb);replace x0:=ah x0 hb;replace x1:=ah x1 hb;replace x2:=ah x2 hb;replace z0:=ah z0 hb;replace z1:=ah z1 hb;replace z2:=ah z2 hb;replace hB:=hB.trans (hb.mono hB.size);have R0:=Ac (Ae.keep (G:=AU) hu (fun _ _ _=>trivial) (Same.refl _ _));obtain⟨A0,c0,rfl,_,_⟩:=hu;clear hb;dsimp only;go_wp2_with fail
 refine(D1.out w0 _ _ HG.out HM.out HT.out).mono ?_;rintro e w1 ⟨u,rfl,hb,t1,rfl,hu⟩;replace HG:=Ac (HG.out.on (Below.same' hb _));replace HH:=Ac (HH.out.on (Below.same' hb _));replace HM:=Ac (Ae.on HM.out (Below.same' hb _));replace HN:=Ac (Ae.on HN.out (Below.same' hb _));replace HT:=Ac (HT.out.on hb);replace x0:=ah x0 hb;replace x1:=ah x1 hb;replace x2:=ah x2 hb;replace z0:=ah z0 hb;replace z1:=ah z1 hb;replace z2:=ah z2 hb;replace R0:=Ac (Ae.on R0.out (Below.same' hb _));replace hB:=hB.trans (hb.mono hB.size);have R1:=Ac (Ae.keep (G:=AU) hu (fun _ _ _=>trivial) (Same.refl _ _));obtain⟨A1,c1,rfl,_,_⟩:=hu;clear hb;dsimp only;go_wp2_with fail
 refine(D2.out w1 _ _ HH.out HN.out HT.out).mono ?_;rintro e w2 ⟨u,rfl,hb,t2,rfl,hu⟩;replace HG:=Ac (HG.out.on (Below.same' hb _));replace HH:=Ac (HH.out.on (Below.same' hb _));replace HM:=Ac (Ae.on HM.out (Below.same' hb _));replace HN:=Ac (Ae.on HN.out (Below.same' hb _));replace HT:=Ac (HT.out.on hb);replace x0:=ah x0 hb;replace x1:=ah x1 hb;replace x2:=ah x2 hb;replace z0:=ah z0 hb;replace z1:=ah z1 hb;replace z2:=ah z2 hb;replace R0:=Ac (Ae.on R0.out (Below.same' hb _));replace R1:=Ac (Ae.on R1.out (Below.same' hb _));replace hB:=hB.trans (hb.mono hB.size);have R2:=Ac (Aj.keep (G:=AU) hu (fun _ _ _=>trivial) (Same.refl _ _));obtain⟨A2,c2,rfl,_,_⟩:=hu;clear hb;dsimp only;go_wp2_with fail
 refine(D3.out w2 _ _ HG.out HM.out HT.out).mono ?_;rintro e w3 ⟨u,rfl,hb,t3,rfl,hu⟩;replace HG:=Ac (HG.out.on (Below.same' hb _));replace HH:=Ac (HH.out.on (Below.same' hb _));replace HM:=Ac (Ae.on HM.out (Below.same' hb _));replace HN:=Ac (Ae.on HN.out (Below.same' hb _));replace HT:=Ac (HT.out.on hb);replace x0:=ah x0 hb;replace x1:=ah x1 hb;replace x2:=ah x2 hb;replace z0:=ah z0 hb;replace z1:=ah z1 hb;replace z2:=ah z2 hb;replace R0:=Ac (Ae.on R0.out (Below.same' hb _));replace R1:=Ac (Ae.on R1.out (Below.same' hb _));replace R2:=Ac (Aj.on R2.out (Below.same' hb _));replace hB:=hB.trans (hb.mono hB.size);have R3:=Ac (Aj.keep (G:=AU) hu (fun _ _ _=>trivial) (Same.refl _ _));obtain⟨A3,c3,rfl,_,_⟩:=hu;clear hb;dsimp only;go_wp2_with fail
 refine(D4.out w3 _ _ HH.out HN.out HT.out).mono ?_;rintro e w4 ⟨u,rfl,hb,t4,rfl,hu⟩;replace HG:=Ac (HG.out.on (Below.same' hb _));replace HH:=Ac (HH.out.on (Below.same' hb _));replace HM:=Ac (Ae.on HM.out (Below.same' hb _));replace HN:=Ac (Ae.on HN.out (Below.same' hb _));replace HT:=Ac (HT.out.on hb);replace x0:=ah x0 hb;replace x1:=ah x1 hb;replace x2:=ah x2 hb;replace z0:=ah z0 hb;replace z1:=ah z1 hb;replace z2:=ah z2 hb;replace R0:=Ac (Ae.on R0.out (Below.same' hb _));replace R1:=Ac (Ae.on R1.out (Below.same' hb _));replace R2:=Ac (Aj.on R2.out (Below.same' hb _));replace R3:=Ac (Aj.on R3.out (Below.same' hb _));replace hB:=hB.trans (hb.mono hB.size);have R4:=Ac (AL.keep (G:=AU) hu (fun _ _ _=>trivial) (Same.refl _ _));obtain⟨A4,c4,rfl,_,_⟩:=hu;clear hb;dsimp only;go_wp2_with fail
 refine(D5.out w4 _ _ HG.out HM.out HT.out).mono ?_;rintro e w5 ⟨u,rfl,hb,t5,rfl,hu⟩;replace HG:=Ac (HG.out.on (Below.same' hb _));replace HH:=Ac (HH.out.on (Below.same' hb _));replace HM:=Ac (Ae.on HM.out (Below.same' hb _));replace HN:=Ac (Ae.on HN.out (Below.same' hb _));replace HT:=Ac (HT.out.on hb);replace x0:=ah x0 hb;replace x1:=ah x1 hb;replace x2:=ah x2 hb;replace z0:=ah z0 hb;replace z1:=ah z1 hb;replace z2:=ah z2 hb;replace R0:=Ac (Ae.on R0.out (Below.same' hb _));replace R1:=Ac (Ae.on R1.out (Below.same' hb _));replace R2:=Ac (Aj.on R2.out (Below.same' hb _));replace R3:=Ac (Aj.on R3.out (Below.same' hb _));replace R4:=Ac (AL.on R4.out (Below.same' hb _));replace hB:=hB.trans (hb.mono hB.size);have R5:=Ac (AL.keep (G:=AU) hu (fun _ _ _=>trivial) (Same.refl _ _));obtain⟨A5,c5,rfl,_,_⟩:=hu;clear hb;dsimp only;have b0:(E0==E0)=true:=by simp
 have b1:(E1==E1)=true:=by simp
 have b2:(E2==E2)=true:=by simp
 go_wp2_with fail
 refine(sH w5 AU _ _ _ _ R0.out R1.out HS0.out HS0.out).mono ?_;rintro e wc0 ⟨u,rfl,hb,rfl⟩;rw[decide_eq_true rfl];replace HG:=Ac (HG.out.on (Below.same' hb _));replace HH:=Ac (HH.out.on (Below.same' hb _));replace HM:=Ac (Ae.on HM.out (Below.same' hb _));replace HN:=Ac (Ae.on HN.out (Below.same' hb _));replace HT:=Ac (HT.out.on hb);replace x0:=ah x0 hb;replace x1:=ah x1 hb;replace x2:=ah x2 hb;replace z0:=ah z0 hb;replace z1:=ah z1 hb;replace z2:=ah z2 hb;replace R0:=Ac (Ae.on R0.out (Below.same' hb _));replace R1:=Ac (Ae.on R1.out (Below.same' hb _));replace R2:=Ac (Aj.on R2.out (Below.same' hb _));replace R3:=Ac (Aj.on R3.out (Below.same' hb _));replace R4:=Ac (AL.on R4.out (Below.same' hb _));replace R5:=Ac (AL.on R5.out (Below.same' hb _));replace hB:=hB.trans (hb.mono hB.size);clear hb;dsimp only;go_wp2_with fail
 refine(lH wc0 AU _ _ _ _ R2.out R3.out HS1.out HS1.out).mono ?_;rintro e wc1 ⟨u,rfl,hb,rfl⟩;rw[decide_eq_true rfl];replace HG:=Ac (HG.out.on (Below.same' hb _));replace HH:=Ac (HH.out.on (Below.same' hb _));replace HM:=Ac (Ae.on HM.out (Below.same' hb _));replace HN:=Ac (Ae.on HN.out (Below.same' hb _));replace HT:=Ac (HT.out.on hb);replace x0:=ah x0 hb;replace x1:=ah x1 hb;replace x2:=ah x2 hb;replace z0:=ah z0 hb;replace z1:=ah z1 hb;replace z2:=ah z2 hb;replace R0:=Ac (Ae.on R0.out (Below.same' hb _));replace R1:=Ac (Ae.on R1.out (Below.same' hb _));replace R2:=Ac (Aj.on R2.out (Below.same' hb _));replace R3:=Ac (Aj.on R3.out (Below.same' hb _));replace R4:=Ac (AL.on R4.out (Below.same' hb _));replace R5:=Ac (AL.on R5.out (Below.same' hb _));replace hB:=hB.trans (hb.mono hB.size);clear hb;dsimp only;go_wp2_with fail
 refine(zY wc1 AU _ _ _ _ R4.out R5.out HS2.out HS2.out).mono ?_;rintro e wc2 ⟨u,rfl,hb,rfl⟩;rw[decide_eq_true rfl];replace HG:=Ac (HG.out.on (Below.same' hb _));replace HH:=Ac (HH.out.on (Below.same' hb _));replace HM:=Ac (Ae.on HM.out (Below.same' hb _));replace HN:=Ac (Ae.on HN.out (Below.same' hb _));replace HT:=Ac (HT.out.on hb);replace x0:=ah x0 hb;replace x1:=ah x1 hb;replace x2:=ah x2 hb;replace z0:=ah z0 hb;replace z1:=ah z1 hb;replace z2:=ah z2 hb;replace R0:=Ac (Ae.on R0.out (Below.same' hb _));replace R1:=Ac (Ae.on R1.out (Below.same' hb _));replace R2:=Ac (Aj.on R2.out (Below.same' hb _));replace R3:=Ac (Aj.on R3.out (Below.same' hb _));replace R4:=Ac (AL.on R4.out (Below.same' hb _));replace R5:=Ac (AL.on R5.out (Below.same' hb _));replace hB:=hB.trans (hb.mono hB.size);clear hb;dsimp only;go_wp2_with fail
 refine(zX wc2 AU _ _ g g HG.out HH.out HSM.out HSM.out).mono ?_;rintro e wa ⟨u,rfl,hb,rfl⟩;rw[decide_eq_true rfl];replace HG:=Ac (HG.out.on (Below.same' hb _));replace HH:=Ac (HH.out.on (Below.same' hb _));replace HM:=Ac (Ae.on HM.out (Below.same' hb _));replace HN:=Ac (Ae.on HN.out (Below.same' hb _));replace HT:=Ac (HT.out.on hb);replace x0:=ah x0 hb;replace x1:=ah x1 hb;replace x2:=ah x2 hb;replace z0:=ah z0 hb;replace z1:=ah z1 hb;replace z2:=ah z2 hb;replace R0:=Ac (Ae.on R0.out (Below.same' hb _));replace R1:=Ac (Ae.on R1.out (Below.same' hb _));replace R2:=Ac (Aj.on R2.out (Below.same' hb _));replace R3:=Ac (Aj.on R3.out (Below.same' hb _));replace R4:=Ac (AL.on R4.out (Below.same' hb _));replace R5:=Ac (AL.on R5.out (Below.same' hb _));replace hB:=hB.trans (hb.mono hB.size);clear hb;dsimp only;go_wp2_with fail
 refine(sH wa AU _ _ m m HM.out HN.out HSR.out HSR.out).mono ?_;rintro e wb ⟨u,rfl,hb,rfl⟩;rw[decide_eq_true rfl];replace HG:=Ac (HG.out.on (Below.same' hb _));replace HH:=Ac (HH.out.on (Below.same' hb _));replace HM:=Ac (Ae.on HM.out (Below.same' hb _));replace HN:=Ac (Ae.on HN.out (Below.same' hb _));replace HT:=Ac (HT.out.on hb);replace x0:=ah x0 hb;replace x1:=ah x1 hb;replace x2:=ah x2 hb;replace z0:=ah z0 hb;replace z1:=ah z1 hb;replace z2:=ah z2 hb;replace R0:=Ac (Ae.on R0.out (Below.same' hb _));replace R1:=Ac (Ae.on R1.out (Below.same' hb _));replace R2:=Ac (Aj.on R2.out (Below.same' hb _));replace R3:=Ac (Aj.on R3.out (Below.same' hb _));replace R4:=Ac (AL.on R4.out (Below.same' hb _));replace R5:=Ac (AL.on R5.out (Below.same' hb _));replace hB:=hB.trans (hb.mono hB.size);clear hb;dsimp only;go_wp2_with fail
 refine(xE wb HT.out).mono ?_;rintro e wz ⟨u,rfl,hb,rfl⟩;replace hB:=hB.trans (hb.mono hB.size);dsimp only;go_wp2; go_ret
 exact⟨_,rfl,hB,rfl⟩
theorem zM (w:World) (F:Ag) (vg vm:Value) (g:Gm) (m:List (List Raw)) (hg:AA w F vg g) (hm:Ae w F vm m) (hT:AZ w) (hlg:(jD g 60 20||mZ m 30 20 4)=true) :
  Calls Tryz.prog 4 #[vg,vm] w (Ret w fun v _=>v = .bool true):=by
 have HG:=Ac hg; have HM:=Ac hm; have HT:=Ac hT; have HLG:=Ac hlg;obtain⟨vn,vi,rfl,⟨A,c,rfl,hc,_⟩,⟨Ai,ci,rfl,hci,_⟩⟩:=hg;obtain⟨Am,cm,rfl,hcm,_⟩:=hm;clear hT hlg;go_enter Tryz.func4,Tryz.ntmps4;go_wp2_with fail
 obtain⟨W,hW,rx,hB,hz⟩:=aB w 25 #[.int .i64 g.ak,.slice A g.nodes.length c,.slice Ai g.infos.length ci];rw[← hW];clear hW rx;replace HG:=Ac (HG.out.on (Below.same' hB F)); replace HM:=Ac (Ae.on HM.out (Below.same' hB F)); replace HT:=Ac (HT.out.on hB);refine(xG W F _ _ g m HG.out HM.out).mono ?_;rintro e wl ⟨u,rfl,hb,rfl⟩;rw[HLG.out];replace HT:=Ac (HT.out.on hb);replace hB:=hB.trans (hb.mono hB.size);clear hb;dsimp only;go_wp2_with fail
 refine(xE wl HT.out).mono ?_;rintro e wz ⟨u,rfl,hb,rfl⟩;replace hB:=hB.trans (hb.mono hB.size);dsimp only;go_wp2; go_ret
 exact⟨_,rfl,hB,rfl⟩
theorem ag8 (w:World) (F:Ag) (vg vm:Value) (g:Gm) (m:List (List Raw)) (hg:AA w F vg g) (hm:Ae w F vm m) (hU:∀ l∈m,∀ r∈l,U32 r) (hT:AZ w) :
  Calls Tryz.prog 4 #[vg,vm] w (Ret w fun v _=>v = .bool true):=by
 cases hlg:(jD g 60 20||mZ m 30 20 4) with
 | true=>exact zM w F vg vm g m hg hm hT hlg
 | false =>
  have aiL:=hlg;rw[Bool.or_eq_false_iff] at aiL;have hsm:Small g:=zF aiL.1 (by decide) (by decide);obtain⟨hlm,hll,h4⟩:=aag aiL.2;have hb:=ahN hll h4 hU;have vJ:m.length≤100000:=by omega
  have hsr:=abH vJ hll h4;by_cases h0:bF g m=0
  ·obtain⟨mm,rfl,hf,_⟩:=agV h0 h4;rw[List.length_map] at vJ;have hn:=hsm.nodes;have hv:=qV hf;have hv0:=hv _ (List.mem_of_getElem? (nH hf));exact sW w F vg vm g _ hg hm hT hsm hsr _ _ _ _ _ _
    (abG (fun r hr=>⟨by have:=(hv r hr).1; omega,fun x hx=>by have:=(hv r hr).2 x hx; omega⟩) (by simp; omega))
    (aea (fun x hx=>by have:=hv0.2 x hx; omega) (by have:=hv0.1; omega))
    (aah (fun x hx=>by have:=mG hf iW x hx; omega) (by omega)) hlg
    (fun w' vg vm a b t=>afP w' AU vg vm g mm a hsm b t vJ hb h0 hf)
    (fun w' vg vm a b t=>afQ w' AU vg vm g mm a hsm b vJ hb h0 hf)
    (fun w' vg vm a b t=>aaQ w' AU vg vm g mm a hsm b t vJ hb h0 hf)
    (fun w' vg vm a b t=>afR w' AU vg vm g mm a hsm b vJ hb h0 hf)
    (fun w' vg vm a b t=>afO w' AU vg vm g mm a hsm b t vJ hb h0 hf)
    (fun w' vg vm a b t=>afS w' AU vg vm g mm a hsm b vJ hb h0 hf)
  ·exact sW w F vg vm g m hg hm hT hsm hsr (bF g m) (bF g m) (bF g m) [] [] [] sV afM qX hlg
    (fun w' vg vm a b t=>ac4 (aee w' AU vg vm g m a hsm b t vJ hb h0))
    (fun w' vg vm a b t=>ac4 (aef w' AU vg vm g m a hsm b vJ hb h0))
    (fun w' vg vm a b t=>aeD (ad8 w' AU vg vm g m a hsm b t vJ hb h0))
    (fun w' vg vm a b t=>aeD (aeg w' AU vg vm g m a hsm b vJ hb h0))
    (fun w' vg vm a b t=>aaW (aed w' AU vg vm g m a hsm b t vJ hb h0))
    (fun w' vg vm a b t=>aaW (aeh w' AU vg vm g m a hsm b vJ hb h0))
end Go.Proofs.YtkcheepafifjaaaGreatDoor
