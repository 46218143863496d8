/- parlourlaw16.PlanMixes returns true. -/
import Derived.Test.YthmklhapjegfdaaGreatDoorX38
import Derived.Test.YthmklhapjegfdaaGreatDoorX41
import Derived.Test.YthmklhapjegfdaaGreatDoorX46
set_option linter.all false
set_option maxRecDepth 100000
set_option maxHeartbeats 12800000
namespace Go.Proofs.YthmklhapjegfdaaGreatDoor
open Lib renaming hid → Ag
open Go.RowKit
theorem adq {r:Raw} (h:lN [[r]] 1 1 4=false):r.num.length≤4∧r.den.length≤4:=by
 unfold lN yh at h;simp at h;omega
theorem adr {g:Gm} {ar br:List (List Raw)} {tr:Raw} (h:lT g ar br tr=0→(pz g ar br tr).length≤1000∧∀ l∈pz g ar br tr,l.length≤1000):BJ (mG g ar br tr):=by
 have hn:BJ []:=⟨aA,fun r hr=>by cases hr⟩;unfold mG;split
 ·exact hn
 ·rename_i h0
  obtain⟨h1,h2⟩:=h (by simpa using h0);unfold nH;split
  ·exact hn
  ·rename_i h3
   have h3:jy (pz g ar br tr).flatten=0:=by simpa using h3
   exact abq h1 fun l hl=>⟨h2 l hl,fun x hx=>Nat.le_of_not_lt fun hlt=>by have:=abl (List.mem_flatten.2 ⟨l,hl,hx⟩) hlt; omega⟩
theorem ajg {w:World} {b1 b2:Nat} {F:Aj} {r:Raw} {vn vd:Value} (h1:Row w b1 83 [.bool r.neg,vn,vd]) (h2:Row w b2 64 [.slice (some ⟨b1,0,none⟩) 1 1]) (hv:AA w F (.agg #[.bool r.neg,vn,vd]) r) (hF:∀ b,F b):Ah w F (.slice (some ⟨b2,0,none⟩) 1 1) [[r]]:=by
 obtain⟨vn',vd',e,hn,hd⟩:=hv;simp only[Value.agg.injEq,Array.mk.injEq,List.cons.injEq,and_true,true_and] at e;obtain⟨rfl,rfl⟩:=e;refine⟨_,_,rfl,Nat.le_refl _,fun _=>⟨b2,0,rfl,hF _,h2.lt,fun k l hk=>?_⟩⟩;have hk0:k=0:=by have:=aK hk;simpa using this
 subst hk0;cases hk;refine⟨_,h2.cell (i:=0) rfl,_,_,rfl,Nat.le_refl _,fun _=>⟨b1,0,rfl,hF _,h1.lt,fun j q hq=>?_⟩⟩;have hj0:j=0:=by have:=aK hq;simpa using this
 subst hj0;cases hq;exact⟨h1.cell (i:=0) rfl,⟨_,h1.cell (i:=1) rfl,hn⟩,⟨_,h1.cell (i:=2) rfl,hd⟩⟩
theorem ajh {g:Gm} {ar br:List (List Raw)} {tr:Raw} (h0:lT g ar br tr=0) (h4a:BG ar) (h4b:BG br):(pz g ar br tr).length≤ar.length∧∀ l∈pz g ar br tr,l.length≤10:=by
 unfold lT at h0;by_cases hs:dS g ar=0
 case neg=>rw[if_pos hs] at h0; exact absurd h0 hs
 rw[if_neg (by rw[hs]; decide)] at h0;by_cases hp:iV (g.infos.map Inf.actions) br=0
 case neg=>rw[if_pos hp] at h0; exact absurd h0 hp
 have hsb:=abg (iE hs) hp;obtain⟨a,rfl,-,-⟩:=wO hs h4a;obtain⟨b,rfl,-,-⟩:=wO hsb h4b;have hr:=wU hs hsb;unfold pz;rw[lJ,lJ];generalize oJ tr=t at *;have hm:∀ l∈dV (bG (aS g) a) (bG (aS g) b) (1 - t) t,l.length≤10:=by
  intro l hl;obtain⟨k,hk⟩:=List.getElem?_of_mem hl;unfold dV at hk;rw[List.getElem?_zipWith] at hk;cases ha:(bG (aS g) a)[k]? with
  | none=>rw[ha] at hk; cases h:(bG (aS g) b)[k]? <;> rw[h] at hk <;> simp at hk
  | some r1 =>
   cases hb:(bG (aS g) b)[k]? with
   | none=>rw[ha,hb] at hk; simp at hk
   | some r2 =>
    rw[ha,hb] at hk;simp only[Option.some.injEq] at hk;subst hk;rw[List.length_zipWith];have:=hr.2 k r1 r2 ha hb;omega
 refine⟨?_,fun l hl=>?_⟩
 ·unfold fO dV;rw[List.length_map,List.length_zipWith,eH,List.length_map];omega
 ·unfold fO at hl;obtain⟨r,hr',rfl⟩:=List.mem_map.1 hl;have h1:=hm r hr';unfold iM;split
  ·unfold iP;rw[List.length_replicate];exact h1
  ·rw[List.length_map];exact h1
theorem aji (w:World) (F:Aj) (u va vb vt:Value) (g:Gm) (ar br:List (List Raw)) (tr:Raw) (hg:AU w F u g) (ha:Ah w F va ar) (hb:Ah w F vb br) (ht:AA w F vt tr) (hUa:∀ l∈ar,∀ r∈l,U32 r) (hUb:∀ l∈br,∀ r∈l,U32 r) (hUt:U32 tr) (hT:BK w) :
  Calls Tryz.prog 8 #[u,va,vb,vt] w (Ret w fun v _=>v = .bool true):=by
 refine zaz ?_;intro HG HA;have HC:=Ag (Ah.keep (G:=fun _=>True) hb (fun _ _ _=>trivial) (Same.refl _ _));have HV:=Ag (AA.keep (G:=fun _=>True) ht (fun _ _ _=>trivial) (Same.refl _ _));have HT:=Ag hT;have HUA:=Ag hUa;have HUB:=Ag hUb;have HUT:=Ag hUt;obtain⟨vn,vi,rfl,⟨A,c,rfl,-,-⟩,⟨Ai,ci,rfl,-,-⟩⟩:=hg;obtain⟨Aa,ca,rfl,-,-⟩:=ha;obtain⟨Ab,cb,rfl,-,-⟩:=hb;obtain⟨An,cn,Ad,cd,rfl,-⟩:=ht.opened;clear hT hUa hUb hUt ht;go_in
 go_upto_region 1 with(fail)
 refine Yx ?_;clear HG HA;intro W rx ry hB HG HA;replace HC:=Ag (Ah.on HC.out (Below.same' hB _));replace HV:=Ag (AA.on HV.out (Below.same' hB _));replace HT:=Ag (HT.out.on hB);refine Ze ?_;intro x0 x1 x2;go_wp2_with fail
 clear x0 x1 x2;refine(agF W (fun _=>True) _ g HG.out 60 20 byOmega).mono ?_;rintro e w1 ⟨_,rfl,hb,rfl⟩;refine ZK ?_;clear HG HA HC HV HT;intro HG HA HC HV HT;refine ZM ?_;clear rx ry hB;intro rx ry hB;clear hb;have HSM:=Ag (fun h:lX g 60 20=false=>abt h byOmega byOmega);generalize lX g 60 20=lg at *;dsimp only;cases lg
 case true =>
  clear rx ry;go_wp2_with fail
  refine(kV w1 HT.out).mono ?_;exact Y3
 have hsm:=HSM.out rfl;have HS:=Ag hsm;clear hsm HSM;go_wp2_with fail
 refine(aa0 w1 (fun _=>True) _ ar HA.out 30 20 4 ay ay).mono ?_;rintro e w2 ⟨rfl,rfl⟩;have HWA0:=Ag (fun h:lN ar 30 20 4=false=>vS h);generalize lN ar 30 20 4=wa at *;dsimp only;cases wa
 case true =>
  clear rx ry;go_wp2_with fail
  refine(kV w2 HT.out).mono ?_;exact Y3
 have HWA:=Ag (HWA0.out (by first | rfl | trivial));clear HWA0;go_wp2_with fail
 refine(aa0 w2 (fun _=>True) _ br HC.out 30 20 4 ay ay).mono ?_;rintro e w3 ⟨rfl,rfl⟩;have HWB0:=Ag (fun h:lN br 30 20 4=false=>vS h);generalize lN br 30 20 4=wb at *;dsimp only;cases wb
 case true =>
  clear rx ry;go_wp2_with fail
  refine(kV w3 HT.out).mono ?_;exact Y3
 have HWB:=Ag (HWB0.out (by first | rfl | trivial));clear HWB0;refine zbi ?_;intro y0 y1 y2;go_wp2_with fail
 obtain⟨W2,hW2,r1,r2,hb,hz2⟩:=alloc2 w3 83 #[.bool tr.neg,.slice An tr.num.length cn,.slice Ad tr.den.length cd] 64 #[.slice (some ⟨w3.heap.size,0,none⟩) 1 1];rw[← hW2];clear y0 y1 y2;refine ZK ?_;clear HG HA HC HV HT;intro HG HA HC HV HT;refine ZM ?_;clear rx ry hB;intro rx ry hB;have HM1:=Ag (ajg (F:=(fun _=>True)) r1 r2 HV.out (fun _=>trivial));clear hb hz2 hW2 r1 r2;refine(aa0 W2 (fun _=>True) _ [[tr]] HM1.out 1 1 4 ay ay).mono ?_;rintro e w4 ⟨rfl,rfl⟩;have HW10:=Ag (fun h:lN [[tr]] 1 1 4=false=>adq h);generalize lN [[tr]] 1 1 4=w1b at *;clear HM1;dsimp only;cases w1b
 case true =>
  clear rx ry;go_wp2_with fail
  refine(kV w4 HT.out).mono ?_;exact Y3
 have HW1:=Ag (HW10.out (by first | rfl | trivial));clear HW10;have hla:=HWA.out.1;have hlb:=HWB.out.1;have HFA:=Ag (agt HWA.out.2.1 HWA.out.2.2 HUA.out);have HFB:=Ag (agt HWB.out.2.1 HWB.out.2.2 HUB.out);have HSH:=Ag (adr (g:=g) (ar:=ar) (br:=br) (tr:=tr) fun h=>by have h1:=ajh h HWA.out.2.2 HWB.out.2.2; exact⟨byOmega,fun l hl=>by have:=h1.2 l hl; omega⟩);refine Zv ?_;intro x0 x1 x2 y0 y1 y2;go_wp2_with fail
 clear x0 x1 x2 y0 y1 y2;refine(zV w4 (fun _=>True) _ _ _ _ g ar br tr HG.out HS.out HA.out HC.out HV.out HT.out hla hlb HWA.out.2.1 HWB.out.2.1 HFA.out HFB.out HWA.out.2.2 HWB.out.2.2 HUT.out HW1.out).mono ?_;rintro e w5 ⟨_,rfl,hb,tHP,rfl,hu⟩;refine ZK ?_;clear HG HA HC HV HT;intro HG HA HC HV HT;refine ZM ?_;clear rx ry hB;intro rx ry hB;have HP:=Ag (Ah.keep (G:=(fun _=>True)) hu (fun _ _ _=>trivial) (Same.refl _ _));obtain⟨AHP,cHP,rfl,-,-⟩:=hu;clear hb;dsimp only;refine Zv ?_;intro x0 x1 x2 y0 y1 y2;go_wp2_with fail
 clear x0 x1 x2 y0 y1 y2;refine(aje w5 (fun _=>True) _ _ _ _ g ar br tr HG.out HS.out HA.out HC.out HV.out hla hlb HWA.out.2.1 HWB.out.2.1 HFA.out HFB.out HWA.out.2.2 HWB.out.2.2 HUT.out HW1.out).mono ?_;rintro e w6 ⟨_,rfl,hb,tHQ,rfl,hu⟩;refine ZK ?_;clear HG HA HC HV HT;intro HG HA HC HV HT;replace HP:=Ag (Ah.on HP.out (Below.same' hb _));refine ZM ?_;clear rx ry hB;intro rx ry hB;have HQ:=Ag (Ah.keep (G:=(fun _=>True)) hu (fun _ _ _=>trivial) (Same.refl _ _));obtain⟨AHQ,cHQ,rfl,-,-⟩:=hu;clear hb;dsimp only;generalize mG g ar br tr=mo at *;generalize abf g ar br tr=me at *;clear rx ry;go_wp2_with fail
 refine(jq w6 (fun _=>True) _ _ mo mo HP.out HQ.out HSH.out HSH.out).mono ?_;rintro e w7 ⟨_,rfl,hb,rfl⟩;refine ZK ?_;clear HG HA HC HV HT;intro HG HA HC HV HT;replace HP:=Ag (Ah.on HP.out (Below.same' hb _));replace HQ:=Ag (Ah.on HQ.out (Below.same' hb _));replace hB:=hB.trans (hb.mono hB.size);clear hb;rw[decide_eq_true rfl];have hme:(me==me)=true:=aA;dsimp only;go_wp2_with fail
 clear hme;refine(kV w7 HT.out).mono ?_;rintro e w8 ⟨_,rfl,hb,rfl⟩;refine ZK ?_;clear HG HA HC HV HT;intro HG HA HC HV HT;replace HP:=Ag (Ah.on HP.out (Below.same' hb _));replace HQ:=Ag (Ah.on HQ.out (Below.same' hb _));refine zcg ?_;clear hB hb;intro hB;go_wp2
 go_ret;exact⟨_,rfl,hB,rfl⟩
end Go.Proofs.YthmklhapjegfdaaGreatDoor
