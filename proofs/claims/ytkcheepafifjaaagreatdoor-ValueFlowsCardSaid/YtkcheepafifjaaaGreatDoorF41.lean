/- value.Lines. -/
import Derived.Test.YtkcheepafifjaaaGreatDoorF40
import Derived.Test.YtkcheepafifjaaaGreatDoorF37
set_option linter.all false
set_option maxRecDepth 100000
set_option maxHeartbeats 12800000
namespace Go.Proofs.YtkcheepafifjaaaGreatDoor
open Lib renaming hid → Ac
open Go.RowKit
def sZ (g:Gm) (rs:List Rat) (k:Nat):Bool:=match g.nodes[k]?,rs[k]? with
 | some n,some r=>(n.kind==3) && !(decide (r=0))
 | _,_=>false
def dQ (g:Gm) (rs:List Rat):Nat→List (Int×Rat)
 | 0=>[]
 | k+1=>dQ g rs k++(if sZ g rs k then [((k:Int),rs.getD k 0)] else [])
def afb (l:List (Int×Rat)):List (Int×Raw):=l.map fun x=>(x.1,ay x.2)
def uM (g:Gm) (rs:List Rat):Int:=if (dQ g rs g.nodes.length).any (fun x=>decide (1024 < rl x.2)) then 5 else 0
def aaG (g:Gm) (rs:List Rat):List (Int×Raw):=if uM g rs≠0 then [] else afb (dQ g rs g.nodes.length)
theorem pU {g:Gm} {rs:List Rat} {k:Nat} (h:sZ g rs k=false):dQ g rs (k+1)=dQ g rs k:=by
 rw[dQ,h]; simp
theorem oV {g:Gm} {rs:List Rat} {k:Nat} {r:Rat} (hr:rs[k]? = some r) (h:sZ g rs k=true):dQ g rs (k+1)=dQ g rs k ++ [((k:Int),r)]:=by
 rw[dQ,h,List.getD_eq_getElem?_getD,hr]; rfl
theorem ad1 {g:Gm} {rs:List Rat} {x:Int×Rat} {k:Nat} (h:x∈dQ g rs k):∀ j,k≤j→x∈dQ g rs j:=by
 intro j hj;induction j with
 | zero =>
  have:k=0:=by omega
  subst this; exact h
 | succ j ih =>
  by_cases e:k=j+1
  ·subst e; exact h
  ·rw[dQ]; exact List.mem_append_left _ (ih (by omega))
theorem ah3 {g:Gm} {rs:List Rat} {k:Nat} {r:Rat} (hk:k < g.nodes.length) (hr:rs[k]? = some r) (h:sZ g rs k=true) (ho:kJ r=5):uM g rs=5:=by
 have hlt:1024 < rl r:=by
  unfold kJ at ho; split at ho
  ·assumption
  ·simp at ho
 unfold uM;rw[if_pos (List.any_eq_true.2 ⟨((k:Int),r),ad1 (k:=k+1) (by rw[oV hr h]; simp) _ hk,decide_eq_true hlt⟩)]
theorem abL {g:Gm} {rs:List Rat} {k:Nat} (h:(dQ g rs k).any (fun x=>decide (1024 < rl x.2))=false) (hk:g.nodes.length=k):uM g rs=0:=by
 unfold uM;rw[hk,h]; rfl
theorem afO {g:Gm} {rs:List Rat} {k:Nat} {n:Nd} (hn:g.nodes[k]? = some n) (h:n.kind≠3):sZ g rs k=false:=by
 unfold sZ;rw[hn];cases rs[k]? with
 | none=>rfl
 | some r=>simp[h]
theorem abM {g:Gm} {rs:List Rat} {k:Nat} (h:rs[k]? = some 0):sZ g rs k=false:=by
 unfold sZ;cases g.nodes[k]? with
 | none=>rfl
 | some n=>rw[h]; simp
theorem ad2 {g:Gm} {rs:List Rat} {k:Nat} {n:Nd} {r:Rat} (hn:g.nodes[k]? = some n) (hr:rs[k]? = some r) (h:n.kind=3) (h0:r≠0):sZ g rs k=true:=by
 unfold sZ;rw[hn,hr]; simp[h,h0]
theorem ah4 {l:List (Int×Rat)} {x:Int×Rat} (h:l.any (fun x=>decide (1024 < rl x.2))=false) (hx:¬ 1024 < rl x.2):(l ++ [x]).any (fun x=>decide (1024 < rl x.2))=false:=by
 rw[List.any_append,h]; simp[hx]
def DX (F:Ag) (B:Nat) (e:Int) (l:List (Int×Raw)) (u:Value) (w':World):Prop:=∃ t,u = .tuple #[t,.int .i64 e]∧AU w' (Ext F B) t l
theorem Tryz.infoLine:(Tryz.prog.info? 56).map (fun i=>(i.zero,i.size,i.bytes))=some (some (.agg #[.int .i64 0,.bool false,.slice none 0 0,.slice none 0 0]),xH.n,64):=by kernel_rfl
theorem abN (w:World) (F:Ag) (vg vm:Value) (g:Gm) (m:List (List Rat)) (hg:AX w F vg g) (hsm:Small g) (hm:AV w F vm m) (hT:AZ w) (hlm:m.length≤100000) (hb:Bd (m.map (List.map ay))) (h0:jl g (m.map (List.map ay))=0) (hf:Fit g m) :
  Calls Tryz.prog 24 #[vg,vm] w (Ret w (DX F w.heap.size (uM g (bJ aX g m)) (aaG g (bJ aX g m)))):=by
 have HG:=Ac hg; have HM:=Ac hm; have HS:=Ac hsm; have HT:=Ac hT; have HBB:=Ac hb; have HE0:=Ac h0;have hn100:=hsm.nodes;obtain⟨vn,vi,rfl,⟨A,c,rfl,hc,hN⟩,⟨Ai,ci,rfl,hci,_⟩⟩:=hg;have HFT:=Ac hf;have hpos:0 < g.nodes.length:=hf.good.pos;obtain⟨b,q,rfl,hFb,hbl,hcell⟩:=hN hpos;have HC:=Ac hcell;clear hm hsm hT hb hf h0 hN hcell;have HRL:=Ac (iW (cnt:=aX) HFT.out lH);obtain⟨rs,hrs⟩:∃ rs,rs=bJ aX g m:=⟨_,rfl⟩;have HRS:=Ac hrs;rw[← hrs] at HRL ⊢;have hvl:g.nodes.length≤rs.length:=by rw[hrs]; simp
 have hvl2:rs.length≤g.nodes.length:=by rw[hrs]; simp
 clear hrs;go_enter Tryz.func24,Tryz.ntmps24;go_wp2_with fail
 obtain⟨W,hW,rx,hB,hz⟩:=aH w 25 #[.int .i64 g.au,.slice (some ⟨b,q,none⟩) g.nodes.length c,.slice Ai g.infos.length ci];rw[← hW];clear hW;have hz2:=hB.size;replace HG:=Ac (HG.out.on (Below.same' hB F)); replace HM:=Ac (Az.below HM.out hB); replace HT:=Ac (HT.out.on hB);have x0:=rx.cell (i:=0) rfl; have x1:=rx.cell (i:=1) rfl; have x2:=rx.cell (i:=2) rfl;clear rx;go_wp2_with fail
 refine(qH W F _ _ g m HG.out HS.out HM.out HT.out hlm HBB.out HE0.out).mono ?_;rintro e w1 ⟨u,rfl,hb1,bp,up,place,vn',vi',vu',vp',rfl,hpl',vJ⟩;replace x1:=ah x1 hb1;have hB1:=hB.trans (hb1.mono hB.size);have hz3:=hb1.size;have HP:=Ac hpl'; have Dn:=Ac vJ;clear hpl' vJ hb1 hB x0 x2;dsimp only;go_wp2_with fail
 refine(uh w1 (Ext F W.heap.size) bp g m up place vn' vi' vu' vp' _ 49 #[] aX HP.out Dn.out HFT.out ⟨enters' Tryz.func49 (by kernel_rfl) (by kernel_rfl),fun W' n v _ hv _=>qG W' _ v n hv⟩ lH hn100 hlm).mono ?_;rintro e w2 ⟨u,rfl,hb2,⟨b2,rfl⟩,hu⟩;rw[show(List.range g.nodes.length).map (bC aX g.nodes m)=rs from HRS.out.symm] at hu;replace x1:=ah x1 hb2;have hB2:=hB1.trans (hb2.mono hB1.size);have hz4:=hb2.size;have HU:=Ac hu;clear hu hb2 hB1;dsimp only;go_wp2_with fail
 go_loopw [8,25] (fun acc i wr=>∃ (k:Nat) (L:List (Int×RV)),k≤g.nodes.length∧i = .int .i64 (k:Int)∧L.length≤k∧L.map (fun q=>(q.1,q.2.r))=afb (dQ g rs k)∧(dQ g rs k).any (fun x=>decide (1024 < rl x.2))=false∧AB xH wr w2.heap.size 56 (fun b=>w2.heap.size≤b) acc L∧Below w2.heap.size w2 wr) (fun _ i _=>g.nodes.length - (intOf i).toNat)
 case atStart=>exact⟨0,[],by omega,rfl,Nat.le_refl _,rfl,rfl,AB.nil _ _ _ _ _,Below.refl _ _⟩
 case round =>
  obtain⟨k,L,hk,rfl,hLl,hLr,hany,hown,hbel⟩:=hrel;have HO:=Ac hown; have HL:=Ac hLr; have HA:=Ac hany;clear hown hLr hany;by_cases hlt:k < g.nodes.length
  ·obtain⟨r,hr⟩:=aB (l:=rs) (k:=k) (by omega);obtain⟨n,hni⟩:=aB hlt;obtain⟨bb,o,cc,vn3,vd3,e1,hF1,hlt1,r0,r1,r2,i1,i2⟩:=Ah.at (r:=ak r) HU.out (by rw[List.getElem?_map,hr]; rfl);injection e1 with e11 e12 e13
   injection e11 with e11
   injection e11 with e14 e15
   subst e14 e15;clear e12 e13;rw[Nat.zero_add] at r0 r1 r2;have hfin:(⟨ak r,vn3,vd3⟩:RV).fine wr (Ext (Ext F W.heap.size) w1.heap.size):=RV.fine.keep ⟨i1,i2⟩ (fun _ h _=>h) (Below.same' hbel _);obtain⟨An,cn,rfl,_,_⟩:=i1;obtain⟨Ad,cd,rfl,_,_⟩:=i2;have hne:=HC.out k n hni;have n0:=hne.c0; have n1:=hne.c1; have n2:=hne.c2;obtain⟨v3,n3,h3⟩:=hne.c3;obtain⟨v4,n4,h4⟩:=hne.c4;obtain⟨v5,n5,h5⟩:=hne.c5;have hB3:=hB2.trans (hbel.mono hB2.size);have HNV:=Ac ((show Bf w F _ n from⟨v3,v4,v5,rfl,h3,h4,h5⟩).on (Below.same' hB3 F));obtain⟨A3,c3,rfl,_,_⟩:=h3;obtain⟨A4,c4,rfl,_,_⟩:=h4;obtain⟨A5,c5,rfl,_,_⟩:=h5;replace n0:=ah n0 hB3;replace n1:=ah n1 hB3;replace n2:=ah n2 hB3;replace n3:=ah n3 hB3;replace n4:=ah n4 hB3;replace n5:=ah n5 hB3;have y1:=ah x1 hbel;replace r0:=ah r0 hbel; replace r1:=ah r1 hbel; replace r2:=ah r2 hbel;have hR:=HRL.out r (List.mem_of_getElem? hr);have HK:=Ac hr; have HX:=Ac hni;have hz:=hbel.size;have HF3:=Ac hfin;clear hr hni hne hfin x1;go_upto_region 8 with(fail)
   obtain⟨W3,hW3,rb,hb3,hz5⟩:=aH wr 97 #[.bool (ak r).neg,.slice An (ak r).num.length cn,.slice Ad (ak r).den.length cd];rw[← hW3];clear hW3 r0 r1 r2;have lZ:=hbel.trans (hb3.mono hbel.size);replace HNV:=Ac (HNV.out.on (Below.same' hb3 F));replace HF3:=Ac (HF3.out.below hb3);replace HO:=Ac (HO.out.below hb3);replace n0:=ah n0 hb3;replace n1:=ah n1 hb3;replace n2:=ah n2 hb3;replace n3:=ah n3 hb3;replace n4:=ah n4 hb3;replace n5:=ah n5 hb3;replace y1:=ah y1 hb3;have r0:=rb.cell (i:=0) rfl; have r1:=rb.cell (i:=1) rfl; have r2:=rb.cell (i:=2) rfl;clear rb hbel hB3 hb3;by_cases hk3:n.kind=3
   case neg =>
    have HI:=Ac (show aX n=true by unfold aX; simpa using hk3);have HKP:=Ac (pU (rs:=rs) (afO HX.out hk3));clear hk3;go_wp2_with fail
    refine(qG W3 F _ n HNV.out).mono ?_;rintro e w4 ⟨u,rfl,hb4,rfl⟩;rw[HI.out];replace HO:=Ac (HO.out.below hb4);replace lZ:=lZ.trans (hb4.mono lZ.size);clear hb4 r0 r1 r2 y1 n0 n1 n2 n3 n4 n5 HNV HF3 HI;dsimp only;go_wp2_with fail
    go_roundw
    case rel=>exact⟨k+1,L,by omega,by go_num,by omega,by rw[HKP.out]; exact HL.out,by rw[HKP.out]; exact HA.out,HO.out,lZ⟩
    case measure=>simp[intOf]; omega
   have HI:=Ac (show aX n=false by unfold aX; simp[hk3]);have HK3:=Ac hk3;clear hk3;go_wp2_with fail
   refine(qG W3 F _ n HNV.out).mono ?_;rintro e w4 ⟨u,rfl,hb4,rfl⟩;rw[HI.out];replace HO:=Ac (HO.out.below hb4);replace HF3:=Ac (HF3.out.below hb4);replace r0:=ah r0 hb4; replace r1:=ah r1 hb4; replace r2:=ah r2 hb4;replace lZ:=lZ.trans (hb4.mono lZ.size);clear hb4 y1 n0 n1 n2 n3 n4 n5 HNV HI;dsimp only;go_wp2_with fail
   refine(gQ w4 _ _ r (AL.make (r:=ak r) rfl HF3.out.1 HF3.out.2)).mono ?_;rintro e w5 ⟨u,rfl,hb5,rfl⟩;replace HO:=Ac (HO.out.below hb5);replace HF3:=Ac (HF3.out.below hb5);replace r0:=ah r0 hb5; replace r1:=ah r1 hb5; replace r2:=ah r2 hb5;replace lZ:=lZ.trans (hb5.mono lZ.size);clear hb5;by_cases hr0:r=0
   case pos =>
    have HKP:=Ac (pU (g:=g) (rs:=rs) (k:=k) (abM (by rw[← hr0]; exact HK.out)));rw[decide_eq_true hr0];clear r0 r1 r2 HF3 hr0;dsimp only;go_wp2_with fail
    go_roundw
    case rel=>exact⟨k+1,L,by omega,by go_num,by omega,by rw[HKP.out]; exact HL.out,by rw[HKP.out]; exact HA.out,HO.out,lZ⟩
    case measure=>simp[intOf]; omega
   rw[decide_eq_false hr0];have HKB:=Ac (ad2 HX.out HK.out HK3.out hr0);obtain⟨oe,hoe⟩:∃ oe,oe=kJ r:=⟨_,rfl⟩;have hcs:oe=0∨oe=5:=by rw[hoe]; exact afI
   have HOE:=Ac hoe;obtain⟨ro,hro⟩:∃ ro,ro=dB r:=⟨_,rfl⟩;have HRO:=Ac hro;clear hoe hro hr0;dsimp only;go_wp2_with fail
   refine(adJ w5 _ _ r (AL.make (r:=ak r) rfl HF3.out.1 HF3.out.2) (by omega)).mono ?_;rintro e w6 ⟨u,rfl,hb6,t,rfl,ht⟩;rw[← HOE.out];rw[← HRO.out] at ht;have hz6:=lZ.size;have HUB:=Ac HO.out.row.lt;replace HO:=Ac (HO.out.below hb6);have ah5:=lZ.trans (hb6.mono lZ.size);have ht2:=AL.mono (G:=Apart (fun b=>w2.heap.size≤b) u8) ht (fun b hb _=>⟨by omega,fun e=>by have:=(HUB.out b e).2; omega⟩);obtain⟨vn6,vd6,rfl,f1,f2⟩:=ht2;have HQ:=Ac (show xH.fine w6 (Apart (fun b=>w2.heap.size≤b) u8) ((k:Int),⟨ro,vn6,vd6⟩) from⟨f1,f2⟩);obtain⟨A6,c6,rfl,_,_⟩:=f1;obtain⟨A7,c7,rfl,_,_⟩:=f2;clear ht r0 r1 r2 HF3 lZ hb6;dsimp only;go_upto_region 10 with(fail)
   obtain⟨W7,hW7,rb,hb7,hz7⟩:=aH w6 53 #[.bool ro.neg,.slice A6 ro.num.length c6,.slice A7 ro.den.length c7];rw[← hW7];clear hW7;have ajd:=ah5.trans (hb7.mono ah5.size);replace HO:=Ac (HO.out.below hb7);replace HQ:=Ac (xH.keep HQ.out (fun _ h _=>h) (Below.same' hb7 _));have r0:=rb.cell (i:=0) rfl; have r1:=rb.cell (i:=1) rfl; have r2:=rb.cell (i:=2) rfl;clear rb ah5 hb7;rcases hcs with rfl | rfl
   ·have hno:¬ 1024 < rl r:=fun h=>by have:=HOE.out; unfold kJ at this; rw[if_pos h] at this; simp at this
    have HRE:=Ac (show ro=ay r by rw[HRO.out]; unfold dB; rw[if_neg hno]);have HNO:=Ac hno;clear hno;go_wp2_with (at_builtin; refine aev (K:=xH) (F:=fun b=>w2.heap.size≤b) rfl _ _ 41 56 64 _ Tryz.underlying41 Tryz.infoLine rfl (by decide) rfl w2.heap.size (Nat.le_refl _) u8 L rfl ((k:Int),⟨ro,.slice A6 ro.num.length c6,.slice A7 ro.den.length c7⟩) _ rfl (by omega) rfl HO.out HQ.out ajd ?_; intro g' cap w' hown' dD hlt' _; have HO':=Ac hown')
    go_roundw
    case rel =>
     refine⟨k+1,L ++ [((k:Int),⟨ro,.slice A6 ro.num.length c6,.slice A7 ro.den.length c7⟩)],by omega,by go_num,by rw[List.length_append]; simp; omega,?_,?_,HO'.out,dD⟩
     ·rw[oV HK.out HKB.out,List.map_append,HL.out];unfold afb;rw[List.map_append,List.map_cons,List.map_nil,List.map_cons,List.map_nil,HRE.out]
     ·rw[oV HK.out HKB.out];exact ah4 HA.out HNO.out
    case measure=>simp[intOf]; omega
   ·have HEV:=Ac (ah3 hlt HK.out HKB.out HOE.out.symm);clear HOE HRO r0 r1 r2;go_wp2
    go_ret2;refine⟨_,rfl,hB2.trans (ajd.mono (by omega)),_,by rw[HEV.out]; rfl,?_⟩;unfold aaG;rw[HEV.out,if_pos (by decide)];exact AU.nil _ _
  ·have HEV:=Ac (abL HA.out (by omega));go_wp2
   go_ret2;refine⟨_,rfl,hB2.trans (hbel.mono (by omega)),_,by rw[HEV.out]; rfl,?_⟩;unfold aaG;rw[HEV.out,if_neg (by decide)];have h5:=HO.out.lines (G:=Ext F w.heap.size) (fun b hb=>.inr (by omega)) (fun b hb=>.inr (by omega));rw[HL.out,show k=g.nodes.length by omega] at h5;exact h5
def pV:List (List Rat):=[[0,1].map fun x=>mkRat x 1,[0,1].map fun x=>mkRat x 1,[0,0,1].map fun x=>mkRat x 1]
def abO:List (List Raw):=[[⟨false,[],[1]⟩,⟨false,[1],[1]⟩],[⟨false,[],[1]⟩,⟨false,[1],[1]⟩],[⟨false,[],[1]⟩,⟨false,[],[1]⟩,⟨false,[1],[1]⟩]]
theorem aiZ:ay (mkRat 0 1)=⟨false,[],[1]⟩:=by
 have h:=lD false 0 1 (by decide);rw[show Nat.gcd 0 1=1 by decide,Nat.div_one,Nat.div_one,iD,aZ] at h;exact h
theorem afP:ay (mkRat 1 1)=⟨false,[1],[1]⟩:=by
 have h:=lD false 1 1 (by decide);rw[show Nat.gcd 1 1=1 by decide,Nat.div_one,iD] at h;exact h
theorem uj:pV.map (List.map ay)=abO:=by
 unfold pV abO;simp only[List.map_cons,List.map_nil,aiZ,afP]
theorem vO:jl bG abO=0:=by decide +kernel
theorem afc:Dk abO:=by
 intro l hl r hr;unfold abO at hl;simp only[List.mem_cons,List.not_mem_nil,or_false] at hl;rcases hl with rfl | rfl | rfl <;> (simp only[List.mem_cons,List.not_mem_nil,or_false] at hr; rcases hr with rfl | rfl | rfl <;> decide)
theorem abP:Bd (pV.map (List.map ay)):=by
 rw[uj];intro l hl;unfold abO at hl;simp only[List.mem_cons,List.not_mem_nil,or_false] at hl;rcases hl with rfl | rfl | rfl
 all_goals
  refine⟨by decide,fun r hr=>?_⟩;simp only[List.mem_cons,List.not_mem_nil,or_false] at hr;rcases hr with rfl | rfl | rfl
 all_goals exact⟨by unfold U32; decide,by decide,by decide⟩
theorem aaH:Fit bG pV:=by
 obtain⟨m,h,hf,_⟩:=ae2 vO afc;have e:m=pV:=wQ (by rw[← h,uj]);rw[← e]; exact hf
theorem vP:bW bG pV 0 = [3,-3].map fun x=>mkRat x 1:=by decide +kernel
theorem aaI:dQ bG (bJ aX bG pV) 8 = [(7,mkRat 1 1)]:=by decide +kernel
theorem aaJ:bJ (ownB 0) bG lF = [6,3,3,3,3,1,1,1].map fun x=>mkRat x 6:=by decide +kernel
theorem tq:bJ (fD 0) bG lF = [2,2,2,1,1,1,1,1].map fun x=>mkRat x 2:=by decide +kernel
theorem yg:bG.nodes.length=8:=rfl
theorem acN:∀ x∈[6,3,3,3,3,1,1,1].map (fun x:Int=>mkRat x 6),rl x≤1024:=by
 rw[← aaJ];intro x hx;have h:=iW nH (wP 0) x hx;have e:=yg;omega
theorem um:∀ x∈[2,2,2,1,1,1,1,1].map (fun x:Int=>mkRat x 2),rl x≤1024:=by
 rw[← tq];intro x hx;have h:=iW nH (oU 0) x hx;have e:=yg;omega
theorem zo:∀ x∈[3,-3].map (fun x:Int=>mkRat x 1),rl x≤1024:=by
 rw[← vP];intro x hx;have h:=aaH.xQ (i:=0) (by decide) x hx;have e:=yg;omega
theorem aaK:uM bG (bJ aX bG pV)=0:=by
 unfold uM;rw[show bG.nodes.length=8 from rfl,aaI];have:rl (mkRat 1 1)≤1024:=by unfold rl; decide +kernel
 simp; omega
theorem afd:aaG bG (bJ aX bG pV) = [(7,ay (mkRat 1 1))]:=by
 unfold aaG;rw[aaK,if_neg (by decide),show bG.nodes.length=8 from rfl,aaI];rfl
theorem agO (w:World) (F:Ag) (vg vm:Value) (hg:AX w F vg bG) (hm:AV w F vm lF) (hT:AZ w) :
  Calls Tryz.prog 13 #[vg,vm,.int .i64 0] w (Ret w fun u w'=>∃ t,u = .tuple #[t,.int .i64 0]∧BF w' (Ext F w.heap.size) t ([6,3,3,3,3,1,1,1].map fun x=>mkRat x 6)):=by
 refine(afN w F vg vm bG lF 0 hg jU hm hT (by decide) qI (by rw[mQ]; exact mV) nH (by decide) (by decide)).mono ?_;rintro e w' ⟨u,rfl,hb,t,rfl,ht⟩;rw[aaJ] at ht;rw[aaJ,kF acN];refine⟨_,rfl,hb,t,rfl,?_⟩;unfold fitsV at ht;rw[kF acN] at ht;exact ht
theorem acO (w:World) (F:Ag) (vg vm:Value) (hg:AX w F vg bG) (hm:AV w F vm lF) (hT:AZ w) :
  Calls Tryz.prog 15 #[vg,vm,.int .i64 0] w (Ret w fun u w'=>∃ t,u = .tuple #[t,.int .i64 0]∧BF w' (Ext F w.heap.size) t ([2,2,2,1,1,1,1,1].map fun x=>mkRat x 2)):=by
 refine(aaE w F vg vm bG lF 0 hg jU hm hT (by decide) qI (by rw[mQ]; exact mV) nH (by decide) (by decide)).mono ?_;rintro e w' ⟨u,rfl,hb,t,rfl,ht⟩;rw[tq] at ht;rw[tq,kF um];refine⟨_,rfl,hb,t,rfl,?_⟩;unfold fitsV at ht;rw[kF um] at ht;exact ht
theorem afe (w:World) (F:Ag) (vg vm:Value) (hg:AX w F vg bG) (hm:AV w F vm pV) (hT:AZ w) :
  Calls Tryz.prog 22 #[vg,vm] w (Ret w fun u w'=>∃ t,u = .tuple #[t,.int .i64 0]∧BF w' (Ext F w.heap.size) t ([3,-3].map fun x=>mkRat x 1)):=by
 refine(x9 w F vg vm bG pV hg jU hm hT (by decide) abP (by rw[uj]; exact vO) aaH).mono ?_;rintro e w' ⟨u,rfl,hb,t,rfl,ht⟩;rw[vP] at ht;rw[vP,kF zo];refine⟨_,rfl,hb,t,rfl,?_⟩;unfold fitsV at ht;rw[kF zo] at ht;exact ht
theorem aff (w:World) (F:Ag) (vg vm:Value) (hg:AX w F vg bG) (hm:AV w F vm pV) (hT:AZ w) :
  Calls Tryz.prog 24 #[vg,vm] w (Ret w fun u w'=>∃ t,u = .tuple #[t,.int .i64 0]∧AU w' (Ext F w.heap.size) t [(7,ay (mkRat 1 1))]):=by
 refine(abN w F vg vm bG pV hg jU hm hT (by decide) abP (by rw[uj]; exact vO) aaH).mono ?_;rintro e w' ⟨u,rfl,hb,t,rfl,ht⟩;rw[afd] at ht;rw[aaK];exact⟨_,rfl,hb,t,rfl,ht⟩
theorem ai0 (w:World) (F:Ag) (vg vm:Value) (hg:AX w F vg bG) (hm:AV w F vm lF) (hT:AZ w) :
  Calls Tryz.prog 13 #[vg,vm,.int .i64 2] w (Ret w fun u _=>u = .tuple #[.slice none 0 0,.int .i64 2]) :=
 ah1 w F vg vm bG lF 2 hg jU hm hT (by decide) qI (by rw[mQ]; exact mV) (.inr (by decide))
open List renaming getElem_toArray → lq1, getElem_cons_zero → lq2, getElem_cons_succ → lq3, setIfInBounds_toArray → lq4, set_cons_zero → lq5, set_cons_succ → lq6
theorem ajJ {w:World} {F:Ag} {b:Nat} {n:Int} {q:RV} (h:Row w b 56 [.int .i64 n,.bool q.r.neg,q.vn,q.vd]) (hF:F b) (hq:q.fine w F):AU w F (.slice (some ⟨b,0,none⟩) 1 1) [(n,q.r)]:=by
 refine⟨_,_,rfl,Nat.le_refl _,fun _=>⟨b,0,rfl,hF,h.lt,fun k x hk=>?_⟩⟩;match k,hk with
 | 0,hk=>cases hk; exact⟨h.cell (i:=0) rfl,h.cell (i:=1) rfl,⟨_,h.cell (i:=2) rfl,hq.1⟩,⟨_,h.cell (i:=3) rfl,hq.2⟩⟩
theorem yh:Ci [(7,ay (mkRat 1 1))]:=by
 refine⟨by decide,fun r hr=>?_⟩;rw[List.mem_singleton.1 hr,afP];decide
theorem agP (w:World) (hT:AZ w):Calls Tryz.prog 5 #[] w (Ret w fun v _=>v = .bool true):=by
 have HT:=Ac hT;clear hT;go_enter Tryz.func5,Tryz.ntmps5;have hB:=Below.refl w.heap.size w;go_wp2_with fail
 refine(uS w).mono ?_;rintro e wg ⟨vg,rfl,hb,hu⟩;replace HT:=Ac (HT.out.on hb);replace hB:=hB.trans (hb.mono hB.size);have HG:=Ac (hu.keep (G:=(fun _=>True)) (fun _ _ _=>trivial) (Same.refl _ _));obtain⟨vn,vi,rfl,⟨A,c,rfl,_,_⟩,⟨Ai,ci,rfl,_,_⟩⟩:=hu;clear hb;dsimp only;go_upto_region 2 with(fail)
 obtain⟨Wb,hWb,rx,hb,hz⟩:=aH wg 25 #[.int .i64 bG.au,.slice A bG.nodes.length c,.slice Ai bG.infos.length ci];rw[← hWb];clear hWb;obtain⟨gb,hgb⟩:∃ gb,gb=wg.heap.size:=⟨_,rfl⟩;rw[← hgb] at rx ⊢;replace HG:=Ac (HG.out.on (Below.same' hb _));replace HT:=Ac (HT.out.on hb);replace hB:=hB.trans (hb.mono hB.size);have x0:=rx.cell (i:=0) rfl; have x1:=rx.cell (i:=1) rfl; have x2:=rx.cell (i:=2) rfl;clear rx hb hz hgb;refine wp_region_held_drew (S:=fun w'=>w'.cell? ⟨gb,0,none⟩=some (.int .i64 bG.au)∧w'.cell? ⟨gb,1,none⟩=some (.slice A bG.nodes.length c)∧w'.cell? ⟨gb,2,none⟩=some (.slice Ai bG.infos.length ci)) (by kernel_rfl) ⟨x0,x1,x2⟩ (fun hHeld=>?_);have hb:Below Wb.heap.size Wb Wb.drew:=aG (Below.refl _ Wb) 1;replace x0:=ah x0 hb;replace x1:=ah x1 hb;replace x2:=ah x2 hb;replace HG:=Ac (HG.out.on (Below.same' hb _));replace HT:=Ac (HT.out.on hb);replace hB:=hB.trans (hb.mono hB.size);clear hb;generalize Wb.drew=wd1 at *;refine tk0 [0] ?_;(refine tk (v:=?_) rfl (by kernel_rfl) (by kernel_rfl) (by kernel_rfl) (fun _ _ _ h=>h) (Or.inl ⟨by rfl,?_⟩) hHeld ?_;rotate_left;(focus intro wx hSx;(try dsimp only at hSx);go_split_ands;go_simp;try with_reducible rfl);try simp only[Act.put,lq1,lq2,lq3,lq4,lq5,lq6])
 refine tk1 ?_;refine tk2 1 (by kernel_rfl) rfl fun K hK=>?_
 go_simp;refine(sJ wd1).mono ?_;rintro e we1 ⟨vm,rfl,hb,hu⟩;replace x0:=ah x0 hb;replace x1:=ah x1 hb;replace x2:=ah x2 hb;replace HG:=Ac (HG.out.on (Below.same' hb _));replace HT:=Ac (HT.out.on hb);replace hB:=hB.trans (hb.mono hB.size);have HM:=Ac (Az.keep (G:=(fun _=>True)) hu (fun _ _ _=>trivial) (Same.refl _ _));obtain⟨Am,cm,rfl,_,_⟩:=hu;clear hb;dsimp only;clear hHeld;refine hK.out _ _ ⟨x0,x1,x2⟩ (fun hHeld=>?_);clear hK K;try simp only[Act.put,lq1,lq2,lq3,lq4,lq5,lq6]
 refine tk2 2 (by kernel_rfl) rfl fun K hK=>?_
 go_simp;refine(agO we1 (fun _=>True) _ _ HG.out HM.out HT.out).mono ?_;rintro e wf1 ⟨u,rfl,hb,t,rfl,hu⟩;replace x0:=ah x0 hb;replace x1:=ah x1 hb;replace x2:=ah x2 hb;replace HG:=Ac (HG.out.on (Below.same' hb _));replace HT:=Ac (HT.out.on hb);replace hB:=hB.trans (hb.mono hB.size);have RO:=Ac (Ah.keep (G:=(fun _=>True)) hu (fun _ _ _=>trivial) (Same.refl _ _));obtain⟨ARO,cRO,rfl,_,_⟩:=hu;clear hb;dsimp only;clear hHeld;refine hK.out _ _ ⟨x0,x1,x2⟩ (fun hHeld=>?_);clear hK K;try simp only[Act.put,lq1,lq2,lq3,lq4,lq5,lq6]
 refine tk0 [3,4,5,6,7] ?_;iterate 5 (refine tk (v:=?_) rfl (by kernel_rfl) (by kernel_rfl) (by kernel_rfl) (fun _ _ _ h=>h) (Or.inl ⟨by rfl,?_⟩) hHeld ?_;rotate_left;(focus intro wx hSx;(try dsimp only at hSx);go_split_ands;go_simp;try with_reducible rfl);try simp only[Act.put,lq1,lq2,lq3,lq4,lq5,lq6])
 refine tk1 ?_;refine wpAnyH_done (by kernel_rfl) ?_ _;clear hHeld HM;go_wp2_with fail
 refine wp_region_held_drew (S:=fun w'=>w'.cell? ⟨gb,0,none⟩=some (.int .i64 bG.au)∧w'.cell? ⟨gb,1,none⟩=some (.slice A bG.nodes.length c)∧w'.cell? ⟨gb,2,none⟩=some (.slice Ai bG.infos.length ci)) (by kernel_rfl) ⟨x0,x1,x2⟩ (fun hHeld=>?_);have hb:Below wf1.heap.size wf1 wf1.drew:=aG (Below.refl _ wf1) 1;replace x0:=ah x0 hb;replace x1:=ah x1 hb;replace x2:=ah x2 hb;replace HG:=Ac (HG.out.on (Below.same' hb _));replace RO:=Ac (Ah.on RO.out (Below.same' hb _));replace HT:=Ac (HT.out.on hb);replace hB:=hB.trans (hb.mono hB.size);clear hb;generalize wf1.drew=wd2 at *;refine tk0 [0] ?_;(refine tk (v:=?_) rfl (by kernel_rfl) (by kernel_rfl) (by kernel_rfl) (fun _ _ _ h=>h) (Or.inl ⟨by rfl,?_⟩) hHeld ?_;rotate_left;(focus intro wx hSx;(try dsimp only at hSx);go_split_ands;go_simp;try with_reducible rfl);try simp only[Act.put,lq1,lq2,lq3,lq4,lq5,lq6])
 refine tk1 ?_;refine tk2 1 (by kernel_rfl) rfl fun K hK=>?_
 go_simp;refine(sJ wd2).mono ?_;rintro e we2 ⟨vm,rfl,hb,hu⟩;replace x0:=ah x0 hb;replace x1:=ah x1 hb;replace x2:=ah x2 hb;replace HG:=Ac (HG.out.on (Below.same' hb _));replace RO:=Ac (Ah.on RO.out (Below.same' hb _));replace HT:=Ac (HT.out.on hb);replace hB:=hB.trans (hb.mono hB.size);have HM:=Ac (Az.keep (G:=(fun _=>True)) hu (fun _ _ _=>trivial) (Same.refl _ _));obtain⟨Am,cm,rfl,_,_⟩:=hu;clear hb;dsimp only;clear hHeld;refine hK.out _ _ ⟨x0,x1,x2⟩ (fun hHeld=>?_);clear hK K;try simp only[Act.put,lq1,lq2,lq3,lq4,lq5,lq6]
 refine tk2 2 (by kernel_rfl) rfl fun K hK=>?_
 go_simp;refine(acO we2 (fun _=>True) _ _ HG.out HM.out HT.out).mono ?_;rintro e wf2 ⟨u,rfl,hb,t,rfl,hu⟩;replace x0:=ah x0 hb;replace x1:=ah x1 hb;replace x2:=ah x2 hb;replace HG:=Ac (HG.out.on (Below.same' hb _));replace RO:=Ac (Ah.on RO.out (Below.same' hb _));replace HT:=Ac (HT.out.on hb);replace hB:=hB.trans (hb.mono hB.size);have RT:=Ac (Ah.keep (G:=(fun _=>True)) hu (fun _ _ _=>trivial) (Same.refl _ _));obtain⟨ART,cRT,rfl,_,_⟩:=hu;clear hb;dsimp only;clear hHeld;refine hK.out _ _ ⟨x0,x1,x2⟩ (fun hHeld=>?_);clear hK K;try simp only[Act.put,lq1,lq2,lq3,lq4,lq5,lq6]
 refine tk0 [3,4,5,6,7] ?_;iterate 5 (refine tk (v:=?_) rfl (by kernel_rfl) (by kernel_rfl) (by kernel_rfl) (fun _ _ _ h=>h) (Or.inl ⟨by rfl,?_⟩) hHeld ?_;rotate_left;(focus intro wx hSx;(try dsimp only at hSx);go_split_ands;go_simp;try with_reducible rfl);try simp only[Act.put,lq1,lq2,lq3,lq4,lq5,lq6])
 refine tk1 ?_;refine wpAnyH_done (by kernel_rfl) ?_ _;clear hHeld HM;go_wp2_with fail
 obtain⟨wa3,hwa,hr,hb,hz'⟩:=aH wf2 3 #[.int .i64 6,.int .i64 3,.int .i64 3,.int .i64 3,.int .i64 3,.int .i64 1,.int .i64 1,.int .i64 1];rw[← hwa];have hi:=Row.nM (l:=[6,3,3,3,3,1,1,1]) (F:=fun _=>True) hr trivial;clear hwa hr hz';replace x0:=ah x0 hb;replace x1:=ah x1 hb;replace x2:=ah x2 hb;replace HG:=Ac (HG.out.on (Below.same' hb _));replace RO:=Ac (Ah.on RO.out (Below.same' hb _));replace RT:=Ac (Ah.on RT.out (Below.same' hb _));replace HT:=Ac (HT.out.on hb);replace hB:=hB.trans (hb.mono hB.size);clear hb;refine(fK wa3 _ _ [6,3,3,3,3,1,1,1] 6 hi (by decide) (by decide) (by decide) (by decide)).mono ?_;rintro e wb3 ⟨v3,rfl,hb,hu⟩;replace x0:=ah x0 hb;replace x1:=ah x1 hb;replace x2:=ah x2 hb;replace HG:=Ac (HG.out.on (Below.same' hb _));replace RO:=Ac (Ah.on RO.out (Below.same' hb _));replace RT:=Ac (Ah.on RT.out (Below.same' hb _));replace HT:=Ac (HT.out.on hb);replace hB:=hB.trans (hb.mono hB.size);have HU3:=Ac (Ah.keep (G:=(fun _=>True)) hu (fun _ _ _=>trivial) (Same.refl _ _));clear hu hb hi;dsimp only;go_wp2_with fail
 refine(lC wb3 (fun _=>True) _ _ _ _ RO.out HU3.out (jq acN (by decide)) (jq acN (by decide))).mono ?_;rintro e wc3 ⟨u,rfl,hb,rfl⟩;rw[decide_eq_true rfl];replace x0:=ah x0 hb;replace x1:=ah x1 hb;replace x2:=ah x2 hb;replace HG:=Ac (HG.out.on (Below.same' hb _));replace RO:=Ac (Ah.on RO.out (Below.same' hb _));replace RT:=Ac (Ah.on RT.out (Below.same' hb _));replace HT:=Ac (HT.out.on hb);replace hB:=hB.trans (hb.mono hB.size);clear hb HU3;dsimp only;go_wp2_with fail
 obtain⟨wa4,hwa,hr,hb,hz'⟩:=aH wc3 3 #[.int .i64 2,.int .i64 2,.int .i64 2,.int .i64 1,.int .i64 1,.int .i64 1,.int .i64 1,.int .i64 1];rw[← hwa];have hi:=Row.nM (l:=[2,2,2,1,1,1,1,1]) (F:=fun _=>True) hr trivial;clear hwa hr hz';replace x0:=ah x0 hb;replace x1:=ah x1 hb;replace x2:=ah x2 hb;replace HG:=Ac (HG.out.on (Below.same' hb _));replace RT:=Ac (Ah.on RT.out (Below.same' hb _));replace HT:=Ac (HT.out.on hb);replace hB:=hB.trans (hb.mono hB.size);clear hb;refine(fK wa4 _ _ [2,2,2,1,1,1,1,1] 2 hi (by decide) (by decide) (by decide) (by decide)).mono ?_;rintro e wb4 ⟨v4,rfl,hb,hu⟩;replace x0:=ah x0 hb;replace x1:=ah x1 hb;replace x2:=ah x2 hb;replace HG:=Ac (HG.out.on (Below.same' hb _));replace RT:=Ac (Ah.on RT.out (Below.same' hb _));replace HT:=Ac (HT.out.on hb);replace hB:=hB.trans (hb.mono hB.size);have HU4:=Ac (Ah.keep (G:=(fun _=>True)) hu (fun _ _ _=>trivial) (Same.refl _ _));clear hu hb hi;dsimp only;go_wp2_with fail
 refine(lC wb4 (fun _=>True) _ _ _ _ RT.out HU4.out (jq um (by decide)) (jq um (by decide))).mono ?_;rintro e wc4 ⟨u,rfl,hb,rfl⟩;rw[decide_eq_true rfl];replace x0:=ah x0 hb;replace x1:=ah x1 hb;replace x2:=ah x2 hb;replace HG:=Ac (HG.out.on (Below.same' hb _));replace RT:=Ac (Ah.on RT.out (Below.same' hb _));replace HT:=Ac (HT.out.on hb);replace hB:=hB.trans (hb.mono hB.size);clear hb HU4;dsimp only;go_wp2_with fail
 obtain⟨wa5,hwa,hr,hb,hz'⟩:=aH wc4 3 #[.int .i64 0,.int .i64 1];rw[← hwa];have hi:=Row.nM (l:=[0,1]) (F:=fun _=>True) hr trivial;clear hwa hr hz';replace x0:=ah x0 hb;replace x1:=ah x1 hb;replace x2:=ah x2 hb;replace HG:=Ac (HG.out.on (Below.same' hb _));replace HT:=Ac (HT.out.on hb);replace hB:=hB.trans (hb.mono hB.size);clear hb;refine(fK wa5 _ _ [0,1] 1 hi (by decide) (by decide) (by decide) (by decide)).mono ?_;rintro e wb5 ⟨v5,rfl,hb,hu⟩;replace x0:=ah x0 hb;replace x1:=ah x1 hb;replace x2:=ah x2 hb;replace HG:=Ac (HG.out.on (Below.same' hb _));replace HT:=Ac (HT.out.on hb);replace hB:=hB.trans (hb.mono hB.size);have HU5:=Ac (Ah.keep (G:=(fun _=>True)) hu (fun _ _ _=>trivial) (Same.refl _ _));clear hu hb hi;dsimp only;go_wp2_with fail
 obtain⟨wa6,hwa,hr,hb,hz'⟩:=aH wb5 3 #[.int .i64 0,.int .i64 1];rw[← hwa];have hi:=Row.nM (l:=[0,1]) (F:=fun _=>True) hr trivial;clear hwa hr hz';replace x0:=ah x0 hb;replace x1:=ah x1 hb;replace x2:=ah x2 hb;replace HG:=Ac (HG.out.on (Below.same' hb _));replace HU5:=Ac (Ah.on HU5.out (Below.same' hb _));replace HT:=Ac (HT.out.on hb);replace hB:=hB.trans (hb.mono hB.size);clear hb;refine(fK wa6 _ _ [0,1] 1 hi (by decide) (by decide) (by decide) (by decide)).mono ?_;rintro e wb6 ⟨v6,rfl,hb,hu⟩;replace x0:=ah x0 hb;replace x1:=ah x1 hb;replace x2:=ah x2 hb;replace HG:=Ac (HG.out.on (Below.same' hb _));replace HU5:=Ac (Ah.on HU5.out (Below.same' hb _));replace HT:=Ac (HT.out.on hb);replace hB:=hB.trans (hb.mono hB.size);have HU6:=Ac (Ah.keep (G:=(fun _=>True)) hu (fun _ _ _=>trivial) (Same.refl _ _));clear hu hb hi;dsimp only;go_wp2_with fail
 obtain⟨wa7,hwa,hr,hb,hz'⟩:=aH wb6 3 #[.int .i64 0,.int .i64 0,.int .i64 1];rw[← hwa];have hi:=Row.nM (l:=[0,0,1]) (F:=fun _=>True) hr trivial;clear hwa hr hz';replace x0:=ah x0 hb;replace x1:=ah x1 hb;replace x2:=ah x2 hb;replace HG:=Ac (HG.out.on (Below.same' hb _));replace HU5:=Ac (Ah.on HU5.out (Below.same' hb _));replace HU6:=Ac (Ah.on HU6.out (Below.same' hb _));replace HT:=Ac (HT.out.on hb);replace hB:=hB.trans (hb.mono hB.size);clear hb;refine(fK wa7 _ _ [0,0,1] 1 hi (by decide) (by decide) (by decide) (by decide)).mono ?_;rintro e wb7 ⟨v7,rfl,hb,hu⟩;replace x0:=ah x0 hb;replace x1:=ah x1 hb;replace x2:=ah x2 hb;replace HG:=Ac (HG.out.on (Below.same' hb _));replace HU5:=Ac (Ah.on HU5.out (Below.same' hb _));replace HU6:=Ac (Ah.on HU6.out (Below.same' hb _));replace HT:=Ac (HT.out.on hb);replace hB:=hB.trans (hb.mono hB.size);have HU7:=Ac (Ah.keep (G:=(fun _=>True)) hu (fun _ _ _=>trivial) (Same.refl _ _));clear hu hb hi;dsimp only;have c5:=HU5.out; have c6:=HU6.out; have c7:=HU7.out;obtain⟨A5,d5,rfl,_,_⟩:=c5;obtain⟨A6,d6,rfl,_,_⟩:=c6;obtain⟨A7,d7,rfl,_,_⟩:=c7;go_upto_region 6 with(fail)
 obtain⟨wp,hwp,hr,hb,hz'⟩:=aH wb7 30 #[.slice A5 2 d5,.slice A6 2 d6,.slice A7 3 d7];rw[← hwp];clear hwp;replace x0:=ah x0 hb;replace x1:=ah x1 hb;replace x2:=ah x2 hb;replace HG:=Ac (HG.out.on (Below.same' hb _));replace HU5:=Ac (Ah.on HU5.out (Below.same' hb _));replace HU6:=Ac (Ah.on HU6.out (Below.same' hb _));replace HU7:=Ac (Ah.on HU7.out (Below.same' hb _));replace HT:=Ac (HT.out.on hb);replace hB:=hB.trans (hb.mono hB.size);have HP:=Ac (show AV wp (fun _=>True) (.slice (some ⟨wb7.heap.size,0,none⟩) 3 3) pV from aja hr trivial HU5.out HU6.out HU7.out);clear hr hb hz' HU5 HU6 HU7;go_wp2_with fail
 refine(afe wp (fun _=>True) _ _ HG.out HP.out HT.out).mono ?_;rintro e wv ⟨u,rfl,hb,t,rfl,hu⟩;replace x0:=ah x0 hb;replace x1:=ah x1 hb;replace x2:=ah x2 hb;replace HG:=Ac (HG.out.on (Below.same' hb _));replace HP:=Ac (Az.on HP.out (Below.same' hb _));replace HT:=Ac (HT.out.on hb);replace hB:=hB.trans (hb.mono hB.size);have RW:=Ac (Ah.keep (G:=(fun _=>True)) hu (fun _ _ _=>trivial) (Same.refl _ _));obtain⟨ARW,cRW,rfl,_,_⟩:=hu;clear hb;dsimp only;go_wp2_with fail
 refine(aff wv (fun _=>True) _ _ HG.out HP.out HT.out).mono ?_;rintro e wl ⟨u,rfl,hb,t,rfl,hu⟩;replace x0:=ah x0 hb;replace x1:=ah x1 hb;replace x2:=ah x2 hb;replace HG:=Ac (HG.out.on (Below.same' hb _));replace HP:=Ac (Az.on HP.out (Below.same' hb _));replace RW:=Ac (Ah.on RW.out (Below.same' hb _));replace HT:=Ac (HT.out.on hb);replace hB:=hB.trans (hb.mono hB.size);have RL:=Ac (AU.keep (G:=(fun _=>True)) hu (fun _ _ _=>trivial) (Same.refl _ _));obtain⟨ARL,cRL,rfl,_,_⟩:=hu;clear hb;dsimp only;go_wp2_with fail
 refine wp_region_held_drew (S:=fun w'=>w'.cell? ⟨gb,0,none⟩=some (.int .i64 bG.au)∧w'.cell? ⟨gb,1,none⟩=some (.slice A bG.nodes.length c)∧w'.cell? ⟨gb,2,none⟩=some (.slice Ai bG.infos.length ci)) (by kernel_rfl) ⟨x0,x1,x2⟩ (fun hHeld=>?_);have hb:Below wl.heap.size wl wl.drew:=aG (Below.refl _ wl) 1;replace x0:=ah x0 hb;replace x1:=ah x1 hb;replace x2:=ah x2 hb;replace HG:=Ac (HG.out.on (Below.same' hb _));replace HP:=Ac (Az.on HP.out (Below.same' hb _));replace RW:=Ac (Ah.on RW.out (Below.same' hb _));replace RL:=Ac (AU.on RL.out (Below.same' hb _));replace HT:=Ac (HT.out.on hb);replace hB:=hB.trans (hb.mono hB.size);clear hb;generalize wl.drew=wd3 at *;refine tk0 [0] ?_;(refine tk (v:=?_) rfl (by kernel_rfl) (by kernel_rfl) (by kernel_rfl) (fun _ _ _ h=>h) (Or.inl ⟨by rfl,?_⟩) hHeld ?_;rotate_left;(focus intro wx hSx;(try dsimp only at hSx);go_split_ands;go_simp;try with_reducible rfl);try simp only[Act.put,lq1,lq2,lq3,lq4,lq5,lq6])
 refine tk1 ?_;refine tk2 1 (by kernel_rfl) rfl fun K hK=>?_
 go_simp;refine(sJ wd3).mono ?_;rintro e we3 ⟨vm,rfl,hb,hu⟩;replace x0:=ah x0 hb;replace x1:=ah x1 hb;replace x2:=ah x2 hb;replace HG:=Ac (HG.out.on (Below.same' hb _));replace HP:=Ac (Az.on HP.out (Below.same' hb _));replace RW:=Ac (Ah.on RW.out (Below.same' hb _));replace RL:=Ac (AU.on RL.out (Below.same' hb _));replace HT:=Ac (HT.out.on hb);replace hB:=hB.trans (hb.mono hB.size);have HM:=Ac (Az.keep (G:=(fun _=>True)) hu (fun _ _ _=>trivial) (Same.refl _ _));obtain⟨Am,cm,rfl,_,_⟩:=hu;clear hb;dsimp only;clear hHeld;refine hK.out _ _ ⟨x0,x1,x2⟩ (fun hHeld=>?_);clear hK K;try simp only[Act.put,lq1,lq2,lq3,lq4,lq5,lq6]
 refine tk2 2 (by kernel_rfl) rfl fun K hK=>?_
 go_simp;refine(ai0 we3 (fun _=>True) _ _ HG.out HM.out HT.out).mono ?_;rintro e wf3 ⟨u,rfl,hb,rfl⟩;replace x0:=ah x0 hb;replace x1:=ah x1 hb;replace x2:=ah x2 hb;replace HG:=Ac (HG.out.on (Below.same' hb _));replace HP:=Ac (Az.on HP.out (Below.same' hb _));replace RW:=Ac (Ah.on RW.out (Below.same' hb _));replace RL:=Ac (AU.on RL.out (Below.same' hb _));replace HT:=Ac (HT.out.on hb);replace hB:=hB.trans (hb.mono hB.size);clear hb;dsimp only;clear hHeld;refine hK.out _ _ ⟨x0,x1,x2⟩ (fun hHeld=>?_);clear hK K;try simp only[Act.put,lq1,lq2,lq3,lq4,lq5,lq6]
 refine tk0 [3,4,5,6,7] ?_;iterate 5 (refine tk (v:=?_) rfl (by kernel_rfl) (by kernel_rfl) (by kernel_rfl) (fun _ _ _ h=>h) (Or.inl ⟨by rfl,?_⟩) hHeld ?_;rotate_left;(focus intro wx hSx;(try dsimp only at hSx);go_split_ands;go_simp;try with_reducible rfl);try simp only[Act.put,lq1,lq2,lq3,lq4,lq5,lq6])
 refine tk1 ?_;refine wpAnyH_done (by kernel_rfl) ?_ _;clear hHeld HM;go_wp2_with fail
 refine(adZ wf3 HT.out).mono ?_;rintro e wk ⟨u,rfl,hb,rfl⟩;replace x0:=ah x0 hb;replace x1:=ah x1 hb;replace x2:=ah x2 hb;replace HG:=Ac (HG.out.on (Below.same' hb _));replace HP:=Ac (Az.on HP.out (Below.same' hb _));replace RW:=Ac (Ah.on RW.out (Below.same' hb _));replace RL:=Ac (AU.on RL.out (Below.same' hb _));replace HT:=Ac (HT.out.on hb);replace hB:=hB.trans (hb.mono hB.size);clear hb;dsimp only;go_wp2_with fail
 obtain⟨wa8,hwa,hr,hb,hz'⟩:=aH wk 3 #[.int .i64 3,.int .i64 (-3)];rw[← hwa];have hi:=Row.nM (l:=[3,-3]) (F:=fun _=>True) hr trivial;clear hwa hr hz';replace x0:=ah x0 hb;replace x1:=ah x1 hb;replace x2:=ah x2 hb;replace HG:=Ac (HG.out.on (Below.same' hb _));replace HP:=Ac (Az.on HP.out (Below.same' hb _));replace RW:=Ac (Ah.on RW.out (Below.same' hb _));replace RL:=Ac (AU.on RL.out (Below.same' hb _));replace HT:=Ac (HT.out.on hb);replace hB:=hB.trans (hb.mono hB.size);clear hb;refine(fK wa8 _ _ [3,-3] 1 hi (by decide) (by decide) (by decide) (by decide)).mono ?_;rintro e wb8 ⟨v8,rfl,hb,hu⟩;replace x0:=ah x0 hb;replace x1:=ah x1 hb;replace x2:=ah x2 hb;replace HG:=Ac (HG.out.on (Below.same' hb _));replace HP:=Ac (Az.on HP.out (Below.same' hb _));replace RW:=Ac (Ah.on RW.out (Below.same' hb _));replace RL:=Ac (AU.on RL.out (Below.same' hb _));replace HT:=Ac (HT.out.on hb);replace hB:=hB.trans (hb.mono hB.size);have HU8:=Ac (Ah.keep (G:=(fun _=>True)) hu (fun _ _ _=>trivial) (Same.refl _ _));clear hu hb hi;dsimp only;go_wp2_with fail
 refine(lC wb8 (fun _=>True) _ _ _ _ RW.out HU8.out (jq zo (by decide)) (jq zo (by decide))).mono ?_;rintro e wc8 ⟨u,rfl,hb,rfl⟩;rw[decide_eq_true rfl];replace x0:=ah x0 hb;replace x1:=ah x1 hb;replace x2:=ah x2 hb;replace HG:=Ac (HG.out.on (Below.same' hb _));replace HP:=Ac (Az.on HP.out (Below.same' hb _));replace RW:=Ac (Ah.on RW.out (Below.same' hb _));replace RL:=Ac (AU.on RL.out (Below.same' hb _));replace HT:=Ac (HT.out.on hb);replace hB:=hB.trans (hb.mono hB.size);clear hb HU8;dsimp only;go_wp2_with fail
 refine(gX wc8 1 1 (by decide) (by decide) (by decide) (by decide)).mono ?_;rintro e wr1 ⟨vr,rfl,hb,hu⟩;replace x0:=ah x0 hb;replace x1:=ah x1 hb;replace x2:=ah x2 hb;replace HG:=Ac (HG.out.on (Below.same' hb _));replace HP:=Ac (Az.on HP.out (Below.same' hb _));replace RL:=Ac (AU.on RL.out (Below.same' hb _));replace HT:=Ac (HT.out.on hb);replace hB:=hB.trans (hb.mono hB.size);obtain⟨q,hq,rfl,hqf⟩:=AL.rv hu;have HQ:=Ac (RV.fine.keep hqf (G:=(fun _=>True)) (fun _ _ _=>trivial) (Same.refl _ _));have HQR:=Ac hq;obtain⟨qr,qn,qd⟩:=q;have h1:=hqf.1; have h2:=hqf.2;dsimp only at h1 h2 hq;obtain⟨An,cn,rfl,_,_⟩:=h1;obtain⟨Ad,cd,rfl,_,_⟩:=h2;clear hqf hu hq;clear hb;dsimp only;dsimp only[RV.cells];go_wp2_with fail
 obtain⟨ws,hws,hr,hb,hz'⟩:=aH wr1 56 #[.int .i64 7,.bool qr.neg,.slice An qr.num.length cn,.slice Ad qr.den.length cd];rw[← hws];clear hws;replace x0:=ah x0 hb;replace x1:=ah x1 hb;replace x2:=ah x2 hb;replace HG:=Ac (HG.out.on (Below.same' hb _));replace HP:=Ac (Az.on HP.out (Below.same' hb _));replace RL:=Ac (AU.on RL.out (Below.same' hb _));replace HT:=Ac (HT.out.on hb);replace hB:=hB.trans (hb.mono hB.size);have HLN:=Ac (show AU ws (fun _=>True) (.slice (some ⟨wr1.heap.size,0,none⟩) 1 1) [(7,ay (mkRat 1 1))] from by have h:=ajJ (q:=⟨qr,.slice An qr.num.length cn,.slice Ad qr.den.length cd⟩) hr (F:=fun _=>True) trivial (RV.fine.below HQ.out hb); rw[← HQR.out]; exact h);clear hr hb hz' HQ HQR;refine(aa0 ws (fun _=>True) _ _ _ _ RL.out HLN.out yh yh).mono ?_;rintro e wz ⟨u,rfl,hb,rfl⟩;rw[decide_eq_true rfl];replace hB:=hB.trans (hb.mono hB.size);clear hb;dsimp only;go_wp2; go_ret
 exact⟨_,rfl,hB,rfl⟩
end Go.Proofs.YtkcheepafifjaaaGreatDoor
