/- value.Lines. -/
import Derived.Test.YtkcheepafifjaaaGreatDoorU39
import Derived.Test.YtkcheepafifjaaaGreatDoorU43
set_option linter.all false
set_option maxRecDepth 100000
set_option maxHeartbeats 12800000
namespace Go.Proofs.YtkcheepafifjaaaGreatDoor
open Lib renaming hid → Ac
open Go.RowKit
def qc (g:Gm) (rs:List Rat) (k:Nat):Bool:=match g.nodes[k]?,rs[k]? with
 | some n,some r=>(n.kind==3) && !(decide (r=0))
 | _,_=>false
def fM (g:Gm) (rs:List Rat):Nat→List (Int×Rat)
 | 0=>[]
 | k+1=>fM g rs k++(if qc g rs k then [((k:Int),rs.getD k 0)] else [])
def afN (l:List (Int×Rat)):List (Int×Raw):=l.map fun x=>(x.1,au x.2)
def zG (g:Gm) (rs:List Rat):Int:=if (fM g rs g.nodes.length).any (fun x=>decide (1024 < rl x.2)) then 5 else 0
def xH (g:Gm) (rs:List Rat):List (Int×Raw):=if zG g rs≠0 then [] else afN (fM g rs g.nodes.length)
theorem lM {g:Gm} {rs:List Rat} {k:Nat} (h:qc g rs k=false):fM g rs (k+1)=fM g rs k:=by
 rw[fM,h]; simp
theorem kY {g:Gm} {rs:List Rat} {k:Nat} {r:Rat} (hr:rs[k]? = some r) (h:qc g rs k=true):fM g rs (k+1)=fM g rs k ++ [((k:Int),r)]:=by
 rw[fM,h,List.getD_eq_getElem?_getD,hr]; rfl
theorem acX {g:Gm} {rs:List Rat} {x:Int×Rat} {k:Nat} (h:x∈fM g rs k):∀ j,k≤j→x∈fM g rs j:=by
 intro j hj;induction j with
 | zero =>
  have:k=0:=by omega
  subst this; exact h
 | succ j ih =>
  by_cases e:k=j+1
  ·subst e; exact h
  ·rw[fM]; exact List.mem_append_left _ (ih (by omega))
theorem acY {g:Gm} {rs:List Rat} {k:Nat} {r:Rat} (hk:k < g.nodes.length) (hr:rs[k]? = some r) (h:qc g rs k=true) (ho:eU r=5):zG g rs=5:=by
 have hlt:1024 < rl r:=by
  unfold eU at ho; split at ho
  ·assumption
  ·simp at ho
 unfold zG;rw[if_pos (List.any_eq_true.2 ⟨((k:Int),r),acX (k:=k+1) (by rw[kY hr h]; simp) _ hk,decide_eq_true hlt⟩)]
theorem aaT {g:Gm} {rs:List Rat} {k:Nat} (h:(fM g rs k).any (fun x=>decide (1024 < rl x.2))=false) (hk:g.nodes.length=k):zG g rs=0:=by
 unfold zG;rw[hk,h]; rfl
theorem aeE {g:Gm} {rs:List Rat} {k:Nat} {n:Nd} (hn:g.nodes[k]? = some n) (h:n.kind≠3):qc g rs k=false:=by
 unfold qc;rw[hn];cases rs[k]? with
 | none=>rfl
 | some r=>simp[h]
theorem aaU {g:Gm} {rs:List Rat} {k:Nat} (h:rs[k]? = some 0):qc g rs k=false:=by
 unfold qc;cases g.nodes[k]? with
 | none=>rfl
 | some n=>rw[h]; simp
theorem acZ {g:Gm} {rs:List Rat} {k:Nat} {n:Nd} {r:Rat} (hn:g.nodes[k]? = some n) (hr:rs[k]? = some r) (h:n.kind=3) (h0:r≠0):qc g rs k=true:=by
 unfold qc;rw[hn,hr]; simp[h,h0]
theorem ac0 {l:List (Int×Rat)} {x:Int×Rat} (h:l.any (fun x=>decide (1024 < rl x.2))=false) (hx:¬ 1024 < rl x.2):(l ++ [x]).any (fun x=>decide (1024 < rl x.2))=false:=by
 rw[List.any_append,h]; simp[hx]
def BM (F:Ag) (B:Nat) (e:Int) (l:List (Int×Raw)) (u:Value) (w':World):Prop:=∃ t,u = .tuple #[t,.int .i64 e]∧AL w' (Ext F B) t l
theorem Tryz.infoLine:(Tryz.prog.info? 56).map (fun i=>(i.zero,i.size,i.bytes))=some (some (.agg #[.int .i64 0,.bool false,.slice none 0 0,.slice none 0 0]),pG.n,64):=by kernel_rfl
theorem afO (w:World) (F:Ag) (vg vm:Value) (g:Gm) (m:List (List Rat)) (hg:AA w F vg g) (hsm:Small g) (hm:AP w F vm m) (hT:AZ w) (hlm:m.length≤100000) (hb:AO (m.map (List.map au))) (h0:bF g (m.map (List.map au))=0) (hf:Fit g m) :
  Calls Tryz.prog 24 #[vg,vm] w (Ret w (BM F w.heap.size (zG g (kM dB g m)) (xH g (kM dB g m)))):=by
 have HG:=Ac hg; have HM:=Ac hm; have HS:=Ac hsm; have HT:=Ac hT; have HBB:=Ac hb; have HE0:=Ac h0;have hn100:=hsm.nodes;obtain⟨vn,vi,rfl,⟨A,c,rfl,hc,hN⟩,⟨Ai,ci,rfl,hci,_⟩⟩:=hg;have HFT:=Ac hf;have hpos:0 < g.nodes.length:=hf.good.pos;obtain⟨b,q,rfl,hFb,hbl,hcell⟩:=hN hpos;have HC:=Ac hcell;clear hm hsm hT hb hf h0 hN hcell;have HRL:=Ac (mG (cnt:=dB) HFT.out iW);obtain⟨rs,hrs⟩:∃ rs,rs=kM dB g m:=⟨_,rfl⟩;have HRS:=Ac hrs;rw[← hrs] at HRL ⊢;have hvl:g.nodes.length≤rs.length:=by rw[hrs]; simp
 have aiI:rs.length≤g.nodes.length:=by rw[hrs]; simp
 clear hrs;go_enter Tryz.func24,Tryz.ntmps24;go_wp2_with fail
 obtain⟨W,hW,rx,hB,hz⟩:=aB w 25 #[.int .i64 g.ak,.slice (some ⟨b,q,none⟩) g.nodes.length c,.slice Ai g.infos.length ci];rw[← hW];clear hW;have hz2:=hB.size;replace HG:=Ac (HG.out.on (Below.same' hB F)); replace HM:=Ac (Ae.below HM.out hB); replace HT:=Ac (HT.out.on hB);have x0:=rx.cell (i:=0) rfl; have x1:=rx.cell (i:=1) rfl; have x2:=rx.cell (i:=2) rfl;clear rx;go_wp2_with fail
 refine(uZ W F _ _ g m HG.out HS.out HM.out HT.out hlm HBB.out HE0.out).mono ?_;rintro e w1 ⟨u,rfl,hb1,bp,up,place,vn',vi',vu',vp',rfl,hpl',zD⟩;replace x1:=ah x1 hb1;have hB1:=hB.trans (hb1.mono hB.size);have hz3:=hb1.size;have HP:=Ac hpl'; have Df:=Ac zD;clear hpl' zD hb1 hB x0 x2;dsimp only;go_wp2_with fail
 refine(aaP w1 (Ext F W.heap.size) bp g m up place vn' vi' vu' vp' _ 49 #[] dB HP.out Df.out HFT.out ⟨enters' Tryz.func49 (by kernel_rfl) (by kernel_rfl),fun W' n v _ hv _=>oL W' _ v n hv⟩ iW hn100 hlm).mono ?_;rintro e w2 ⟨u,rfl,hb2,⟨b2,rfl⟩,hu⟩;rw[show(List.range g.nodes.length).map (dA dB g.nodes m)=rs from HRS.out.symm] at hu;replace x1:=ah x1 hb2;have hB2:=hB1.trans (hb2.mono hB1.size);have hz4:=hb2.size;have HU:=Ac hu;clear hu hb2 hB1;dsimp only;go_wp2_with fail
 go_loopw [8,25] (fun acc i wr=>∃ (k:Nat) (L:List (Int×RV)),k≤g.nodes.length∧i = .int .i64 (k:Int)∧L.length≤k∧L.map (fun q=>(q.1,q.2.r))=afN (fM g rs k)∧(fM g rs k).any (fun x=>decide (1024 < rl x.2))=false∧AY pG wr w2.heap.size 56 (fun b=>w2.heap.size≤b) acc L∧Below w2.heap.size w2 wr) (fun _ i _=>g.nodes.length - (intOf i).toNat)
 case atStart=>exact⟨0,[],by omega,rfl,Nat.le_refl _,rfl,rfl,AY.nil _ _ _ _ _,Below.refl _ _⟩
 case round =>
  obtain⟨k,L,hk,rfl,hLl,hLr,hany,hown,hbel⟩:=hrel;have HO:=Ac hown; have HL:=Ac hLr; have HA:=Ac hany;clear hown hLr hany;by_cases hlt:k < g.nodes.length
  ·obtain⟨r,hr⟩:=ay (l:=rs) (k:=k) (by omega);obtain⟨n,hni⟩:=ay hlt;obtain⟨bb,o,cc,vn3,vd3,e1,hF1,hlt1,r0,r1,r2,i1,i2⟩:=Aj.at (r:=aj r) HU.out (by rw[List.getElem?_map,hr]; rfl);injection e1 with e11 e12 e13
   injection e11 with e11
   injection e11 with e14 e15
   subst e14 e15;clear e12 e13;rw[Nat.zero_add] at r0 r1 r2;have hfin:(⟨aj r,vn3,vd3⟩:RV).fine wr (Ext (Ext F W.heap.size) w1.heap.size):=RV.fine.keep ⟨i1,i2⟩ (fun _ h _=>h) (Below.same' hbel _);obtain⟨An,cn,rfl,_,_⟩:=i1;obtain⟨Ad,cd,rfl,_,_⟩:=i2;have hne:=HC.out k n hni;have n0:=hne.c0; have n1:=hne.c1; have n2:=hne.c2;obtain⟨v3,n3,h3⟩:=hne.c3;obtain⟨v4,n4,h4⟩:=hne.c4;obtain⟨v5,n5,h5⟩:=hne.c5;have hB3:=hB2.trans (hbel.mono hB2.size);have HNV:=Ac ((show AX w F _ n from⟨v3,v4,v5,rfl,h3,h4,h5⟩).on (Below.same' hB3 F));obtain⟨A3,c3,rfl,_,_⟩:=h3;obtain⟨A4,c4,rfl,_,_⟩:=h4;obtain⟨A5,c5,rfl,_,_⟩:=h5;replace n0:=ah n0 hB3;replace n1:=ah n1 hB3;replace n2:=ah n2 hB3;replace n3:=ah n3 hB3;replace n4:=ah n4 hB3;replace n5:=ah n5 hB3;have y1:=ah x1 hbel;replace r0:=ah r0 hbel; replace r1:=ah r1 hbel; replace r2:=ah r2 hbel;have hR:=HRL.out r (List.mem_of_getElem? hr);have HK:=Ac hr; have HX:=Ac hni;have hz:=hbel.size;have HF3:=Ac hfin;clear hr hni hne hfin x1;go_upto_region 8 with(fail)
   obtain⟨W3,hW3,rb,hb3,hz5⟩:=aB wr 97 #[.bool (aj r).neg,.slice An (aj r).num.length cn,.slice Ad (aj r).den.length cd];rw[← hW3];clear hW3 r0 r1 r2;have jc:=hbel.trans (hb3.mono hbel.size);replace HNV:=Ac (HNV.out.on (Below.same' hb3 F));replace HF3:=Ac (HF3.out.below hb3);replace HO:=Ac (HO.out.below hb3);replace n0:=ah n0 hb3;replace n1:=ah n1 hb3;replace n2:=ah n2 hb3;replace n3:=ah n3 hb3;replace n4:=ah n4 hb3;replace n5:=ah n5 hb3;replace y1:=ah y1 hb3;have r0:=rb.cell (i:=0) rfl; have r1:=rb.cell (i:=1) rfl; have r2:=rb.cell (i:=2) rfl;clear rb hbel hB3 hb3;by_cases hk3:n.kind=3
   case neg =>
    have HI:=Ac (show dB n=true by unfold dB; simpa using hk3);have HKP:=Ac (lM (rs:=rs) (aeE HX.out hk3));clear hk3;go_wp2_with fail
    refine(oL W3 F _ n HNV.out).mono ?_;rintro e w4 ⟨u,rfl,hb4,rfl⟩;rw[HI.out];replace HO:=Ac (HO.out.below hb4);replace jc:=jc.trans (hb4.mono jc.size);clear hb4 r0 r1 r2 y1 n0 n1 n2 n3 n4 n5 HNV HF3 HI;dsimp only;go_wp2_with fail
    go_roundw
    case rel=>exact⟨k+1,L,by omega,by go_num,by omega,by rw[HKP.out]; exact HL.out,by rw[HKP.out]; exact HA.out,HO.out,jc⟩
    case measure=>simp[intOf]; omega
   have HI:=Ac (show dB n=false by unfold dB; simp[hk3]);have HK3:=Ac hk3;clear hk3;go_wp2_with fail
   refine(oL W3 F _ n HNV.out).mono ?_;rintro e w4 ⟨u,rfl,hb4,rfl⟩;rw[HI.out];replace HO:=Ac (HO.out.below hb4);replace HF3:=Ac (HF3.out.below hb4);replace r0:=ah r0 hb4; replace r1:=ah r1 hb4; replace r2:=ah r2 hb4;replace jc:=jc.trans (hb4.mono jc.size);clear hb4 y1 n0 n1 n2 n3 n4 n5 HNV HI;dsimp only;go_wp2_with fail
   refine(fV w4 _ _ r (Az.make (r:=aj r) rfl HF3.out.1 HF3.out.2)).mono ?_;rintro e w5 ⟨u,rfl,hb5,rfl⟩;replace HO:=Ac (HO.out.below hb5);replace HF3:=Ac (HF3.out.below hb5);replace r0:=ah r0 hb5; replace r1:=ah r1 hb5; replace r2:=ah r2 hb5;replace jc:=jc.trans (hb5.mono jc.size);clear hb5;by_cases hr0:r=0
   case pos =>
    have HKP:=Ac (lM (g:=g) (rs:=rs) (k:=k) (aaU (by rw[← hr0]; exact HK.out)));rw[decide_eq_true hr0];clear r0 r1 r2 HF3 hr0;dsimp only;go_wp2_with fail
    go_roundw
    case rel=>exact⟨k+1,L,by omega,by go_num,by omega,by rw[HKP.out]; exact HL.out,by rw[HKP.out]; exact HA.out,HO.out,jc⟩
    case measure=>simp[intOf]; omega
   rw[decide_eq_false hr0];have HKB:=Ac (acZ HX.out HK.out HK3.out hr0);obtain⟨oe,hoe⟩:∃ oe,oe=eU r:=⟨_,rfl⟩;have hcs:oe=0∨oe=5:=by rw[hoe]; exact xW
   have HOE:=Ac hoe;obtain⟨ro,hro⟩:∃ ro,ro=bD r:=⟨_,rfl⟩;have HRO:=Ac hro;clear hoe hro hr0;dsimp only;go_wp2_with fail
   refine(acH w5 _ _ r (Az.make (r:=aj r) rfl HF3.out.1 HF3.out.2) (by omega)).mono ?_;rintro e w6 ⟨u,rfl,hb6,t,rfl,ht⟩;rw[← HOE.out];rw[← HRO.out] at ht;have hz6:=jc.size;have HUB:=Ac HO.out.row.lt;replace HO:=Ac (HO.out.below hb6);have ag5:=jc.trans (hb6.mono jc.size);have ht2:=Az.mono (G:=Apart (fun b=>w2.heap.size≤b) u8) ht (fun b hb _=>⟨by omega,fun e=>by have:=(HUB.out b e).2; omega⟩);obtain⟨vn6,vd6,rfl,f1,f2⟩:=ht2;have HQ:=Ac (show pG.fine w6 (Apart (fun b=>w2.heap.size≤b) u8) ((k:Int),⟨ro,vn6,vd6⟩) from⟨f1,f2⟩);obtain⟨A6,c6,rfl,_,_⟩:=f1;obtain⟨A7,c7,rfl,_,_⟩:=f2;clear ht r0 r1 r2 HF3 jc hb6;dsimp only;go_upto_region 10 with(fail)
   obtain⟨W7,hW7,rb,hb7,hz7⟩:=aB w6 53 #[.bool ro.neg,.slice A6 ro.num.length c6,.slice A7 ro.den.length c7];rw[← hW7];clear hW7;have ahZ:=ag5.trans (hb7.mono ag5.size);replace HO:=Ac (HO.out.below hb7);replace HQ:=Ac (pG.keep HQ.out (fun _ h _=>h) (Below.same' hb7 _));have r0:=rb.cell (i:=0) rfl; have r1:=rb.cell (i:=1) rfl; have r2:=rb.cell (i:=2) rfl;clear rb ag5 hb7;rcases hcs with rfl | rfl
   ·have hno:¬ 1024 < rl r:=fun h=>by have:=HOE.out; unfold eU at this; rw[if_pos h] at this; simp at this
    have HRE:=Ac (show ro=au r by rw[HRO.out]; unfold bD; rw[if_neg hno]);have HNO:=Ac hno;clear hno;go_wp2_with (at_builtin; refine pF (K:=pG) (F:=fun b=>w2.heap.size≤b) rfl _ _ 41 56 64 _ Tryz.underlying41 Tryz.infoLine rfl (by decide) rfl w2.heap.size (Nat.le_refl _) u8 L rfl ((k:Int),⟨ro,.slice A6 ro.num.length c6,.slice A7 ro.den.length c7⟩) _ rfl (by omega) rfl HO.out HQ.out ahZ ?_; intro g' cap w' hown' aZ hlt' _; have HO':=Ac hown')
    go_roundw
    case rel =>
     refine⟨k+1,L ++ [((k:Int),⟨ro,.slice A6 ro.num.length c6,.slice A7 ro.den.length c7⟩)],by omega,by go_num,by rw[List.length_append]; simp; omega,?_,?_,HO'.out,aZ⟩
     ·rw[kY HK.out HKB.out,List.map_append,HL.out];unfold afN;rw[List.map_append,List.map_cons,List.map_nil,List.map_cons,List.map_nil,HRE.out]
     ·rw[kY HK.out HKB.out];exact ac0 HA.out HNO.out
    case measure=>simp[intOf]; omega
   ·have HEV:=Ac (acY hlt HK.out HKB.out HOE.out.symm);clear HOE HRO r0 r1 r2;go_wp2
    go_ret2;refine⟨_,rfl,hB2.trans (ahZ.mono (by omega)),_,by rw[HEV.out]; rfl,?_⟩;unfold xH;rw[HEV.out,if_pos (by decide)];exact AL.nil _ _
  ·have HEV:=Ac (aaT HA.out (by omega));go_wp2
   go_ret2;refine⟨_,rfl,hB2.trans (hbel.mono (by omega)),_,by rw[HEV.out]; rfl,?_⟩;unfold xH;rw[HEV.out,if_neg (by decide)];have h5:=HO.out.lines (G:=Ext F w.heap.size) (fun b hb=>.inr (by omega)) (fun b hb=>.inr (by omega));rw[HL.out,show k=g.nodes.length by omega] at h5;exact h5
theorem aed (w:World) (F:Ag) (vg vm:Value) (g:Gm) (m:List (List Raw)) (hg:AA w F vg g) (hsm:Small g) (hm:Ae w F vm m) (hT:AZ w) (hlm:m.length≤100000) (hb:AO m) (h0:bF g m≠0) :
  Calls Tryz.prog 24 #[vg,vm] w (Ret w fun u _=>u = .tuple #[.slice none 0 0,.int .i64 (bF g m)]):=by
 have HG:=Ac hg; have HM:=Ac hm; have HS:=Ac hsm; have HT:=Ac hT; have HBB:=Ac hb; have HE0:=Ac h0;have hn100:=hsm.nodes;obtain⟨vn,vi,rfl,⟨A,c,rfl,hc,hN⟩,⟨Ai,ci,rfl,hci,_⟩⟩:=hg;clear hm hsm hT hb hN;obtain⟨fe,hfe⟩:∃ fe,fe=bF g m:=⟨_,rfl⟩;have HFE:=Ac hfe;rw[← hfe] at h0 ⊢;clear hfe;have t0:decide (fe=0)=false:=decide_eq_false h0;go_enter Tryz.func24,Tryz.ntmps24;go_wp2_with fail
 obtain⟨W,hW,rx,hB,hz⟩:=aB w 25 #[.int .i64 g.ak,.slice A g.nodes.length c,.slice Ai g.infos.length ci];rw[← hW];clear hW;have hz2:=hB.size;replace HG:=Ac (HG.out.on (Below.same' hB F)); replace HM:=Ac (Ae.below HM.out hB); replace HT:=Ac (HT.out.on hB);have x0:=rx.cell (i:=0) rfl; have x1:=rx.cell (i:=1) rfl; have x2:=rx.cell (i:=2) rfl;clear rx;go_wp2_with fail
 refine(rO W F _ _ g m HG.out HS.out HM.out HT.out hlm HBB.out HE0.out).mono ?_;rintro e w1 ⟨u,rfl,hb1,rfl⟩;rw[← HFE.out];have hB1:=hB.trans (hb1.mono hB.size);clear hb1 hB;dsimp only;go_wp2; go_ret2
 exact⟨_,rfl,hB1,rfl⟩
theorem zH (xs:List Rat):jR xs=0∨jR xs=5:=by unfold jR; split <;> simp
def zI (l:List (List Rat)):Int:=if l.any (fun r=>decide (jR r≠0)) then 5 else 0
def qW (l:List (List Rat)):List (List Raw):=if zI l≠0 then [] else l.map (List.map au)
def Cb (F:Ag) (B:Nat) (e:Int) (l:List (List Raw)) (u:Value) (w':World):Prop:=∃ t,u = .tuple #[t,.int .i64 e]∧Ae w' (Ext F B) t l
theorem aaV {l:List (List Rat)} {k:Nat} (h:(l.take k).any (fun r=>decide (jR r≠0))=false) (hk:l.length≤k):zI l=0:=by
 unfold zI;rw[List.take_of_length_le hk] at h;rw[h]; rfl
theorem ac1 {l:List (List Rat)} {k:Nat} {r:List Rat} (hk:l[k]? = some r) (h:jR r=5):zI l=5:=by
 unfold zI;rw[if_pos (List.any_eq_true.2 ⟨r,List.mem_of_getElem? hk,decide_eq_true (by rw[h]; decide)⟩)]
theorem afP (w:World) (F:Ag) (vg vm:Value) (g:Gm) (m:List (List Rat)) (hg:AA w F vg g) (hsm:Small g) (hm:AP w F vm m) (hT:AZ w) (hlm:m.length≤100000) (hb:AO (m.map (List.map au))) (h0:bF g (m.map (List.map au))=0) (hf:Fit g m) :
  Calls Tryz.prog 20 #[vg,vm] w (Ret w (Cb F w.heap.size (zI (vC g m)) (qW (vC g m)))):=by
 have HG:=Ac hg; have HM:=Ac hm; have HS:=Ac hsm; have HT:=Ac hT; have HBB:=Ac hb; have HE0:=Ac h0;have hn100:=hsm.nodes;obtain⟨vn,vi,rfl,⟨A,c,rfl,hc,_⟩,⟨Ai,ci,rfl,hci,_⟩⟩:=hg;clear hm hsm hT hb;have HFT:=Ac hf; clear hf h0;have hpos:0 < g.nodes.length:=HFT.out.good.pos;obtain⟨vs,hvs⟩:∃ vs,vs=vC g m:=⟨_,rfl⟩;have HRL:=Ac (qV HFT.out);have HVS:=Ac hvs;rw[← hvs] at HRL ⊢;have hvl:g.nodes.length≤vs.length:=by rw[hvs]; simp
 have aiI:vs.length≤g.nodes.length:=by rw[hvs]; simp
 clear hvs;go_enter Tryz.func20,Tryz.ntmps20;go_wp2_with fail
 obtain⟨W,hW,rx,hB,hz⟩:=aB w 25 #[.int .i64 g.ak,.slice A g.nodes.length c,.slice Ai g.infos.length ci];rw[← hW];clear hW;have hz2:=hB.size;replace HG:=Ac (HG.out.on (Below.same' hB F)); replace HM:=Ac (Ae.below HM.out hB); replace HT:=Ac (HT.out.on hB);have x0:=rx.cell (i:=0) rfl; have x1:=rx.cell (i:=1) rfl; have x2:=rx.cell (i:=2) rfl;clear rx;go_wp2_with fail
 refine(uZ W F _ _ g m HG.out HS.out HM.out HT.out hlm HBB.out HE0.out).mono ?_;rintro e w1 ⟨u,rfl,hb1,bp,up,place,vn',vi',vu',vp',rfl,hpl',zD⟩;have hB1:=hB.trans (hb1.mono hB.size);have hz3:=hb1.size;have HP:=Ac hpl'; have Df:=Ac zD;clear hpl' zD hb1 hB x0 x1 x2;dsimp only;go_wp2_with fail
 refine(zo w1 (Ext F W.heap.size) bp g m up place vn' vi' vu' vp' _ HP.out Df.out HFT.out hn100 hlm).mono ?_;rintro e w2 ⟨u,rfl,hb2,⟨b2,rfl⟩,hu⟩;rw[show(List.range g.nodes.length).map (bT g m)=vs from HVS.out.symm] at hu;have hB2:=hB1.trans (hb2.mono hB1.size);have hz4:=hb2.size;have HU:=Ac hu;clear hu hb2 hB1;dsimp only;go_wp2_with fail
 go_loopw [8,25] (fun acc i wr=>∃ (k:Nat) (L:List (Value×List Raw)),k≤g.nodes.length∧i = .int .i64 (k:Int)∧L.length=k∧L.map Prod.snd=(vs.take k).map (List.map au)∧(vs.take k).any (fun r=>decide (jR r≠0))=false∧AY wR wr w2.heap.size 30 (fun b=>w2.heap.size≤b) acc L∧Below w2.heap.size w2 wr) (fun _ i _=>g.nodes.length - (intOf i).toNat)
 case atStart=>exact⟨0,[],by omega,rfl,rfl,rfl,rfl,AY.nil _ _ _ _ _,Below.refl _ _⟩
 case round =>
  obtain⟨k,L,hk,rfl,hLl,hLr,hany,hown,hbel⟩:=hrel;have HO:=Ac hown; have HL:=Ac hLr; have HLL:=Ac hLl; have HA:=Ac hany;clear hown hLr hLl hany;by_cases hlt:k < g.nodes.length
  ·obtain⟨r,hr⟩:=ay (l:=vs) (k:=k) (by omega);obtain⟨b,o,cc,vx,e1,hF1,hlt1,x0,i1⟩:=Ae.at (l:=r.map aj) HU.out (by rw[List.getElem?_map,hr]; rfl);injection e1 with e11 e12 e13
   injection e11 with e11
   injection e11 with e14 e15
   subst e14 e15;clear e12 e13;have V1:=Ac (Aj.on i1 (Below.same' hbel (Ext (Ext F W.heap.size) w1.heap.size)));obtain⟨An,cn,rfl,_,_⟩:=i1;rw[List.length_map] at x0 V1;rw[Nat.zero_add] at x0;have hR:=HRL.out r (List.mem_of_getElem? hr);have hR1:=hR.1;have HR2:=Ac hR.2;have HK:=Ac hr;have hold:=aI hbel;clear hr hR;have hz:=hbel.size;obtain⟨oe,hoe⟩:∃ oe,oe=jR r:=⟨_,rfl⟩;have hcs:oe=0∨oe=5:=by rw[hoe]; exact zH r
   have HOE:=Ac hoe;clear hoe;obtain⟨rr,hrr⟩:∃ rr,rr=fitsV r:=⟨_,rfl⟩;have HRR:=Ac hrr;clear hrr;go_wp2_with fail
   refine(y5 wr _ _ r V1.out (by omega) (fun x hx=>by have:=HR2.out x hx; omega)).mono ?_;rintro e w3 ⟨u,rfl,hb3,t,rfl,ht⟩;rw[← HRR.out] at ht;rw[← HOE.out];have jc:=hbel.trans (hb3.mono hbel.size);have HO3:=Ac (HO.out.below hb3);rcases hcs with rfl | rfl
   ·have HRE:=Ac (show rr=r.map au by rw[HRR.out]; unfold fitsV; rw[← HOE.out,if_neg (by decide)]);have HF:=Ac (show wR.fine w3 (Apart (fun b=>w2.heap.size≤b) u8) (t,rr) from Aj.keep ht (fun b hb _=>⟨by omega,fun e=>by have:=(HO.out.row.lt b e).2; omega⟩) (Same.refl _ _));obtain⟨Am,cm,rfl,_,_⟩:=ht;clear hb3 hold hbel x0;dsimp only;go_wp2_with (at_builtin; refine pF (K:=wR) (F:=fun b=>w2.heap.size≤b) rfl _ _ 26 30 24 _ Tryz.underlying26 Tryz.infoRats rfl (by decide) rfl w2.heap.size (Nat.le_refl _) u8 L rfl (.slice Am rr.length cm,rr) _ rfl (by have:=HLL.out; omega) rfl HO3.out HF.out jc ?_; intro g' cap w' hown' aZ hlt' _; have HO':=Ac hown')
    go_roundw
    case rel =>
     refine⟨k+1,L ++ [(.slice Am rr.length cm,rr)],by omega,by go_num,by rw[List.length_append,HLL.out]; rfl,?_,?_,HO'.out,aZ⟩
     ·rw[List.map_append,HL.out,take_snoc HK.out,List.map_append,List.map_cons,List.map_nil,HRE.out]; rfl
     ·exact iO HK.out HA.out (by rw[← HOE.out]; rfl)
    case measure=>simp[intOf]; omega
   ·have HEV:=Ac (ac1 HK.out HOE.out.symm);clear ht HOE HRR;dsimp only;go_wp2
    go_ret2;refine⟨_,rfl,hB2.trans (jc.mono (by omega)),_,by rw[HEV.out]; rfl,?_⟩;unfold qW;rw[HEV.out,if_pos (by decide)];exact Ae.nil _ _
  ·have HEV:=Ac (aaV HA.out (by omega));go_wp2
   go_ret2;refine⟨_,rfl,hB2.trans (hbel.mono (by omega)),_,by rw[HEV.out]; rfl,?_⟩;unfold qW;rw[HEV.out,if_neg (by decide)];have h5:=HO.out.rows (G:=Ext F w.heap.size) (fun b hb=>.inr (by omega)) (fun b hb=>.inr (by omega));rw[HL.out,List.take_of_length_le (by omega)] at h5;exact h5
theorem aee (w:World) (F:Ag) (vg vm:Value) (g:Gm) (m:List (List Raw)) (hg:AA w F vg g) (hsm:Small g) (hm:Ae w F vm m) (hT:AZ w) (hlm:m.length≤100000) (hb:AO m) (h0:bF g m≠0) :
  Calls Tryz.prog 20 #[vg,vm] w (Ret w fun u _=>u = .tuple #[.slice none 0 0,.int .i64 (bF g m)]):=by
 have HG:=Ac hg; have HM:=Ac hm; have HS:=Ac hsm; have HT:=Ac hT; have HBB:=Ac hb; have HE0:=Ac h0;have hn100:=hsm.nodes;obtain⟨vn,vi,rfl,⟨A,c,rfl,hc,_⟩,⟨Ai,ci,rfl,hci,_⟩⟩:=hg;clear hm hsm hT hb;obtain⟨fe,hfe⟩:∃ fe,fe=bF g m:=⟨_,rfl⟩;have HFE:=Ac hfe;rw[← hfe] at h0 ⊢;clear hfe;have t0:decide (fe=0)=false:=decide_eq_false h0;go_enter Tryz.func20,Tryz.ntmps20;go_wp2_with fail
 obtain⟨W,hW,rx,hB,hz⟩:=aB w 25 #[.int .i64 g.ak,.slice A g.nodes.length c,.slice Ai g.infos.length ci];rw[← hW];clear hW;have hz2:=hB.size;replace HG:=Ac (HG.out.on (Below.same' hB F)); replace HM:=Ac (Ae.below HM.out hB); replace HT:=Ac (HT.out.on hB);have x0:=rx.cell (i:=0) rfl; have x1:=rx.cell (i:=1) rfl; have x2:=rx.cell (i:=2) rfl;clear rx;go_wp2_with fail
 refine(rO W F _ _ g m HG.out HS.out HM.out HT.out hlm HBB.out HE0.out).mono ?_;rintro e w1 ⟨u,rfl,hb1,rfl⟩;rw[← HFE.out];have hB1:=hB.trans (hb1.mono hB.size);clear hb1 hB;dsimp only;go_wp2; go_ret2
 exact⟨_,rfl,hB1,rfl⟩
end Go.Proofs.YtkcheepafifjaaaGreatDoor
