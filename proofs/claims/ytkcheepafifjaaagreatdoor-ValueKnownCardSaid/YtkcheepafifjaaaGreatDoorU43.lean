/- parlourkit.OwnRat, OwnVec, OwnLists: copies in new memory. -/
import Derived.Test.YtkcheepafifjaaaGreatDoorU30
import Derived.Test.YtkcheepafifjaaaGreatDoorU23
set_option linter.all false
set_option maxRecDepth 100000
set_option maxHeartbeats 12800000
namespace Go.Proofs.YtkcheepafifjaaaGreatDoor
open Lib renaming hid → Ac
open List renaming getElem_toArray → lq1, getElem_cons_zero → lq2, getElem_cons_succ → lq3, setIfInBounds_toArray → lq4, set_cons_zero → lq5, set_cons_succ → lq6
open Go.RowKit
def Fact.empty:Fact:=⟨fun v _=>∃ b,v = .slice (some ⟨b,0,none⟩) 0 0,fun _ _ _ h _=>h⟩
theorem aeb (w:World) (F:Ag) (v:Value) (r:Raw) (hv:Az w F v r) (l1:r.num.length≤500000) (l2:r.den.length≤500000) :
  Calls Tryz.prog 93 #[v] w (Ret w fun u w'=>Az w' (fun b=>w.heap.size≤b) u r):=by
 have hv0:=hv.old;clear hv;obtain⟨vn,vd,rfl,hn,hd⟩:=hv0;have HN:=Ac hn; have HD:=Ac hd;obtain⟨A,c,rfl,_,_⟩:=hn;obtain⟨B,d,rfl,_,_⟩:=hd;go_enter Tryz.func93,Tryz.ntmps93;go_wp2_with fail
 obtain⟨W,hW,rx,rz,hB,hz⟩:=alloc2 w 53 #[.bool r.neg,.slice A r.num.length c,.slice B r.den.length d] 53 #[.bool false,.slice none 0 0,.slice none 0 0];rw[← hW];clear hW;replace HN:=Ac (HN.out.below hB); replace HD:=Ac (HD.out.below hB);have hz:w.heap.size+2≤W.heap.size:=hz;have x0:=rx.cell (i:=0) rfl;have x1:=rx.cell (i:=1) rfl;have x2:=rx.cell (i:=2) rfl;clear rx;refine bC (fun w'=>w'.cell? ⟨w.heap.size,0,none⟩=some (.bool r.neg)∧w'.cell? ⟨w.heap.size,1,none⟩=some (.slice A r.num.length c)∧w'.cell? ⟨w.heap.size,2,none⟩=some (.slice B r.den.length d)) 11 1 (by kernel_rfl) rfl (by kernel_rfl) ?_;have hHeld:(fun w':World=>w'.cell? ⟨w.heap.size,0,none⟩=some (.bool r.neg)∧w'.cell? ⟨w.heap.size,1,none⟩=some (.slice A r.num.length c)∧w'.cell? ⟨w.heap.size,2,none⟩=some (.slice B r.den.length d)) W.drew:=⟨x0,x1,x2⟩;simp only[List.take_succ_cons,List.take_zero];have hb:Below W.heap.size W W.drew:=aC (Below.refl _ W) 1;replace x0:=ah x0 hb;replace x1:=ah x1 hb;replace x2:=ah x2 hb;replace HN:=Ac (HN.out.below hb);replace HD:=Ac (HD.out.below hb);replace rz:=rz.below hb rz.lt;replace hz:=Nat.le_trans hz hb.size;replace hB:=hB.trans (hb.mono hB.size);clear hb;generalize W.drew=wn at *;refine tk0 [0,1,3,4,7,8] ?_;iterate 6 (refine tk (v:=?_) rfl (by kernel_rfl) (by kernel_rfl) (by kernel_rfl) (fun _ _ _ h=>h) (Or.inl ⟨by rfl,?_⟩) hHeld ?_;rotate_left;(focus intro wx hSx;(try dsimp only at hSx);go_split_ands;go_simp;try with_reducible rfl);try simp only[Act.put,lq1,lq2,lq3,lq4,lq5,lq6])
 refine tk1 ?_;refine kG (js:=[2,5,6,9,10]) ((Hold.cell (w.heap.size) 0 (.bool r.neg)).and ((Hold.cell (w.heap.size) 1 (.slice A r.num.length c)).and ((Hold.cell (w.heap.size) 2 (.slice B r.den.length d)).and ((Hold.of (Fact.limbs (Old F w.heap.size) r.num) (.slice A r.num.length c)).and ((Hold.of (Fact.limbs (Old F w.heap.size) r.den) (.slice B r.den.length d)).and (Hold.below (w.heap.size+2) wn)))))) [(2,Fact.empty),(5,Fact.limbs (fun b=>w.heap.size+2≤b) r.num),(6,Fact.empty),(9,Fact.limbs (fun b=>w.heap.size+2≤b) r.den),(10,Fact.raw (fun b=>w.heap.size+2≤b) r)] (by kernel_rfl) ⟨x0,x1,x2,HN.out,HD.out,⟨hz,(Below.refl _ _).mono (Nat.le_refl _)⟩⟩ (fun _ h=>⟨h.1,h.2.1,h.2.2.1⟩) ?_;refine Flow.cons (o:=_) rfl (fun wk hS hf K hK=>?_) (fun v2=>?_)
 ·go_simp;exact hK.out _ _ ((Below.refl _ _).alloc (Nat.le_refl _) _) ⟨_,rfl⟩
 try simp only[Act.put,lq1,lq2,lq3,lq4,lq5,lq6]
 refine Flow.cons (o:=_) rfl (fun wk hS hf K hK=>?_) (fun v5=>?_)
 ·have f2:=cO (f:=Fact.empty) (hf (2,v2) (by simp) (by kernel_rfl)) rfl;obtain⟨b2,rfl⟩:=f2;refine adt rfl ?_;refine mX (F:=Old F w.heap.size) _ _ 51 Tryz.underlying51 rfl (some ⟨b2,0,none⟩) (fun _ h=>by cases h; exact⟨_,rfl⟩) _ r.num rfl rfl hS.2.2.2.1 (by omega) ?_;intro u w' hb hi;exact hK.out _ _ hb (Ak.keep hi.limbs (fun b h _=>Nat.le_trans hS.2.2.2.2.2.1 h) (Same.refl _ _))
 try simp only[Act.put,lq1,lq2,lq3,lq4,lq5,lq6]
 refine Flow.cons (o:=_) rfl (fun wk hS hf K hK=>?_) (fun v6=>?_)
 ·go_simp;exact hK.out _ _ ((Below.refl _ _).alloc (Nat.le_refl _) _) ⟨_,rfl⟩
 try simp only[Act.put,lq1,lq2,lq3,lq4,lq5,lq6]
 refine Flow.cons (o:=_) rfl (fun wk hS hf K hK=>?_) (fun v9=>?_)
 ·have f6:=cO (f:=Fact.empty) (hf (6,v6) (by simp) (by kernel_rfl)) rfl;obtain⟨b6,rfl⟩:=f6;refine adt rfl ?_;refine mX (F:=Old F w.heap.size) _ _ 51 Tryz.underlying51 rfl (some ⟨b6,0,none⟩) (fun _ h=>by cases h; exact⟨_,rfl⟩) _ r.den rfl rfl hS.2.2.2.2.1 (by omega) ?_;intro u w' hb hi;exact hK.out _ _ hb (Ak.keep hi.limbs (fun b h _=>Nat.le_trans hS.2.2.2.2.2.1 h) (Same.refl _ _))
 try simp only[Act.put,lq1,lq2,lq3,lq4,lq5,lq6]
 refine Flow.cons (o:=_) rfl (fun wk hS hf K hK=>?_) (fun v10=>?_)
 ·have f5:=cO (f:=Fact.limbs (fun b=>w.heap.size+2≤b) r.num) (hf (5,v5) (by simp) (by kernel_rfl)) rfl;have f9:=cO (f:=Fact.limbs (fun b=>w.heap.size+2≤b) r.den) (hf (9,v9) (by simp) (by kernel_rfl)) rfl;have g4:=f5; have g5:=f9;obtain⟨A4,c4,rfl,_,_⟩:=g4;obtain⟨A5,c5,rfl,_,_⟩:=g5;go_simp;exact hK.out _ _ (Below.refl _ _) (Az.make rfl f5 f9)
 try simp only[Act.put,lq1,lq2,lq3,lq4,lq5,lq6]
 refine Flow.nil (fun wE hS hf=>?_);have f10:=cO (f:=Fact.raw (fun b=>w.heap.size+2≤b) r) (hf (10,v10) (by simp)) rfl;have hBe:=hS.2.2.2.2.2.2;have f11:=f10;obtain⟨vn6,vd6,hv6,hn6,hd6⟩:=f11;obtain⟨A6,c6,rfl,_,_⟩:=hn6;obtain⟨B6,d6,rfl,_,_⟩:=hd6;dsimp only at hv6;subst hv6;have hrz:=rz.of_block (hBe.block _ (by omega));have hBE:Below w.heap.size w wE:=hB.trans (hBe.mono (by omega));have HF:=Ac f10; clear hf hS f10 x0 x1 x2 rz;show wpList _ _ _ _ _ _;have q0:=hrz.cell (i:=0) rfl;have y0:=hrz.frozen 0;have q1:=hrz.cell (i:=1) rfl;have y1:=hrz.frozen 1;have q2:=hrz.cell (i:=2) rfl;have y2:=hrz.frozen 2;go_wp2
 show Exit.then _ _ .normal _ _;go_wp2
 obtain⟨Wz,hWz,hrz,hwz,hkz⟩:=aW hrz (.bool r.neg) (.slice A6 r.num.length c6) (.slice B6 r.den.length d6);rw[← hWz];clear hWz q0 q1 q2 y0 y1 y2;have t0:=hrz.cell (i:=0) rfl;have t1:=hrz.cell (i:=1) rfl;have t2:=hrz.cell (i:=2) rfl;refine bodyPost_ret (v:=.agg #[.bool r.neg,.slice A6 r.num.length c6,.slice B6 r.den.length d6]) (by simp[results,Tryz.results93,go_sem,t0,t1,t2]) rfl ?_;exact⟨_,rfl,hwz _ _ (by omega) hBE,Az.keep HF.out (fun b hb _=>Nat.le_trans (Nat.le_add_right _ 2) hb) (hkz _ (fun h=>by omega))⟩
theorem aec (w:World) (F:Ag) (v:Value) (l:List Raw) (hv:Aj w F v l) (hs:Bj l) :
  Calls Tryz.prog 56 #[v] w (Ret w fun v w'=>Aj w' (fun b=>w.heap.size≤b) v l):=by
 have HV:=Ac hv; have HS:=Ac hs;have hl:=hs.1;obtain⟨A,c,rfl,hc,_⟩:=hv;clear hs;go_enter Tryz.func56,Tryz.ntmps56;go_wp2
 go_loopw [3,4] (fun u i wr=>∃ (k:Nat) (L:List RV),k≤l.length∧i = .int .i64 (k:Int)∧L.length=k∧L.map RV.r=l.take k∧Ba wr w.heap.size 53 (fun b=>w.heap.size≤b) u L∧Below w.heap.size w wr) (fun _ i _=>l.length - (intOf i).toNat)
 case atStart=>exact⟨0,[],by omega,rfl,rfl,rfl,Ba.nil _ _ _ _,Below.refl _ _⟩
 case round =>
  obtain⟨k,L,hk,rfl,hLl,hLr,hown,hbel⟩:=hrel;have HO:=Ac hown; have HL:=Ac hLr;have HLL:=Ac hLl;clear hown hLr hLl;by_cases hlt:k < l.length
  ·obtain⟨x,hxk⟩:=ay hlt;obtain⟨bb,o,cc,vn,vd,e1,hF1,hlt1,x0,x1,x2,i1,i2⟩:=Aj.at HV.out hxk;injection e1 with e11 e12 e13
   subst e11;clear e12 e13;have V1:=Ac ((show Az w F _ x from⟨vn,vd,rfl,i1,i2⟩).below hbel);obtain⟨An,cn,rfl,_,_⟩:=i1;obtain⟨Ad,cd,rfl,_,_⟩:=i2;have L1:=Ac (HS.out.2 x (List.mem_of_getElem? hxk));have HXK:=Ac hxk;have hold:=aI hbel;clear hxk;have hz:=hbel.size;go_wp2_with fail
   refine(aeb wr F _ x V1.out L1.out.1 L1.out.2).mono ?_;rintro e w2 ⟨vm,rfl,hb2,hu⟩;obtain⟨q,hq,rfl,hqf⟩:=Az.rv hu;have iP:=hbel.trans (hb2.mono hbel.size);have HO2:=Ac (HO.out.below hb2);have HF:=Ac (show q.fine w2 (Apart (fun b=>w.heap.size≤b) u3) from hqf.keep (fun b hb _=>⟨by omega,fun e=>by have:=(HO.out.row.lt b e).2; omega⟩) (Same.refl _ _));have HQ:=Ac hq;clear hqf hu hq hb2 hold hbel x0 x1 x2;dsimp only[RV.cells];go_wp2_with (at_builtin; refine qI (F:=fun b=>w.heap.size≤b) rfl _ _ 91 53 Tryz.underlying91 Tryz.infoRat rfl w.heap.size (Nat.le_refl _) u3 L rfl q (by have:=HLL.out; omega) rfl HO2.out HF.out iP ?_; intro g cap w' hown' aZ hlt'; have HO':=Ac hown')
   go_roundw
   case rel=>exact⟨k+1,L ++ [q],by omega,by go_num,by rw[List.length_append,HLL.out]; rfl,by rw[List.map_append,HL.out,take_snoc HXK.out,List.map_cons,List.map_nil,HQ.out],HO'.out,aZ⟩
   case measure=>simp[intOf]; omega
  ·go_wp2
   go_ret;refine⟨_,rfl,hbel,?_⟩;have h5:=HO.out.tN (G:=fun b=>w.heap.size≤b) (fun b hb=>hb) (fun b hb=>hb);rw[HL.out,List.take_of_length_le (by omega)] at h5;exact h5
theorem Tryz.infoRats:(Tryz.prog.info? 30).map (fun i=>(i.zero,i.size,i.bytes))=some (some (.slice none 0 0),wR.n,24):=by kernel_rfl
theorem abD (w:World) (F:Ag) (v:Value) (l:List (List Raw)) (hv:Ae w F v l) (hs:Bl l) :
  Calls Tryz.prog 19 #[v] w (Ret w fun v w'=>Ae w' (fun b=>w.heap.size≤b) v l):=by
 have HV:=Ac hv; have HS:=Ac hs;have hl:=hs.1;obtain⟨A,c,rfl,hc,_⟩:=hv;clear hs;go_enter Tryz.func19,Tryz.ntmps19;go_wp2
 go_loopw [3,4] (fun u i wr=>∃ (k:Nat) (L:List (Value×List Raw)),k≤l.length∧i = .int .i64 (k:Int)∧L.length=k∧L.map Prod.snd=l.take k∧AY wR wr w.heap.size 30 (fun b=>w.heap.size≤b) u L∧Below w.heap.size w wr) (fun _ i _=>l.length - (intOf i).toNat)
 case atStart=>exact⟨0,[],by omega,rfl,rfl,rfl,AY.nil _ _ _ _ _,Below.refl _ _⟩
 case round =>
  obtain⟨k,L,hk,rfl,hLl,hLr,hown,hbel⟩:=hrel;have HO:=Ac hown; have HL:=Ac hLr;have HLL:=Ac hLl;clear hown hLr hLl;by_cases hlt:k < l.length
  ·obtain⟨x,hxk⟩:=ay hlt;obtain⟨bb,o,cc,vx,e1,hF1,hlt1,x0,i1⟩:=Ae.at HV.out hxk;injection e1 with e11 e12 e13
   subst e11;clear e12 e13;have V1:=Ac (Aj.on i1 (Below.same' hbel F));obtain⟨An,cn,rfl,_,_⟩:=i1;have L1:=Ac (HS.out.2 x (List.mem_of_getElem? hxk));have HXK:=Ac hxk;have hold:=aI hbel;clear hxk;have hz:=hbel.size;go_wp2_with fail
   refine(aec wr F _ x V1.out L1.out).mono ?_;rintro e w2 ⟨vm,rfl,hb2,hu⟩;have iP:=hbel.trans (hb2.mono hbel.size);have HO2:=Ac (HO.out.below hb2);have HF:=Ac (show wR.fine w2 (Apart (fun b=>w.heap.size≤b) u3) (vm,x) from Aj.keep hu (fun b hb _=>⟨by omega,fun e=>by have:=(HO.out.row.lt b e).2; omega⟩) (Same.refl _ _));obtain⟨Am,cm,rfl,_,_⟩:=hu;clear hb2 hold hbel x0;dsimp only;go_wp2_with (at_builtin; refine pF (K:=wR) (F:=fun b=>w.heap.size≤b) rfl _ _ 26 30 24 _ Tryz.underlying26 Tryz.infoRats rfl (by decide) rfl w.heap.size (Nat.le_refl _) u3 L rfl (.slice Am x.length cm,x) _ rfl (by have:=HLL.out; omega) rfl HO2.out HF.out iP ?_; intro g cap w' hown' aZ hlt' _; have HO':=Ac hown')
   go_roundw
   case rel=>exact⟨k+1,L ++ [(.slice Am x.length cm,x)],by omega,by go_num,by rw[List.length_append,HLL.out]; rfl,by rw[List.map_append,HL.out,take_snoc HXK.out,List.map_cons,List.map_nil],HO'.out,aZ⟩
   case measure=>simp[intOf]; omega
  ·go_wp2
   go_ret;refine⟨_,rfl,hbel,?_⟩;have h5:=HO.out.rows (G:=fun b=>w.heap.size≤b) (fun b hb=>hb) (fun b hb=>hb);rw[HL.out,List.take_of_length_le (by omega)] at h5;exact h5
end Go.Proofs.YtkcheepafifjaaaGreatDoor
