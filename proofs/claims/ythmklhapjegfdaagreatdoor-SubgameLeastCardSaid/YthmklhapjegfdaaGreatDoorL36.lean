/- parlourref17.ValuesOf. -/
import Derived.Test.YthmklhapjegfdaaGreatDoorL35
import Derived.Test.YthmklhapjegfdaaGreatDoorL26
import Derived.Deep.Cut
set_option linter.all false
set_option maxRecDepth 100000
set_option maxHeartbeats 12800000
namespace Go.Proofs.YthmklhapjegfdaaGreatDoor
open Lib renaming hid → Aa
open Go.RowKit
theorem gB {w:World} {b o:Nat} {v:Value} (h:w.cell? ⟨b,o,none⟩=some v) (ob:Obj):(w.alloc ob).cell? ⟨b,o,none⟩=some v:=ah h ((Below.refl _ _).alloc (Nat.le_refl _) _)
open List renaming getElem_toArray → lq1, getElem_cons_zero → lq2, getElem_cons_succ → lq3, setIfInBounds_toArray → lq4, set_cons_zero → lq5, set_cons_succ → lq6
theorem mO (C:MC) (s:MS):∀ k,(fC C k s).1.length=k
 | 0=>rfl
 | k+1=>by unfold fC; simp[mO C s k]
theorem aaI (C:MC) (s:MS):∀ k,∀ x∈(fC C k s).1,-3≤x∧x≤3
 | 0=>fun x h=>by cases h
 | k+1=>fun x h=>by
  have e:(fC C (k+1) s).1=(fC C k s).1 ++ [((fC C k s).2.draw C 7).1 - 3]:=rfl;rw[e] at h;rcases List.mem_append.1 h with h | h
  ·exact aaI C s k x h
  ·rw[List.mem_singleton.1 h];have:=iL C.L (fC C k s).2.at' (n:=7) (by decide);have e2:((fC C k s).2.draw C 7).1=dP C.L (fC C k s).2.at' 7:=rfl;omega
theorem Ak.fz {α:Type} {K:Knd α} {w:World} {base:Nat} {et:TypeId} {F:Ac} {g n cap:Nat} {L:List α} (h:Ak K w base et F (.slice (some ⟨g,0,none⟩) n cap) L) (i:Nat):w.frozen? ⟨g,i,none⟩=false:=by
 rcases h.row.2 with⟨h',_⟩ | ⟨g',cap',cur,h',hb,hg,_⟩
 ·simp at h'
 ·simp only[Value.slice.injEq,Option.some.injEq,Addr.mk.injEq,and_true,true_and] at h';obtain⟨rfl,_,rfl⟩:=h';simp[World.frozen?,hg]
theorem Ak.bP {α:Type} {K:Knd α} {w:World} {base:Nat} {et:TypeId} {F:Ac} {g cap:Nat} {L:List α} (h:Ak K w base et F (.slice (some ⟨g,0,none⟩) L.length cap) L) {i:Nat} (hi:i < L.length) (j:Nat) (hj:j < K.n):∃ v,w.cell? ⟨g,i*K.n+j,none⟩=some v:=by
 rcases h.at with⟨h',_⟩ | ⟨g',cap',h',_,_,_,_,hx⟩
 ·simp at h'
 ·simp only[Value.slice.injEq,Option.some.injEq,Addr.mk.injEq,and_true,true_and] at h';obtain⟨rfl,rfl⟩:=h';obtain⟨q,hq⟩:=au hi;obtain⟨u,hu⟩:=au (l:=K.cells q) (k:=j) (by rw[K.len]; exact hj);have:=hx i q hq j u hu;rw[Nat.zero_add] at this;exact⟨u,this⟩
theorem Ak.setInt {w:World} {base:Nat} {et:TypeId} {F:Ac} {g cap:Nat} {L:List Int} (h:Ak nP w base et F (.slice (some ⟨g,0,none⟩) L.length cap) L) (i:Nat) (z:Int):Ak nP (w.setCell ⟨g,i,none⟩ (.int .i64 z)) base et F (.slice (some ⟨g,0,none⟩) L.length cap) (L.set i z):=by
 refine⟨?_,fun _ _=>trivial⟩;have hm:∀ l:List Int,l.flatMap nP.cells=l.map (Value.int .i64):=fun l=>by
  induction l with
  | nil=>rfl
  | cons a l ih=>rw[List.flatMap_cons,List.map_cons,ih]; rfl
 have hr:=(h.row.stored i (.int .i64 z)).1;rw[List.length_set,hm,List.map_set,← hm];exact hr
theorem aaJ {C:MC} {M:ML} {Fd:Ac} {vv vn vi:Value} {Lv:List VV} {Ln:List NV} {s:MS} {W:World} (h:MAt C M Fd vv vn vi Lv Ln s W) (i:Nat) (hi:i < Ln.length) (hp1:1≤C.aj) (hp4:C.aj≤4) :
  Calls Tryz.prog 145 #[.pointer (some ⟨M.mb,0,none⟩),.int .i64 (i:Int)] W fun e w'=>e = .returned (.tuple #[])∧∃ q,q.n=⟨3,0,0,[],[],kQ C (fC C C.aj.toNat s).1⟩ ∧
   MAt C M (fun b=>Fd b∨(W.heap.size≤b∧b < w'.heap.size)) vv vn vi Lv (Ln.set i q) (l7 C i s) w'∧Wrote (Mut M.mb M.db vv vn vi) W w':=by
 have HM:=Aa h;clear h;go_enter Tryz.func145,Tryz.ntmps145;go_upto_region 1 with(fail)
 obtain⟨W1,hW1,rx,hB1,hz1⟩:=aJ W 61 #[.int .i64 3,.int .i64 0,.int .i64 0,.slice none 0 0,.slice none 0 0,.slice none 0 0];rw[← hW1];obtain⟨xb,hxb⟩:∃ xb,xb=W.heap.size:=⟨_,rfl⟩;rw[← hxb] at rx ⊢;have hxl:xb < W1.heap.size:=by omega
 have hx1:W.heap.size≤xb:=by omega
 have HW:=Aa (Below.wrote hB1 (Mut M.mb M.db vv vn vi));have HM1:=Aa (HM.out.below hB1);clear hW1 hB1 hz1 hxb;go_wp2_with fail
 go_loopw [5] (fun iv wr=>∃ (k:Nat) (u:Value),k≤C.aj.toNat∧iv = .int .i64 (k:Int)∧Ak nP wr W1.heap.size 3 (fun _=>True) u (fC C k s).1∧Row wr xb 61 [.int .i64 3,.int .i64 0,.int .i64 0,.slice none 0 0,.slice none 0 0,u]∧MAt C M Fd vv vn vi Lv Ln (fC C k s).2 wr∧Wrote (Mut M.mb M.db vv vn vi) W wr∧W1.heap.size≤wr.heap.size) (fun iv _=>C.aj.toNat - (intOf iv).toNat)
 case atStart=>exact⟨0,_,by omega,rfl,Ak.nil _ _ _ _ _,rx,HM1.out,HW.out,Nat.le_refl _⟩
 case round =>
  clear rx HM1 HW;obtain⟨k,u,hk,rfl,hown,rx,hm,hw,k6⟩:=hrel;have HO:=Aa hown; have HW:=Aa hw; have HM1:=Aa hm;have m7:=hm.box.cell (i:=7) rfl;clear hown hw hm;by_cases hkt:k < C.aj.toNat
  ·have t0:decide ((k:Int) < C.aj)=true:=decide_eq_true (by omega);have m0:=HM1.out.box.cell (i:=0) rfl;have x5:=rx.cell (i:=5) rfl;obtain⟨ps,hps⟩:∃ ps,ps=(fC C k s).2:=⟨_,rfl⟩;obtain⟨pl,hpl⟩:∃ pl,pl=(fC C k s).1:=⟨_,rfl⟩;have hpk:fC C (k+1) s=(pl ++ [(ps.draw C 7).1 - 3],(ps.draw C 7).2):=by rw[fC,hps,hpl]
   have HPK:=Aa hpk;have afg:pl.length=k:=by rw[hpl]; exact mO C s k
   rw[← hps] at HM1;rw[← hpl] at HO;have hd:=iL C.L ps.at' (n:=7) (by decide);obtain⟨dv,hdv⟩:∃ dv,dv=(ps.draw C 7).1:=⟨_,rfl⟩;have HDV:=Aa hdv;have hdb:0≤dv∧dv < 7:=by rw[hdv]; exact hd
   have hwd:IntKind.i64.wrap (dv - 3)=dv - 3:=IntWalk.i64_in _ (by omega);rw[← hdv] at HPK;clear hpk hps hpl hd hdv;go_wp2_with fail
   clear m7;refine bK (fun w'=>w'.cell? ⟨M.mb,0,none⟩=some (.pointer (some ⟨M.db,0,none⟩))∧w'.cell? ⟨xb,5,none⟩=some (u)) 10 2 (by kernel_rfl) rfl (by kernel_rfl) ?_;have hHeld:(fun w':World=>w'.cell? ⟨M.mb,0,none⟩=some (.pointer (some ⟨M.db,0,none⟩))∧w'.cell? ⟨xb,5,none⟩=some (u)) wr.drew:=⟨m0,x5⟩;simp only[List.take_succ_cons,List.take_zero];have hb:Below wr.heap.size wr wr.drew:=aG (Below.refl _ wr) 1;replace m0:=ah m0 hb;replace x5:=ah x5 hb;replace HM1:=Aa (HM1.out.below hb); replace HO:=Aa (HO.out.below hb); replace rx:=rx.below hb rx.lt;replace HW:=Aa (HW.out.trans (Below.wrote hb _)); replace k6:=Nat.le_trans k6 hb.size;clear hb;generalize wr.drew=wn at *;refine tk0 [0,1,2,3,4,5] ?_;iterate 6 (refine tk (v:=?_) rfl (by kernel_rfl) (by kernel_rfl) (by kernel_rfl) (fun _ _ _ h=>h) (Or.inl ⟨by rfl,?_⟩) hHeld ?_;rotate_left;(focus intro wx hSx;(try dsimp only at hSx);go_split_ands;go_simp;try with_reducible rfl);try simp only[Act.put,lq1,lq2,lq3,lq4,lq5,lq6])
   refine tk1 ?_;refine tk2 6 (by kernel_rfl) rfl fun K hK=>?_
   go_simp;refine(adT HM1.out 7 (by decide) (by decide)).mono ?_;rintro e wm ⟨rfl,hm2,hw2⟩;rw[← HDV.out];have hdbx:M.db≠xb:=by have:=HM.out.dr.lt; omega
   replace m0:=bZ m0 hw2 HM1.out.bW.2.2; replace x5:=bZ x5 hw2 hdbx.symm;have HUB:=Aa HO.out.row.lt; have hdl:=HM.out.dr.lt;replace HO:=Aa (show Ak nP wm W1.heap.size 3 (fun _=>True) u pl from⟨(Ak.wrote (F:=fun _=>False) (K:=nP) ⟨HO.out.row,fun _ _=>trivial⟩ hw2 fun b hb=>hb.elim (fun h=>h.elim) fun hb e=>by have:=(HUB.out b hb).1; omega).row,fun _ _=>trivial⟩);replace rx:=rx.wrote hw2 hdbx.symm;replace HW:=Aa (HW.out.step hw2 fun i _ e=>.inr (.inl e)); replace k6:=Nat.le_trans k6 hw2.size;replace HM1:=Aa hm2;clear hw2 hm2 hHeld HUB;refine hK.out _ _ ⟨m0,x5⟩ (fun hHeld=>?_);clear hK K;try simp only[Act.put,lq1,lq2,lq3,lq4,lq5,lq6]
   refine tk0 [7] ?_;(refine tk (v:=?_) rfl (by kernel_rfl) (by kernel_rfl) (by kernel_rfl) (fun _ _ _ h=>h) (Or.inl ⟨by rfl,?_⟩) hHeld ?_;rotate_left;(focus intro wx hSx;(try dsimp only at hSx);go_split_ands;go_simp;try with_reducible rfl);try simp only[Act.put,lq1,lq2,lq3,lq4,lq5,lq6])
   refine tk1 ?_;refine tk2 8 (by kernel_rfl) rfl fun K hK=>?_
   go_simp;refine hK.out _ _ ⟨gB m0 _,gB x5 _⟩ (fun hHeld=>?_);clear hK K;try simp only[Act.put,lq1,lq2,lq3,lq4,lq5,lq6]
   refine tk2 9 (by kernel_rfl) rfl fun K hK=>?_
   refine kF (K:=nP) (F:=fun _=>True) (W:=wm) rfl _ _ 26 3 8 _ Tryz.underlying26 Tryz.infoIntK rfl (by decide) rfl W1.heap.size k6 u pl rfl (dv - 3) _ rfl (by omega) rfl HO.out trivial ?_;intro g' cap wq hown' hwq hat' hlt';have HUB:=Aa HO.out.row.lt; have hml:=HM.out.box.lt; have aiH:=HM.out.dr.lt;have une:∀ b,b < W1.heap.size→u.ownBlock≠some b:=fun b hb e=>by have:=(HUB.out b e).1; omega
   replace m0:=bZ m0 hwq (une _ (by omega)); replace x5:=bZ x5 hwq (une _ hxl);replace rx:=rx.wrote hwq (une _ hxl);replace HM1:=Aa (HM1.out.on (hwq.same fun b hb=>une b (by have:=HM.out.aff hb; omega)));replace HW:=Aa (HW.out.step hwq fun i hi e=>absurd e (une i (by omega))); replace k6:=Nat.le_trans k6 hwq.size;clear HO;rw[afg] at hown';have HO:=Aa hown';clear hown' hwq hat' hlt' hHeld HUB une;refine hK.out _ _ ⟨m0,x5⟩ (fun hHeld=>?_);clear hK K;try simp only[Act.put,lq1,lq2,lq3,lq4,lq5,lq6]
   refine wpAnyH_done (by kernel_rfl) ?_ _;clear hHeld;show wpList _ _ _ _ _ _;have ff:=rx.frozen 5;obtain⟨Wz,hWz⟩:∃ Wz,Wz=wq.setCell ⟨xb,5,none⟩ (.slice (some ⟨g',0,none⟩) (k+1) cap):=⟨_,rfl⟩;have rx2:Row Wz xb 61 [.int .i64 3,.int .i64 0,.int .i64 0,.slice none 0 0,.slice none 0 0,(.slice (some ⟨g',0,none⟩) (k+1) cap)]:=ste hWz rx;have hwz:Wrote (fun b=>b=xb) wq Wz:=hWz▸Wrote.setCell (K:=fun b=>b=xb) (p:=⟨xb,5,none⟩) (Wrote.refl _ _) (.inl rfl) _;have HM2:=Aa (HM1.out.on (hwz.same fun b hb=>by have:=HM.out.aff hb; omega));have HO2:=Aa (show Ak nP Wz W1.heap.size 3 (fun _=>True) (.slice (some ⟨g',0,none⟩) (k+1) cap) (pl ++ [dv - 3]) from⟨(Ak.wrote (F:=fun _=>False) (K:=nP) ⟨HO.out.row,fun _ _=>trivial⟩ hwz fun b hb=>hb.elim (fun h=>h.elim) fun hb e=>by have:=(HO.out.row.lt b hb).1; omega).row,fun _ _=>trivial⟩);have HWZ:=Aa (HW.out.step hwz fun i hi e=>by omega); have k7:W1.heap.size≤Wz.heap.size:=Nat.le_trans k6 hwz.size;have HX:=Aa hWz; have RX:=Aa rx2;clear hWz rx2 rx hwz HM1 HO HW m0;go_wp2
   show wpList _ _ _ _ _ _;go_wp2
   rw[← HX.out];show Exit.inBlock _ _ .normal _ _;go_wp2
   go_roundw
   case rel=>exact⟨k+1,_,by omega,by go_num,by rw[HPK.out]; exact HO2.out,RX.out,by rw[HPK.out]; exact HM2.out,HWZ.out,k7⟩
   case measure=>simp[intOf]; omega
  ·have hke:C.aj.toNat=k:=by omega
   have t0:decide ((k:Int) < C.aj)=false:=decide_eq_false (by omega);have m5:=HM1.out.box.cell (i:=5) rfl;have hvn:∃ g cap,vn = .slice (some ⟨g,0,none⟩) Ln.length cap:=by
    rcases HM.out.nodes.at with⟨_,h⟩ | ⟨g,cap,h,_⟩
    ·rw[h] at hi; exact absurd hi (by simp)
    ·exact⟨g,cap,h⟩
   obtain⟨gn,cn,rfl⟩:=hvn;have hpi:=aaI C s k;obtain⟨ps,hps⟩:∃ ps,ps=(fC C k s).2:=⟨_,rfl⟩;obtain⟨pl,hpl⟩:∃ pl,pl=(fC C k s).1:=⟨_,rfl⟩;have afg:pl.length=k:=by rw[hpl]; exact mO C s k
   rw[← hpl] at HO hpi;rw[← hps] at HM1;have HE:=Aa (show l7 C i s = { ps with nodes:=ps.nodes.set i ⟨3,0,0,[],[],kQ C pl⟩ }∧kQ C (fC C C.aj.toNat s).1=kQ C pl by rw[hpl,hps,← hke]; exact⟨rfl,rfl⟩);clear hps hpl;have hu:∃ g cap,u = .slice (some ⟨g,0,none⟩) k cap:=by
    rcases HO.out.at with⟨_,h⟩ | ⟨g,cap,h,_⟩
    ·rw[h] at afg; simp at afg; omega
    ·exact⟨g,cap,by rw[← afg]; exact h⟩
   obtain⟨gu,cu,rfl⟩:=hu;cases hz:C.zero with
   | false =>
    rw[hz] at m5;have hpy:kQ C pl=pl:=if_neg (by rw[hz]; simp);have m8:=HM1.out.box.cell (i:=8) rfl;have x0:=rx.cell (i:=0) rfl;have x1:=rx.cell (i:=1) rfl;have x2:=rx.cell (i:=2) rfl;have x3:=rx.cell (i:=3) rfl;have x4:=rx.cell (i:=4) rfl;have x5:=rx.cell (i:=5) rfl;go_wp2_with fail
    refine bK (fun w'=>w'.cell? ⟨M.mb,8,none⟩=some (.slice (some ⟨gn,0,none⟩) Ln.length cn)∧w'.cell? ⟨xb,0,none⟩=some (.int .i64 3)∧w'.cell? ⟨xb,1,none⟩=some (.int .i64 0)∧w'.cell? ⟨xb,2,none⟩=some (.int .i64 0)∧w'.cell? ⟨xb,3,none⟩=some (.slice none 0 0)∧w'.cell? ⟨xb,4,none⟩=some (.slice none 0 0)∧w'.cell? ⟨xb,5,none⟩=some (.slice (some ⟨gu,0,none⟩) k cu)) 7 2 (by kernel_rfl) rfl (by kernel_rfl) ?_;have hHeld:(fun w':World=>w'.cell? ⟨M.mb,8,none⟩=some (.slice (some ⟨gn,0,none⟩) Ln.length cn)∧w'.cell? ⟨xb,0,none⟩=some (.int .i64 3)∧w'.cell? ⟨xb,1,none⟩=some (.int .i64 0)∧w'.cell? ⟨xb,2,none⟩=some (.int .i64 0)∧w'.cell? ⟨xb,3,none⟩=some (.slice none 0 0)∧w'.cell? ⟨xb,4,none⟩=some (.slice none 0 0)∧w'.cell? ⟨xb,5,none⟩=some (.slice (some ⟨gu,0,none⟩) k cu)) wr.drew:=⟨m8,x0,x1,x2,x3,x4,x5⟩;simp only[List.take_succ_cons,List.take_zero];have hb:Below wr.heap.size wr wr.drew:=aG (Below.refl _ wr) 1;replace m8:=ah m8 hb;replace x0:=ah x0 hb;replace x1:=ah x1 hb;replace x2:=ah x2 hb;replace x3:=ah x3 hb;replace x4:=ah x4 hb;replace x5:=ah x5 hb;replace HM1:=Aa (HM1.out.below hb); replace HO:=Aa (HO.out.below hb); replace rx:=rx.below hb rx.lt;replace HW:=Aa (HW.out.trans (Below.wrote hb _)); replace k6:=Nat.le_trans k6 hb.size;clear hb;generalize wr.drew=wn at *;refine tk0 [0,1,2,3,4,5,6] ?_;iterate 7 (refine tk (v:=?_) rfl (by kernel_rfl) (by kernel_rfl) (by kernel_rfl) (fun _ _ _ h=>h) (Or.inl ⟨by rfl,?_⟩) hHeld ?_;rotate_left;(focus intro wx hSx;(try dsimp only at hSx);go_split_ands;go_simp;try with_reducible rfl);try simp only[Act.put,lq1,lq2,lq3,lq4,lq5,lq6])
    refine tk1 ?_;refine wpAnyH_done (by kernel_rfl) ?_ _;clear hHeld;show wpList _ _ _ _ _ _;have f0:=HM1.out.nodes.fz (i*6);have f1:=HM1.out.nodes.fz (i*6+1);have f2:=HM1.out.nodes.fz (i*6+2);have f3:=HM1.out.nodes.fz (i*6+3);have f4:=HM1.out.nodes.fz (i*6+4);have f5:=HM1.out.nodes.fz (i*6+5);obtain⟨q0,y0⟩:∃ v,wn.cell? ⟨gn,i*6,none⟩=some v:=HM1.out.nodes.bP hi 0 (by decide);obtain⟨q1,y1⟩:∃ v,wn.cell? ⟨gn,i*6+1,none⟩=some v:=HM1.out.nodes.bP hi 1 (by decide);obtain⟨q2,y2⟩:∃ v,wn.cell? ⟨gn,i*6+2,none⟩=some v:=HM1.out.nodes.bP hi 2 (by decide);obtain⟨q3,y3⟩:∃ v,wn.cell? ⟨gn,i*6+3,none⟩=some v:=HM1.out.nodes.bP hi 3 (by decide);obtain⟨q4,y4⟩:∃ v,wn.cell? ⟨gn,i*6+4,none⟩=some v:=HM1.out.nodes.bP hi 4 (by decide);obtain⟨q5,y5⟩:∃ v,wn.cell? ⟨gn,i*6+5,none⟩=some v:=HM1.out.nodes.bP hi 5 (by decide);have HMB:=Aa (fun b hb=>HM.out.abP (b:=b) hb); have hbm:M.base≤W.heap.size:=Nat.le_of_lt (Nat.lt_of_le_of_lt HM.out.bW.1 HM.out.box.lt);have adV:∀ {w:World} {F:Ac},Ae w F (.slice none 0 0) []:=⟨none,0,rfl,Nat.le_refl _,fun h=>absurd h (by simp)⟩;have HM2:=Aa (HM1.out.fresh HMB.out hbm);obtain⟨W9,hW9,hm9,hw9⟩:=HM2.out.setNode rfl hi ⟨⟨3,0,0,[],[],pl⟩,.slice none 0 0,.slice none 0 0,.slice (some ⟨gu,0,none⟩) k cu⟩ ⟨adV,adV,HO.out.ints fun b hb=>.inr ⟨by have:=(HO.out.row.lt b hb).1; omega,(HO.out.row.lt b hb).2⟩⟩;have hsz:W9.heap.size=wn.heap.size:=by rw[hW9]; simp
    have H9:=Aa hW9; have HM9:=Aa hm9; have HW9:=Aa (HW.out.step hw9 fun j _ e=>.inr (.inr (.inr (.inl (by rw[e]; rfl)))));clear hW9 hm9 hw9 HM1 HM2;go_wp2
    show wpList _ _ _ _ _ _;go_wp2
    rw[← H9.out];unfold Bo;go_end0
    exact⟨rfl,⟨⟨3,0,0,[],[],pl⟩,.slice none 0 0,.slice none 0 0,.slice (some ⟨gu,0,none⟩) k cu⟩,by rw[HE.out.2,hpy],by rw[HE.out.1,hpy,hsz]; exact HM9.out,HW9.out⟩
   | true =>
    rw[hz] at m5;by_cases h2:C.aj=2
    ·have t2:(C.aj==2)=true:=by rw[h2]; rfl
     obtain⟨p0,p1,rfl⟩:∃ a b,pl = [a,b]:=by
      match pl,afg with
      | [a,b],_=>exact⟨a,b,rfl⟩
      | [],h=>simp at h; omega
      | [_],h=>simp at h; omega
      | _ :: _ :: _ :: _,h=>simp at h; omega
     obtain rfl:k=2:=by simpa using afg.symm
     have hpy:kQ C [p0,p1] = [p0,-p0]:=by rw[kQ,if_pos ⟨hz,h2⟩]; rfl
     have hp0:=hpi p0 (by simp);have hwn:IntKind.i64.wrap (-p0) = -p0:=IntWalk.i64_in _ (by omega);have x5:=rx.cell (i:=5) rfl;have hc:=HO.out.at;obtain⟨c0,c1⟩:wr.cell? ⟨gu,0,none⟩=some (.int .i64 p0)∧wr.cell? ⟨gu,1,none⟩=some (.int .i64 p1):=by
      rcases hc with⟨h,_⟩ | ⟨g,cap,h,_,_,_,_,hx⟩
      ·simp at h
      ·simp only[Value.slice.injEq,Option.some.injEq,Addr.mk.injEq,and_true,true_and] at h;obtain⟨rfl,_⟩:=h;exact⟨hx 0 p0 rfl 0 _ rfl,hx 1 p1 rfl 0 _ rfl⟩
     clear hc;go_wp2_with fail
     refine bK (fun w'=>w'.cell? ⟨xb,5,none⟩=some (.slice (some ⟨gu,0,none⟩) 2 cu)∧w'.cell? ⟨gu,0,none⟩=some (.int .i64 p0)∧w'.cell? ⟨gu,1,none⟩=some (.int .i64 p1)) 7 2 (by kernel_rfl) rfl (by kernel_rfl) ?_;have hHeld:(fun w':World=>w'.cell? ⟨xb,5,none⟩=some (.slice (some ⟨gu,0,none⟩) 2 cu)∧w'.cell? ⟨gu,0,none⟩=some (.int .i64 p0)∧w'.cell? ⟨gu,1,none⟩=some (.int .i64 p1)) wr.drew:=⟨x5,c0,c1⟩;simp only[List.take_succ_cons,List.take_zero];have hb:Below wr.heap.size wr wr.drew:=aG (Below.refl _ wr) 1;replace x5:=ah x5 hb;replace c0:=ah c0 hb;replace c1:=ah c1 hb;replace HM1:=Aa (HM1.out.below hb); replace HO:=Aa (HO.out.below hb); replace rx:=rx.below hb rx.lt;replace HW:=Aa (HW.out.trans (Below.wrote hb _)); replace k6:=Nat.le_trans k6 hb.size;clear hb;generalize wr.drew=wn at *;refine tk0 [0,1,2,3,4,5,6] ?_;iterate 7 (refine tk (v:=?_) rfl (by kernel_rfl) (by kernel_rfl) (by kernel_rfl) (fun _ _ _ h=>h) (Or.inl ⟨by rfl,?_⟩) hHeld ?_;rotate_left;(focus intro wx hSx;(try dsimp only at hSx);go_split_ands;go_simp;try with_reducible rfl);try simp only[Act.put,lq1,lq2,lq3,lq4,lq5,lq6])
     refine tk1 ?_;refine wpAnyH_done (by kernel_rfl) ?_ _;clear hHeld;show wpList _ _ _ _ _ _;have f1:=HO.out.fz 1;obtain⟨Wz,hWz⟩:∃ Wz,Wz=wn.setCell ⟨gu,1,none⟩ (.int .i64 (-p0)):=⟨_,rfl⟩;have hgu:=HO.out.row.lt gu rfl; have hml:=HM.out.box.lt; have aiH:=HM.out.dr.lt;have hwz:Wrote (fun b=>b=gu) wn Wz:=hWz▸Wrote.setCell (K:=fun b=>b=gu) (p:=⟨gu,1,none⟩) (Wrote.refl _ _) (.inl rfl) _;have HO2:=Aa (show Ak nP Wz W1.heap.size 3 (fun _=>True) (.slice (some ⟨gu,0,none⟩) 2 cu) [p0,-p0] from hWz▸Ak.setInt (L:=[p0,p1]) HO.out 1 (-p0));have HX:=Aa hWz;clear hWz;go_wp2
     show wpList _ _ _ _ _ _;go_wp2
     rw[← HX.out];have hxg:xb≠gu:=fun e=>by have:=hgu.1; omega
     unfold Bo;show Exit.then _ _ .normal _ _;replace rx:=rx.wrote hwz hxg;replace HM1:=Aa (HM1.out.on (hwz.same fun b hb e=>by have:=HM.out.aff hb; have:=hgu.1; omega));replace HW:=Aa (HW.out.step hwz fun j hj e=>by have:=hgu.1; omega); replace k6:=Nat.le_trans k6 hwz.size;clear HO x5 c0 c1 f1 hwz HX;have HO:=Aa HO2.out;clear HO2 hgu hml aiH hxg;have m8:=HM1.out.box.cell (i:=8) rfl;have x0:=rx.cell (i:=0) rfl;have x1:=rx.cell (i:=1) rfl;have x2:=rx.cell (i:=2) rfl;have x3:=rx.cell (i:=3) rfl;have x4:=rx.cell (i:=4) rfl;have x5:=rx.cell (i:=5) rfl;go_wp2_with fail
     refine bK (fun w'=>w'.cell? ⟨M.mb,8,none⟩=some (.slice (some ⟨gn,0,none⟩) Ln.length cn)∧w'.cell? ⟨xb,0,none⟩=some (.int .i64 3)∧w'.cell? ⟨xb,1,none⟩=some (.int .i64 0)∧w'.cell? ⟨xb,2,none⟩=some (.int .i64 0)∧w'.cell? ⟨xb,3,none⟩=some (.slice none 0 0)∧w'.cell? ⟨xb,4,none⟩=some (.slice none 0 0)∧w'.cell? ⟨xb,5,none⟩=some (.slice (some ⟨gu,0,none⟩) 2 cu)) 7 2 (by kernel_rfl) rfl (by kernel_rfl) ?_;have hHeld:(fun w':World=>w'.cell? ⟨M.mb,8,none⟩=some (.slice (some ⟨gn,0,none⟩) Ln.length cn)∧w'.cell? ⟨xb,0,none⟩=some (.int .i64 3)∧w'.cell? ⟨xb,1,none⟩=some (.int .i64 0)∧w'.cell? ⟨xb,2,none⟩=some (.int .i64 0)∧w'.cell? ⟨xb,3,none⟩=some (.slice none 0 0)∧w'.cell? ⟨xb,4,none⟩=some (.slice none 0 0)∧w'.cell? ⟨xb,5,none⟩=some (.slice (some ⟨gu,0,none⟩) 2 cu)) Wz.drew:=⟨m8,x0,x1,x2,x3,x4,x5⟩;simp only[List.take_succ_cons,List.take_zero];have hb:Below Wz.heap.size Wz Wz.drew:=aG (Below.refl _ Wz) 1;replace m8:=ah m8 hb;replace x0:=ah x0 hb;replace x1:=ah x1 hb;replace x2:=ah x2 hb;replace x3:=ah x3 hb;replace x4:=ah x4 hb;replace x5:=ah x5 hb;replace HM1:=Aa (HM1.out.below hb); replace HO:=Aa (HO.out.below hb); replace rx:=rx.below hb rx.lt;replace HW:=Aa (HW.out.trans (Below.wrote hb _)); replace k6:=Nat.le_trans k6 hb.size;clear hb;generalize Wz.drew=wn at *;refine tk0 [0,1,2,3,4,5,6] ?_;iterate 7 (refine tk (v:=?_) rfl (by kernel_rfl) (by kernel_rfl) (by kernel_rfl) (fun _ _ _ h=>h) (Or.inl ⟨by rfl,?_⟩) hHeld ?_;rotate_left;(focus intro wx hSx;(try dsimp only at hSx);go_split_ands;go_simp;try with_reducible rfl);try simp only[Act.put,lq1,lq2,lq3,lq4,lq5,lq6])
     refine tk1 ?_;refine wpAnyH_done (by kernel_rfl) ?_ _;clear hHeld;show wpList _ _ _ _ _ _;have f0:=HM1.out.nodes.fz (i*6);have f1:=HM1.out.nodes.fz (i*6+1);have f2:=HM1.out.nodes.fz (i*6+2);have f3:=HM1.out.nodes.fz (i*6+3);have f4:=HM1.out.nodes.fz (i*6+4);have f5:=HM1.out.nodes.fz (i*6+5);obtain⟨q0,y0⟩:∃ v,wn.cell? ⟨gn,i*6,none⟩=some v:=HM1.out.nodes.bP hi 0 (by decide);obtain⟨q1,y1⟩:∃ v,wn.cell? ⟨gn,i*6+1,none⟩=some v:=HM1.out.nodes.bP hi 1 (by decide);obtain⟨q2,y2⟩:∃ v,wn.cell? ⟨gn,i*6+2,none⟩=some v:=HM1.out.nodes.bP hi 2 (by decide);obtain⟨q3,y3⟩:∃ v,wn.cell? ⟨gn,i*6+3,none⟩=some v:=HM1.out.nodes.bP hi 3 (by decide);obtain⟨q4,y4⟩:∃ v,wn.cell? ⟨gn,i*6+4,none⟩=some v:=HM1.out.nodes.bP hi 4 (by decide);obtain⟨q5,y5⟩:∃ v,wn.cell? ⟨gn,i*6+5,none⟩=some v:=HM1.out.nodes.bP hi 5 (by decide);have HMB:=Aa (fun b hb=>HM.out.abP (b:=b) hb); have hbm:M.base≤W.heap.size:=Nat.le_of_lt (Nat.lt_of_le_of_lt HM.out.bW.1 HM.out.box.lt);have adV:∀ {w:World} {F:Ac},Ae w F (.slice none 0 0) []:=⟨none,0,rfl,Nat.le_refl _,fun h=>absurd h (by simp)⟩;have HM2:=Aa (HM1.out.fresh HMB.out hbm);obtain⟨W9,hW9,hm9,hw9⟩:=HM2.out.setNode rfl hi ⟨⟨3,0,0,[],[],[p0,-p0]⟩,.slice none 0 0,.slice none 0 0,.slice (some ⟨gu,0,none⟩) 2 cu⟩ ⟨adV,adV,HO.out.ints fun b hb=>.inr ⟨by have:=(HO.out.row.lt b hb).1; omega,(HO.out.row.lt b hb).2⟩⟩;have hsz:W9.heap.size=wn.heap.size:=by rw[hW9]; simp
     have H9:=Aa hW9; have HM9:=Aa hm9; have HW9:=Aa (HW.out.step hw9 fun j _ e=>.inr (.inr (.inr (.inl (by rw[e]; rfl)))));clear hW9 hm9 hw9 HM1 HM2;go_wp2
     show wpList _ _ _ _ _ _;go_wp2
     rw[← H9.out];unfold Bo;go_end0
     exact⟨rfl,⟨⟨3,0,0,[],[],[p0,-p0]⟩,.slice none 0 0,.slice none 0 0,.slice (some ⟨gu,0,none⟩) 2 cu⟩,by rw[HE.out.2,hpy],by rw[HE.out.1,hpy,hsz]; exact HM9.out,HW9.out⟩
    ·have t2:(C.aj==2)=false:=by simpa using h2
     have hpy:kQ C pl=pl:=if_neg (by simp[h2]);have m8:=HM1.out.box.cell (i:=8) rfl;have x0:=rx.cell (i:=0) rfl;have x1:=rx.cell (i:=1) rfl;have x2:=rx.cell (i:=2) rfl;have x3:=rx.cell (i:=3) rfl;have x4:=rx.cell (i:=4) rfl;have x5:=rx.cell (i:=5) rfl;go_wp2_with fail
     refine bK (fun w'=>w'.cell? ⟨M.mb,8,none⟩=some (.slice (some ⟨gn,0,none⟩) Ln.length cn)∧w'.cell? ⟨xb,0,none⟩=some (.int .i64 3)∧w'.cell? ⟨xb,1,none⟩=some (.int .i64 0)∧w'.cell? ⟨xb,2,none⟩=some (.int .i64 0)∧w'.cell? ⟨xb,3,none⟩=some (.slice none 0 0)∧w'.cell? ⟨xb,4,none⟩=some (.slice none 0 0)∧w'.cell? ⟨xb,5,none⟩=some (.slice (some ⟨gu,0,none⟩) k cu)) 7 2 (by kernel_rfl) rfl (by kernel_rfl) ?_;have hHeld:(fun w':World=>w'.cell? ⟨M.mb,8,none⟩=some (.slice (some ⟨gn,0,none⟩) Ln.length cn)∧w'.cell? ⟨xb,0,none⟩=some (.int .i64 3)∧w'.cell? ⟨xb,1,none⟩=some (.int .i64 0)∧w'.cell? ⟨xb,2,none⟩=some (.int .i64 0)∧w'.cell? ⟨xb,3,none⟩=some (.slice none 0 0)∧w'.cell? ⟨xb,4,none⟩=some (.slice none 0 0)∧w'.cell? ⟨xb,5,none⟩=some (.slice (some ⟨gu,0,none⟩) k cu)) wr.drew:=⟨m8,x0,x1,x2,x3,x4,x5⟩;simp only[List.take_succ_cons,List.take_zero];have hb:Below wr.heap.size wr wr.drew:=aG (Below.refl _ wr) 1;replace m8:=ah m8 hb;replace x0:=ah x0 hb;replace x1:=ah x1 hb;replace x2:=ah x2 hb;replace x3:=ah x3 hb;replace x4:=ah x4 hb;replace x5:=ah x5 hb;replace HM1:=Aa (HM1.out.below hb); replace HO:=Aa (HO.out.below hb); replace rx:=rx.below hb rx.lt;replace HW:=Aa (HW.out.trans (Below.wrote hb _)); replace k6:=Nat.le_trans k6 hb.size;clear hb;generalize wr.drew=wn at *;refine tk0 [0,1,2,3,4,5,6] ?_;iterate 7 (refine tk (v:=?_) rfl (by kernel_rfl) (by kernel_rfl) (by kernel_rfl) (fun _ _ _ h=>h) (Or.inl ⟨by rfl,?_⟩) hHeld ?_;rotate_left;(focus intro wx hSx;(try dsimp only at hSx);go_split_ands;go_simp;try with_reducible rfl);try simp only[Act.put,lq1,lq2,lq3,lq4,lq5,lq6])
     refine tk1 ?_;refine wpAnyH_done (by kernel_rfl) ?_ _;clear hHeld;show wpList _ _ _ _ _ _;have f0:=HM1.out.nodes.fz (i*6);have f1:=HM1.out.nodes.fz (i*6+1);have f2:=HM1.out.nodes.fz (i*6+2);have f3:=HM1.out.nodes.fz (i*6+3);have f4:=HM1.out.nodes.fz (i*6+4);have f5:=HM1.out.nodes.fz (i*6+5);obtain⟨q0,y0⟩:∃ v,wn.cell? ⟨gn,i*6,none⟩=some v:=HM1.out.nodes.bP hi 0 (by decide);obtain⟨q1,y1⟩:∃ v,wn.cell? ⟨gn,i*6+1,none⟩=some v:=HM1.out.nodes.bP hi 1 (by decide);obtain⟨q2,y2⟩:∃ v,wn.cell? ⟨gn,i*6+2,none⟩=some v:=HM1.out.nodes.bP hi 2 (by decide);obtain⟨q3,y3⟩:∃ v,wn.cell? ⟨gn,i*6+3,none⟩=some v:=HM1.out.nodes.bP hi 3 (by decide);obtain⟨q4,y4⟩:∃ v,wn.cell? ⟨gn,i*6+4,none⟩=some v:=HM1.out.nodes.bP hi 4 (by decide);obtain⟨q5,y5⟩:∃ v,wn.cell? ⟨gn,i*6+5,none⟩=some v:=HM1.out.nodes.bP hi 5 (by decide);have HMB:=Aa (fun b hb=>HM.out.abP (b:=b) hb); have hbm:M.base≤W.heap.size:=Nat.le_of_lt (Nat.lt_of_le_of_lt HM.out.bW.1 HM.out.box.lt);have adV:∀ {w:World} {F:Ac},Ae w F (.slice none 0 0) []:=⟨none,0,rfl,Nat.le_refl _,fun h=>absurd h (by simp)⟩;have HM2:=Aa (HM1.out.fresh HMB.out hbm);obtain⟨W9,hW9,hm9,hw9⟩:=HM2.out.setNode rfl hi ⟨⟨3,0,0,[],[],pl⟩,.slice none 0 0,.slice none 0 0,.slice (some ⟨gu,0,none⟩) k cu⟩ ⟨adV,adV,HO.out.ints fun b hb=>.inr ⟨by have:=(HO.out.row.lt b hb).1; omega,(HO.out.row.lt b hb).2⟩⟩;have hsz:W9.heap.size=wn.heap.size:=by rw[hW9]; simp
     have H9:=Aa hW9; have HM9:=Aa hm9; have HW9:=Aa (HW.out.step hw9 fun j _ e=>.inr (.inr (.inr (.inl (by rw[e]; rfl)))));clear hW9 hm9 hw9 HM1 HM2;go_wp2
     show wpList _ _ _ _ _ _;go_wp2
     rw[← H9.out];unfold Bo;go_end0
     exact⟨rfl,⟨⟨3,0,0,[],[],pl⟩,.slice none 0 0,.slice none 0 0,.slice (some ⟨gu,0,none⟩) k cu⟩,by rw[HE.out.2,hpy],by rw[HE.out.1,hpy,hsz]; exact HM9.out,HW9.out⟩
theorem Ak.form {α:Type} {K:Knd α} {w:World} {base:Nat} {et:TypeId} {F:Ac} {v:Value} {L:List α} (h:Ak K w base et F v L):∃ A c,v = .slice A L.length c∧L.length≤c∧(0 < L.length→∃ g,A=some ⟨g,0,none⟩):=by
 rcases h.at with⟨rfl,rfl⟩ | ⟨g,cap,rfl,_,_,hc,_⟩
 ·exact⟨none,0,rfl,Nat.le_refl _,fun h=>absurd h (by simp)⟩
 ·exact⟨_,cap,rfl,hc,fun _=>⟨g,rfl⟩⟩
theorem afh {info ak:Int} {s:MS} {I:List Inf} {x:Inf} (hp:¬ ak < 0) (hI:s.infos=I ++ [x]) (hi:info=(I.length:Int)) (hno:s.nodes.any (jG info)=false):kE info ak s = { s with infos:=I,views:=s.views.dropLast }:=by
 have hn:¬ (ak < 0∨info≠(s.infos.length:Int) - 1):=by
  rw[hI]; simp; omega
 unfold kE;rw[if_neg hn,hno];subst hi;simp[hI]
theorem aaK {info ak:Int} {s:MS} (h:s.nodes.any (jG info)=true):kE info ak s=s:=by
 unfold kE;rw[if_pos h];split <;> rfl
theorem aj1 {f:Nd→Bool} {Ln:List NV} {N:List Nd} (hN:Ln.map NV.n=N) {k:Nat} {q:NV} (hq:Ln[k]? = some q) (hf:f q.n=true):N.any f=true:=by
 rw[← hN,List.any_eq_true];exact⟨q.n,List.mem_map.2 ⟨q,List.mem_of_getElem? hq,rfl⟩,hf⟩
theorem adW {f:Nd→Bool} {Ln:List NV} {k:Nat} {q:NV} (h:∀ j p,j < k→Ln[j]? = some p→f p.n=false) (hq:Ln[k]? = some q) (hf:f q.n=false):∀ j p,j < k+1→Ln[j]? = some p→f p.n=false:=fun j p hj hp=>by
 by_cases e:j=k
 ·subst e; rw[hq] at hp; cases hp; exact hf
 ·exact h j p (by omega) hp
theorem not_any {f:Nd→Bool} {Ln:List NV} {N:List Nd} (hN:Ln.map NV.n=N) (h:∀ j p,j < Ln.length→Ln[j]? = some p→f p.n=false):N.any f=false:=by
 rw[← hN,List.any_eq_false];intro n hn;obtain⟨q,hq,rfl⟩:=List.mem_map.1 hn;obtain⟨j,hj,e⟩:=List.mem_iff_getElem.1 hq;rw[h j q hj (by rw[← e]; exact List.getElem?_eq_getElem hj)];simp
theorem MAt.akx {C:MC} {M:ML} {Fd:Ac} {vv vn vi:Value} {Lv:List VV} {Ln:List NV} {s:MS} {W W':World} (h:MAt C M Fd vv vn vi Lv Ln s W) {gi ci:Nat} {x:Inf} {I:List Inf} (hI:s.infos=I ++ [x]) (hi:vi = .slice (some ⟨gi,0,none⟩) (I.length+1) ci) (hW:W'=W.setCell ⟨M.mb,9,none⟩ (.slice (some ⟨gi,0,none⟩) I.length ci)) :
  MAt C M Fd vv vn (.slice (some ⟨gi,0,none⟩) I.length ci) Lv Ln { s with infos:=I } W'∧Wrote (fun b=>b=M.mb) W W':=by
 subst hi;have hw:Wrote (fun b=>b=M.mb) W (W.setCell ⟨M.mb,9,none⟩ (.slice (some ⟨gi,0,none⟩) I.length ci)):=Wrote.setCell (K:=fun b=>b=M.mb) (Wrote.refl _ _) (p:=⟨M.mb,9,none⟩) (.inl rfl) _;rw[hW];have qR:=h.infos;rw[hI] at qR;refine⟨?_,hw⟩;exact {
  box:=h.box.set 9 _
  dr:=h.dr.wrote hw (fun e=>h.bW.2.2 e.symm)
  list:=h.list.on (hw.same fun b hb e=>by have:=h.xg hb; have:=h.bW.1; subst e; omega)
  lev:=h.lev.wrote hw fun b hb=>hb.elim (fun hb=>(h.fdn hb).1) fun hb=>(h.lvn hb).1
  views:=h.views.wrote hw fun b hb=>hb.elim (fun hb=>(h.fdn hb).1) fun hb=>(h.bG b hb).1
  nodes:=h.nodes.wrote hw fun b hb=>hb.elim (fun hb=>(h.fdn hb).1) fun hb=>(h.bQ b hb).1
  infos:=qR.short.wrote hw fun b hb=>hb.elim (fun hb=>(h.fdn hb).1) fun hb=>(h.dI b hb).1
  lW:=h.lW
  l9:=h.l9
  out:=h.out
  foot:=fun b hb=>⟨(h.foot b hb).1,by have:=(h.foot b hb).2.1; simp; omega,(h.foot b hb).2.2⟩
  bW:=h.bW
  iZ:=h.iZ
  bG:=h.bG
  bQ:=h.bQ
  dI:=h.dI
  draws:=h.draws
 }
theorem MAt.aky {C:MC} {M:ML} {Fd:Ac} {vv vn vi:Value} {Lv:List VV} {Ln:List NV} {s:MS} {W W':World} (h:MAt C M Fd vv vn vi Lv Ln s W) {gv cv:Nat} {y:VV} {L':List VV} (hL:Lv=L' ++ [y]) (hv:vv = .slice (some ⟨gv,0,none⟩) (L'.length+1) cv) (hW:W'=W.setCell ⟨M.mb,2,none⟩ (.slice (some ⟨gv,0,none⟩) L'.length cv)) :
  MAt C M Fd (.slice (some ⟨gv,0,none⟩) L'.length cv) vn vi L' Ln { s with views:=s.views.dropLast } W'∧Wrote (fun b=>b=M.mb) W W':=by
 subst hv hL;have hw:Wrote (fun b=>b=M.mb) W (W.setCell ⟨M.mb,2,none⟩ (.slice (some ⟨gv,0,none⟩) L'.length cv)):=Wrote.setCell (K:=fun b=>b=M.mb) (Wrote.refl _ _) (p:=⟨M.mb,2,none⟩) (.inl rfl) _;rw[hW];refine⟨?_,hw⟩;exact {
  box:=h.box.set 2 _
  dr:=h.dr.wrote hw (fun e=>h.bW.2.2 e.symm)
  list:=h.list.on (hw.same fun b hb e=>by have:=h.xg hb; have:=h.bW.1; subst e; omega)
  lev:=h.lev.wrote hw fun b hb=>hb.elim (fun hb=>(h.fdn hb).1) fun hb=>(h.lvn hb).1
  views:=h.views.short.wrote hw fun b hb=>hb.elim (fun hb=>(h.fdn hb).1) fun hb=>(h.bG b hb).1
  nodes:=h.nodes.wrote hw fun b hb=>hb.elim (fun hb=>(h.fdn hb).1) fun hb=>(h.bQ b hb).1
  infos:=h.infos.wrote hw fun b hb=>hb.elim (fun hb=>(h.fdn hb).1) fun hb=>(h.dI b hb).1
  lW:=by
   have:=h.lW;rw[List.map_append,List.map_cons,List.map_nil] at this;rw[← this]; simp
  l9:=h.l9
  out:=h.out
  foot:=fun b hb=>⟨(h.foot b hb).1,by have:=(h.foot b hb).2.1; simp; omega,(h.foot b hb).2.2⟩
  bW:=h.bW
  iZ:=h.iZ
  bG:=h.bG
  bQ:=h.bQ
  dI:=h.dI
  draws:=h.draws
 }
def Less (C:MC) (M:ML) (Fd:Ac) (vv vn vi:Value) (Ln:List NV) (s:MS) (W w':World):Prop:=∃ vv' vi' Lv',vv'.ownBlock=vv.ownBlock∧vi'.ownBlock=vi.ownBlock∧MAt C M Fd vv' vn vi' Lv' Ln s w'∧Wrote (Mut M.mb M.db vv vn vi) W w'
theorem agQ {C:MC} {M:ML} {Fd:Ac} {vv vn vi:Value} {Lv:List VV} {Ln:List NV} {s:MS} {W:World} (h:MAt C M Fd vv vn vi Lv Ln s W) (info ak:Int) (h0:0≤info) (hne:0 < Ln.length) (hvl:s.views.length=s.infos.length) (hil:s.infos.length≤1000000) (hnl:Ln.length≤1000000) :
  Calls Tryz.prog 147 #[.pointer (some ⟨M.mb,0,none⟩),.int .i64 info,.int .i64 ak] W fun e w'=>e = .returned (.tuple #[])∧Less C M Fd vv vn vi Ln (kE info ak s) W w':=by
 have HM:=Aa h;clear h;obtain⟨Ai,ci,rfl,hci,hgi⟩:=HM.out.infos.form;have m9:=HM.out.box.cell (i:=9) rfl;have hw1:IntKind.i64.wrap ((s.infos.length:Int) - 1)=(s.infos.length:Int) - 1:=IntWalk.i64_in _ (by omega);go_enter Tryz.func147,Tryz.ntmps147;by_cases hp:ak < 0
 ·have t1:decide (ak < 0)=true:=decide_eq_true hp;have e:kE info ak s=s:=if_pos (.inl hp);go_wp2
  refine bodyPost_ret (results_none rfl _ _ _) rfl ?_;exact⟨rfl,_,_,Lv,rfl,rfl,by first | exact HM.out | (rw[e]; exact HM.out),Wrote.refl _ _⟩
 have t1:decide (ak < 0)=false:=decide_eq_false hp;by_cases hn:info=(s.infos.length:Int) - 1
 case neg =>
  have t2:(info != ((s.infos.length:Int) - 1))=true:=by simpa using hn
  have e:kE info ak s=s:=if_pos (.inr hn);go_wp2
  refine bodyPost_ret (results_none rfl _ _ _) rfl ?_;exact⟨rfl,_,_,Lv,rfl,rfl,by first | exact HM.out | (rw[e]; exact HM.out),Wrote.refl _ _⟩
 have t2:(info != ((s.infos.length:Int) - 1))=false:=by simpa using hn
 have hlv:Lv.length=s.infos.length:=by rw[← hvl,← HM.out.lW,List.length_map]
 obtain⟨I,x,hI⟩:∃ I x,s.infos=I ++ [x]:=by
  rcases List.eq_nil_or_concat s.infos with h | ⟨I,x,h⟩
  ·rw[h] at hn; simp at hn; omega
  ·exact⟨I,x,by simpa using h⟩
 obtain⟨L',y,hL⟩:∃ L' y,Lv=L' ++ [y]:=by
  rcases List.eq_nil_or_concat Lv with h | ⟨I,x,h⟩
  ·rw[h,hI] at hlv; simp at hlv
  ·exact⟨I,x,by simpa using h⟩
 have hIl:s.infos.length=I.length+1:=by rw[hI]; simp
 have hLl:Lv.length=L'.length+1:=by rw[hL]; simp
 have hll:L'.length=I.length:=by omega
 obtain⟨gi,rfl⟩:=hgi (by omega);obtain⟨Av,cv,rfl,hcv,hgv⟩:=HM.out.views.form;obtain⟨gv,rfl⟩:=hgv (by omega);obtain⟨An,cn,rfl,hcn,hgn⟩:=HM.out.nodes.form;obtain⟨gn,rfl⟩:=hgn hne;have hin:info=(I.length:Int):=by omega
 have HD:=Aa (fun hno=>afh (s:=s) hp hI hin hno);have HDR:=Aa (HM.out.below (aG (Below.refl _ W) 1));have m8:=HM.out.box.cell (i:=8) rfl;have hx:=HM.out.nodes.at;obtain⟨hcell⟩:Nonempty (∀ k q,Ln[k]? = some q→W.cell? ⟨gn,k*6,none⟩=some (.int .i64 q.n.kind)∧W.cell? ⟨gn,k*6+2,none⟩=some (.int .i64 q.n.info)):=by
  rcases hx with⟨h,_⟩ | ⟨g,cap,h,_,_,_,_,hx⟩
  ·simp at h
  ·simp only[Value.slice.injEq,Option.some.injEq,Addr.mk.injEq,and_true,true_and] at h;obtain⟨rfl,_⟩:=h;refine⟨fun k q hk=>⟨?_,?_⟩⟩
   ·have:=hx k q hk 0 _ rfl; rw[Nat.zero_add] at this; exact this
   ·have:=hx k q hk 2 _ rfl; rw[Nat.zero_add] at this; exact this
 have HC:=Aa hcell;clear hcell hx;have HN:=Aa HM.out.l9;subst hin;rw[hIl] at m9 hci;rw[hLl] at hcv;clear t2 hw1 hn;have hwA:IntKind.i64.wrap ((I.length:Int)+1 - 1)=(I.length:Int):=by rw[Int.add_sub_cancel]; exact IntWalk.i64_in _ (by omega)
 have hwB:IntKind.i64.wrap (I.length:Int)=(I.length:Int):=IntWalk.i64_in _ (by omega);have hwC:IntKind.i64.wrap ((L'.length:Int)+1 - 1)=(L'.length:Int):=by rw[Int.add_sub_cancel]; exact IntWalk.i64_in _ (by omega)
 have hwD:IntKind.i64.wrap (L'.length:Int)=(L'.length:Int):=IntWalk.i64_in _ (by omega);have hcv2:L'.length≤cv:=by omega
 have hci2:I.length≤ci:=by omega
 have HE:=Aa (show Lv.length=L'.length+1∧s.infos.length=I.length+1 from⟨hLl,hIl⟩);clear hgi hgv hgn hlv hll hLl hIl;go_wp2
 go_loopw [6] (fun iv wr=>∃ k:Nat,k≤Ln.length∧iv = .int .i64 (k:Int)∧wr=W∧Hid (∀ j q,j < k→Ln[j]? = some q→jG (I.length:Int) q.n=false)) (fun iv _=>Ln.length - (intOf iv).toNat)
 case atStart=>exact⟨0,Nat.zero_le _,rfl,rfl,Aa fun j q hj=>absurd hj (Nat.not_lt_zero _)⟩
 case round =>
  obtain⟨k,hk,rfl,rfl,hno⟩:=hrel;by_cases hkt:k < Ln.length
  ·have t0:decide ((k:Int) < (Ln.length:Int))=true:=decide_eq_true (by omega);obtain⟨q,hq⟩:=au hkt;obtain⟨c0,c2⟩:=HC.out k q hq;obtain⟨kd,hkd⟩:∃ kd,kd=q.n.kind:=⟨_,rfl⟩;obtain⟨kf,hkf⟩:∃ kf,kf=q.n.info:=⟨_,rfl⟩;have HK:=Aa (show jG (I.length:Int) q.n=(decide (kd=2)&&decide (kf=(I.length:Int))) by rw[hkd,hkf]; rfl);have HQ:=Aa hq;rw[← hkd] at c0;rw[← hkf] at c2;clear hkd hkf hq;by_cases hk2:kd=2
   ·have t3:(kd==2)=true:=by simpa using hk2
    by_cases hk3:kf=(I.length:Int)
    ·have t4:(kf==(I.length:Int))=true:=by simpa using hk3
     have HU:=Aa (show jG (I.length:Int) q.n=true by rw[HK.out]; simp[hk2,hk3]);clear hk2 hk3;go_wp2_with fail
     refine bodyPost_ret (results_none rfl _ _ _) rfl ?_;exact⟨rfl,_,_,Lv,rfl,rfl,by rw[aaK (aj1 HN.out HQ.out HU.out)]; exact HM.out,Wrote.refl _ _⟩
    ·have t4:(kf==(I.length:Int))=false:=by simpa using hk3
     have HU:=Aa (show jG (I.length:Int) q.n=false by rw[HK.out]; simp[hk3]);clear hk2 hk3;go_wp2_with fail
     go_roundw
     case rel=>exact⟨k+1,by omega,by go_num,trivial,Aa (adW hno.out HQ.out HU.out)⟩
     case measure=>simp[intOf]; omega
   ·have t3:(kd==2)=false:=by simpa using hk2
    have HU:=Aa (show jG (I.length:Int) q.n=false by rw[HK.out]; simp[hk2]);clear hk2;go_wp2_with fail
    go_roundw
    case rel=>exact⟨k+1,by omega,by go_num,trivial,Aa (adW hno.out HQ.out HU.out)⟩
    case measure=>simp[intOf]; omega
  ·have hke:Ln.length=k:=by omega
   have t0:decide ((k:Int) < (Ln.length:Int))=false:=decide_eq_false (by omega);have HZ:=Aa (HD.out (not_any HN.out (by rw[hke]; exact hno.out)));have m2:=HM.out.box.cell (i:=2) rfl;have f9:=HM.out.box.frozen 9;obtain⟨Wy,hWy⟩:∃ Wy,Wy=wr.setCell ⟨M.mb,9,none⟩ (.slice (some ⟨gi,0,none⟩) I.length ci):=⟨_,rfl⟩;have hvi:=HM.out.infos.form;obtain⟨hm1,hw1⟩:=HM.out.akx hI (by rw[HE.out.2]) hWy;have hm2:=hm1.box.cell (i:=2) rfl;rw[HE.out.1] at hm2;have HM1:=Aa hm1; have HW:=Aa hw1; have HY:=Aa hWy;clear hm1 hw1 hWy;go_wp2_with fail
   rw[← HY.out];clear HY m2 f9;refine bK (fun w'=>w'.cell? ⟨M.mb,2,none⟩=some (.slice (some ⟨gv,0,none⟩) (L'.length+1) cv)) 12 3 (by kernel_rfl) rfl (by kernel_rfl) ?_;have hHeld:(fun w':World=>w'.cell? ⟨M.mb,2,none⟩=some (.slice (some ⟨gv,0,none⟩) (L'.length+1) cv)) Wy.drew:=hm2;simp only[List.take_succ_cons,List.take_zero];have hb:Below Wy.heap.size Wy Wy.drew:=aG (Below.refl _ Wy) 1;replace hm2:=ah hm2 hb;replace HM1:=Aa (HM1.out.below hb);replace HW:=Aa (HW.out.trans (Below.wrote hb _));clear hb;generalize Wy.drew=wn at *;refine tk0 [0,1,2,3,4,5,6,7,8,9,10,11] ?_;iterate 12 (refine tk (v:=?_) rfl (by kernel_rfl) (by kernel_rfl) (by kernel_rfl) (fun _ _ _ h=>h) (Or.inl ⟨by rfl,?_⟩) hHeld ?_;rotate_left;(focus intro wx hSx;(try dsimp only at hSx);go_split_ands;go_simp;try with_reducible rfl);try simp only[Act.put,lq1,lq2,lq3,lq4,lq5,lq6])
   refine tk1 ?_;refine wpAnyH_done (by kernel_rfl) ?_ _;clear hHeld;have f2:=HM1.out.box.frozen 2;obtain⟨Wz,hWz⟩:∃ Wz,Wz=wn.setCell ⟨M.mb,2,none⟩ (.slice (some ⟨gv,0,none⟩) L'.length cv):=⟨_,rfl⟩;obtain⟨hm3,hw3⟩:=HM1.out.aky hL (by rw[HE.out.1]) hWz;have HM3:=Aa hm3; have HW3:=Aa (HW.out.trans hw3); have HY:=Aa hWz;clear hm3 hw3 hWz;show wpList _ _ _ _ _ _;go_wp2
   show wpList _ _ _ _ _ _;go_wp2
   show wpList _ _ _ _ _ _;go_wp2
   rw[← HY.out];unfold Bo;go_end0
   exact⟨rfl,.slice (some ⟨gv,0,none⟩) L'.length cv,.slice (some ⟨gi,0,none⟩) I.length ci,L',rfl,rfl,by rw[HZ.out]; exact HM3.out,(Wrote.refl _ _).step HW3.out fun i _ e=>.inl e⟩
theorem Tryz.infoViewK:(Tryz.prog.info? 230).map (fun i=>(i.zero,i.size,i.bytes))=some (some (.agg #[.int .i64 0,.int .i64 0,.slice none 0 0,.int .i64 0]),adS.n,48):=by kernel_rfl
theorem Tryz.infoInfK:(Tryz.prog.info? 59).map (fun i=>(i.zero,i.size,i.bytes))=some (some (.agg #[.int .i64 0,.int .i64 0]),ah2.n,16):=by kernel_rfl
def Up (W:World) (v v':Value):Prop:=∀ b,v'.ownBlock=some b→v.ownBlock=some b∨W.heap.size≤b
theorem Up.refl (W:World) (v:Value):Up W v v:=fun _ h=>.inl h
theorem yG {W:World} {mb db:Nat} {vv vn vi vv' vn' vi':Value} (h1:Up W vv vv') (h2:Up W vn vn') (h3:Up W vi vi') {i:Nat} (hi:i < W.heap.size) (h:Mut mb db vv' vn' vi' i):Mut mb db vv vn vi i:=by
 rcases h with h | h | h | h | h
 ·exact .inl h
 ·exact .inr (.inl h)
 ·exact .inr (.inr (.inl ((h1 i h).resolve_right (by omega))))
 ·exact .inr (.inr (.inr (.inl ((h2 i h).resolve_right (by omega)))))
 ·exact .inr (.inr (.inr (.inr ((h3 i h).resolve_right (by omega)))))
theorem ah4 {W wn:World} {v:Value} {g n cap:Nat} (h:v.ownBlock=some g∨wn.heap.size≤g) (hs:W.heap.size≤wn.heap.size):Up W v (.slice (some ⟨g,0,none⟩) n cap):=fun b hb=>by
 have e:some g=some b:=hb;cases e
 exact h.imp id fun h=>by omega
def More (C:MC) (M:ML) (Fd:Ac) (vv vn vi:Value) (Ln:List NV) (s:MS) (W w':World):Prop:=∃ vv' vi' Lv',Up W vv vv'∧Up W vi vi'∧MAt C M Fd vv' vn vi' Lv' Ln s w'∧Wrote (Mut M.mb M.db vv vn vi) W w'
theorem xq {f:View→Bool} {Ln:List VV} {k:Nat} {q:VV} (h:∀ j p,j < k→Ln[j]? = some p→f p.v=false) (hq:Ln[k]? = some q) (hf:f q.v=false):∀ j p,j < k+1→Ln[j]? = some p→f p.v=false:=fun j p hj hp=>by
 by_cases e:j=k
 ·subst e; rw[hq] at hp; cases hp; exact hf
 ·exact h j p (by omega) hp
theorem agR {C:MC} {ak level:Int} {seen:List Int} {s:MS} {Lv:List VV} (hv:Lv.map VV.v=s.views) {k:Nat} {q:VV} (hq:Lv[k]? = some q) (hs:gy ak level seen q.v=true) (hno:∀ j p,j < k→Lv[j]? = some p→gy ak level seen p.v=false):jL C ak level seen s=(q.v.info,s):=by
 have e:s.views.find? (gy ak level seen)=some q.v:=by
  rw[← hv];clear hv;induction Lv generalizing k with
  | nil=>cases hq
  | cons p L ih =>
   cases k with
   | zero=>simp at hq; subst hq; simp[List.find?_cons,hs]
   | succ k =>
    rw[List.map_cons,List.find?_cons,hno 0 p (by omega) rfl];exact ih (k:=k) (by simpa using hq) fun j x hj hx=>hno (j+1) x (by omega) (by simpa using hx)
 unfold jL;rw[e]
theorem agS {C:MC} {ak level:Int} {seen:List Int} {s:MS} {Lv:List VV} (hv:Lv.map VV.v=s.views) (hno:∀ j p,j < Lv.length→Lv[j]? = some p→gy ak level seen p.v=false) :
  jL C ak level seen s=((s.infos.length:Int),{ (({ s with views:=s.views ++ [⟨ak,level,seen,s.infos.length⟩] }:MS).draw C 3).2 with infos:=s.infos ++ [⟨ak,1+dP C.L s.at' 3⟩] }):=by
 have e:s.views.find? (gy ak level seen)=none:=by
  rw[← hv,List.find?_eq_none];intro v hv';obtain⟨q,hq,rfl⟩:=List.mem_map.1 hv';obtain⟨j,hj,e⟩:=List.mem_iff_getElem.1 hq;rw[hno j q hj (by rw[← e]; exact List.getElem?_eq_getElem hj)];simp
 unfold jL;rw[e]; rfl
theorem agT {C:MC} {M:ML} {Fd:Ac} {vv vn vi:Value} {Lv:List VV} {Ln:List NV} {s:MS} {W:World} (h:MAt C M Fd vv vn vi Lv Ln s W) (ak level:Int) (sv:Value) (seen:List Int) (hs:Ae W Fd sv seen) (hsl:seen.length < 1000000) (hvs:∀ v∈s.views,v.seen.length < 1000000) (hil:s.infos.length≤900000) (hvl:s.views.length≤900000) :
  Calls Tryz.prog 146 #[.pointer (some ⟨M.mb,0,none⟩),.int .i64 ak,.int .i64 level,sv] W fun e w'=>e = .returned (.int .i64 (jL C ak level seen s).1)∧More C M Fd vv vn vi Ln (jL C ak level seen s).2 W w':=by
 have HM:=Aa h;have HS:=Aa hs;have HVS:=Aa hvs;clear h hs hvs;obtain⟨Av,cv,rfl,hcv,hgv⟩:=HM.out.views.form;have HLV:=Aa (show Lv.length=s.views.length by rw[← HM.out.lW,List.length_map]);have hlb:Lv.length≤900000:=by rw[HLV.out]; exact hvl
 obtain⟨As,cs,hsv,_⟩:=id HS.out;subst hsv;go_enter Tryz.func146,Tryz.ntmps146;go_wp2
 go_loopw [9] (fun iv wr=>∃ k:Nat,k≤Lv.length∧iv = .int .i64 (k:Int)∧Hid (Below W.heap.size W wr)∧Hid (∀ j q,j < k→Lv[j]? = some q→gy ak level seen q.v=false)) (fun iv _=>Lv.length - (intOf iv).toNat)
 case atStart=>exact⟨0,Nat.zero_le _,rfl,Aa (Below.refl _ _),Aa fun j q hj=>absurd hj (Nat.not_lt_zero _)⟩
 case round =>
  obtain⟨k,hk,rfl,HB,hno⟩:=hrel;have HMW:=Aa (HM.out.below HB.out);have m2:=HMW.out.box.cell (i:=2) rfl;by_cases hkt:k < Lv.length
  ·have t0:decide ((k:Int) < (Lv.length:Int))=true:=decide_eq_true (by omega);obtain⟨gv,rfl⟩:=hgv (by omega);obtain⟨q,hq⟩:=au hkt;have hfull:Ae wr Fd q.vs q.v.seen∧∀ j u,(adS.cells q)[j]? = some u→wr.cell? ⟨gv,k*4+j,none⟩=some u:=by
    rcases HMW.out.views.at with⟨h,_⟩ | ⟨g,cap,h,_,_,_,hf,hx⟩
    ·simp at h
    ·simp only[Value.slice.injEq,Option.some.injEq,Addr.mk.injEq,and_true,true_and] at h;obtain⟨rfl,_⟩:=h;exact⟨hf q (List.mem_of_getElem? hq),fun j u hu=>by have:=hx k q hq j u hu; rw[Nat.zero_add] at this; exact this⟩
   have hql:q.v.seen.length < 1000000:=HVS.out q.v (by rw[← HM.out.lW]; exact List.mem_map.2 ⟨q,List.mem_of_getElem? hq,rfl⟩);have HQ:=Aa hq;clear hq;obtain⟨⟨qp,ql,qs,qi⟩,qv⟩:=q;obtain⟨hqi,hqc⟩:=hfull;obtain⟨Aq,cq,hqv,_⟩:=id hqi;dsimp only at hqv hqi hql;subst hqv;have c0:wr.cell? ⟨gv,k*4,none⟩=some (.int .i64 qp):=hqc 0 _ rfl;have c1:wr.cell? ⟨gv,k*4+1,none⟩=some (.int .i64 ql):=hqc 1 _ rfl;have c2:wr.cell? ⟨gv,k*4+2,none⟩=some (.slice Aq qs.length cq):=hqc 2 _ rfl;have c3:wr.cell? ⟨gv,k*4+3,none⟩=some (.int .i64 qi):=hqc 3 _ rfl;have HI:=Aa hqi;clear hqi hqc;have HK:=Aa (show gy ak level seen ⟨qp,ql,qs,qi⟩=(decide (qp=ak)&&decide (ql=level)&&decide (qs=seen)) from rfl);go_upto_region 5 with(fail)
   obtain⟨W1,hW1,rx,hB1,hz1⟩:=aJ wr 230 #[.int .i64 qp,.int .i64 ql,.slice Aq qs.length cq,.int .i64 qi];rw[← hW1];have HB1:=Aa (HB.out.trans (hB1.mono HB.out.size));have HI1:=Aa (HI.out.on (Below.same' hB1 Fd));have HS1:=Aa ((HS.out.on (Below.same' HB.out Fd)).on (Below.same' hB1 Fd));obtain⟨xb,hxb⟩:∃ xb,xb=wr.heap.size:=⟨_,rfl⟩;rw[← hxb] at rx ⊢;have x0:=rx.cell (i:=0) rfl; have x1:=rx.cell (i:=1) rfl; have x2:=rx.cell (i:=2) rfl; have x3:=rx.cell (i:=3) rfl;clear hW1 hB1 hz1 hxb rx c0 c1 c2 c3 m2 HI HB HMW;by_cases h3:qp=ak
   case neg =>
    have t3:(qp==ak)=false:=by simpa using h3
    have HU:=Aa (show gy ak level seen ⟨qp,ql,qs,qi⟩=false by rw[HK.out]; simp[h3]);clear h3;go_wp2_with fail
    go_roundw
    case rel=>exact⟨k+1,by omega,by go_num,HB1,Aa (xq hno.out HQ.out HU.out)⟩
    case measure=>simp[intOf]; omega
   by_cases h4:ql=level
   case neg =>
    have t3:(qp==ak)=true:=by simpa using h3
    have t4:(ql==level)=false:=by simpa using h4
    have HU:=Aa (show gy ak level seen ⟨qp,ql,qs,qi⟩=false by rw[HK.out]; simp[h4]);clear h3 h4;go_wp2_with fail
    go_roundw
    case rel=>exact⟨k+1,by omega,by go_num,HB1,Aa (xq hno.out HQ.out HU.out)⟩
    case measure=>simp[intOf]; omega
   have t3:(qp==ak)=true:=by simpa using h3
   have t4:(ql==level)=true:=by simpa using h4
   by_cases h5:qs=seen
   case neg =>
    have t5:decide (qs=seen)=false:=decide_eq_false h5;have HU:=Aa (show gy ak level seen ⟨qp,ql,qs,qi⟩=false by rw[HK.out]; simp[h5]);clear h3 h4 h5;go_wp2_with (go_at_call 37; (with_reducible refine(aX _ Fd _ _ qs seen HI1.out HS1.out hql hsl).mono ?_); rintro e w' ⟨rfl,m,rfl⟩)
    go_roundw
    case rel=>exact⟨k+1,by omega,by go_num,Aa (aG HB1.out _),Aa (xq hno.out HQ.out HU.out)⟩
    case measure=>simp[intOf]; omega
   have t5:decide (qs=seen)=true:=decide_eq_true h5;have HU:=Aa (show gy ak level seen ⟨qp,ql,qs,qi⟩=true by rw[HK.out]; simp[h3,h4,h5]);have HF:=Aa (agR (C:=C) HM.out.lW HQ.out HU.out hno.out);clear h3 h4 h5;go_wp2_with (go_at_call 37; (with_reducible refine(aX _ Fd _ _ qs seen HI1.out HS1.out hql hsl).mono ?_); rintro e w' ⟨rfl,m,rfl⟩)
   go_ret;exact⟨by rw[HF.out]; rfl,by rw[HF.out]; exact⟨_,_,Lv,fun _ h=>.inl h,fun _ h=>.inl h,HM.out.below (aG HB1.out _),Below.wrote (aG HB1.out _) _⟩⟩
  ·have hke:Lv.length=k:=by omega
   have t0:decide ((k:Int) < (Lv.length:Int))=false:=decide_eq_false (by omega);have HN:=Aa (agS (C:=C) HM.out.lW (by rw[hke]; exact hno.out));obtain⟨Ai,ci,rfl,hci,_⟩:=HM.out.infos.form;have m9:=HMW.out.box.cell (i:=9) rfl;have HSW:=Aa (HS.out.on (Below.same' HB.out Fd));have HW:=Aa (Below.wrote HB.out (Mut M.mb M.db (.slice Av Lv.length cv) vn (.slice Ai s.infos.length ci)));have k6:=HB.out.size;have hbase:M.base≤W.heap.size:=Nat.le_of_lt (Nat.lt_of_le_of_lt HM.out.bW.1 HM.out.box.lt);have hdv:=iL C.L s.at' (n:=3) (by decide);obtain⟨dv,aj2⟩:∃ dv,dv=dP C.L s.at' 3:=⟨_,rfl⟩;have HDV:=Aa aj2;rw[← aj2] at hdv HN;have hwd:IntKind.i64.wrap (1+dv)=1+dv:=IntWalk.i64_in _ (by omega);have hwl:IntKind.i64.wrap ((s.infos.length:Int)+1 - 1)=(s.infos.length:Int):=by rw[Int.add_sub_cancel]; exact IntWalk.i64_in _ (by omega)
   have hwk:IntKind.i64.wrap (s.infos.length:Int)=(s.infos.length:Int):=IntWalk.i64_in _ (by omega);clear aj2 HB hgv hke;go_wp2_with fail
   refine bK (fun w'=>w'.cell? ⟨M.mb,2,none⟩=some (.slice Av Lv.length cv)∧w'.cell? ⟨M.mb,9,none⟩=some (.slice Ai s.infos.length ci)) 17 3 (by kernel_rfl) rfl (by kernel_rfl) ?_;have hHeld:(fun w':World=>w'.cell? ⟨M.mb,2,none⟩=some (.slice Av Lv.length cv)∧w'.cell? ⟨M.mb,9,none⟩=some (.slice Ai s.infos.length ci)) wr.drew:=⟨m2,m9⟩;simp only[List.take_succ_cons,List.take_zero];have hb:Below wr.heap.size wr wr.drew:=aG (Below.refl _ wr) 1;replace m2:=ah m2 hb;replace m9:=ah m9 hb;replace HMW:=Aa (HMW.out.below hb); replace HSW:=Aa (HSW.out.on (Below.same' hb Fd));replace HW:=Aa (HW.out.trans (Below.wrote hb _)); replace k6:=Nat.le_trans k6 hb.size;clear hb;generalize wr.drew=wn at *;refine tk0 [0,1,2,3,4,5,6,7,8,9,10,11,12,13,14] ?_;iterate 15 (refine tk (v:=?_) rfl (by kernel_rfl) (by kernel_rfl) (by kernel_rfl) (fun _ _ _ h=>h) (Or.inl ⟨by rfl,?_⟩) hHeld ?_;rotate_left;(focus intro wx hSx;(try dsimp only at hSx);go_split_ands;go_simp;try with_reducible rfl);try simp only[Act.put,lq1,lq2,lq3,lq4,lq5,lq6])
   refine tk1 ?_;refine tk2 15 (by kernel_rfl) rfl fun K hK=>?_
   go_simp;refine hK.out _ _ ⟨gB m2 _,gB m9 _⟩ (fun hHeld=>?_);clear hK K;try simp only[Act.put,lq1,lq2,lq3,lq4,lq5,lq6]
   refine tk2 16 (by kernel_rfl) rfl fun K hK=>?_
   refine kF (K:=adS) (F:=Fd) (W:=wn) rfl _ _ 132 230 48 _ Tryz.underlying132 Tryz.infoViewK rfl (by decide) rfl M.base (Nat.le_trans hbase k6) (.slice Av Lv.length cv) Lv rfl ⟨⟨ak,level,seen,s.infos.length⟩,.slice As seen.length cs⟩ _ rfl (by omega) rfl HMW.out.views (HSW.out.keep (fun b hb _=>⟨hb,(HMW.out.fdn hb).2.2.1⟩) (Same.refl _ _)) ?_;intro g' cap wq hown' hwq hat' hlt';obtain⟨W2,hW2,hm2,hw2⟩:=HMW.out.afc hown' hwq hat' hlt';have xu:(Value.slice Av Lv.length cv).ownBlock≠some M.mb:=fun e=>(HMW.out.bG _ e).1 rfl
   replace m2:=bZ m2 hwq xu; replace m9:=bZ m9 hwq xu;have f2:=(HMW.out.box.wrote hwq xu).frozen 2;have HU:=Aa (ah4 (n:=Lv.length+1) (cap:=cap) hat' k6);replace HW:=Aa (HW.out.trans hw2);replace k6:W.heap.size≤W2.heap.size:=Nat.le_trans k6 hw2.size;have HM2:=Aa hm2; have HY:=Aa hW2;clear hm2 hW2 hw2 hown' hwq hat' hlt' hHeld HMW HSW xu;refine hK.out _ _ ⟨m2,m9⟩ (fun hHeld=>?_);clear hK K;try simp only[Act.put,lq1,lq2,lq3,lq4,lq5,lq6]
   refine wpAnyH_done (by kernel_rfl) ?_ _;clear hHeld;show wpList _ _ _ _ _ _;go_wp2
   show wpList _ _ _ _ _ _;go_wp2
   show wpList _ _ _ _ _ _;go_wp2
   rw[← HY.out];unfold Bo;show Exit.then _ _ .normal _ _;have n0:=HM2.out.box.cell (i:=0) rfl; have n9:=HM2.out.box.cell (i:=9) rfl;clear HY m2 m9 f2;go_wp2_with fail
   refine bK (fun w'=>w'.cell? ⟨M.mb,0,none⟩=some (.pointer (some ⟨M.db,0,none⟩))∧w'.cell? ⟨M.mb,9,none⟩=some (.slice Ai s.infos.length ci)) 16 4 (by kernel_rfl) rfl (by kernel_rfl) ?_;have hHeld:(fun w':World=>w'.cell? ⟨M.mb,0,none⟩=some (.pointer (some ⟨M.db,0,none⟩))∧w'.cell? ⟨M.mb,9,none⟩=some (.slice Ai s.infos.length ci)) W2.drew:=⟨n0,n9⟩;simp only[List.take_succ_cons,List.take_zero];have hb:Below W2.heap.size W2 W2.drew:=aG (Below.refl _ W2) 1;replace n0:=ah n0 hb;replace n9:=ah n9 hb;replace HM2:=Aa (HM2.out.below hb);replace HW:=Aa (HW.out.trans (Below.wrote hb _)); replace k6:=Nat.le_trans k6 hb.size;clear hb;generalize W2.drew=wn at *;refine tk0 [0,1,2,3,4,5,6,7,8,9,10] ?_;iterate 11 (refine tk (v:=?_) rfl (by kernel_rfl) (by kernel_rfl) (by kernel_rfl) (fun _ _ _ h=>h) (Or.inl ⟨by rfl,?_⟩) hHeld ?_;rotate_left;(focus intro wx hSx;(try dsimp only at hSx);go_split_ands;go_simp;try with_reducible rfl);try simp only[Act.put,lq1,lq2,lq3,lq4,lq5,lq6])
   refine tk1 ?_;refine tk2 11 (by kernel_rfl) rfl fun K hK=>?_
   go_simp;refine(adT HM2.out 3 (by decide) (by decide)).mono ?_;rintro e wm ⟨rfl,hm3,hw3⟩;replace n0:=bZ n0 hw3 HM2.out.bW.2.2; replace n9:=bZ n9 hw3 HM2.out.bW.2.2;replace HW:=Aa (HW.out.step hw3 fun i _ e=>.inr (.inl e)); replace k6:=Nat.le_trans k6 hw3.size;have HM3:=Aa hm3;have afi:(MS.draw C { s with views:=s.views ++ [⟨ak,level,seen,(s.infos.length:Int)⟩] } 3).1=dv:=HDV.out.symm;rw[afi];clear hw3 hm3 hHeld HM2 afi;refine hK.out _ _ ⟨n0,n9⟩ (fun hHeld=>?_);clear hK K;try simp only[Act.put,lq1,lq2,lq3,lq4,lq5,lq6]
   refine tk0 [12,13] ?_;iterate 2 (refine tk (v:=?_) rfl (by kernel_rfl) (by kernel_rfl) (by kernel_rfl) (fun _ _ _ h=>h) (Or.inl ⟨by rfl,?_⟩) hHeld ?_;rotate_left;(focus intro wx hSx;(try dsimp only at hSx);go_split_ands;go_simp;try with_reducible rfl);try simp only[Act.put,lq1,lq2,lq3,lq4,lq5,lq6])
   refine tk1 ?_;refine tk2 14 (by kernel_rfl) rfl fun K hK=>?_
   go_simp;refine hK.out _ _ ⟨gB n0 _,gB n9 _⟩ (fun hHeld=>?_);clear hK K;try simp only[Act.put,lq1,lq2,lq3,lq4,lq5,lq6]
   refine tk2 15 (by kernel_rfl) rfl fun K hK=>?_
   refine kF (K:=ah2) (F:=Fd) (W:=wm) rfl _ _ 23 59 16 _ Tryz.underlying23 Tryz.infoInfK rfl (by decide) rfl M.base (Nat.le_trans hbase k6) (.slice Ai s.infos.length ci) s.infos rfl ⟨ak,1+dv⟩ _ rfl (by omega) rfl HM3.out.infos trivial ?_;intro g2 cap2 wq2 hown' hwq hat' hlt';obtain⟨W4,hW4,hm4,hw4⟩:=HM3.out.afe hown' hwq hat' hlt';have xu:(Value.slice Ai s.infos.length ci).ownBlock≠some M.mb:=fun e=>(HM3.out.dI _ e).1 rfl
   replace n0:=bZ n0 hwq xu; replace n9:=bZ n9 hwq xu;have f9:=(HM3.out.box.wrote hwq xu).frozen 9;have HU2:=Aa (ah4 (n:=s.infos.length+1) (cap:=cap2) hat' k6);replace HW:=Aa (HW.out.step hw4 fun i hi e=>yG HU.out (Up.refl W _) (Up.refl W _) hi e);replace k6:W.heap.size≤W4.heap.size:=Nat.le_trans k6 hw4.size;have o9:W4.cell? ⟨M.mb,9,none⟩=some (.slice (some ⟨g2,0,none⟩) (s.infos.length+1) cap2):=hm4.box.cell (i:=9) rfl;have HM4:=Aa hm4; have HY:=Aa (show W4=wq2.setCell ⟨M.mb,9,none⟩ (.slice (some ⟨g2,0,none⟩) (s.infos.length+1) cap2) from hW4);clear hm4 hW4 hw4 hown' hwq hat' hlt' hHeld HM3 xu;refine hK.out _ _ ⟨n0,n9⟩ (fun hHeld=>?_);clear hK K;try simp only[Act.put,lq1,lq2,lq3,lq4,lq5,lq6]
   refine wpAnyH_done (by kernel_rfl) ?_ _;clear hHeld;show wpList _ _ _ _ _ _;go_wp2
   show wpList _ _ _ _ _ _;go_wp2
   show wpList _ _ _ _ _ _;go_wp2
   show wpList _ _ _ _ _ _;go_wp2
   rw[← HY.out];unfold Bo;show Exit.then _ _ .normal _ _;clear HY n0 n9 f9;go_wp2_with fail
   go_ret;exact⟨by rw[HN.out]; rfl,by rw[HN.out]; exact⟨_,_,_,HU.out,HU2.out,HM4.out,HW.out⟩⟩
def BH (M:ML) (Fd:Ac) (vv vn vi:Value) (W:World) (b:Nat):Prop:=b < W.heap.size∧¬ M.F b∧¬ Fd b∧¬ Mut M.mb M.db vv vn vi b∧M.vl.ownBlock≠some b
section
variable {C:MC} {M:ML} {Fd Fe:Ac} {vv vn vi vv' vn' vi':Value} {Lv:List VV} {Ln:List NV} {s:MS} {W W':World}
theorem MAt.priv {K:Ac} (h:MAt C M Fd vv vn vi Lv Ln s W) (hw:Wrote K W W') (hK:∀ b,K b→b < W.heap.size→BH M Fd vv vn vi W b):MAt C M Fd vv vn vi Lv Ln s W' :=
 h.on (hw.same fun b hb hk=>by
  obtain⟨_,h1,h2,h3,h4⟩:=hK b hk (h.aff hb);rcases hb with hb | hb | hb | hb
  ·exact h1 hb
  ·exact h2 hb
  ·exact h3 hb
  ·exact h4 hb)
theorem MAt.zh (h:MAt C M Fd vv vn vi Lv Ln s W) {b:Nat} (h1:W.heap.size≤b) (h2:b < W'.heap.size):BH M Fd vv vn vi W' b :=
 ⟨h2,fun e=>by have:=h.aff (.inl e); omega,fun e=>by have:=h.aff (.inr (.inl e)); omega,fun e=>by have:=h.abP e; omega,fun e=>by have:=(h.lev.row.lt b e).2; omega⟩
theorem BH.wider {b:Nat} (h:BH M Fd vv vn vi W b) (hs:W.heap.size≤W'.heap.size):BH M Fd vv vn vi W' b:=⟨by have:=h.1; omega,h.2⟩
theorem BH.next {b:Nat} (h:BH M Fd vv vn vi W b) (hs:W.heap.size≤W'.heap.size) (hF:∀ b,Fe b→Fd b∨W.heap.size≤b) (h1:Up W vv vv') (h2:Up W vn vn') (h3:Up W vi vi'):BH M Fe vv' vn' vi' W' b :=
 ⟨by have:=h.1; omega,h.2.1,fun e=>(hF b e).elim h.2.2.1 fun e=>by have:=h.1; omega,fun e=>h.2.2.2.1 (yG h1 h2 h3 h.1 e),h.2.2.2.2⟩
theorem Up.trans (h:Up W vv vv') {vv'':Value} (k:Up W' vv' vv'') (hs:W.heap.size≤W'.heap.size):Up W vv vv'':=fun b hb=>(k b hb).elim (fun e=>h b e) fun e=>.inr (by omega)
end
def abQ:Knd (Value×List Int) where
 n:=1
 cells q:=[q.1]
 fine w F q:=Ae w F q.1 q.2
 len _:=rfl
 pos:=by decide
 one h u hu:=by
  obtain⟨A,c,hv,_⟩:=h;rw[List.mem_singleton.1 hu,hv]; rfl
 keep h hFG hs:=h.keep hFG hs
theorem Tryz.infoListK:(Tryz.prog.info? 26).map (fun i=>(i.zero,i.size,i.bytes))=some (some (.slice none 0 0),abQ.n,24):=by kernel_rfl
theorem Ak.lists {w:World} {base:Nat} {et:TypeId} {F G:Ac} {v:Value} {L:List (Value×List Int)} (h:Ak abQ w base et F v L) (hF:∀ b,F b→b < w.heap.size→G b) (hG:∀ b,v.ownBlock=some b→G b):AY w G v (L.map Prod.snd):=by
 rcases h.at with⟨rfl,rfl⟩ | ⟨g,cap,rfl,hb,hg,hcap,hf,hx⟩
 ·exact⟨none,0,rfl,Nat.le_refl _,fun h=>absurd h (by simp)⟩
 ·refine⟨_,cap,by rw[List.length_map],by rw[List.length_map]; exact hcap,fun _=>⟨g,0,rfl,hG g rfl,hg,fun k x hk=>?_⟩⟩;rw[List.getElem?_map] at hk;obtain⟨q,hq,rfl⟩:=Option.map_eq_some_iff.1 hk;exact⟨q.1,hx k q hq 0 q.1 rfl,(hf q (List.mem_of_getElem? hq)).keep hF (Same.refl _ _)⟩
theorem mP {w:World} {F:Ac} {ops:Array Oper} {rest:List Oper} {o:Oper} {a:Act} {Q:Exit→Act→World→Prop} (hgd:o.guard=none) (s x:Operand) (ho:o.op = .call { callee:=.builtin .append,args:=#[s,x],argTypes:=#[26,26] })
  (v:Value) (l:List Int) (hs:a.eval s = .slice (some ⟨w.heap.size,0,none⟩) 0 0) (hx:a.eval x=v) (hv:Ae w F v l) (hm:l.length≤1000000)
  (h:∀ g cap w',Ak nP w' w.heap.size 3 (fun _=>False) (.slice (some ⟨g,0,none⟩) l.length cap) l→Below w.heap.size w w'→w.heap.size < w'.heap.size→wpList Tryz.prog ops Q rest (a.put o.dst (.slice (some ⟨g,0,none⟩) l.length cap)) w') :
  wpList Tryz.prog ops Q (o :: rest) a (w.alloc (.cells #[] 3)):=by
 obtain⟨i0,hi,hz0,hz1,hz2⟩:=info_parts Tryz.infoInt;have hb0:Below w.heap.size w (w.alloc (.cells #[] 3)):=(Below.refl _ _).alloc (Nat.le_refl _) _;have hsz:(w.alloc (.cells #[] 3)).heap.size=w.heap.size+1:=by simp
 have own0:(w.alloc (.cells #[] 3)).ownsRow w.heap.size 3 1 (.slice (some ⟨w.heap.size,0,none⟩) 0 0) 0 []:=⟨rfl,.inr ⟨_,0,#[],rfl,Nat.le_refl _,heap_alloc_new _ _,Nat.le_refl _,by unfold maxLen; omega,rfl,rfl⟩⟩;have hv':=hv.on (Below.same' hb0 F);obtain⟨A,c,rfl,hc,hr⟩:=hv';have hm':l.flatMap nP.cells=l.map (Value.int .i64):=by
  clear hv hm h hr hx hc;induction l with
  | nil=>rfl
  | cons a l ih=>rw[List.flatMap_cons,List.map_cons,ih]; rfl
 by_cases h0:0 < l.length
 ·obtain⟨b,off,rfl,_,_,hcell⟩:=hr h0;refine wpList_append_lies (w.alloc (.cells #[] 3)) hgd s x 26 ho w.heap.size 3 i0 _ 1 8 Tryz.underlying26 hi hz0 hz1 hz2 rfl (by decide) _ 0 [] hs own0 ⟨b,off,none⟩ l.length c (l.map (Value.int .i64)) hx (by simp) (fun j u hj=>?_) (by simp[Value.oneCell']) h0 (by unfold maxLen; omega) (by omega) (by omega) _ rfl ?_
  ·rw[List.getElem?_map] at hj;obtain⟨y,hy,rfl⟩:=Option.map_eq_some_iff.1 hj;have:=hcell j y hy;unfold iH at this;rw[Nat.mul_one] at this;rw[Addr.add_lit];exact this
  ·intro g cap w' h1 h2 h3 h4;rw[Nat.zero_add] at h1 ⊢;have h5:=h2.size;refine h g cap w' ⟨?_,fun _ _=>trivial⟩ ⟨h2.os.trans hb0.os,h2.tape.trans hb0.tape,h2.output.trans hb0.output,by omega,fun k hk=>?_⟩ (by omega)
   ·rw[hm']; exact h1
   ·exact(h2.block k (by omega) (fun e=>by have e':some k=some w.heap.size:=e; cases e'; omega)).trans (hb0.block k hk)
 ·have hl:l = []:=List.eq_nil_of_length_eq_zero (by omega);subst hl;refine wpList_plain hgd fun K hK=>?_
  have hsrc:Src Tryz.prog i0.size 26 (.slice A 0 c) 0 [] (w.alloc (.cells #[] 3)):=by
   cases A with
   | none=>exact Src.ofNil _ Tryz.underlying26 c
   | some ad=>exact Src.ofSlice _ Tryz.underlying26 ad 0 c [] (by simp) (by simp) (by simp)
  have hrun:=run_append_room_src (P:=Tryz.prog) (w.alloc (.cells #[] 3)) 26 26 o.type 3 i0 Tryz.underlying26 hi w.heap.size 0 0 0 (.slice A 0 c) 0 [] hsrc (by omega) (by simp) (by simp);unfold Oper.wp execOp;simp only[ho,resolve,invoke,builtin,Sem.run_bind,Sem.run_pure,Result.andThen_ok,List.map_toArray,List.map_cons,List.map_nil,hs];rw[show a.eval x = .slice A 0 c from hx,hrun];exact hK _ _ (h w.heap.size 0 (w.alloc (.cells #[] 3)) ⟨own0,fun _ _=>trivial⟩ hb0 (by omega))
def Built (C:MC) (M:ML) (Fd:Ac) (vv vn vi:Value) (s':MS) (W w':World):Prop:=∃ (Fe:Ac) (vv' vn' vi':Value) (Lv':List VV) (Ln':List NV),(∀ b,Fd b→Fe b)∧(∀ b,Fe b→Fd b∨W.heap.size≤b)∧Up W vv vv'∧Up W vn vn'∧Up W vi vi' ∧
 MAt C M Fe vv' vn' vi' Lv' Ln' s' w'∧Wrote (Mut M.mb M.db vv vn vi) W w'
structure KAt (C:MC) (M:ML) (Fe:Ac) (vv vn vi:Value) (Lv:List VV) (Ln:List NV) (s:MS) (hd:Nd) (p:Place) (base yb xb:Nat) (un uw:Value) (nx ws:List Int) (W:World):Prop where
 m:MAt C M Fe vv vn vi Lv Ln s W
 ry:Row W yb 61 [.int .i64 hd.kind,.int .i64 hd.ak,.int .i64 hd.info,un,uw,.slice none 0 0]
 rx:Row W xb 137 [.int .i64 p.ak,.int .i64 p.many,.int .i64 p.seen]
 hn:Ak nP W base 3 (fun _=>False) un nx
 hw:Ak nP W base 3 (fun _=>False) uw ws
 py:BH M Fe vv vn vi W yb
 px:BH M Fe vv vn vi W xb
 pn:∀ b,un.ownBlock=some b→BH M Fe vv vn vi W b
 pw:∀ b,uw.ownBlock=some b→BH M Fe vv vn vi W b∧un.ownBlock≠some b
 lt:yb < base∧xb < base∧yb≠xb
section
variable {C:MC} {M:ML} {Fe:Ac} {vv vn vi:Value} {Lv:List VV} {Ln:List NV} {s s':MS} {hd:Nd} {p:Place} {base yb xb:Nat} {un uw:Value} {nx ws:List Int} {W W':World}
theorem KAt.below (h:KAt C M Fe vv vn vi Lv Ln s hd p base yb xb un uw nx ws W) (hb:Below W.heap.size W W'):KAt C M Fe vv vn vi Lv Ln s hd p base yb xb un uw nx ws W' :=
 ⟨h.m.below hb,h.ry.below hb h.ry.lt,h.rx.below hb h.rx.lt,h.hn.below hb,h.hw.below hb,h.py.wider hb.size,h.px.wider hb.size,fun b e=>(h.pn b e).wider hb.size,fun b e=>⟨(h.pw b e).1.wider hb.size,(h.pw b e).2⟩,h.lt⟩
theorem KAt.wrote {K:Ac} (h:KAt C M Fe vv vn vi Lv Ln s hd p base yb xb un uw nx ws W) (hm:MAt C M Fe vv vn vi Lv Ln s' W') (hw:Wrote K W W') (hK:∀ b,K b→Mut M.mb M.db vv vn vi b):KAt C M Fe vv vn vi Lv Ln s' hd p base yb xb un uw nx ws W' :=
 ⟨hm,h.ry.wrote hw fun e=>h.py.2.2.2.1 (hK _ e),h.rx.wrote hw fun e=>h.px.2.2.2.1 (hK _ e),h.hn.wrote hw fun b hb e=>(h.pn b (hb.resolve_left id)).2.2.2.1 (hK _ e),h.hw.wrote hw fun b hb e=>(h.pw b (hb.resolve_left id)).1.2.2.2.1 (hK _ e),h.py.wider hw.size,h.px.wider hw.size,fun b e=>(h.pn b e).wider hw.size,fun b e=>⟨(h.pw b e).1.wider hw.size,(h.pw b e).2⟩,h.lt⟩
theorem KAt.fresh (h:KAt C M Fe vv vn vi Lv Ln s hd p base yb xb un uw nx ws W) (hb:Below W.heap.size W W'):KAt C M (fun b=>Fe b∨(W.heap.size≤b∧b < W'.heap.size)) vv vn vi Lv Ln s hd p base yb xb un uw nx ws W':=by
 have hx:=h.below hb;have hP:∀ b,BH M Fe vv vn vi W b→BH M (fun b=>Fe b∨(W.heap.size≤b∧b < W'.heap.size)) vv vn vi W' b:=fun b k=>⟨(k.wider hb.size).1,k.2.1,fun e=>e.elim k.2.2.1 fun e=>by have:=k.1; omega,k.2.2.2⟩
 exact⟨hx.m.fresh (fun b e=>h.m.abP e) (by have:=h.m.bW.1; have:=h.m.box.lt; omega),hx.ry,hx.rx,hx.hn,hx.hw,hP _ h.py,hP _ h.px,fun b e=>hP b (h.pn b e),fun b e=>⟨hP b (h.pw b e).1,(h.pw b e).2⟩,h.lt⟩
theorem KAt.built (h:KAt C M Fe vv vn vi Lv Ln s hd p base yb xb un uw nx ws W) (hb:Built C M Fe vv vn vi s' W W'):∃ (Fe':Ac) (vv' vn' vi':Value) (Lv':List VV) (Ln':List NV),(∀ b,Fe b→Fe' b)∧(∀ b,Fe' b→Fe b∨W.heap.size≤b)∧Up W vv vv'∧Up W vn vn'∧Up W vi vi' ∧
  KAt C M Fe' vv' vn' vi' Lv' Ln' s' hd p base yb xb un uw nx ws W'∧Wrote (Mut M.mb M.db vv vn vi) W W':=by
 obtain⟨Fe',vv',vn',vi',Lv',Ln',h1,h2,h3,h4,h5,h6,h7⟩:=hb;have hP:∀ b,BH M Fe vv vn vi W b→BH M Fe' vv' vn' vi' W' b:=fun b k=>k.next h7.size h2 h3 h4 h5
 exact⟨Fe',vv',vn',vi',Lv',Ln',h1,h2,h3,h4,h5,⟨h6,h.ry.wrote h7 h.py.2.2.2.1,h.rx.wrote h7 h.px.2.2.2.1,h.hn.wrote h7 fun b hb=>(h.pn b (hb.resolve_left id)).2.2.2.1,h.hw.wrote h7 fun b hb=>(h.pw b (hb.resolve_left id)).1.2.2.2.1,hP _ h.py,hP _ h.px,fun b e=>hP b (h.pn b e),fun b e=>⟨hP b (h.pw b e).1,(h.pw b e).2⟩,h.lt⟩,h7⟩
theorem KAt.akz (h:KAt C M Fe vv vn vi Lv Ln s hd p base yb xb un uw nx ws W) {g cap:Nat} {z:Int} {W1:World} (hown:Ak nP W1 base 3 (fun _=>False) (.slice (some ⟨g,0,none⟩) (nx.length+1) cap) (nx ++ [z])) (hwq:Wrote (fun b=>un.ownBlock=some b) W W1) (hat:un.ownBlock=some g∨W.heap.size≤g) :
  ∃ W2,W2=W1.setCell ⟨yb,3,none⟩ (.slice (some ⟨g,0,none⟩) (nx.length+1) cap)∧KAt C M Fe vv vn vi Lv Ln s hd p base yb xb (.slice (some ⟨g,0,none⟩) (nx.length+1) cap) uw (nx ++ [z]) ws W2∧Wrote (fun b=>base≤b∨b=yb) W W2:=by
 have hbs:∀ b,un.ownBlock=some b→base≤b:=fun b e=>(h.hn.row.lt b e).1
 have hgl:=hown.row.lt g rfl;have hl:=h.lt;have hs:=hwq.size;have hwz:Wrote (fun b=>b=yb) W1 (W1.setCell ⟨yb,3,none⟩ (.slice (some ⟨g,0,none⟩) (nx.length+1) cap)):=Wrote.setCell (K:=fun b=>b=yb) (p:=⟨yb,3,none⟩) (Wrote.refl _ _) (.inl rfl) _;have hsz:(W1.setCell ⟨yb,3,none⟩ (.slice (some ⟨g,0,none⟩) (nx.length+1) cap)).heap.size=W1.heap.size:=by simp
 have hw2:Wrote (fun b=>un.ownBlock=some b∨b=yb) W (W1.setCell ⟨yb,3,none⟩ (.slice (some ⟨g,0,none⟩) (nx.length+1) cap)):=⟨hwz.os.trans hwq.os,hwz.tape.trans hwq.tape,hwz.output.trans hwq.output,by omega,fun i hi hn=>(hwz.block i (by omega) (fun e=>hn (.inr e))).trans (hwq.block i hi (fun e=>hn (.inl e)))⟩;have own:∀ b,(Value.slice (some ⟨g,0,none⟩) (nx.length+1) cap).ownBlock=some b→b=g:=fun b hb=>by
  have e:some g=some b:=hb;cases e; rfl
 have hP:∀ b,BH M Fe vv vn vi W b→BH M Fe vv vn vi (W1.setCell ⟨yb,3,none⟩ (.slice (some ⟨g,0,none⟩) (nx.length+1) cap)) b:=fun b k=>k.wider (by omega)
 have hPg:BH M Fe vv vn vi (W1.setCell ⟨yb,3,none⟩ (.slice (some ⟨g,0,none⟩) (nx.length+1) cap)) g:=hat.elim (fun e=>hP g (h.pn g e)) fun e=>h.m.zh e (by omega)
 refine⟨_,rfl,⟨h.m.priv hw2 fun b hb _=>hb.elim (fun e=>h.pn b e) fun e=>e▸h.py,(h.ry.wrote hwq fun e=>by have:=hbs _ e; omega).set 3 _,h.rx.wrote hw2 fun e=>e.elim (fun e=>by have:=hbs _ e; omega) fun e=>hl.2.2 e.symm,?_,?_,hP _ h.py,hP _ h.px,?_,?_,h.lt⟩,⟨hw2.os,hw2.tape,hw2.output,hw2.size,fun i hi hn=>hw2.block i hi fun e=>hn (e.imp (fun e=>hbs i e) id)⟩⟩
 ·exact hown.wrote hwz fun b hb e=>by have:=own b (hb.resolve_left id); omega
 ·exact h.hw.wrote hw2 fun b hb e=>e.elim (fun e=>(h.pw b (hb.resolve_left id)).2 e) fun e=>by have:=(h.hw.row.lt b (hb.resolve_left id)).1; omega
 ·intro b hb; rw[own b hb]; exact hPg
 ·intro b hb;refine⟨hP b (h.pw b hb).1,fun e=>?_⟩;have e2:=own b e;subst e2;exact hat.elim (fun k=>(h.pw b hb).2 k) fun k=>by have:=(h.pw b hb).1.1; omega
theorem KAt.akA (h:KAt C M Fe vv vn vi Lv Ln s hd p base yb xb un uw nx ws W) {g cap:Nat} {z:Int} {W1:World} (hown:Ak nP W1 base 3 (fun _=>False) (.slice (some ⟨g,0,none⟩) (ws.length+1) cap) (ws ++ [z])) (hwq:Wrote (fun b=>uw.ownBlock=some b) W W1) (hat:uw.ownBlock=some g∨W.heap.size≤g) :
  ∃ W2,W2=W1.setCell ⟨yb,4,none⟩ (.slice (some ⟨g,0,none⟩) (ws.length+1) cap)∧KAt C M Fe vv vn vi Lv Ln s hd p base yb xb un (.slice (some ⟨g,0,none⟩) (ws.length+1) cap) nx (ws ++ [z]) W2∧Wrote (fun b=>base≤b∨b=yb) W W2:=by
 have hbs:∀ b,uw.ownBlock=some b→base≤b:=fun b e=>(h.hw.row.lt b e).1
 have hgl:=hown.row.lt g rfl;have hl:=h.lt;have hs:=hwq.size;have hwz:Wrote (fun b=>b=yb) W1 (W1.setCell ⟨yb,4,none⟩ (.slice (some ⟨g,0,none⟩) (ws.length+1) cap)):=Wrote.setCell (K:=fun b=>b=yb) (p:=⟨yb,4,none⟩) (Wrote.refl _ _) (.inl rfl) _;have hsz:(W1.setCell ⟨yb,4,none⟩ (.slice (some ⟨g,0,none⟩) (ws.length+1) cap)).heap.size=W1.heap.size:=by simp
 have hw2:Wrote (fun b=>uw.ownBlock=some b∨b=yb) W (W1.setCell ⟨yb,4,none⟩ (.slice (some ⟨g,0,none⟩) (ws.length+1) cap)):=⟨hwz.os.trans hwq.os,hwz.tape.trans hwq.tape,hwz.output.trans hwq.output,by omega,fun i hi hn=>(hwz.block i (by omega) (fun e=>hn (.inr e))).trans (hwq.block i hi (fun e=>hn (.inl e)))⟩;have own:∀ b,(Value.slice (some ⟨g,0,none⟩) (ws.length+1) cap).ownBlock=some b→b=g:=fun b hb=>by
  have e:some g=some b:=hb;cases e; rfl
 have hP:∀ b,BH M Fe vv vn vi W b→BH M Fe vv vn vi (W1.setCell ⟨yb,4,none⟩ (.slice (some ⟨g,0,none⟩) (ws.length+1) cap)) b:=fun b k=>k.wider (by omega)
 have hPg:BH M Fe vv vn vi (W1.setCell ⟨yb,4,none⟩ (.slice (some ⟨g,0,none⟩) (ws.length+1) cap)) g:=hat.elim (fun e=>hP g ((h.pw g e).1)) fun e=>h.m.zh e (by omega)
 refine⟨_,rfl,⟨h.m.priv hw2 fun b hb _=>hb.elim (fun e=>(h.pw b e).1) fun e=>e▸h.py,(h.ry.wrote hwq fun e=>by have:=hbs _ e; omega).set 4 _,h.rx.wrote hw2 fun e=>e.elim (fun e=>by have:=hbs _ e; omega) fun e=>hl.2.2 e.symm,?_,?_,hP _ h.py,hP _ h.px,?_,?_,h.lt⟩,⟨hw2.os,hw2.tape,hw2.output,hw2.size,fun i hi hn=>hw2.block i hi fun e=>hn (e.imp (fun e=>hbs i e) id)⟩⟩
 ·exact h.hn.wrote hw2 fun b hb e=>e.elim (fun e=>(h.pw b e).2 (hb.resolve_left id)) fun e=>by have:=(h.hn.row.lt b (hb.resolve_left id)).1; omega
 ·exact hown.wrote hwz fun b hb e=>by have:=own b (hb.resolve_left id); omega
 ·intro b hb; exact hP b (h.pn b hb)
 ·intro b hb;rw[own b hb];exact⟨hPg,fun e=>hat.elim (fun k=>(h.pw g k).2 e) fun k=>by have:=(h.pn g e).1; omega⟩
end
theorem uV {C:MC} {rec:List (List Int)→MS→Nat×MS} {p:Place} {seen:List (List Int)} {k:Nat} {s:MS} {w1:List Int} {s1:MS} (h:(if p.ak < 0 then ((dF C rec p seen k s).weights ++ [1+((dF C rec p seen k s).s.draw C 3).1],((dF C rec p seen k s).s.draw C 3).2) else ((dF C rec p seen k s).weights,(dF C rec p seen k s).s))=(w1,s1)) :
  dF C rec p seen (k+1) s=⟨w1,(dF C rec p seen k s).next ++ [((rec (iG p k seen) s1).1:Int)],(rec (iG p k seen) s1).2⟩:=by
 show(⟨(if p.ak < 0 then ((dF C rec p seen k s).weights ++ [1+((dF C rec p seen k s).s.draw C 3).1],((dF C rec p seen k s).s.draw C 3).2) else ((dF C rec p seen k s).weights,(dF C rec p seen k s).s)).1,_,_⟩:KS)=_;rw[h]
theorem abR {C:MC} {rec:List (List Int)→MS→Nat×MS} {p:Place} {seen:List (List Int)} {s:MS}:∀ k,(dF C rec p seen k s).weights.length≤k∧(dF C rec p seen k s).next.length=k
 | 0=>⟨Nat.le_refl _,rfl⟩
 | k+1=>by
  obtain⟨h1,h2⟩:=abR (C:=C) (rec:=rec) (p:=p) (seen:=seen) (s:=s) k;by_cases hp:p.ak < 0
  ·rw[uV (if_pos hp)]; simp; omega
  ·rw[uV (if_neg hp)]; simp; omega
theorem Below.wr {K:Ac} {B:Nat} {a w w':World} (h:Below B a w) (hw:Wrote K w w') (hB:B≤w.heap.size) (hK:∀ b,K b→B≤b):Below B a w' :=
 ⟨hw.os.trans h.os,hw.tape.trans h.tape,hw.output.trans h.output,Nat.le_trans h.size hw.size,fun i hi=>(hw.block i (Nat.lt_of_lt_of_le hi hB) (fun e=>by have:=hK i e; omega)).trans (h.block i hi)⟩
theorem ah5 {S:Int} {j:Nat} (h0:0≤S) (h1:S≤15) (hj:j≤4):bits BinOp.and IntKind.i64 (S / 2 ^ j) 1=if (S.toNat >>> j) % 2=1 then 1 else 0:=by
 obtain⟨n,rfl⟩:=Int.eq_ofNat_of_zero_le h0;have h:∀ n:Fin 16,∀ j:Fin 5,bits BinOp.and IntKind.i64 (((n:Nat):Int) / 2 ^ (j:Nat)) 1=if (((n:Nat):Int).toNat >>> (j:Nat)) % 2=1 then 1 else 0:=by decide +kernel
 exact h ⟨n,by omega⟩ ⟨j,by omega⟩
theorem agU {p:Place} {k j:Nat} {seen:List (List Int)} {l:List Int} (h:seen[j]? = some l):(iG p k seen)[j]? = some (l ++ [if (j:Int)=p.ak∨(p.seen.toNat >>> j) % 2=1 then (k:Int) else -1]):=by
 unfold iG; rw[List.getElem?_mapIdx,h]; rfl
theorem node6 {w:World} {b:Nat} {t:TypeId} {a0 a1 a2 a3 a4 a5:Value} (h:Row w b t [a0,a1,a2,a3,a4,a5]) (v0 v1 v2 v3 v4 v5:Value):∃ W,W=((((((w.setCell ⟨b,0,none⟩ v0).setCell ⟨b,1,none⟩ v1).setCell ⟨b,2,none⟩ v2).setCell ⟨b,3,none⟩ v3).setCell ⟨b,4,none⟩ v4).setCell ⟨b,5,none⟩ v5) ∧
  Row W b t [v0,v1,v2,v3,v4,v5]∧Wrote (fun k=>k=b) w W:=by
 refine⟨_,rfl,?_,?_⟩
 ·exact(((((h.set 0 v0).set 1 v1).set 2 v2).set 3 v3).set 4 v4).set 5 v5
 ·have h0:Wrote (fun k=>k=b) w w:=Wrote.refl _ _;exact(((((h0.setCell (p:=⟨b,0,none⟩) (.inl rfl) v0).setCell (p:=⟨b,1,none⟩) (.inl rfl) v1).setCell (p:=⟨b,2,none⟩) (.inl rfl) v2).setCell (p:=⟨b,3,none⟩) (.inl rfl) v3).setCell (p:=⟨b,4,none⟩) (.inl rfl) v4).setCell (p:=⟨b,5,none⟩) (.inl rfl) v5
theorem Tryz.infoNodeK:(Tryz.prog.info? 61).map (fun i=>(i.zero,i.size,i.bytes))=some (some (.agg #[.int .i64 0,.int .i64 0,.int .i64 0,.slice none 0 0,.slice none 0 0,.slice none 0 0]),vY.n,96):=by kernel_rfl
theorem wo {w:World} {F:Ac}:Ae w F (.slice none 0 0) []:=⟨none,0,rfl,Nat.le_refl _,fun h=>absurd h (by simp)⟩
def MS.begun (s:MS):MS:={ s with pending:=s.pending - 1,nodes:=s.nodes ++ [jJ] }
theorem agV {C:MC} {f level:Nat} {seen:List (List Int)} {s:MS} (h:level=C.levels.length):bC C (f+1) level seen s=(s.nodes.length,l7 C s.nodes.length s.begun):=by
 unfold bC;simp only[h,if_true];rfl
theorem afj {C:MC} {f level:Nat} {seen:List (List Int)} {s:MS} (h:level≠C.levels.length) (h8:(s.begun.draw C 8).1=1):bC C (f+1) level seen s=(s.nodes.length,l7 C s.nodes.length (s.begun.draw C 8).2):=by
 unfold bC;simp only[h,if_false];exact if_pos h8
theorem agW {C:MC} {f level:Nat} {seen:List (List Int)} {s:MS} {p:Place} {o:Int×Int×MS} (h:level≠C.levels.length) (h8:(s.begun.draw C 8).1≠1) (hp:C.levels[level]? = some p) (ho:o=kR C p (level:Int) seen (s.begun.draw C 8).2) (hb:C.most < (s.nodes.length:Int)+1+o.2.2.pending+o.2.1) :
  bC C (f+1) level seen s=(s.nodes.length,l7 C s.nodes.length (kE o.1 p.ak o.2.2)):=by
 have e:C.levels.getD level default=p:=by rw[List.getD_eq_getElem?_getD,hp]; rfl
 subst ho;unfold bC;simp only[h,if_false,e];refine(if_neg h8).trans ?_;exact if_pos hb
theorem agX {C:MC} {f level:Nat} {seen:List (List Int)} {s:MS} {p:Place} {o:Int×Int×MS} (h:level≠C.levels.length) (h8:(s.begun.draw C 8).1≠1) (hp:C.levels[level]? = some p) (ho:o=kR C p (level:Int) seen (s.begun.draw C 8).2) (hb:¬ C.most < (s.nodes.length:Int)+1+o.2.2.pending+o.2.1) :
  bC C (f+1) level seen s=(s.nodes.length,{ (dF C (bC C f (level+1)) p seen o.2.1.toNat { o.2.2 with pending:=o.2.2.pending+o.2.1 }).s with nodes:=(dF C (bC C f (level+1)) p seen o.2.1.toNat { o.2.2 with pending:=o.2.2.pending+o.2.1 }).s.nodes.set s.nodes.length (iM p o.1 (dF C (bC C f (level+1)) p seen o.2.1.toNat { o.2.2 with pending:=o.2.2.pending+o.2.1 }).weights (dF C (bC C f (level+1)) p seen o.2.1.toNat { o.2.2 with pending:=o.2.2.pending+o.2.1 }).next) }):=by
 have e:C.levels.getD level default=p:=by rw[List.getD_eq_getElem?_getD,hp]; rfl
 subst ho;unfold bC;simp only[h,if_false,e];refine(if_neg h8).trans ?_;exact if_neg hb
def Opened (C:MC) (M:ML) (Fd:Ac) (vv vn vn2 vi:Value) (Ln:List NV) (s:MS) (xb:Nat) (p:Place) (W w':World):Prop:=∃ (vv' vi':Value) (Lv':List VV),Up W vv vv'∧Up W vi vi'∧MAt C M Fd vv' vn2 vi' Lv' Ln s w'∧Wrote (Mut M.mb M.db vv vn vi) W w'∧Row w' xb 137 [.int .i64 p.ak,.int .i64 p.many,.int .i64 p.seen]∧BH M Fd vv' vn2 vi' w' xb
def D5 (p:Prop):Prop:=p
theorem aj3 {p:Prop} (h:D5 p):p:=h
def BP (C:MC) (M:ML) (f:Nat):Prop:=∀ (level:Nat),level+f=C.levels.length+1→level≤C.levels.length→∀ (Fd:Ac) (vv vn vi:Value) (Lv:List VV) (Ln:List NV) (s:MS) (W:World) (nv:Value) (seen:List (List Int)),
  MAt C M Fd vv vn vi Lv Ln s W→AY W Fd nv seen→(∀ l∈seen,l.length=level)→seen.length=C.aj.toNat→JM C 0 s→1≤s.pending →
  Calls Tryz.prog 91 #[.pointer (some ⟨M.mb,0,none⟩),.int .i64 (level:Int),nv] W fun e w'=>e = .returned (.int .i64 ((bC C f level seen s).1:Int))∧Built C M Fd vv vn vi (bC C f level seen s).2 W w'
theorem adX {C:MC} (hC:BG C) (hm:C.most≤1000) (hp1:1≤C.aj) (hp4:C.aj≤4) {M:ML} {f:Nat} (ih:BP C M f):BP C M (f+1):=by
  intro level hf hl Fd vv vn vi Lv Ln s W nv seen h hs hsl hsp hj hpe;have IH:=Aa (ih (level+1));clear ih;have HM:=Aa h; have HS:=Aa hs; have HJ:=Aa hj; have HSL:=Aa hsl; have HSP:=Aa hsp; have HC:=Aa hC;have HLN:=Aa (show Ln.length=s.nodes.length by rw[← h.l9,List.length_map]);have hnl:Ln.length≤1000:=by have:=HJ.out.np; have:=HJ.out.p0; have:=HLN.out; omega
  have hpb:s.pending≤1000:=by have:=HJ.out.np; omega
  clear h hs hsl hsp hj hC;obtain⟨An,cn,hvn,hcn,_⟩:=HM.out.nodes.form;have HV:=Aa hvn;obtain⟨As,cs,rfl,hcs,_⟩:=id HS.out;have hbase:M.base≤W.heap.size:=Nat.le_of_lt (Nat.lt_of_le_of_lt HM.out.bW.1 HM.out.box.lt);have m4:=HM.out.box.cell (i:=4) rfl; have m8:W.cell? ⟨M.mb,8,none⟩=some (.slice An Ln.length cn):=hvn▸HM.out.box.cell (i:=8) rfl; have f4:=HM.out.box.frozen 4;clear hvn;have hwp:IntKind.i64.wrap (s.pending - 1)=s.pending - 1:=IntWalk.i64_in _ (by omega);obtain⟨W1,hW1⟩:∃ W1,W1=W.setCell ⟨M.mb,4,none⟩ (.int .i64 (s.pending - 1)):=⟨_,rfl⟩;have HM1:=Aa (show MAt C M Fd vv vn vi Lv Ln { s with pending:=s.pending - 1 } W1 from hW1▸HM.out.aaH (s.pending - 1));have HW:=Aa (show Wrote (Mut M.mb M.db vv vn vi) W W1 from hW1▸Wrote.setCell (Wrote.refl _ _) (.inl (.inl rfl)) _);have HY:=Aa hW1;clear hW1;go_enter Tryz.func91,Tryz.ntmps91;go_upto_region 3 with(fail)
  rw[← HY.out];have k6:=HW.out.size;clear m4 m8 f4 HY hwp;have m8:=HM1.out.box.cell (i:=8) rfl;have xu:vn.ownBlock≠some M.mb:=fun e=>(HM1.out.bQ _ e).1 rfl
  go_wp2_with (at_builtin; refine aj3 ?_)
  unfold D5;refine jX (K:=vY) (F:=Fd) (w:=W1) (W:=W1) rfl _ _ 22 61 96 _ Tryz.underlying22 Tryz.infoNodeK rfl (by decide) rfl M.base (Nat.le_trans hbase k6) vn Ln rfl ⟨jJ,.slice none 0 0,.slice none 0 0,.slice none 0 0⟩ _ rfl (by omega) rfl HM1.out.nodes ⟨wo,wo,wo⟩ ?_;intro g' cap wq hown' hwq hat' hlt'; have m8:=bZ m8 hwq xu; have f8:=(HM1.out.box.wrote hwq xu).frozen 8; have HO:=Aa hown'; have HQ:=Aa hwq; have HA:=Aa hat'; have HL:=Aa hlt'; clear hown' hwq hat' hlt';obtain⟨W2,hW2,hm2,hw2⟩:=HM1.out.afd HO.out HQ.out HA.out HL.out;have HM2:=Aa (show MAt C M Fd vv (.slice (some ⟨g',0,none⟩) (Ln.length+1) cap) vi Lv (Ln ++ [⟨jJ,.slice none 0 0,.slice none 0 0,.slice none 0 0⟩]) s.begun W2 from hm2);have HU:=Aa (ah4 (n:=Ln.length+1) (cap:=cap) HA.out k6);have HW2:=Aa (HW.out.trans hw2); have HY:=Aa hW2;have k7:W.heap.size≤W2.heap.size:=HW2.out.size;clear hW2 hm2 hw2 HO HQ HA HL HM1 HW;go_upto_region 4 with(fail)
  rw[← HY.out];clear HY m8 f8 xu k6;have HJ1:=Aa (show JM C 1 s.begun from HJ.out.push hpe);obtain⟨Al,cl,hvl,hcl,hgl⟩:=HM.out.lev.form;have m1:W2.cell? ⟨M.mb,1,none⟩=some (.slice Al C.levels.length cl):=hvl▸HM2.out.box.cell (i:=1) rfl;have m0:=HM2.out.box.cell (i:=0) rfl;have HVL:=Aa hvl;clear hvl;by_cases hle:level=C.levels.length
  ·have HB:=Aa (agV (f:=f) (seen:=seen) (s:=s) hle);have t1:((level:Int)==(C.levels.length:Int))=true:=by rw[hle]; simp
   clear hle hf hl;have hlt:Ln.length < (Ln ++ [(⟨jJ,.slice none 0 0,.slice none 0 0,.slice none 0 0⟩:NV)]).length:=by simp
   go_wp2_with (go_at_call 145; (with_reducible refine(aaJ HM2.out Ln.length hlt hp1 hp4).mono ?_); rintro e w' ⟨rfl,q,hq,hm3,hw3⟩)
   go_ret;exact⟨by rw[HB.out,← HLN.out]; rfl,by rw[HB.out,← HLN.out]; exact⟨_,_,_,_,_,_,fun b hb=>.inl hb,fun b hb=>hb.imp id fun h=>by omega,Up.refl _ _,HU.out,Up.refl _ _,hm3,HW2.out.step hw3 fun i hi e=>yG (Up.refl W _) HU.out (Up.refl W _) hi e⟩⟩
  have t1:((level:Int)==(C.levels.length:Int))=false:=by simp; omega
  have HLE:=Aa hle;have hlv:level < C.levels.length:=by omega
  obtain⟨dv,hdv⟩:∃ dv,dv=(s.begun.draw C 8).1:=⟨_,rfl⟩;have HDV:=Aa hdv;obtain⟨s2,hs2⟩:∃ s2,s2=(s.begun.draw C 8).2:=⟨_,rfl⟩;have HS2:=Aa hs2;have HJ2:=Aa (show JM C 1 s2 by rw[hs2]; exact HJ1.out.at _);have h2n:s2.nodes=s.nodes ++ [jJ]:=by rw[hs2]; rfl
  have H2N:=Aa h2n;clear hle hs2 h2n;by_cases h8:dv=1
  ·have HB:=Aa (afj (f:=f) (seen:=seen) HLE.out (HDV.out▸h8));have t2:(dv==1)=true:=by simpa using h8
   have hlt:Ln.length < (Ln ++ [(⟨jJ,.slice none 0 0,.slice none 0 0,.slice none 0 0⟩:NV)]).length:=by simp
   clear h8 hdv;go_wp2_with (first | (go_at_call 90; (with_reducible refine(adT HM2.out 8 (by decide) (by decide)).mono ?_); rintro e w' ⟨rfl,hm3,hw3⟩; rw[← HDV.out]; have HM3:=Aa (HS2.out▸hm3); have HW3:=Aa (HW2.out.step hw3 fun i _ e=>.inr (.inl e)); have k8:=Nat.le_trans k7 hw3.size; clear hw3 hm3) | (go_at_call 145; (with_reducible refine(aaJ HM3.out Ln.length hlt hp1 hp4).mono ?_); rintro e w' ⟨rfl,q,hq,hm4,hw4⟩))
   go_ret;exact⟨by rw[HB.out,← HLN.out]; rfl,by rw[HB.out,← HLN.out,← HS2.out]; exact⟨_,_,_,_,_,_,fun b hb=>.inl hb,fun b hb=>hb.imp id fun h=>by omega,Up.refl _ _,HU.out,Up.refl _ _,hm4,HW3.out.step hw4 fun i hi e=>yG (Up.refl W _) HU.out (Up.refl W _) hi e⟩⟩
  have t2:(dv==1)=false:=by simpa using h8
  have HN8:=Aa h8;clear hdv;go_upto_region 7 with(go_at_call 90; (with_reducible refine(adT HM2.out 8 (by decide) (by decide)).mono ?_); rintro e w3 ⟨rfl,hm3,hw3⟩; rw[← HDV.out]; have HM3:=Aa (HS2.out▸hm3); have HW3:=Aa (HW2.out.step hw3 fun i _ e=>.inr (.inl e)); have k8:=Nat.le_trans k7 hw3.size; clear hw3 hm3)
  clear m0 m1 t1 t2 h8 k7 HM2 HW2;obtain⟨p,hp⟩:=au hlv;have HP:=Aa hp;have HPO:=Aa (HC.out.pl p (List.mem_of_getElem? hp));clear hp;have hlc:∃ g,Al=some ⟨g,0,none⟩∧∀ j u,(aaG.cells p)[j]? = some u→w3.cell? ⟨g,level*3+j,none⟩=some u:=by
   obtain⟨g,rfl⟩:=hgl (by omega);have hx:=HM3.out.lev.at;rw[HVL.out] at hx;rcases hx with⟨h,_⟩ | ⟨g',cap,h,_,_,_,_,hx⟩
   ·simp at h
   ·simp only[Value.slice.injEq,Option.some.injEq,Addr.mk.injEq,and_true,true_and] at h;obtain⟨rfl,_⟩:=h;exact⟨g,rfl,fun j u hu=>by have:=hx level p HP.out j u hu; rw[Nat.zero_add] at this; exact this⟩
  obtain⟨gl,rfl,hlc⟩:=hlc;have m1:w3.cell? ⟨M.mb,1,none⟩=some (.slice (some ⟨gl,0,none⟩) C.levels.length cl):=HVL.out▸HM3.out.box.cell (i:=1) rfl;have c0:w3.cell? ⟨gl,level*3,none⟩=some (.int .i64 p.ak):=hlc 0 _ rfl;have c1:w3.cell? ⟨gl,level*3+1,none⟩=some (.int .i64 p.many):=hlc 1 _ rfl;have c2:w3.cell? ⟨gl,level*3+2,none⟩=some (.int .i64 p.seen):=hlc 2 _ rfl;clear hlc hgl;go_upto_region 8 with(fail)
  obtain⟨w4,hw4,rx,hB4,hz4⟩:=aJ w3 137 #[.int .i64 p.ak,.int .i64 p.many,.int .i64 p.seen];rw[← hw4];obtain⟨xb,hxb⟩:∃ xb,xb=w3.heap.size:=⟨_,rfl⟩;rw[← hxb] at rx ⊢;have hxW:W.heap.size≤xb:=by omega
  have HM4:=Aa (HM3.out.below hB4);have HPX:=Aa (HM3.out.zh (W':=w4) (b:=xb) (by omega) (by omega));have HW4:=Aa (HW3.out.trans (Below.wrote hB4 _));have k9:W.heap.size≤w4.heap.size:=HW4.out.size;have HXM:=Aa (show(∀ b,M.F b∨Fd b∨Mut M.mb M.db vv (.slice (some ⟨g',0,none⟩) (Ln.length+1) cap) vi b∨M.vl.ownBlock=some b→b < xb) from fun b hb=>by rw[hxb]; exact HM3.out.aff hb);clear hw4 hB4 hz4 hxb c0 c1 c2 m1 HM3 HW3 k8;have x0:=rx.cell (i:=0) rfl; have x1:=rx.cell (i:=1) rfl;obtain⟨o,ho⟩:∃ o,o=kR C p (level:Int) seen s2:=⟨_,rfl⟩;have HO:=Aa ho;clear ho;go_upto_if 71 with(fail)
  obtain⟨bb,hbb⟩:∃ bb,bb=decide (0≤p.ak):=⟨_,rfl⟩;rw[← hbb];have HBB:=Aa hbb;clear hbb;go_cut [9,10] from 69 to 90 (fun v9 v10 wx=>v9 = .int .i64 o.2.1∧v10 = .int .i64 o.1∧Opened C M Fd vv vn (.slice (some ⟨g',0,none⟩) (Ln.length+1) cap) vi (Ln ++ [⟨jJ,.slice none 0 0,.slice none 0 0,.slice none 0 0⟩]) o.2.2 xb p W wx)
  case first =>
   by_cases hp0:p.ak < 0
   ·obtain rfl:bb=false:=by rw[HBB.out]; exact decide_eq_false (by omega)
    have HO2:=Aa (show o=(0,p.many,s2) by rw[HO.out]; exact if_pos hp0);clear hp0;go_wp2_with fail
    go_meet
    exact⟨by rw[HO2.out],by rw[HO2.out],vv,vi,Lv,Up.refl _ _,Up.refl _ _,by rw[HO2.out]; exact HM4.out,HW4.out,rx,HPX.out⟩
   ·obtain rfl:bb=true:=by rw[HBB.out]; exact decide_eq_true (by omega)
    obtain⟨P,hP⟩:∃ P:Nat,p.ak=(P:Int):=⟨p.ak.toNat,by omega⟩;have hPs:P < seen.length:=by have:=HPO.out.1; have:=HSP.out; omega
    obtain⟨sl,hsl⟩:=au hPs;have Ed:=Aa (HSL.out sl (List.mem_of_getElem? hsl));have hsr:=AY.on HS.out (HW4.out.same fun b hb=>(HM.out.foot b hb).2.2);obtain⟨_,_,hse,_,hsr⟩:=hsr;obtain⟨bs,os,hbs,hbf,hbl,ah6⟩:=hsr (by omega);simp only[Value.slice.injEq,true_and] at hse;obtain⟨rfl,rfl⟩:=hse;obtain⟨vs,hcs2,hvs⟩:=ah6 P sl hsl;rw[Nat.mul_one] at hcs2;have HVS:=Aa hvs;have HO2:=Aa (show o=((jL C (P:Int) (level:Int) sl s2).1,((jL C (P:Int) (level:Int) sl s2).2.infos.getD (jL C (P:Int) (level:Int) sl s2).1.toNat default).actions,(jL C (P:Int) (level:Int) sl s2).2) by
     rw[HO.out];have e:seen.getD p.ak.toNat []=sl:=by rw[hP,Int.toNat_natCast,List.getD_eq_getElem?_getD,hsl]; rfl
     unfold kR;rw[if_neg hp0,e,hP])
    have HPP:=Aa hP;have HJF:=Aa (HJ2.out.find (P:Int) (level:Int) sl (by rw[Ed.out]; have:=HC.out.len; omega));rw[hP] at x0;subst hbs;clear hp0 hP hsl hsr ah6 hvs;obtain⟨Av,cv,rfl,_⟩:=id HVS.out;have hxb4:∀ b,Mut M.mb M.db vv (.slice (some ⟨g',0,none⟩) (Ln.length+1) cap) vi b→b≠xb:=fun b hb e=>by have:=HXM.out b (.inr (.inr (.inl hb))); omega
    have hbs4:∀ b,Mut M.mb M.db vv (.slice (some ⟨g',0,none⟩) (Ln.length+1) cap) vi b→b≠bs:=fun b hb e=>(HM4.out.foot bs hbf).2.2 (e▸hb)
    clear x1;go_upto_region 10 with(fail)
    refine wp_region_held_drew (S:=fun w'=>w'.cell? ⟨xb,0,none⟩=some (.int .i64 (P:Int))∧w'.cell? ⟨bs,os+P,none⟩=some (.slice Av sl.length cv)) (by kernel_rfl) ⟨x0,hcs2⟩ (fun hHeld=>?_);have hb:Below w4.heap.size w4 w4.drew:=aG (Below.refl _ w4) 1;replace x0:=ah x0 hb;replace hcs2:=ah hcs2 hb;replace HM4:=Aa (HM4.out.below hb); replace HVS:=Aa (HVS.out.on (Below.same' hb Fd)); replace rx:=rx.below hb rx.lt;replace HW4:=Aa (HW4.out.trans (Below.wrote hb _)); replace k9:=Nat.le_trans k9 hb.size; replace HPX:=Aa (HPX.out.wider hb.size);clear hb;generalize w4.drew=wn at *;refine tk0 [0,1,2,3,4,5,6,7,8] ?_;iterate 9 (refine tk (v:=?_) rfl (by kernel_rfl) (by kernel_rfl) (by kernel_rfl) (fun _ _ _ h=>h) (Or.inl ⟨by rfl,?_⟩) hHeld ?_;rotate_left;(focus intro wx hSx;(try dsimp only at hSx);go_split_ands;go_simp;try with_reducible rfl);try simp only[Act.put,lq1,lq2,lq3,lq4,lq5,lq6])
    refine tk1 ?_;refine tk2 9 (by kernel_rfl) rfl fun K hK=>?_
    go_simp;refine(agT HM4.out (P:Int) (level:Int) (.slice Av sl.length cv) sl HVS.out (by rw[Ed.out]; have:=HC.out.len; omega) (fun v hv=>by have:=HJ2.out.vs v hv; omega) (by have:=HJ2.out.il; have:=HJ2.out.np; have:=HJ2.out.p0; omega) (by have:=HJ2.out.vl; have:=HJ2.out.il; have:=HJ2.out.np; have:=HJ2.out.p0; omega)).mono ?_;rintro e w5 ⟨rfl,vv',vi',Lv',hu1,hu2,hm5,hw5⟩;replace x0:=bZ x0 hw5 (fun e=>hxb4 _ e rfl); replace hcs2:=bZ hcs2 hw5 (fun e=>hbs4 _ e rfl);replace rx:=rx.wrote hw5 (fun e=>hxb4 _ e rfl);have HU1:=Aa (Up.trans (Up.refl W vv) hu1 k9); have HU2:=Aa (Up.trans (Up.refl W vi) hu2 k9);replace HPX:=Aa (HPX.out.next (Fe:=Fd) hw5.size (fun b hb=>.inl hb) hu1 (Up.refl _ _) hu2);have HM5:=Aa hm5; have HW5:=Aa (HW4.out.step hw5 fun i hi e=>yG (Up.refl W _) HU.out (Up.refl W _) hi e);obtain⟨F2,hF2⟩:∃ F2,F2=jL C (P:Int) (level:Int) sl s2:=⟨_,rfl⟩;rw[← hF2] at HM5 HO2 HJF ⊢;obtain⟨k,hk⟩:∃ k:Nat,F2.1=(k:Int):=⟨F2.1.toNat,by have:=HJF.out.2.2.2.1; omega⟩;have hkl:k < F2.2.infos.length:=by have:=HJF.out.2.2.2.2; omega
    rw[hk] at HO2 ⊢;obtain⟨inf,qR⟩:=au hkl;have HO3:=Aa (show o=((k:Int),inf.actions,F2.2) by rw[HO2.out,Int.toNat_natCast,List.getD_eq_getElem?_getD,qR]; rfl);have HIN:=Aa qR;clear hHeld hu1 hu2 hm5 hw5 hF2 hk qR HJF HO2 HM4 HW4 HVS;refine hK.out _ _ ⟨x0,hcs2⟩ (fun hHeld=>?_);clear hK K;try simp only[Act.put,lq1,lq2,lq3,lq4,lq5,lq6]
    refine tk0 [10] ?_;(refine tk (v:=?_) rfl (by kernel_rfl) (by kernel_rfl) (by kernel_rfl) (fun _ _ _ h=>h) (Or.inl ⟨by rfl,?_⟩) hHeld ?_;rotate_left;(focus intro wx hSx;(try dsimp only at hSx);go_split_ands;go_simp;try with_reducible rfl);try simp only[Act.put,lq1,lq2,lq3,lq4,lq5,lq6])
    refine tk1 ?_;refine wpAnyH_done (by kernel_rfl) ?_ _;clear hHeld;obtain⟨Ai,ci,hvi,hci,hgi⟩:=HM5.out.infos.form;obtain⟨gi,rfl⟩:=hgi (by omega);have m9:w5.cell? ⟨M.mb,9,none⟩=some (.slice (some ⟨gi,0,none⟩) F2.2.infos.length ci):=hvi▸HM5.out.box.cell (i:=9) rfl;have hc1:w5.cell? ⟨gi,k*2+1,none⟩=some (.int .i64 inf.actions):=by
     have hx:=HM5.out.infos.at;rw[hvi] at hx;rcases hx with⟨h,_⟩ | ⟨g2,cap2,h,_,_,_,_,hx⟩
     ·simp at h
     ·simp only[Value.slice.injEq,Option.some.injEq,Addr.mk.injEq,and_true,true_and] at h;obtain⟨rfl,_⟩:=h;have:=hx k inf HIN.out 1 _ rfl;rw[Nat.zero_add] at this; exact this
    have HVI:=Aa hvi;clear hvi hgi x0 hcs2;go_wp2_with fail
    go_meet
    exact⟨by rw[HO3.out],by rw[HO3.out],vv',vi',Lv',HU1.out,HU2.out,by rw[HO3.out]; exact HM5.out,HW5.out,rx,HPX.out⟩
  case rest =>
   obtain⟨rfl,rfl,vv1,vi1,Lv1,hu1,hu2,hm5,hw5,rx,hpx⟩:=hcut;replace HPX:=Aa hpx;clear hpx;obtain⟨o1,o2,o3,o4,o5,o6⟩:=JM.open HJ2.out p (by have:=HPO.out; omega) (level:Int) seen (fun l hl=>by rw[HSL.out l hl]; have:=HC.out.len; omega);rw[← HO.out] at o1 o2 o3 o4 o5 o6;have h2p:s2.pending=s.pending - 1:=by rw[HS2.out]; rfl
   rw[h2p] at o2;rw[H2N.out] at o3;have hbig:=fun hb=>agW (f:=f) (o:=o) HLE.out (by rw[← HDV.out]; exact HN8.out) HP.out (by rw[← HS2.out]; exact HO.out) hb
   have hmid:=fun hb=>agX (f:=f) (o:=o) HLE.out (by rw[← HDV.out]; exact HN8.out) HP.out (by rw[← HS2.out]; exact HO.out) hb
   clear HO HJ2 HDV HN8 HS2 H2N h2p HM4 HW4 x0 x1 m8 HJ1;obtain⟨info,many,s3⟩:=o;dsimp only at o1 o2 o3 o4 o5 o6 hbig hmid hm5 ⊢;obtain⟨mn,rfl⟩:∃ mn:Nat,many=(mn:Int):=⟨many.toNat,by omega⟩;have hmn:1≤mn∧mn≤3:=by omega
   have HBIG:=Aa hbig; have HMID:=Aa hmid; have HJ3:=Aa o1;have HM6:=Aa hm5; have HW6:=Aa hw5; have HU1:=Aa hu1; have HU2:=Aa hu2;have k9':W.heap.size≤wc.heap.size:=HW6.out.size;have hs3:Ln.length+1=s3.nodes.length:=by rw[o3,HLN.out]; simp
   have HS3:=Aa hs3; have HO3:=Aa o3;obtain⟨pe,aj6⟩:∃ pe,pe=s3.pending:=⟨_,rfl⟩;have m3:=HM6.out.box.cell (i:=3) rfl;have m4:=HM6.out.box.cell (i:=4) rfl;rw[← aj6] at m4 o2;have HPE:=Aa aj6;have hpeb:0≤pe∧pe≤1000:=by omega
   have hq1:IntKind.i64.wrap ((Ln.length:Int)+1)=(Ln.length:Int)+1:=IntWalk.i64_in _ (by omega);have hq2:IntKind.i64.wrap ((Ln.length:Int)+1+pe)=(Ln.length:Int)+1+pe:=IntWalk.i64_in _ (by omega);have hq3:IntKind.i64.wrap ((Ln.length:Int)+1+pe+(mn:Int))=(Ln.length:Int)+1+pe+(mn:Int):=IntWalk.i64_in _ (by omega);have HO2:=Aa o2;clear hbig hmid o1 o2 o3 o5 o6 hm5 hw5 hu1 hu2 hs3 aj6 k9;go_upto_region 12 with(fail)
   go_quiet (fail)
   obtain⟨Wq,hWq⟩:∃ Wq,Wq=wc.drewN nq:=⟨_,rfl⟩;have hbq:Below wc.heap.size wc Wq:=hWq▸aG (Below.refl _ wc) nq;replace HM6:=Aa (HM6.out.below hbq); replace HW6:=Aa (HW6.out.trans (Below.wrote hbq _)); replace rx:=rx.below hbq rx.lt; replace k9':=Nat.le_trans k9' hbq.size; replace HPX:=Aa (HPX.out.wider hbq.size);rw[← hWq];clear hWq hbq m3 m4;obtain⟨bb2,aj7⟩:∃ b,b=decide (C.most < (Ln.length:Int)+1+pe+(mn:Int)):=⟨_,rfl⟩;rw[← aj7];have Ep:=Aa aj7;clear aj7;have aj8:M.base≤Wq.heap.size:=Nat.le_trans hbase k9';have hlt1:Ln.length < (Ln ++ [(⟨jJ,.slice none 0 0,.slice none 0 0,.slice none 0 0⟩:NV)]).length:=by simp
   have x0:=rx.cell (i:=0) rfl;by_cases hb:C.most < (Ln.length:Int)+1+pe+(mn:Int)
   ·obtain rfl:bb2=true:=by rw[Ep.out]; exact decide_eq_true hb
    have HB:=Aa (HBIG.out (by rw[← HPE.out,← HLN.out]; exact hb));have hil:=HJ3.out.il; have hnp:=HJ3.out.np; have hp0:=HJ3.out.p0; have hvl:=HJ3.out.vl;have h3l:s3.infos.length≤1000000:=by omega
    have hl2:(Ln ++ [(⟨jJ,.slice none 0 0,.slice none 0 0,.slice none 0 0⟩:NV)]).length≤1000000:=by simp; omega
    clear hb hil hnp hp0;have HVL2:=Aa hvl;clear hvl;go_wp2_with (first | (go_at_call 147; (with_reducible refine(agQ HM6.out info p.ak o4 (by omega) HVL2.out h3l hl2).mono ?_); rintro e w7 ⟨rfl,vv2,vi2,Lv2,he1,he2,hm7,hw7⟩; have HM7:=Aa hm7; have HE:=Aa (And.intro he1 he2); have k10:=Nat.le_trans k9' hw7.size; have HW7:=Aa (HW6.out.step hw7 fun i hi e=>yG HU1.out HU.out HU2.out hi e); clear hw7 hm7 he1 he2) | (go_at_call 145; (with_reducible refine(aaJ HM7.out Ln.length hlt1 hp1 hp4).mono ?_); rintro e w8 ⟨rfl,q,hq,hm8,hw8⟩))
    go_ret;have hu1:Up W vv vv2:=fun b hb=>HU1.out b (by rw[← HE.out.1]; exact hb)
    have hu2:Up W vi vi2:=fun b hb=>HU2.out b (by rw[← HE.out.2]; exact hb)
    exact⟨by rw[HB.out,← HLN.out]; rfl,by rw[HB.out,← HLN.out]; exact⟨_,_,_,_,_,_,fun b hb=>.inl hb,fun b hb=>hb.imp id fun h=>by omega,hu1,HU.out,hu2,hm8,HW7.out.step hw8 fun i hi e=>yG hu1 HU.out hu2 hi e⟩⟩
   obtain rfl:bb2=false:=by rw[Ep.out]; exact decide_eq_false hb
   have HB:=Aa (HMID.out (by rw[← HPE.out,← HLN.out]; exact hb));have m4:=HM6.out.box.cell (i:=4) rfl;have f4:=HM6.out.box.frozen 4;rw[← HPE.out] at m4;have hq4:IntKind.i64.wrap (pe+(mn:Int))=pe+(mn:Int):=IntWalk.i64_in _ (by omega);obtain⟨s4,hs4⟩:∃ s4:MS,s4 = { s3 with pending:=s3.pending+(mn:Int) }:=⟨_,rfl⟩;rw[← hs4] at HB;obtain⟨W7,hW7⟩:∃ W7,W7=Wq.setCell ⟨M.mb,4,none⟩ (.int .i64 (pe+(mn:Int))):=⟨_,rfl⟩;have HM7:=Aa (show MAt C M Fd vv1 (.slice (some ⟨g',0,none⟩) (Ln.length+1) cap) vi1 Lv1 (Ln ++ [⟨jJ,.slice none 0 0,.slice none 0 0,.slice none 0 0⟩]) s4 W7 by rw[hW7,hs4,← HPE.out]; exact HM6.out.aaH (pe+(mn:Int)));have hw7:Wrote (fun b=>b=M.mb) Wq W7:=hW7▸Wrote.setCell (K:=fun b=>b=M.mb) (p:=⟨M.mb,4,none⟩) (Wrote.refl _ _) (.inl rfl) _;have hxmb:M.mb≠xb:=fun e=>HPX.out.2.2.2.1 (.inl e.symm)
   have HW7:=Aa (HW6.out.step hw7 fun i hi e=>.inl e);have HJ4:=Aa (show JM C 0 s4 by
    rw[hs4];refine⟨HJ3.out.vl,HJ3.out.vi,HJ3.out.il,?_,?_,HJ3.out.vs,HJ3.out.ac⟩
    ·show(s3.nodes.length:Int)+(s3.pending+(mn:Int))≤C.most;rw[← HPE.out,← HS3.out]; omega
    ·show 0≤s3.pending+(mn:Int);rw[← HPE.out]; omega)
   have HN4:=Aa (show Ln.length+1=s4.nodes.length by rw[hs4]; exact HS3.out);have HP4:=Aa (show s4.pending=pe+(mn:Int) by rw[hs4]; show s3.pending+(mn:Int)=_; rw[← HPE.out]);have rx7:=rx.wrote hw7 (fun e=>hxmb e.symm);replace HPX:=Aa (HPX.out.wider hw7.size);have k10:=Nat.le_trans k9' hw7.size;have HY:=Aa hW7;clear hs4 hW7 HM6 HW6 rx k9' HJ3 hb x0 hw7;go_upto_region 17 with(fail)
   rw[← HY.out];clear HY m4 f4;go_upto_region 18 with(fail)
   obtain⟨w8,hw8,ry,hB8,hz8⟩:=aJ W7 61 #[.int .i64 1,.int .i64 0,.int .i64 0,.slice none 0 0,.slice none 0 0,.slice none 0 0];rw[← hw8];obtain⟨yb,hyb⟩:∃ yb,yb=W7.heap.size:=⟨_,rfl⟩;rw[← hyb] at ry ⊢;have HPY:=Aa (HM7.out.zh (W':=w8) (b:=yb) (by omega) (by omega));replace HPX:=Aa (HPX.out.wider hB8.size);have hxy:yb≠xb:=by have:=rx7.lt; omega
   have hyW:W.heap.size≤yb:=by omega
   have HM8:=Aa (HM7.out.below hB8); have HW8:=Aa (HW7.out.trans (Below.wrote hB8 _)); have rx8:=rx7.below hB8 rx7.lt;have k11:W.heap.size≤w8.heap.size:=HW8.out.size;clear hw8 hyb hB8 hz8 rx7 HM7 HW7 k10;obtain⟨hd,hhd⟩:∃ hd,hd=iM p info [] []:=⟨_,rfl⟩;have HHD:=Aa hhd;clear hhd;have x0:=rx8.cell (i:=0) rfl;go_upto_if 126 with(fail)
   obtain⟨bb3,aj9⟩:∃ b,b=decide (0≤p.ak):=⟨_,rfl⟩;rw[← aj9];have Es:=Aa aj9;clear aj9;go_cut [] from 124 to 130 (fun wx=>Row wx yb 61 [.int .i64 hd.kind,.int .i64 hd.ak,.int .i64 hd.info,.slice none 0 0,.slice none 0 0,.slice none 0 0]∧Wrote (fun b=>b=yb) w8 wx)
   case first =>
    by_cases hp0:p.ak < 0
    ·obtain rfl:bb3=false:=by rw[Es.out]; exact decide_eq_false (by omega)
     have HH:=Aa (show hd.kind=1∧hd.ak=0∧hd.info=0 by rw[HHD.out]; unfold iM; rw[if_pos hp0]; exact⟨rfl,rfl,rfl⟩);clear hp0;go_wp2_with fail
     go_meet
     exact⟨by rw[HH.out.1,HH.out.2.1,HH.out.2.2]; exact ry,Wrote.refl _ _⟩
    ·obtain rfl:bb3=true:=by rw[Es.out]; exact decide_eq_true (by omega)
     have HH:=Aa (show hd.kind=2∧hd.ak=p.ak∧hd.info=info by rw[HHD.out]; unfold iM; rw[if_neg hp0]; exact⟨rfl,rfl,rfl⟩);clear hp0;have y0:=ry.cell (i:=0) rfl; have f0:=ry.frozen 0;have y1:=ry.cell (i:=1) rfl; have f1:=ry.frozen 1;have y2:=ry.cell (i:=2) rfl; have f2:=ry.frozen 2;have y3:=ry.cell (i:=3) rfl; have f3:=ry.frozen 3;have y4:=ry.cell (i:=4) rfl; have f4:=ry.frozen 4;have y5:=ry.cell (i:=5) rfl; have f5:=ry.frozen 5;obtain⟨W9,hW9,ry9,hw9⟩:=node6 ry (.int .i64 2) (.int .i64 p.ak) (.int .i64 info) (.slice none 0 0) (.slice none 0 0) (.slice none 0 0);have HY:=Aa hW9; have HR9:=Aa ry9; have HW9:=Aa hw9;clear hW9 ry9 hw9;go_wp2_with fail
     rw[← HY.out];go_meet
     exact⟨by rw[HH.out.1,HH.out.2.1,HH.out.2.2]; exact HR9.out,HW9.out⟩
   case rest =>
    obtain⟨ry9,hw9⟩:=hcut;have HK:=Aa (show KAt C M Fd vv1 (.slice (some ⟨g',0,none⟩) (Ln.length+1) cap) vi1 Lv1 (Ln ++ [⟨jJ,.slice none 0 0,.slice none 0 0,.slice none 0 0⟩]) s4 hd p w8.heap.size yb xb (.slice none 0 0) (.slice none 0 0) [] [] wc from
     ⟨HM8.out.priv hw9 fun b e _=>by subst e; exact HPY.out,ry9,rx8.wrote hw9 (fun e=>hxy e.symm),Ak.nil _ _ _ _ _,Ak.nil _ _ _ _ _,HPY.out.wider hw9.size,HPX.out.wider hw9.size,fun b e=>(by cases e),fun b e=>(by cases e),⟨ry.lt,rx8.lt,hxy⟩⟩)
    have HW9:=Aa (HW8.out.step hw9 fun i hi e=>by omega);obtain⟨w9,hw9e⟩:∃ w9:World,w9=wc:=⟨_,rfl⟩;have k12:w8.heap.size≤wc.heap.size:=hw9.size;clear ry9 hw9 HM8 HW8 HPY HPX ry rx8 x0 HXM HBIG HS3 HO3 HPE hq1 hq2 hq3 hq4 HO2 aj8 hlt1 Ep HBB Es hxmb HMID;obtain⟨KK,hKK⟩:∃ KK:Nat→KS,KK=fun k=>dF C (bC C f (level+1)) p seen k s4:=⟨_,rfl⟩
    have HKK:=Aa (fun k=>congrFun hKK k);have HK0:=Aa (show KK 0=⟨[],[],s4⟩ by rw[hKK]; rfl);clear hKK;go_wp2
    go_loopw [12] (fun iv wr=>∃ (k:Nat) (Fe:Ac) (vv' vn' vi':Value) (Lv':List VV) (Ln':List NV) (un uw:Value),k≤mn∧iv = .int .i64 (k:Int)∧Hid ((∀ b,Fd b→Fe b)∧(∀ b,Fe b→Fd b∨W.heap.size≤b)∧Up W vv vv'∧Up W vn vn'∧Up W vi vi')∧Hid (KAt C M Fe vv' vn' vi' Lv' Ln' (KK k).s hd p w8.heap.size yb xb un uw (KK k).next (KK k).weights wr)∧Hid (Wrote (Mut M.mb M.db vv vn vi) W wr)∧w8.heap.size≤wr.heap.size) (fun iv _=>mn - (intOf iv).toNat)
    case atStart=>exact⟨0,Fd,_,_,_,_,_,_,_,Nat.zero_le _,rfl,Aa ⟨fun _ h=>h,fun _ h=>.inl h,HU1.out,HU.out,HU2.out⟩,by rw[HK0.out]; exact HK,HW9,k12⟩
    case round =>
     clear HK HW9 hw9e k12 w9;obtain⟨k,Fe,vv',vn',vi',Lv',Ln',un,uw,hk,rfl,HF,HK,HW,k13⟩:=hrel;by_cases hkt:k < mn
     ·have t0:decide ((k:Int) < (mn:Int))=true:=decide_eq_true (by omega);obtain⟨hJk,hPk,_⟩:=acL (C:=C) (rec:=bC C f (level+1)) (p:=p) HSL.out (fun sn t hsn ht hpt=>by
       obtain⟨a,b,c⟩:=zf HC.out f (level+1) sn t (by omega) (by omega) hsn ht hpt;exact⟨a,b,by omega⟩) k s4 HJ4.out (by rw[HP4.out]; omega)
      rw[← HKK.out k] at hJk hPk;rw[HP4.out] at hPk;obtain⟨w1,s1,hd1⟩:∃ w1 s1,(if p.ak < 0 then ((KK k).weights ++ [1+((KK k).s.draw C 3).1],((KK k).s.draw C 3).2) else ((KK k).weights,(KK k).s))=(w1,s1):=⟨_,_,rfl⟩;have HS1:=Aa (show KK (k+1)=⟨w1,(KK k).next ++ [((bC C f (level+1) (iG p k seen) s1).1:Int)],(bC C f (level+1) (iG p k seen) s1).2⟩ by
       rw[HKK.out k] at hd1 ⊢;rw[HKK.out (k+1)];exact uV hd1)
      obtain⟨Kk,hKk⟩:∃ Kk,Kk=KK k:=⟨_,rfl⟩;rw[← hKk] at HK HS1 hd1 hJk hPk;have HKq:=Aa hKk;clear hKk;obtain⟨wk,nk,sk⟩:=Kk;dsimp only at HK HS1 hd1 hJk hPk;have hJ1:JM C 0 s1∧1≤s1.pending:=by
       by_cases hp0:p.ak < 0
       ·rw[if_pos hp0] at hd1;injection hd1 with _ e
        rw[← e];exact⟨hJk.at _,by show 1≤sk.pending; omega⟩
       ·rw[if_neg hp0] at hd1;injection hd1 with _ e
        rw[← e];exact⟨hJk,by omega⟩
      have hlen:wk.length≤k∧nk.length=k:=by
       have:=abR (C:=C) (rec:=bC C f (level+1)) (p:=p) (seen:=seen) (s:=s4) k;rw[← HKK.out k,← HKq.out] at this;exact this
      have HLEN:=Aa hlen;clear hlen;have HJ1:=Aa hJ1;have HJk:=Aa hJk;have HD1:=Aa hd1;clear hJ1 hJk hPk hd1;have x0:=HK.out.rx.cell (i:=0) rfl;go_upto_if 138 with(fail)
      obtain⟨bb4,akb⟩:∃ b,b=decide (p.ak < 0):=⟨_,rfl⟩;rw[← akb];have HBB4:=Aa akb;clear akb;go_cut [] from 139 to 149 (fun wx=>∃ uw',KAt C M Fe vv' vn' vi' Lv' Ln' s1 hd p w8.heap.size yb xb un uw' nk w1 wx∧Wrote (Mut M.mb M.db vv vn vi) W wx∧w8.heap.size≤wx.heap.size)
      case first =>
       by_cases hp0:p.ak < 0
       ·obtain rfl:bb4=true:=by rw[HBB4.out]; exact decide_eq_true hp0
        have hd1:=HD1.out;rw[if_pos hp0] at hd1;injection hd1 with e1 e2
        have hdv:=iL C.L sk.at' (n:=3) (by decide);obtain⟨dv2,afi⟩:∃ dv2,dv2=(sk.draw C 3).1:=⟨_,rfl⟩;have hdb:0≤dv2∧dv2 < 3:=by rw[afi]; exact hdv
        rw[← afi] at e1;have HDV2:=Aa afi;have HE1:=Aa e1; have HE2:=Aa e2;have hwd:IntKind.i64.wrap (1+dv2)=1+dv2:=IntWalk.i64_in _ (by omega);have hwl:wk.length≤1000000:=by have:=HLEN.out; omega
        have m0:=HK.out.m.box.cell (i:=0) rfl;have y4:=HK.out.ry.cell (i:=4) rfl;clear hp0 e1 e2 hdv afi x0;go_wp2_with fail
        refine bK (fun w'=>w'.cell? ⟨M.mb,0,none⟩=some (.pointer (some ⟨M.db,0,none⟩))∧w'.cell? ⟨yb,4,none⟩=some (uw)) 10 2 (by kernel_rfl) rfl (by kernel_rfl) ?_;have hHeld:(fun w':World=>w'.cell? ⟨M.mb,0,none⟩=some (.pointer (some ⟨M.db,0,none⟩))∧w'.cell? ⟨yb,4,none⟩=some (uw)) wr.drew:=⟨m0,y4⟩;simp only[List.take_succ_cons,List.take_zero];have hb:Below wr.heap.size wr wr.drew:=aG (Below.refl _ wr) 1;replace m0:=ah m0 hb;replace y4:=ah y4 hb;replace HK:=Aa (HK.out.below hb);replace HW:=Aa (HW.out.trans (Below.wrote hb _)); replace k13:=Nat.le_trans k13 hb.size;clear hb;generalize wr.drew=wn at *;refine tk0 [0,1,2,3,4,5] ?_;iterate 6 (refine tk (v:=?_) rfl (by kernel_rfl) (by kernel_rfl) (by kernel_rfl) (fun _ _ _ h=>h) (Or.inl ⟨by rfl,?_⟩) hHeld ?_;rotate_left;(focus intro wx hSx;(try dsimp only at hSx);go_split_ands;go_simp;try with_reducible rfl);try simp only[Act.put,lq1,lq2,lq3,lq4,lq5,lq6])
        refine tk1 ?_;refine tk2 6 (by kernel_rfl) rfl fun K hK=>?_
        go_simp;refine(adT HK.out.m 3 (by decide) (by decide)).mono ?_;rintro e wm ⟨rfl,hm2,hw2⟩;rw[← HDV2.out];replace m0:=bZ m0 hw2 HK.out.m.bW.2.2; replace y4:=bZ y4 hw2 (fun e=>HK.out.py.2.2.2.1 (.inr (.inl e)));replace HW:=Aa (HW.out.step hw2 fun i _ e=>.inr (.inl e)); replace k13:=Nat.le_trans k13 hw2.size;replace HK:=Aa (HK.out.wrote hm2 hw2 fun b e=>.inr (.inl e));clear hw2 hm2 hHeld;refine hK.out _ _ ⟨m0,y4⟩ (fun hHeld=>?_);clear hK K;try simp only[Act.put,lq1,lq2,lq3,lq4,lq5,lq6]
        refine tk0 [7] ?_;(refine tk (v:=?_) rfl (by kernel_rfl) (by kernel_rfl) (by kernel_rfl) (fun _ _ _ h=>h) (Or.inl ⟨by rfl,?_⟩) hHeld ?_;rotate_left;(focus intro wx hSx;(try dsimp only at hSx);go_split_ands;go_simp;try with_reducible rfl);try simp only[Act.put,lq1,lq2,lq3,lq4,lq5,lq6])
        refine tk1 ?_;refine tk2 8 (by kernel_rfl) rfl fun K hK=>?_
        go_simp;refine hK.out _ _ ⟨gB m0 _,gB y4 _⟩ (fun hHeld=>?_);clear hK K;try simp only[Act.put,lq1,lq2,lq3,lq4,lq5,lq6]
        refine tk2 9 (by kernel_rfl) rfl fun K hK=>?_
        refine kF (K:=nP) (F:=fun _=>False) (W:=wm) rfl _ _ 26 3 8 _ Tryz.underlying26 Tryz.infoIntK rfl (by decide) rfl w8.heap.size k13 uw wk rfl (1+dv2) _ rfl hwl rfl HK.out.hw trivial ?_;intro g2 cap2 wq2 hown' hwq hat' hlt';have hymb:uw.ownBlock≠some M.mb:=fun e=>(HK.out.pw _ e).1.2.2.2.1 (.inl rfl)
        have afk:uw.ownBlock≠some yb:=fun e=>by have:=(HK.out.hw.row.lt _ e).1; have:=HK.out.lt.1; omega
        replace m0:=bZ m0 hwq hymb; replace y4:=bZ y4 hwq afk;have ff:=(HK.out.ry.wrote hwq afk).frozen 4;obtain⟨Wz,hWz,hkz,hwz⟩:=HK.out.akA hown' hwq hat';replace HW:=Aa (HW.out.step hwz fun i hi e=>by omega); replace k13:=Nat.le_trans k13 hwz.size;have HKZ:=Aa hkz; have HY:=Aa hWz;clear hown' hwq hat' hlt' hHeld hkz hWz hwz HK hymb afk;refine hK.out _ _ ⟨m0,y4⟩ (fun hHeld=>?_);clear hK K;try simp only[Act.put,lq1,lq2,lq3,lq4,lq5,lq6]
        refine wpAnyH_done (by kernel_rfl) ?_ _;clear hHeld m0;show wpList _ _ _ _ _ _;go_wp2
        show wpList _ _ _ _ _ _;go_wp2
        rw[← HY.out];unfold Bo;show Exit.then _ _ .normal _ _;go_wp2
        go_meet
        exact⟨_,by rw[← HE1.out,← HE2.out]; exact HKZ.out,HW.out,k13⟩
       ·obtain rfl:bb4=false:=by rw[HBB4.out]; exact decide_eq_false hp0
        have hd1:=HD1.out;rw[if_neg hp0] at hd1;injection hd1 with e1 e2
        subst e1 e2;clear hp0;go_wp2_with fail
        go_meet
        exact⟨uw,HK.out,HW.out,k13⟩
      case rest =>
       obtain⟨uw2,hk2,hw2,k14⟩:=hcut;have HK2:=Aa hk2; have HW2:=Aa hw2;have HSc:=Aa (AY.on HS.out (hw2.same fun b hb=>(HM.out.foot b hb).2.2));clear hk2 hw2 HK HW x0 k13;obtain⟨w10,rfl⟩:∃ w10:World,w10=wc:=⟨_,rfl⟩;have HNL:=Aa (show(iG p k seen).length=seen.length by unfold iG; simp);have HP0:=Aa HPO.out;have hsl5:level≤5:=by have:=HC.out.len; omega
       have hsl4:seen.length≤4:=by rw[HSP.out]; omega
       go_wp2
       go_loopw [13,14] (fun u iv wq=>∃ (j:Nat) (LL:List (Value×List Int)),j≤seen.length∧iv = .int .i64 (j:Int)∧Hid (LL.length=j∧LL.map Prod.snd=(iG p k seen).take j)∧Hid (Ak abQ wq w10.heap.size 26 (fun b=>w10.heap.size≤b) u LL)∧Hid (Below w10.heap.size w10 wq)) (fun _ iv _=>seen.length - (intOf iv).toNat)
       case atStart=>exact⟨0,[],Nat.zero_le _,rfl,Aa ⟨rfl,rfl⟩,Aa (Ak.nil _ _ _ _ _),Aa (Below.refl _ _)⟩
       case round =>
        obtain⟨j,LL,hj,rfl,HLL,HO,HB2⟩:=hrel;by_cases hjt:j < seen.length
        ·skip
         have t1:decide ((j:Int) < (seen.length:Int))=true:=decide_eq_true (by omega);obtain⟨sl,hsl⟩:=au hjt;have Ed:=Aa (HSL.out sl (List.mem_of_getElem? hsl));have hsr:=AY.on HSc.out (Below.same' HB2.out Fd);obtain⟨_,_,hse,_,hsr⟩:=hsr;obtain⟨bs,os,hbs,hbf,hbl,ah6⟩:=hsr (by omega);simp only[Value.slice.injEq,true_and] at hse;obtain⟨rfl,rfl⟩:=hse;obtain⟨vs,hcs2,hvs⟩:=ah6 j sl hsl;rw[Nat.mul_one] at hcs2;obtain⟨Av,cv,rfl,_⟩:=id hvs;have HVS:=Aa hvs; have HSJ:=Aa hsl;subst hbs;have x0:=(HK2.out.rx.below HB2.out HK2.out.rx.lt).cell (i:=0) rfl;have x2:=(HK2.out.rx.below HB2.out HK2.out.rx.lt).cell (i:=2) rfl;have afl:sl.length≤1000000:=by rw[Ed.out]; omega
         clear hsr ah6 hvs hsl;have hb10:=HB2.out.size;have akc:LL.length≤1000000:=by rw[HLL.out.1]; have:=HSP.out; omega
         have Et:=Aa (agU (p:=p) (k:=k) HSJ.out);by_cases hjp:(j:Int)=p.ak
         ·have tj:((j:Int)==p.ak)=true:=by simp[hjp]
          have HX:=Aa (show(iG p k seen)[j]? = some (sl ++ [(k:Int)]) by rw[Et.out,if_pos (.inl hjp)]);clear hjp;go_wp2_with (at_builtin; first | (refine mP (F:=Fd) rfl _ _ rfl (.slice Av sl.length cv) sl rfl rfl HVS.out afl ?_; intro g2 cap2 wq2 hown2 nR akd; replace x0:=ah x0 nR; replace x2:=ah x2 nR; have HB3:=Aa nR; have HOW:=Aa hown2; have k20:=nR.size; clear hown2 nR) | ((refine jX (K:=nP) (F:=fun _=>False) (w:=wq2) (W:=wq2) rfl _ _ 26 3 8 _ Tryz.underlying26 Tryz.infoIntK rfl (by decide) rfl wr.heap.size k20 (.slice (some ⟨g2,0,none⟩) sl.length cap2) sl rfl ((k:Int)) _ rfl afl rfl HOW.out trivial ?_; intro g3 cap3 wq3 hown3 adY ah7 hlt3; have CG:=Aa hown3; have HB4:=Aa (Below.wr HB3.out adY k20 fun b e=>(HOW.out.row.lt b e).1); have HO4:=Aa (HO.out.below HB4.out); have k21:=Nat.le_trans hb10 HB4.out.size; clear hown3 adY ah7 hlt3)) | ((refine jX (K:=abQ) (F:=fun b=>w10.heap.size≤b) (w:=wq3) (W:=wq3) rfl _ _ 96 26 24 _ Tryz.underlying96 Tryz.infoListK rfl (by decide) rfl w10.heap.size k21 u13 LL rfl (.slice (some ⟨g3,0,none⟩) (sl.length+1) cap3,sl ++ [(k:Int)]) _ rfl akc rfl HO4.out (CG.out.ints fun b e=>⟨by have:=(CG.out.row.lt b e).1; omega,fun e2=>by have:=(CG.out.row.lt b e).1; have:=(HO.out.row.lt b e2).2; omega⟩) ?_; intro g4 cap4 wq4 hown4 adZ ah8 hlt4; have HO5:=Aa hown4; have HB5:=Aa (Below.wr (HB2.out.trans (HB4.out.mono hb10)) adZ k21 fun b e=>(HO4.out.row.lt b e).1); clear hown4 adZ ah8 hlt4)))
          go_roundw
          case rel=>exact⟨j+1,LL ++ [(.slice (some ⟨g3,0,none⟩) (sl.length+1) cap3,sl ++ [(k:Int)])],by omega,by go_num,Aa ⟨by rw[List.length_append,HLL.out.1]; rfl,by rw[List.map_append,HLL.out.2,take_snoc HX.out]; rfl⟩,HO5,HB5⟩
          case measure=>simp[intOf]; omega
         ·have tj:((j:Int)==p.ak)=false:=by simp[hjp]
          have HJP:=Aa hjp;clear hjp;go_upto_if 173 with(at_builtin; refine mP (F:=Fd) rfl _ _ rfl (.slice Av sl.length cv) sl rfl rfl HVS.out afl ?_; intro g2 cap2 wq2 hown2 nR akd; replace x0:=ah x0 nR; replace x2:=ah x2 nR; have HB3:=Aa nR; have HOW:=Aa hown2; have k20:=nR.size; clear hown2 nR)
          obtain⟨bv,hbv⟩:∃ bv,bv=bits BinOp.and IntKind.i64 (p.seen / 2 ^ j) 1:=⟨_,rfl⟩;rw[← hbv];have hjp:=HJP.out;rw[ah5 HP0.out.2.2.2.2.1 HP0.out.2.2.2.2.2 (by omega)] at hbv;by_cases hjb:(p.seen.toNat >>> j) % 2=1
          ·rw[if_pos hjb] at hbv;subst hbv;have HX:=Aa (show(iG p k seen)[j]? = some (sl ++ [(k:Int)]) by rw[Et.out,if_pos (.inr hjb)]);clear hjp hjb;go_wp2_with (at_builtin; first | (refine mP (F:=Fd) rfl _ _ rfl (.slice Av sl.length cv) sl rfl rfl HVS.out afl ?_; intro g2 cap2 wq2 hown2 nR akd; replace x0:=ah x0 nR; replace x2:=ah x2 nR; have HB3:=Aa nR; have HOW:=Aa hown2; have k20:=nR.size; clear hown2 nR) | ((refine jX (K:=nP) (F:=fun _=>False) (w:=wq2) (W:=wq2) rfl _ _ 26 3 8 _ Tryz.underlying26 Tryz.infoIntK rfl (by decide) rfl wr.heap.size k20 (.slice (some ⟨g2,0,none⟩) sl.length cap2) sl rfl ((k:Int)) _ rfl afl rfl HOW.out trivial ?_; intro g3 cap3 wq3 hown3 adY ah7 hlt3; have CG:=Aa hown3; have HB4:=Aa (Below.wr HB3.out adY k20 fun b e=>(HOW.out.row.lt b e).1); have HO4:=Aa (HO.out.below HB4.out); have k21:=Nat.le_trans hb10 HB4.out.size; clear hown3 adY ah7 hlt3)) | ((refine jX (K:=abQ) (F:=fun b=>w10.heap.size≤b) (w:=wq3) (W:=wq3) rfl _ _ 96 26 24 _ Tryz.underlying96 Tryz.infoListK rfl (by decide) rfl w10.heap.size k21 u13 LL rfl (.slice (some ⟨g3,0,none⟩) (sl.length+1) cap3,sl ++ [(k:Int)]) _ rfl akc rfl HO4.out (CG.out.ints fun b e=>⟨by have:=(CG.out.row.lt b e).1; omega,fun e2=>by have:=(CG.out.row.lt b e).1; have:=(HO.out.row.lt b e2).2; omega⟩) ?_; intro g4 cap4 wq4 hown4 adZ ah8 hlt4; have HO5:=Aa hown4; have HB5:=Aa (Below.wr (HB2.out.trans (HB4.out.mono hb10)) adZ k21 fun b e=>(HO4.out.row.lt b e).1); clear hown4 adZ ah8 hlt4)))
           go_roundw
           case rel=>exact⟨j+1,LL ++ [(.slice (some ⟨g3,0,none⟩) (sl.length+1) cap3,sl ++ [(k:Int)])],by omega,by go_num,Aa ⟨by rw[List.length_append,HLL.out.1]; rfl,by rw[List.map_append,HLL.out.2,take_snoc HX.out]; rfl⟩,HO5,HB5⟩
           case measure=>simp[intOf]; omega
          ·rw[if_neg hjb] at hbv;subst hbv;have HX:=Aa (show(iG p k seen)[j]? = some (sl ++ [(-1)]) by rw[Et.out,if_neg (by rintro(e | e); exact hjp e; exact hjb e)]);clear hjp hjb;go_wp2_with (at_builtin; first | (refine mP (F:=Fd) rfl _ _ rfl (.slice Av sl.length cv) sl rfl rfl HVS.out afl ?_; intro g2 cap2 wq2 hown2 nR akd; replace x0:=ah x0 nR; replace x2:=ah x2 nR; have HB3:=Aa nR; have HOW:=Aa hown2; have k20:=nR.size; clear hown2 nR) | ((refine jX (K:=nP) (F:=fun _=>False) (w:=wq2) (W:=wq2) rfl _ _ 26 3 8 _ Tryz.underlying26 Tryz.infoIntK rfl (by decide) rfl wr.heap.size k20 (.slice (some ⟨g2,0,none⟩) sl.length cap2) sl rfl ((-1)) _ rfl afl rfl HOW.out trivial ?_; intro g3 cap3 wq3 hown3 adY ah7 hlt3; have CG:=Aa hown3; have HB4:=Aa (Below.wr HB3.out adY k20 fun b e=>(HOW.out.row.lt b e).1); have HO4:=Aa (HO.out.below HB4.out); have k21:=Nat.le_trans hb10 HB4.out.size; clear hown3 adY ah7 hlt3)) | ((refine jX (K:=abQ) (F:=fun b=>w10.heap.size≤b) (w:=wq3) (W:=wq3) rfl _ _ 96 26 24 _ Tryz.underlying96 Tryz.infoListK rfl (by decide) rfl w10.heap.size k21 u13 LL rfl (.slice (some ⟨g3,0,none⟩) (sl.length+1) cap3,sl ++ [(-1)]) _ rfl akc rfl HO4.out (CG.out.ints fun b e=>⟨by have:=(CG.out.row.lt b e).1; omega,fun e2=>by have:=(CG.out.row.lt b e).1; have:=(HO.out.row.lt b e2).2; omega⟩) ?_; intro g4 cap4 wq4 hown4 adZ ah8 hlt4; have HO5:=Aa hown4; have HB5:=Aa (Below.wr (HB2.out.trans (HB4.out.mono hb10)) adZ k21 fun b e=>(HO4.out.row.lt b e).1); clear hown4 adZ ah8 hlt4)))
           go_roundw
           case rel=>exact⟨j+1,LL ++ [(.slice (some ⟨g3,0,none⟩) (sl.length+1) cap3,sl ++ [(-1)])],by omega,by go_num,Aa ⟨by rw[List.length_append,HLL.out.1]; rfl,by rw[List.map_append,HLL.out.2,take_snoc HX.out]; rfl⟩,HO5,HB5⟩
           case measure=>simp[intOf]; omega
        ·have hje:j=seen.length:=by omega
         subst hje;have t1:decide ((seen.length:Int) < (seen.length:Int))=false:=decide_eq_false (by omega);obtain⟨bm,hbm⟩:∃ bm,bm=bC C f (level+1) (iG p k seen) s1:=⟨_,rfl⟩;have HBM:=Aa hbm;rw[← hbm] at HS1;clear hbm;have HNV:=Aa (show AY wr (fun b=>Fe b∨(w10.heap.size≤b∧b < wr.heap.size)) u13 (iG p k seen) by
          have h:=HO.out.lists (G:=fun b=>Fe b∨(w10.heap.size≤b∧b < wr.heap.size)) (fun b hb hl=>.inr ⟨hb,hl⟩) (fun b e=>.inr (HO.out.row.lt b e));rw[HLL.out.2,List.take_of_length_le (by rw[HNL.out]; exact Nat.le_refl _)] at h;exact h)
         have HK3:=Aa (HK2.out.fresh HB2.out);have HW3:=Aa (HW2.out.trans (Below.wrote HB2.out _));have k15:=Nat.le_trans k14 HB2.out.size;obtain⟨F1,hF1⟩:∃ F1:Ac,F1=fun b=>Fe b∨(w10.heap.size≤b∧b < wr.heap.size):=⟨_,rfl⟩
         rw[← hF1] at HK3 HNV;have HF1:=Aa (show(∀ b,Fd b→F1 b)∧(∀ b,F1 b→Fd b∨W.heap.size≤b) from⟨fun b hb=>by rw[hF1]; exact .inl (HF.out.1 b hb),fun b hb=>by rw[hF1] at hb; exact hb.elim (fun e=>HF.out.2.1 b e) fun e=>.inr (by omega)⟩);have HNLL:=Aa (show(iG p k seen).length=C.aj.toNat by rw[HNL.out,HSP.out]);have y3:=HK3.out.ry.cell (i:=3) rfl;have hwl1:IntKind.i64.wrap ((level:Int)+1)=(level:Int)+1:=IntWalk.i64_in _ (by omega);have hnkl:nk.length≤1000000:=by have:=HLEN.out; omega
         obtain⟨Au,cu,hu13,_⟩:=id HNV.out;subst hu13;clear HO HB2 HK2 HW2 HSc hF1 k14;go_wp2_with fail
         refine bK (fun w'=>w'.cell? ⟨yb,3,none⟩=some (un)) 9 2 (by kernel_rfl) rfl (by kernel_rfl) ?_;have hHeld:(fun w':World=>w'.cell? ⟨yb,3,none⟩=some (un)) wr.drew:=y3;simp only[List.take_succ_cons,List.take_zero];have hb:Below wr.heap.size wr wr.drew:=aG (Below.refl _ wr) 1;replace y3:=ah y3 hb;replace HK3:=Aa (HK3.out.below hb); replace HNV:=Aa (AY.on HNV.out (Below.same' hb _));replace HW3:=Aa (HW3.out.trans (Below.wrote hb _)); replace k15:=Nat.le_trans k15 hb.size;clear hb;generalize wr.drew=wn at *;refine tk0 [0,1,2,3,4,5] ?_;iterate 6 (refine tk (v:=?_) rfl (by kernel_rfl) (by kernel_rfl) (by kernel_rfl) (fun _ _ _ h=>h) (Or.inl ⟨by rfl,?_⟩) hHeld ?_;rotate_left;(focus intro wx hSx;(try dsimp only at hSx);go_split_ands;go_simp;try with_reducible rfl);try simp only[Act.put,lq1,lq2,lq3,lq4,lq5,lq6])
         refine tk1 ?_;refine tk2 6 (by kernel_rfl) rfl fun K hK=>?_
         go_simp;refine(IH.out (by omega) (by omega) F1 vv' vn' vi' Lv' Ln' s1 wn _ (iG p k seen) HK3.out.m HNV.out (xk HSL.out) HNLL.out HJ1.out.1 HJ1.out.2).mono ?_;rintro e wm ⟨rfl,hbt⟩;rw[← HBM.out] at hbt ⊢;obtain⟨Fe2,vv2,vn2,vi2,Lv2,Ln2,f1,f2,f3,f4,f5,hk4,hw4⟩:=HK3.out.built hbt;replace y3:=bZ y3 hw4 (HK3.out.py.2.2.2.1);have hWn:W.heap.size≤wn.heap.size:=by omega
         have HF2:=Aa (show(∀ b,Fd b→Fe2 b)∧(∀ b,Fe2 b→Fd b∨W.heap.size≤b)∧Up W vv vv2∧Up W vn vn2∧Up W vi vi2 from⟨fun b hb=>f1 b (HF1.out.1 b hb),fun b hb=>(f2 b hb).elim (fun e=>HF1.out.2 b e) fun e=>.inr (by omega),Up.trans HF.out.2.2.1 f3 hWn,Up.trans HF.out.2.2.2.1 f4 hWn,Up.trans HF.out.2.2.2.2 f5 hWn⟩);have HW4:=Aa (HW3.out.step hw4 fun i hi e=>yG HF.out.2.2.1 HF.out.2.2.2.1 HF.out.2.2.2.2 hi e);replace k15:=Nat.le_trans k15 hw4.size;have HK4:=Aa hk4;clear hbt f1 f2 f3 f4 f5 hk4 hw4 hHeld HK3 HW3 HNV hWn;refine hK.out _ _ y3 (fun hHeld=>?_);clear hK K;try simp only[Act.put,lq1,lq2,lq3,lq4,lq5,lq6]
         refine tk2 7 (by kernel_rfl) rfl fun K hK=>?_
         go_simp;refine hK.out _ _ (gB y3 _) (fun hHeld=>?_);clear hK K;try simp only[Act.put,lq1,lq2,lq3,lq4,lq5,lq6]
         refine tk2 8 (by kernel_rfl) rfl fun K hK=>?_
         refine kF (K:=nP) (F:=fun _=>False) (W:=wm) rfl _ _ 26 3 8 _ Tryz.underlying26 Tryz.infoIntK rfl (by decide) rfl w8.heap.size k15 un nk rfl (bm.1:Int) _ rfl hnkl rfl HK4.out.hn trivial ?_;intro g2 cap2 wq2 hown' hwq hat' hlt';have afk:un.ownBlock≠some yb:=fun e=>by have:=(HK4.out.hn.row.lt _ e).1; have:=HK4.out.lt.1; omega
         replace y3:=bZ y3 hwq afk;have ff:=(HK4.out.ry.wrote hwq afk).frozen 3;obtain⟨Wz,hWz,hkz,hwz⟩:=HK4.out.akz hown' hwq hat';have HWZ:=Aa (HW4.out.step hwz fun i hi e=>by omega); replace k15:=Nat.le_trans k15 hwz.size;have HKZ:=Aa hkz; have HY:=Aa hWz;clear hown' hwq hat' hlt' hHeld hkz hWz hwz HK4 afk HW4;refine hK.out _ _ y3 (fun hHeld=>?_);clear hK K;try simp only[Act.put,lq1,lq2,lq3,lq4,lq5,lq6]
         refine wpAnyH_done (by kernel_rfl) ?_ _;clear hHeld;show wpList _ _ _ _ _ _;go_wp2
         show wpList _ _ _ _ _ _;go_wp2
         rw[← HY.out];clear HY ff y3;unfold Bo;show Exit.inBlock _ _ .normal _ _;go_wp2
         go_roundw
         case rel=>exact⟨k+1,Fe2,vv2,vn2,vi2,Lv2,Ln2,.slice (some ⟨g2,0,none⟩) (nk.length+1) cap2,uw2,by omega,by go_num,HF2,Aa (by rw[HS1.out]; exact HKZ.out),HWZ,k15⟩
         case measure=>simp[intOf]; omega
     ·have hke:k=mn:=by omega
      subst hke;have t0:decide ((k:Int) < (k:Int))=false:=decide_eq_false (by omega);obtain⟨_,_,hgr⟩:=acL (C:=C) (rec:=bC C f (level+1)) (p:=p) HSL.out (fun sn t hsn ht hpt=>by
       obtain⟨a,b,c⟩:=zf HC.out f (level+1) sn t (by omega) (by omega) hsn ht hpt;exact⟨a,b,by omega⟩) k s4 HJ4.out (by rw[HP4.out]; omega)
      rw[← HKK.out k] at hgr;have HB2:=Aa (show bC C (f+1) level seen s=(s.nodes.length,{ (KK k).s with nodes:=(KK k).s.nodes.set s.nodes.length (iM p info (KK k).weights (KK k).next) }) by rw[HB.out,HKK.out k,Int.toNat_natCast]);obtain⟨Kk,hKk⟩:∃ Kk,Kk=KK k:=⟨_,rfl⟩;rw[← hKk] at HK HB2 hgr;clear hKk;obtain⟨wk,nk,sk⟩:=Kk;dsimp only at HK HB2 hgr;have abe:Ln.length < Ln'.length:=by
       have h1:Ln'.length=sk.nodes.length:=by rw[← HK.out.m.l9,List.length_map]
       have h2:=HN4.out;omega
      have hvn:∃ g cap,vn' = .slice (some ⟨g,0,none⟩) Ln'.length cap:=by
       rcases HK.out.m.nodes.at with⟨_,h⟩ | ⟨g,cap,h,_⟩
       ·rw[h] at abe; exact absurd abe (by simp)
       ·exact⟨g,cap,h⟩
      obtain⟨gn,cn2,rfl⟩:=hvn;have hHD:iM p info wk nk=⟨hd.kind,hd.ak,hd.info,nk,wk,[]⟩:=by
       rw[HHD.out]; unfold iM; split <;> rfl
      have HHN:=Aa hHD;have hbm:M.base≤w8.heap.size:=Nat.le_trans hbase k11;clear hgr hHD HB HSL;obtain⟨Aun,cun,rfl,_,_⟩:=HK.out.hn.form;obtain⟨Auw,cuw,rfl,_,_⟩:=HK.out.hw.form;have m8:=HK.out.m.box.cell (i:=8) rfl;have y0:=HK.out.ry.cell (i:=0) rfl;have y1:=HK.out.ry.cell (i:=1) rfl;have y2:=HK.out.ry.cell (i:=2) rfl;have y3:=HK.out.ry.cell (i:=3) rfl;have y4:=HK.out.ry.cell (i:=4) rfl;have y5:=HK.out.ry.cell (i:=5) rfl;go_wp2_with fail
      refine bK (fun w'=>w'.cell? ⟨M.mb,8,none⟩=some (.slice (some ⟨gn,0,none⟩) Ln'.length cn2)∧w'.cell? ⟨yb,0,none⟩=some (.int .i64 hd.kind)∧w'.cell? ⟨yb,1,none⟩=some (.int .i64 hd.ak)∧w'.cell? ⟨yb,2,none⟩=some (.int .i64 hd.info)∧w'.cell? ⟨yb,3,none⟩=some (.slice Aun nk.length cun)∧w'.cell? ⟨yb,4,none⟩=some (.slice Auw wk.length cuw)∧w'.cell? ⟨yb,5,none⟩=some (.slice none 0 0)) 7 2 (by kernel_rfl) rfl (by kernel_rfl) ?_;have hHeld:(fun w':World=>w'.cell? ⟨M.mb,8,none⟩=some (.slice (some ⟨gn,0,none⟩) Ln'.length cn2)∧w'.cell? ⟨yb,0,none⟩=some (.int .i64 hd.kind)∧w'.cell? ⟨yb,1,none⟩=some (.int .i64 hd.ak)∧w'.cell? ⟨yb,2,none⟩=some (.int .i64 hd.info)∧w'.cell? ⟨yb,3,none⟩=some (.slice Aun nk.length cun)∧w'.cell? ⟨yb,4,none⟩=some (.slice Auw wk.length cuw)∧w'.cell? ⟨yb,5,none⟩=some (.slice none 0 0)) wr.drew:=⟨m8,y0,y1,y2,y3,y4,y5⟩;simp only[List.take_succ_cons,List.take_zero];have hb:Below wr.heap.size wr wr.drew:=aG (Below.refl _ wr) 1;replace m8:=ah m8 hb;replace y0:=ah y0 hb;replace y1:=ah y1 hb;replace y2:=ah y2 hb;replace y3:=ah y3 hb;replace y4:=ah y4 hb;replace y5:=ah y5 hb;replace HK:=Aa (HK.out.below hb);replace HW:=Aa (HW.out.trans (Below.wrote hb _)); replace k13:=Nat.le_trans k13 hb.size;clear hb;generalize wr.drew=wn at *;refine tk0 [0,1,2,3,4,5,6] ?_;iterate 7 (refine tk (v:=?_) rfl (by kernel_rfl) (by kernel_rfl) (by kernel_rfl) (fun _ _ _ h=>h) (Or.inl ⟨by rfl,?_⟩) hHeld ?_;rotate_left;(focus intro wx hSx;(try dsimp only at hSx);go_split_ands;go_simp;try with_reducible rfl);try simp only[Act.put,lq1,lq2,lq3,lq4,lq5,lq6])
      refine tk1 ?_;refine wpAnyH_done (by kernel_rfl) ?_ _;clear hHeld;show wpList _ _ _ _ _ _;have f0:=HK.out.m.nodes.fz (Ln.length*6);have f1:=HK.out.m.nodes.fz (Ln.length*6+1);have f2:=HK.out.m.nodes.fz (Ln.length*6+2);have f3:=HK.out.m.nodes.fz (Ln.length*6+3);have f4:=HK.out.m.nodes.fz (Ln.length*6+4);have f5:=HK.out.m.nodes.fz (Ln.length*6+5);obtain⟨q0,z0⟩:∃ v,wn.cell? ⟨gn,Ln.length*6,none⟩=some v:=HK.out.m.nodes.bP abe 0 (by decide);obtain⟨q1,z1⟩:∃ v,wn.cell? ⟨gn,Ln.length*6+1,none⟩=some v:=HK.out.m.nodes.bP abe 1 (by decide);obtain⟨q2,z2⟩:∃ v,wn.cell? ⟨gn,Ln.length*6+2,none⟩=some v:=HK.out.m.nodes.bP abe 2 (by decide);obtain⟨q3,z3⟩:∃ v,wn.cell? ⟨gn,Ln.length*6+3,none⟩=some v:=HK.out.m.nodes.bP abe 3 (by decide);obtain⟨q4,z4⟩:∃ v,wn.cell? ⟨gn,Ln.length*6+4,none⟩=some v:=HK.out.m.nodes.bP abe 4 (by decide);obtain⟨q5,z5⟩:∃ v,wn.cell? ⟨gn,Ln.length*6+5,none⟩=some v:=HK.out.m.nodes.bP abe 5 (by decide);have HM2:=Aa (HK.out.m.widen (Fe:=fun b=>Fe b∨(Value.slice Aun nk.length cun).ownBlock=some b∨(Value.slice Auw wk.length cuw).ownBlock=some b) (fun b hb=>.inl hb) fun b hb=>by
       rcases hb with hb | hb | hb
       ·exact HK.out.m.foot b hb
       ·have h1:=HK.out.pn b hb; have h2:=(HK.out.hn.row.lt b hb).1; exact⟨by omega,h1.1,h1.2.2.2.1⟩
       ·have h1:=(HK.out.pw b hb).1; have h2:=(HK.out.hw.row.lt b hb).1; exact⟨by omega,h1.1,h1.2.2.2.1⟩)
      obtain⟨W9,hW9,hm9,hw9⟩:=HM2.out.setNode rfl abe ⟨⟨hd.kind,hd.ak,hd.info,nk,wk,[]⟩,.slice Aun nk.length cun,.slice Auw wk.length cuw,.slice none 0 0⟩ ⟨HK.out.hn.ints fun b e=>.inr (.inl e),HK.out.hw.ints fun b e=>.inr (.inr e),wo⟩;have HF3:=Aa (show ∀ b,(Fe b∨(Value.slice Aun nk.length cun).ownBlock=some b∨(Value.slice Auw wk.length cuw).ownBlock=some b)→Fd b∨W.heap.size≤b from fun b hb=>hb.elim (fun e=>HF.out.2.1 b e) fun e=>.inr (e.elim (fun e=>by have:=(HK.out.hn.row.lt b e).1; omega) fun e=>by have:=(HK.out.hw.row.lt b e).1; omega));have H9:=Aa hW9; have HM9:=Aa hm9; have HW9:=Aa (HW.out.step hw9 fun i hi e=>(HF.out.2.2.2.1 i (by rw[e]; rfl)).elim (fun e=>.inr (.inr (.inr (.inl e)))) fun e=>by omega);clear hW9 hm9 hw9 HK HM2;go_wp2
      show wpList _ _ _ _ _ _;go_wp2
      rw[← H9.out];unfold Bo;show Exit.then _ _ .normal _ _;go_wp2
      go_ret;rw[HB2.out,HHN.out];exact⟨by rw[← HLN.out]; rfl,by rw[← HLN.out]; exact⟨_,_,_,_,_,_,fun b hb=>.inl (HF.out.1 b hb),HF3.out,HF.out.2.2.1,HF.out.2.2.2.1,HF.out.2.2.2.2,HM9.out,HW9.out⟩⟩
theorem afm {C:MC} (hC:BG C) (hm:C.most≤1000) (hp1:1≤C.aj) (hp4:C.aj≤4) {M:ML} (f:Nat):BP C M f:=by
 induction f with
 | zero=>intro level hf hl; omega
 | succ f ih=>exact adX hC hm hp1 hp4 ih
def DC (C:MC) (n:Nd):Prop:=n.kind=3∧n.ak=0∧n.info=0∧n.next = []∧n.weights = []∧(n.pay.length:Int)=C.aj∧(∀ x∈n.pay,-3≤x∧x≤3)∧(C.zero=true→C.aj=2→∃ x,n.pay = [x,-x])
def DF (C:MC) (V:List View) (I:List Inf) (level:Nat) (seen:List (List Int)) (n:Nd):Prop :=
 level < C.levels.length∧1≤n.next.length∧n.next.length≤3∧n.pay = [] ∧
  (((C.levels.getD level default).ak < 0∧n.kind=1∧n.ak=0∧n.info=0∧n.weights.length=n.next.length∧∀ x∈n.weights,1≤x∧x≤3) ∨
  (0≤(C.levels.getD level default).ak∧n.kind=2∧n.ak=(C.levels.getD level default).ak∧n.weights = []∧∃ x:Nat,n.info=(x:Int)∧I[x]? = some ⟨n.ak,n.next.length⟩∧V[x]? = some ⟨n.ak,level,seen.getD n.ak.toNat [],x⟩))
inductive Bt (C:MC) (V:List View) (I:List Inf) (N:List Nd):Nat→List (List (List Int))→List Int→Nat→Nat→Prop
 | nil (level a:Nat):Bt C V I N level [] [] a a
 | fin {level a b:Nat} {n:Nd} {seen:List (List Int)} {ss:List (List (List Int))} {cs:List Int}:N[a]? = some n→DC C n→Bt C V I N level ss cs (a+1) b→Bt C V I N level (seen :: ss) ((a:Int) :: cs) a b
 | mid {level a m b:Nat} {n:Nd} {seen:List (List Int)} {ss:List (List (List Int))} {cs:List Int}:N[a]? = some n→DF C V I level seen n →
   Bt C V I N (level+1) ((List.range n.next.length).map fun k=>iG (C.levels.getD level default) k seen) n.next (a+1) m→Bt C V I N level ss cs m b→Bt C V I N level (seen :: ss) ((a:Int) :: cs) a b
section
variable {C:MC} {V V':List View} {I I':List Inf} {N N':List Nd}
theorem ad1 {f a:Nat} {dep deep:Int} {n:Nd} (hn:N[a]? = some n):eX N (f+1) a dep deep=dA (fun a d=>eX N f a (dep+1) d) n.next ((a:Int)+1) (max deep dep):=by
 rw[eX]; simp only[hn]
theorem Bt.le {level a b:Nat} {ss:List (List (List Int))} {cs:List Int} (h:Bt C V I N level ss cs a b):a≤b:=by
 induction h with
 | nil=>exact Nat.le_refl _
 | fin _ _ _ ih=>omega
 | mid _ _ _ _ ih1 ih2=>omega
theorem Bt.grow {level a b:Nat} {ss:List (List (List Int))} {cs:List Int} (h:Bt C V I N level ss cs a b):(∀ i,a≤i→i < b→N'[i]? = N[i]?) →
  (∀ (i:Nat) (n:Nd) (x:Nat) (p:Inf) (q:View),a≤i→i < b→N[i]? = some n→n.kind=2→n.info=x→I[x]? = some p→V[x]? = some q→I'[x]? = some p∧V'[x]? = some q)→Bt C V' I' N' level ss cs a b:=by
 induction h with
 | nil level a=>intro _ _; exact .nil _ _
 | @fin level a b n seen ss cs hn he hr ih =>
  intro hN hI;have l:=hr.le;exact .fin ((hN a (Nat.le_refl _) (by omega)).trans hn) he (ih (fun i h1 h2=>hN i (by omega) h2) fun i n x p q h1 h2=>hI i n x p q (by omega) h2)
 | @mid level a m b n seen ss cs hn hm hk hr ih1 ih2 =>
  intro hN hI;have l1:=hk.le;have l2:=hr.le;refine .mid ((hN a (Nat.le_refl _) (by omega)).trans hn) ?_ (ih1 (fun i h1 h2=>hN i (by omega) (by omega)) fun i n x p q h1 h2=>hI i n x p q (by omega) (by omega)) (ih2 (fun i h1 h2=>hN i (by omega) h2) fun i n x p q h1 h2=>hI i n x p q (by omega) h2);obtain⟨h1,h2,h3,h4,h5⟩:=hm;refine⟨h1,h2,h3,h4,h5.imp id ?_⟩;rintro⟨k0,k1,k2,k3,x,k4,k5,k6⟩;obtain⟨e1,e2⟩:=hI a n x _ _ (Nat.le_refl _) (by omega) hn k1 k4 k5 k6;exact⟨k0,k1,k2,k3,x,k4,e1,e2⟩
theorem Bt.snoc {level a m:Nat} {ss:List (List (List Int))} {cs:List Int} (h:Bt C V I N level ss cs a m) {b:Nat} {seen:List (List Int)} {c:Int}:Bt C V I N level [seen] [c] m b→Bt C V I N level (ss ++ [seen]) (cs ++ [c]) a b:=by
 induction h with
 | nil level a=>intro k; exact k
 | fin hn he _ ih=>intro k; exact .fin hn he (ih k)
 | mid hn hm hk _ _ ih=>intro k; exact .mid hn hm hk (ih k)
theorem Bt.span {level a b:Nat} {ss:List (List (List Int))} {cs:List Int} (h:Bt C V I N level ss cs a b):Span N cs a b:=by
 induction h with
 | nil level a=>exact .nil a
 | @fin level a b n seen ss cs hn he _ ih=>exact .cons hn (by rw[he.2.2.2.1]; exact .nil _) ih
 | mid hn _ _ _ ih1 ih2=>exact .cons hn ih1 ih2
theorem Bt.node {level a b:Nat} {ss:List (List (List Int))} {cs:List Int} (h:Bt C V I N level ss cs a b):∀ i n,a≤i→i < b→N[i]? = some n→DC C n∨∃ l seen,DF C V I l seen n:=by
 induction h with
 | nil level a=>intro i n h1 h2; omega
 | @fin level a b n seen ss cs hn he _ ih =>
  intro i n' h1 h2 hi;by_cases e:i=a
  ·subst e; rw[hn] at hi; cases hi; exact .inl he
  ·exact ih i n' (by omega) h2 hi
 | @mid level a m b n seen ss cs hn hm hk hr ih1 ih2 =>
  intro i n' h1 h2 hi;by_cases e:i=a
  ·subst e; rw[hn] at hi; cases hi; exact .inr ⟨_,_,hm⟩
  ·by_cases e2:i < m
   ·exact ih1 i n' (by omega) e2 hi
   ·exact ih2 i n' (by omega) h2 hi
theorem Bt.walk {level a b:Nat} {ss:List (List (List Int))} {cs:List Int} (h:Bt C V I N level ss cs a b):∀ (f:Nat) (dep deep:Int),b≤a+f→level≤C.levels.length→-1≤deep→deep≤dep+(C.levels.length - level:Nat) →
  (dA (fun a d=>eX N f a dep d) cs a deep).1=(b:Int)∧-1≤(dA (fun a d=>eX N f a dep d) cs a deep).2∧(dA (fun a d=>eX N f a dep d) cs a deep).2≤dep+(C.levels.length - level:Nat):=by
 induction h with
 | nil level a=>intro f dep deep _ _ h1 h2; exact⟨rfl,h1,h2⟩
 | @fin level a b n seen ss cs hn he hr ih =>
  intro f dep deep hf hl h1 h2;have hb1:=hr.le;obtain⟨f,rfl⟩:∃ f',f=f'+1:=⟨f - 1,by omega⟩;have hw:eX N (f+1) a dep deep=((a:Int)+1,max deep dep):=by
   rw[ad1 hn,he.2.2.2.1]; rfl
  unfold dA;rw[if_neg (by simp),Int.toNat_natCast];simp only[hw];rw[if_neg (by omega)];have:=ih (f+1) dep (max deep dep) (by omega) hl (by omega) (by omega);rw[Int.natCast_add] at this;exact this
 | @mid level a m b n seen ss cs hn hm hk hr ih1 ih2 =>
  intro f dep deep hf hl h1 h2;have hb1:=hr.le;have hb2:=hk.le;obtain⟨f,rfl⟩:∃ f',f=f'+1:=⟨f - 1,by omega⟩;obtain⟨k1,k2,k3⟩:=ih1 f (dep+1) (max deep dep) (by omega) (by have:=hm.1; omega) (by omega) (by have:=hm.1; omega);rw[Int.natCast_add] at k1 k2 k3;have hw:=ad1 (f:=f) (dep:=dep) (deep:=deep) hn;unfold dA;rw[if_neg (by simp),Int.toNat_natCast];simp only[hw];rw[show((1:Nat):Int)=1 from rfl] at k1 k2 k3;rw[k1,if_neg (by omega)];exact ih2 (f+1) dep _ (by omega) hl k2 (by have:=hm.1; omega)
end
structure KM (O:List (Nat×Nat)) (N:List Nd) (cr:List Nat):Prop where
 up:cr.Pairwise (· < ·)
 lt:∀ c∈cr,c < N.length
 by':∀ j n,N[j]? = some n→n.kind=2→∃ x c:Nat,n.info=(x:Int)∧cr[x]? = some c∧c≤j
 has:∀ x c:Nat,cr[x]? = some c→(∃ n,N[c]? = some n∧n.kind=2∧n.info=(x:Int))∨(c,x)∈O
theorem KM.nil:KM [] [] []:=⟨.nil,fun _ h=>(by cases h),fun _ _ h=>(by simp at h),fun _ _ h=>(by simp at h)⟩
section
variable {O:List (Nat×Nat)} {N:List Nd} {cr:List Nat}
theorem KM.push (h:KM O N cr):KM O (N ++ [jJ]) cr where
 up:=h.up
 lt c hc:=by have:=h.lt c hc; simp; omega
 by' j n hj hk:=by
  by_cases hl:j < N.length
  ·rw[List.getElem?_append_left hl] at hj; exact h.by' j n hj hk
  ·rw[List.getElem?_append_right (by omega)] at hj;have:n=jJ:=by simpa using List.mem_of_getElem? hj
   subst this; cases hk
 has x c hc:=by
  rcases h.has x c hc with⟨n,hn,hr⟩ | ho
  ·exact .inl ⟨n,by rw[List.getElem?_append_left (aB hn)]; exact hn,hr⟩
  ·exact .inr ho
theorem KM.make (h:KM O N cr):KM ((N.length,cr.length) :: O) (N ++ [jJ]) (cr ++ [N.length]) where
 up:=by
  rw[List.pairwise_append];exact⟨h.up,by simp,fun a ha b hb=>by rw[List.mem_singleton.1 hb]; exact h.lt a ha⟩
 lt c hc:=by
  rcases List.mem_append.1 hc with hc | hc
  ·have:=h.lt c hc; simp; omega
  ·rw[List.mem_singleton.1 hc]; simp
 by' j n hj hk:=by
  obtain⟨x,c,h1,h2,h3⟩:=h.push.by' j n hj hk;exact⟨x,c,h1,by rw[List.getElem?_append_left (aB h2)]; exact h2,h3⟩
 has x c hc:=by
  by_cases hl:x < cr.length
  ·rw[List.getElem?_append_left hl] at hc;exact(h.push.has x c hc).imp id fun h=>List.mem_cons_of_mem _ h
  ·rw[List.getElem?_append_right (by omega)] at hc;have e:x - cr.length < [N.length].length:=aB hc;have e2:x=cr.length:=by simp at e; omega
   subst e2;rw[Nat.sub_self] at hc;simp at hc; subst hc;exact .inr (by simp)
theorem KM.set (h:KM O N cr) {i:Nat} {m n:Nd} (hm:N[i]? = some m) (hk:m.kind≠2) (hn:n.kind=2→∃ x c:Nat,n.info=(x:Int)∧cr[x]? = some c∧c≤i):KM O (N.set i n) cr where
 up:=h.up
 lt c hc:=by rw[List.length_set]; exact h.lt c hc
 by' j n' hj hk':=by
  by_cases e:i=j
  ·subst e;rw[List.getElem?_set_self (aB hm)] at hj;cases hj
   exact hn hk'
  ·rw[List.getElem?_set_ne e] at hj; exact h.by' j n' hj hk'
 has x c hc:=by
  rcases h.has x c hc with⟨n',hn',h1,h2⟩ | ho
  ·refine .inl ⟨n',?_,h1,h2⟩;rw[List.getElem?_set_ne (fun e=>by subst e; rw[hm] at hn'; cases hn'; exact hk h1)];exact hn'
  ·exact .inr ho
theorem KM.close {i x:Nat} (h:KM ((i,x) :: O) N cr) {n:Nd} (hm:N[i]? = some n) (hk:n.kind=2) (hx:n.info=x):KM O N cr where
 up:=h.up
 lt:=h.lt
 by':=h.by'
 has y c hc:=by
  rcases h.has y c hc with h1 | h1
  ·exact .inl h1
  ·rcases List.mem_cons.1 h1 with h1 | h1
   ·cases h1; exact .inl ⟨n,hm,hk,hx⟩
   ·exact .inr h1
end
def VI (V:List View) (I:List Inf):Prop:=∀ (x:Nat) (v:View),V[x]? = some v→∃ f,I[x]? = some f∧f.ak=v.ak
def Bh (O:List (Nat×Nat)) (V:List View) (level:Nat):Prop:=∀ c x:Nat,(c,x)∈O→∃ v,V[x]? = some v∧v.level < (level:Int)
structure Grown (O:List (Nat×Nat)) (cr:List Nat) (s r:MS):Prop where
 grow:∃ T Iv Vv cv,r.nodes=s.nodes++T∧r.infos=s.infos++Iv∧r.views=s.views++Vv∧KM O r.nodes (cr++cv)∧(cr++cv).length=r.infos.length
 vi:VI r.views r.infos
theorem Bh.up {O:List (Nat×Nat)} {V W:List View} {level:Nat} (h:Bh O V level):Bh O (V++W) (level+1):=fun c x hc=>by
 obtain⟨v,hv,hl⟩:=h c x hc;exact⟨v,by rw[List.getElem?_append_left (aB hv)]; exact hv,by omega⟩
theorem qF {α:Type} {L M:List α} {k:Nat} {x:α} (h:L[k]? = some x):(L++M)[k]? = some x:=by rw[List.getElem?_append_left (aB h)]; exact h
theorem Bt.app {C:MC} {V W:List View} {I J:List Inf} {N T:List Nd} {level a b:Nat} {ss:List (List (List Int))} {cs:List Int} (h:Bt C V I N level ss cs a b) (hb:b≤N.length):Bt C (V++W) (I++J) (N++T) level ss cs a b :=
 h.grow (fun i _ hi=>List.getElem?_append_left (by omega)) fun i n x p q _ _ _ _ _ h1 h2=>⟨qF h1,qF h2⟩
theorem endOk (C:MC) (hp:0≤C.aj) (s:MS):DC C ⟨3,0,0,[],[],kQ C (fC C C.aj.toNat s).1⟩:=by
 have hl:=mO C s C.aj.toNat;have hi:=aaI C s C.aj.toNat;refine⟨rfl,rfl,rfl,rfl,rfl,?_,?_,?_⟩
 ·show((kQ C (fC C C.aj.toNat s).1).length:Int)=C.aj;unfold kQ;split <;> simp[hl] <;> omega
 ·intro x hx;have hx:x∈kQ C (fC C C.aj.toNat s).1:=hx;unfold kQ at hx;split at hx
  ·rcases List.mem_or_eq_of_mem_set hx with h | h
   ·exact hi x h
   ·have h0:(fC C C.aj.toNat s).1.getD 0 0∈(fC C C.aj.toNat s).1:=by
     rename_i h2
     have:0 < (fC C C.aj.toNat s).1.length:=by rw[hl,h2.2]; decide
     rw[List.getD_eq_getElem?_getD,List.getElem?_eq_getElem this]; exact List.getElem_mem this
    have:=hi _ h0;omega
  ·exact hi x hx
 ·intro hz h2;show ∃ x,kQ C (fC C C.aj.toNat s).1 = [x,-x];rw[h2] at hl ⊢;unfold kQ;rw[if_pos ⟨hz,h2⟩];generalize (fC C (2:Int).toNat s).1=l at *;match l,hl with
  | [a,b],_=>exact⟨a,rfl⟩
theorem Bh.app {O:List (Nat×Nat)} {V W:List View} {level:Nat} (h:Bh O V level):Bh O (V++W) level:=fun c x hc=>by
 obtain⟨v,hv,hl⟩:=h c x hc;exact⟨v,qF hv,hl⟩
theorem Grown.trans {O:List (Nat×Nat)} {cr:List Nat} {s r t:MS} (h:Grown O cr s r) (k:∀ cr',KM O r.nodes cr'→cr'.length=r.infos.length→Grown O cr' r t):Grown O cr s t:=by
 obtain⟨T,Iv,Vv,cv,h1,h2,h3,h4,h5⟩:=h.grow;obtain⟨T',Iv',Vv',cv',k1,k2,k3,k4,k5⟩:=(k _ h4 h5).grow;exact⟨⟨T++T',Iv++Iv',Vv++Vv',cv++cv',by rw[k1,h1,List.append_assoc],by rw[k2,h2,List.append_assoc],by rw[k3,h3,List.append_assoc],by rw[← List.append_assoc]; exact k4,by rw[← List.append_assoc]; exact k5⟩,(k _ h4 h5).vi⟩
theorem xw {C:MC} (hp:0≤C.aj) {O:List (Nat×Nat)} {cr:List Nat} {s t:MS} {level:Nat} {seen:List (List Int)} (h:KM O s.nodes cr) (hl:cr.length=s.infos.length) (hv:VI s.views s.infos) (hn:t.nodes=s.nodes ++ [jJ]) (hi:t.infos=s.infos) (hw:t.views=s.views) :
  Grown O cr s (l7 C s.nodes.length t)∧Bt C (l7 C s.nodes.length t).views (l7 C s.nodes.length t).infos (l7 C s.nodes.length t).nodes level [seen] [(s.nodes.length:Int)] s.nodes.length (l7 C s.nodes.length t).nodes.length:=by
 have ho:=endOk C hp t;obtain⟨a,ha⟩:=uU C t C.aj.toNat;generalize hq:(⟨3,0,0,[],[],kQ C (fC C C.aj.toNat t).1⟩:Nd)=q at ho;have e:l7 C s.nodes.length t = { t with at':=a,nodes:=t.nodes.set s.nodes.length q }:=by unfold l7; simp only[ha,← hq]
 rw[e];simp only[hn,hi,hw];have hset:(s.nodes ++ [jJ]).set s.nodes.length q=s.nodes ++ [q]:=by rw[List.set_append_right _ _ (Nat.le_refl _),Nat.sub_self]; rfl
 have hget:(s.nodes ++ [jJ])[s.nodes.length]? = some jJ:=by rw[List.getElem?_append_right (Nat.le_refl _),Nat.sub_self]; rfl
 refine⟨⟨⟨[q],[],[],[],hset,by simp,by simp,?_,by simpa using hl⟩,hv⟩,?_⟩
 ·rw[List.append_nil];exact h.push.set hget (by decide) fun hk=>by have:=ho.1; omega
 ·rw[hset];have hg:(s.nodes ++ [q])[s.nodes.length]? = some q:=by rw[List.getElem?_append_right (Nat.le_refl _),Nat.sub_self]; rfl
  have:=Bt.fin (C:=C) (V:=s.views) (I:=s.infos) (N:=s.nodes ++ [q]) (level:=level) (seen:=seen) hg ho (.nil level _);rw[List.length_append];exact this
structure Opn (level:Nat) (p:Place) (seen:List (List Int)) (O:List (Nat×Nat)) (cr:List Nat) (s:MS) (o:Int×Int×MS):Prop where
 nodes:o.2.2.nodes=s.nodes ++ [jJ]
 ex:∃ (P:List (Nat×Nat)) (Iv:List Inf) (Vv:List View) (cv:List Nat),o.2.2.infos=s.infos++Iv∧o.2.2.views=s.views++Vv∧KM P o.2.2.nodes (cr++cv)∧(cr++cv).length=o.2.2.infos.length∧Bh P o.2.2.views (level+1) ∧
  (p.ak < 0→P=O)∧(¬ p.ak < 0→∃ x c:Nat,o.1=(x:Int)∧o.2.2.infos[x]? = some ⟨p.ak,o.2.1⟩∧o.2.2.views[x]? = some ⟨p.ak,level,seen.getD p.ak.toNat [],x⟩∧(cr++cv)[x]? = some c∧c≤s.nodes.length∧(P=O∨P=(s.nodes.length,x) :: O))
 vi:VI o.2.2.views o.2.2.infos
 drop:(kE o.1 p.ak o.2.2).nodes=s.nodes ++ [jJ]∧(kE o.1 p.ak o.2.2).infos=s.infos∧(kE o.1 p.ak o.2.2).views=s.views
theorem ah9 {C:MC} {p:Place} {level:Nat} {seen:List (List Int)} {O:List (Nat×Nat)} {cr:List Nat} {s t:MS} (hj:JM C 0 s) (h:KM O s.nodes cr) (hl:cr.length=s.infos.length) (hv:VI s.views s.infos) (ho:Bh O s.views level) (hn:t.nodes=s.nodes ++ [jJ]) (hi:t.infos=s.infos) (hw:t.views=s.views) :
  Opn level p seen O cr s (kR C p (level:Int) seen t):=by
 unfold kR;by_cases hp:p.ak < 0
 ·rw[if_pos hp];have e:kE 0 p.ak t=t:=by unfold kE; rw[if_pos (.inl hp)]
  refine⟨hn,⟨O,[],[],[],by simp[hi],by simp[hw],by rw[List.append_nil,hn]; exact h.push,by simp[hi,hl],?_,fun _=>rfl,fun h=>absurd hp h⟩,by simp only[hi,hw]; exact hv,by simp only[e]; exact⟨hn,hi,hw⟩⟩;have:=ho.up (W:=[]);rw[List.append_nil] at this;simp only[hw]; exact this
 ·rw[if_neg hp];simp only;unfold jL;obtain⟨sl,hsl⟩:∃ sl,sl=seen.getD p.ak.toNat []:=⟨_,rfl⟩;rw[← hsl];cases hf:t.views.find? (gy p.ak (level:Int) sl) with
  | some v =>
   simp only;have hm:=List.mem_of_find?_eq_some hf;have hs:=List.find?_some hf;rw[hw] at hm;obtain⟨x,hx⟩:=List.getElem?_of_mem hm;have hvi:=hj.vi x v hx;unfold gy at hs;simp only[Bool.and_eq_true,decide_eq_true_eq] at hs;obtain⟨⟨s1,s2⟩,s3⟩:=hs;obtain⟨v1,v2,v3,v4⟩:=v;simp only at s1 s2 s3 hvi;subst s1 s2 s3 hvi;obtain⟨f,hfx,hfp⟩:=hv x _ hx;obtain⟨f1,f2⟩:=f;simp only at hfp;subst hfp;have hxc:x < cr.length:=by rw[hl]; exact aB hfx
   obtain⟨c,hc⟩:=au hxc;have hst:∃ n,s.nodes[c]? = some n∧n.kind=2∧n.info=x:=by
    rcases h.has x c hc with h1 | h1
    ·exact h1
    ·obtain⟨v,hv1,hv2⟩:=ho c x h1;rw[hx] at hv1; cases hv1;simp only at hv2;omega
   have hcl:=h.lt c (List.mem_of_getElem? hc);have e:kE (x:Int) p.ak t=t:=by
    refine aaK (List.any_eq_true.2 ?_);obtain⟨n,n1,n2,n3⟩:=hst;exact⟨n,by rw[hn]; exact List.mem_append_left _ (List.mem_of_getElem? n1),by simp[jG,n2,n3]⟩
   have ea:(t.infos.getD x default).actions=f2:=by rw[hi,List.getD_eq_getElem?_getD,hfx]; rfl
   refine⟨hn,⟨O,[],[],[],by simp[hi],by simp[hw],by rw[List.append_nil,hn]; exact h.push,by simp[hi,hl],?_,fun h=>absurd h hp,fun _=>?_⟩,by simp only[hi,hw]; exact hv,by simp only[e]; exact⟨hn,hi,hw⟩⟩
   ·have:=ho.up (W:=[]);rw[List.append_nil] at this;simp only[hw]; exact this
   ·refine⟨x,c,rfl,?_,by simp only[hw]; rw[← hsl]; exact hx,by simpa using hc,by omega,.inl rfl⟩;show t.infos[x]? = some ⟨p.ak,(t.infos.getD x default).actions⟩;rw[ea,hi]; exact hfx
  | none =>
   simp only;have ea:((t.infos ++ [(⟨p.ak,1+dP C.L t.at' 3⟩:Inf)]).getD t.infos.length default).actions=1+dP C.L t.at' 3:=by rw[List.getD_eq_getElem?_getD,List.getElem?_append_right (Nat.le_refl _),Nat.sub_self]; rfl
   have hvl:=hj.vl;have hno:t.nodes.any (jG (t.infos.length:Int))=false:=by
    rw[List.any_eq_false];intro n hmem hu;rw[hn] at hmem;unfold jG at hu;simp only[Bool.and_eq_true,decide_eq_true_eq] at hu;rcases List.mem_append.1 hmem with hmem | hmem
    ·obtain⟨j,hj⟩:=List.getElem?_of_mem hmem;obtain⟨x,c,h1,h2,_⟩:=h.by' j n hj hu.1;have:=aB h2;rw[hi] at hu;omega
    ·rw[List.mem_singleton.1 hmem] at hu;exact absurd hu.1 (by decide)
   refine⟨hn,⟨(s.nodes.length,cr.length) :: O,[⟨p.ak,1+dP C.L t.at' 3⟩],[⟨p.ak,level,sl,t.infos.length⟩],[s.nodes.length],by show t.infos ++ [(⟨p.ak,1+dP C.L t.at' 3⟩:Inf)]=s.infos ++ [⟨p.ak,1+dP C.L t.at' 3⟩]; rw[hi],by show t.views ++ [(⟨p.ak,level,sl,t.infos.length⟩:View)]=s.views ++ [⟨p.ak,level,sl,t.infos.length⟩]; rw[hw],?_,by show _=(t.infos ++ [(⟨p.ak,1+dP C.L t.at' 3⟩:Inf)]).length; simp[hi,hl],?_,fun h=>absurd h hp,fun _=>⟨t.infos.length,s.nodes.length,rfl,?_,?_,?_,Nat.le_refl _,.inr (by rw[hi,hl])⟩⟩,?_,?_⟩
   ·show KM _ t.nodes _;rw[hn]; exact h.make
   ·show Bh _ (t.views ++ [⟨p.ak,level,sl,t.infos.length⟩]) (level+1);intro c x hc;rcases List.mem_cons.1 hc with hc | hc
    ·cases hc
     refine⟨⟨p.ak,level,sl,t.infos.length⟩,?_,by show(level:Int) < ((level+1:Nat):Int); omega⟩;rw[List.getElem?_append_right (by rw[hw,hvl,hl]; exact Nat.le_refl _),hw,hvl,hl,Nat.sub_self]; rfl
    ·have:=(ho.up (W:=[⟨p.ak,level,sl,t.infos.length⟩])) c x hc;rw[hw]; exact this
   ·simp only[Int.toNat_natCast,MS.draw,ea];rw[List.getElem?_append_right (Nat.le_refl _),Nat.sub_self]; rfl
   ·show(t.views ++ [(⟨p.ak,level,sl,t.infos.length⟩:View)])[t.infos.length]? = _;rw[← hsl,List.getElem?_append_right (by rw[hw,hvl,hi]; exact Nat.le_refl _),hw,hvl,hi,Nat.sub_self]; rfl
   ·rw[List.getElem?_append_right (by rw[hi,hl]; exact Nat.le_refl _),hi,hl,Nat.sub_self]; rfl
   ·show VI (t.views ++ [⟨p.ak,level,sl,t.infos.length⟩]) (t.infos ++ [⟨p.ak,1+dP C.L t.at' 3⟩]);intro x v hx;by_cases hxl:x < t.views.length
    ·rw[List.getElem?_append_left hxl,hw] at hx;obtain⟨f,hf1,hf2⟩:=hv x v hx;exact⟨f,by rw[hi]; exact qF hf1,hf2⟩
    ·rw[List.getElem?_append_right (by omega)] at hx;have e1:x - t.views.length < 1:=aB hx;have e2:x=t.infos.length:=by rw[hw] at e1 hxl; rw[hi]; omega
     have e3:x - t.views.length=0:=by omega
     rw[e3] at hx;simp at hx;subst hx;exact⟨⟨p.ak,1+dP C.L t.at' 3⟩,by rw[e2,List.getElem?_append_right (Nat.le_refl _),Nat.sub_self]; rfl,rfl⟩
   ·unfold kE;rw[if_neg (by simp[MS.draw]; omega)];rw[if_neg (by simp only[MS.draw]; rw[hno]; simp)];refine⟨hn,?_,?_⟩
    ·simp[MS.draw,hi]
    ·simp[MS.draw,hw]
theorem Grown.refl {O:List (Nat×Nat)} {cr:List Nat} {s:MS} (h:KM O s.nodes cr) (hl:cr.length=s.infos.length) (hv:VI s.views s.infos):Grown O cr s s:=⟨⟨[],[],[],[],by simp,by simp,by simp,by simpa using h,by simpa using hl⟩,hv⟩
structure Sub (C:MC) (O:List (Nat×Nat)) (cr:List Nat) (level:Nat) (ss:List (List (List Int))) (cs:List Int) (s r:MS):Prop where
 j:JM C 0 r
 grown:Grown O cr s r
 bt:Bt C r.views r.infos r.nodes level ss cs s.nodes.length r.nodes.length
theorem ad2 {C:MC} {rec:List (List Int)→MS→Nat×MS} {p:Place} {seen:List (List Int)} {level n:Nat} {O:List (Nat×Nat)} (hs:∀ l∈seen,l.length=n)
  (hrec:∀ sn s cr,(∀ l∈sn,l.length=n+1)→JM C 0 s→1≤s.pending→KM O s.nodes cr→cr.length=s.infos.length→VI s.views s.infos→Bh O s.views level →
   (rec sn s).1=s.nodes.length∧(rec sn s).2.pending=s.pending - 1∧Sub C O cr level [sn] [(s.nodes.length:Int)] s (rec sn s).2) :
  ∀ (k:Nat) (s:MS) (cr:List Nat),JM C 0 s→(k:Int)≤s.pending→KM O s.nodes cr→cr.length=s.infos.length→VI s.views s.infos→Bh O s.views level →
   (dF C rec p seen k s).s.pending=s.pending - k∧Sub C O cr level ((List.range k).map fun i=>iG p i seen) (dF C rec p seen k s).next s (dF C rec p seen k s).s∧(dF C rec p seen k s).next.length=k∧(p.ak < 0→(dF C rec p seen k s).weights.length=k∧∀ x∈(dF C rec p seen k s).weights,1≤x∧x≤3)∧(¬ p.ak < 0→(dF C rec p seen k s).weights = [])
 | 0,s,cr,hj,hk,h,hl,hv,ho=>⟨by simp[dF],⟨hj,Grown.refl h hl hv,.nil _ _⟩,rfl,fun _=>⟨rfl,fun _ h=>by cases h⟩,fun _=>rfl⟩
 | k+1,s,cr,hj,hk,h,hl,hv,ho=>by
  obtain⟨i1,⟨i2,i3,i4⟩,i5,i6,i7⟩:=ad2 hs hrec k s cr hj (by omega) h hl hv ho;have e:dF C rec p seen (k+1) s=(let r:=dF C rec p seen k s
   let d:=if p.ak < 0 then (r.weights ++ [1+(r.s.draw C 3).1],(r.s.draw C 3).2) else (r.weights,r.s)
   let c:=rec (iG p k seen) d.2
   ⟨d.1,r.next ++ [(c.1:Int)],c.2⟩):=rfl
  rw[e];generalize dF C rec p seen k s=r at *;obtain⟨ws,nx,q⟩:=r;simp only at i1 i2 i3 i4 i5 i6 i7 ⊢;obtain⟨w2,a,hd,hw1,hw2⟩:∃ w2 a,(if p.ak < 0 then (ws ++ [1+(q.draw C 3).1],(q.draw C 3).2) else (ws,q))=(w2,{ q with at':=a })∧(p.ak < 0→w2.length=k+1∧∀ x∈w2,1≤x∧x≤3)∧(¬ p.ak < 0→w2 = []):=by
   by_cases hp:p.ak < 0
   ·refine⟨_,cZ C.L q.at',if_pos hp,fun _=>⟨by simp[(i6 hp).1],fun x hx=>?_⟩,fun h=>absurd hp h⟩;rcases List.mem_append.1 hx with hx | hx
    ·exact(i6 hp).2 x hx
    ·rw[List.mem_singleton.1 hx];have:=iL C.L q.at' (n:=3) (by decide);have e3:(q.draw C 3).1=dP C.L q.at' 3:=rfl;omega
   ·exact⟨ws,q.at',if_neg hp,fun h=>absurd h hp,i7⟩
  rw[hd];simp only;obtain⟨T,Iv,Vv,cv,g1,g2,g3,g4,g5⟩:=i3.grow;obtain⟨j1,j2,j3⟩:=hrec (iG p k seen) { q with at':=a } (cr++cv) (xk hs) (i2.at a) (by show 1≤q.pending; omega) g4 g5 i3.vi (by show Bh O q.views level; rw[g3]; exact ho.app);obtain⟨k2,k3,k4⟩:=j3;have k2':=k3.grow;obtain⟨T',Iv',Vv',cv',n1,n2,n3,n4,n5⟩:=k2';refine⟨?_,⟨k2,⟨⟨T++T',Iv++Iv',Vv++Vv',cv++cv',?_,?_,?_,?_,?_⟩,k3.vi⟩,?_⟩,by simp[i5],hw1,hw2⟩
  ·rw[j2]; show q.pending - 1=_; omega
  ·rw[n1]; show q.nodes++T'=_; rw[g1,List.append_assoc]
  ·rw[n2]; show q.infos++Iv'=_; rw[g2,List.append_assoc]
  ·rw[n3]; show q.views++Vv'=_; rw[g3,List.append_assoc]
  ·rw[← List.append_assoc]; exact n4
  ·rw[← List.append_assoc]; exact n5
  ·rw[j1,List.range_succ,List.map_append];refine Bt.snoc ?_ k4;rw[n1,n2,n3];exact i4.app (Nat.le_refl _)
theorem abS {C:MC} (hC:BG C) (hpl:0≤C.aj):∀ (f level:Nat) (seen:List (List Int)) (s:MS) (O:List (Nat×Nat)) (cr:List Nat),level+f=C.levels.length+1→level≤C.levels.length→(∀ l∈seen,l.length=level)→JM C 0 s→1≤s.pending→KM O s.nodes cr→cr.length=s.infos.length→VI s.views s.infos→Bh O s.views level →
  (bC C f level seen s).1=s.nodes.length∧(bC C f level seen s).2.pending=s.pending - 1∧Sub C O cr level [seen] [(s.nodes.length:Int)] s (bC C f level seen s).2
 | 0,level,seen,s,O,cr,hf,hl,_,_,_,_,_,_,_=>by omega
 | f+1,level,seen,s,O,cr,hf,hl,hs,hj,hp,h,hcl,hv,ho=>by
  have hJ:=zf hC (f+1) level seen s hf hl hs hj hp;have h1:=hj.push hp;suffices hh:(bC C (f+1) level seen s).1=s.nodes.length∧Grown O cr s (bC C (f+1) level seen s).2∧Bt C (bC C (f+1) level seen s).2.views (bC C (f+1) level seen s).2.infos (bC C (f+1) level seen s).2.nodes level [seen] [(s.nodes.length:Int)] s.nodes.length (bC C (f+1) level seen s).2.nodes.length from
   ⟨hh.1,hJ.2.1,hJ.1,hh.2.1,hh.2.2⟩
  clear hJ;unfold bC;simp only;split
  ·exact⟨rfl,xw hpl h hcl hv rfl rfl rfl⟩
  rename_i hne
  have hlv:level < C.levels.length:=by omega
  split
  ·exact⟨rfl,xw hpl h hcl hv rfl rfl rfl⟩
  have hpp:=hC.pl _ (getD_mem (L:=C.levels) (k:=level) (by omega));have h5:=hC.len;obtain⟨o1,o2,o3,o4,o5,o6⟩:=JM.open (h1.at (cZ C.L s.at')) (C.levels.getD level default) (by omega) (level:Int) seen (fun l hl=>by rw[hs l hl]; omega);have hop:=ah9 (C:=C) (p:=C.levels.getD level default) (level:=level) (seen:=seen) (t:={ s with at':=cZ C.L s.at',pending:=s.pending - 1,nodes:=s.nodes ++ [jJ] }) hj h hcl hv ho rfl rfl rfl;obtain⟨S,hS⟩:∃ S,S=kR C (C.levels.getD level default) (level:Int) seen { s with at':=cZ C.L s.at',pending:=s.pending - 1,nodes:=s.nodes ++ [jJ] }:=⟨_,rfl⟩;have e:kR C (C.levels.getD level default) (level:Int) seen (MS.draw C { s with pending:=s.pending - 1,nodes:=s.nodes ++ [jJ] } 8).2=S:=hS.symm;rw[e];rw[← hS] at o1 o2 o3 o4 o5 o6 hop;clear hS e;split
  ·exact⟨rfl,xw hpl h hcl hv hop.drop.1 hop.drop.2.1 hop.drop.2.2⟩
  rename_i hm
  obtain⟨P,Iv,Vv,cv,g1,g2,g3,g4,g5,g6,g7⟩:=hop.ex;have hn:=hop.nodes;have o2:S.2.2.pending=s.pending - 1:=o2;rw[o2] at hm;have j4:JM C 0 { S.2.2 with pending:=S.2.2.pending+S.2.1 }:=⟨o1.vl,o1.vi,o1.il,by
   show(S.2.2.nodes.length:Int)+(S.2.2.pending+S.2.1)≤C.most;rw[hn,o2]; simp; omega,by
   show 0≤S.2.2.pending+S.2.1;have:=o1.p0; omega,o1.vs,o1.ac⟩
  obtain⟨k1,⟨k2,k3,k4⟩,k5,k6,k7⟩:=ad2 (C:=C) (rec:=bC C f (level+1)) (p:=C.levels.getD level default) (level:=level+1) (O:=P) hs (fun sn t cr' hsn ht hpt hk' hl' hv' ho' =>
   abS hC hpl f (level+1) sn t P cr' (by omega) (by omega) hsn ht hpt hk' hl' hv' ho') S.2.1.toNat { S.2.2 with pending:=S.2.2.pending+S.2.1 } (cr++cv) j4 (by show(S.2.1.toNat:Int)≤S.2.2.pending+S.2.1; have:=o1.p0; omega) g3 g4 hop.vi g5
  refine⟨rfl,?_⟩;generalize dF C (bC C f (level+1)) (C.levels.getD level default) seen S.2.1.toNat { S.2.2 with pending:=S.2.2.pending+S.2.1 } = r at *;obtain⟨ws,nx,q⟩:=r;simp only at k1 k2 k3 k4 k5 k6 k7 ⊢;obtain⟨T,Jv,Wv,dv,n1,n2,n3,n4,n5⟩:=k3.grow;have n1:q.nodes=s.nodes ++ [jJ]++T:=by rw[n1]; show S.2.2.nodes++T=_; rw[hn]
  have n2:q.infos=S.2.2.infos++Jv:=n2;have n3:q.views=S.2.2.views++Wv:=n3;have k4:Bt C q.views q.infos q.nodes (level+1) ((List.range S.2.1.toNat).map fun i=>iG (C.levels.getD level default) i seen) nx S.2.2.nodes.length q.nodes.length:=k4;rw[hn,List.length_append] at k4;have hget:q.nodes[s.nodes.length]? = some jJ:=by rw[n1,List.append_assoc,List.getElem?_append_right (Nat.le_refl _),Nat.sub_self]; rfl
  obtain⟨H,hH⟩:∃ H,H=iM (C.levels.getD level default) S.1 ws nx:=⟨_,rfl⟩;rw[← hH];have hHn:H.next=nx:=by rw[hH]; unfold iM; split <;> rfl
  have hHp:H.pay = []:=by rw[hH]; unfold iM; split <;> rfl
  have hset:q.nodes.set s.nodes.length H=s.nodes++(H :: T):=by
   rw[n1,List.append_assoc,List.set_append_right _ _ (Nat.le_refl _),Nat.sub_self]; rfl
  have hkind:H.kind=2→∃ x c:Nat,H.info=x∧(cr++cv++dv)[x]? = some c∧c≤s.nodes.length:=fun hk=>by
   by_cases hp0:(C.levels.getD level default).ak < 0
   ·rw[hH] at hk; unfold iM at hk; rw[if_pos hp0] at hk; cases hk
   ·obtain⟨x,c,x1,_,_,x4,x5,_⟩:=g7 hp0;exact⟨x,c,by rw[hH]; unfold iM; rw[if_neg hp0]; exact x1,qF x4,x5⟩
  have hK:=n4.set hget (by decide) hkind;have hK2:KM O (q.nodes.set s.nodes.length H) (cr++cv++dv):=by
   by_cases hp0:(C.levels.getD level default).ak < 0
   ·rw[g6 hp0] at hK; exact hK
   ·obtain⟨x,c,x1,_,_,x4,x5,x6⟩:=g7 hp0;rcases x6 with x6 | x6
    ·rw[x6] at hK; exact hK
    ·rw[x6] at hK;exact hK.close (List.getElem?_set_self (aB hget)) (by rw[hH]; unfold iM; rw[if_neg hp0]) (by rw[hH]; unfold iM; rw[if_neg hp0]; exact x1)
  have hmid:DF C q.views q.infos level seen H:=by
   have ho5:1≤S.2.1.toNat∧S.2.1.toNat≤3:=by clear hK hK2 hkind n4 k3 k4; omega
   refine⟨hlv,by rw[hHn,k5]; exact ho5.1,by rw[hHn,k5]; exact ho5.2,hHp,?_⟩;by_cases hp0:(C.levels.getD level default).ak < 0
   ·refine .inl ⟨hp0,?_⟩;rw[hHn,hH]; unfold iM; rw[if_pos hp0];exact⟨rfl,rfl,rfl,by rw[k5]; exact(k6 hp0).1,(k6 hp0).2⟩
   ·obtain⟨x,c,x1,x2,x3,_⟩:=g7 hp0;have hpl2:H.ak=(C.levels.getD level default).ak:=by rw[hH]; unfold iM; rw[if_neg hp0]
    refine .inr ⟨Int.not_lt.1 hp0,by rw[hH]; unfold iM; rw[if_neg hp0],hpl2,by rw[hH]; unfold iM; rw[if_neg hp0]; exact k7 hp0,x,by rw[hH]; unfold iM; rw[if_neg hp0]; exact x1,?_,?_⟩
    ·have hS2:((S.2.1.toNat:Nat):Int)=S.2.1:=Int.toNat_of_nonneg (Int.le_trans (by decide) o5);rw[hHn,k5,hpl2,n2,qF x2,hS2]
    ·rw[hpl2,n3]; exact qF x3
  refine⟨⟨⟨H :: T,Iv++Jv,Vv++Wv,cv++dv,hset,by rw[n2,g1,List.append_assoc],by rw[n3,g2,List.append_assoc],by rw[← List.append_assoc]; exact hK2,by rw[← List.append_assoc]; exact n5⟩,k3.vi⟩,?_⟩;rw[List.length_set];refine Bt.mid (n:=H) (m:=q.nodes.length) (by exact List.getElem?_set_self (aB hget)) hmid ?_ (.nil _ _);rw[hHn,k5];exact k4.grow (fun i h1 _=>List.getElem?_set_ne (by simp at h1; omega)) fun i n x p q _ _ _ _ _ h1 h2=>⟨h1,h2⟩
theorem oN (L:List Int) {aj:Int} (hp:0≤aj):∀ (k a:Nat),(fJ L aj k a).1.length=k∧∀ p∈(fJ L aj k a).1,p.ak < aj∧-1≤p.ak∧2≤p.many∧p.many≤3∧0≤p.seen∧p.seen≤15
 | 0,a=>⟨rfl,fun _ h=>by cases h⟩
 | k+1,a=>by
  obtain⟨h1,h2⟩:=oN L hp k a;unfold fJ;simp only;refine⟨by simp[h1],fun p hpm=>?_⟩;rcases List.mem_append.1 hpm with h | h
  ·exact h2 p h
  ·rw[List.mem_singleton.1 h];have d1:=iL L (fJ L aj k a).2 (n:=aj+1) (by omega);have d2:=iL L (cZ L (fJ L aj k a).2) (n:=2) (by decide);have d3:=iL L (cZ L (cZ L (fJ L aj k a).2)) (n:=16) (by decide);simp only;omega
structure Bj (C:MC) (V:List View) (cr:List Nat) (g:Gm):Prop where
 places:BG C
 aj:C.aj=g.aj
 bt:Bt C V g.infos g.nodes 0 [List.replicate g.aj.toNat []] [(0:Int)] 0 g.nodes.length
 km:KM [] g.nodes cr
 len:cr.length=g.infos.length
 vi:VI V g.infos
 most:(g.nodes.length:Int)≤C.most
 many:g.infos.length≤g.nodes.length
theorem aia (L:List Int) {aj most:Int} (zero:Bool) (hp:1≤aj) (hm:1≤most):∃ C V cr,Bj C V cr (aaF L aj most zero)∧C.zero=zero∧C.most=most:=by
 obtain⟨hl,hpl⟩:=oN L (aj:=aj) (by omega) (1+dP L 0 5).toNat (cZ L 0);have hd:=iL L 0 (n:=5) (by decide);have hC:BG ⟨L,(fJ L aj (1+dP L 0 5).toNat (cZ L 0)).1,aj,most,zero⟩:=⟨by simp only[hl]; omega,hpl⟩;have hJ:JM ⟨L,(fJ L aj (1+dP L 0 5).toNat (cZ L 0)).1,aj,most,zero⟩ 0 ⟨(fJ L aj (1+dP L 0 5).toNat (cZ L 0)).2,[],1,[],[]⟩:=⟨rfl,fun i v h=>by simp at h,Nat.le_refl _,by simpa using hm,by show(0:Int)≤1; decide,fun v h=>(by cases h),fun v h=>(by cases h)⟩;obtain⟨h1,h2,h3⟩:=abS hC (by simp only; omega) ((1+dP L 0 5).toNat+1) 0 (List.replicate aj.toNat []) _ [] [] (by simp only[hl]; omega) (Nat.zero_le _) (fun l h=>by rw[List.eq_of_mem_replicate h]; rfl) hJ (by simp) KM.nil rfl (fun x v h=>by simp at h) (fun c x h=>by cases h);obtain⟨T,Iv,Vv,cv,g1,g2,g3,g4,g5⟩:=h3.grown.grow;refine⟨_,_,cv,⟨hC,rfl,h3.bt,?_,?_,h3.grown.vi,?_,?_⟩,rfl,rfl⟩
 ·exact g4
 ·exact g5
 ·have:=h3.j.np;have:=h3.j.p0;show((bC _ _ _ _ _).2.nodes.length:Int)≤_;omega
 ·exact h3.j.il
theorem yH {aj:Int} {ni:Nat}:∀ {l:List Nd},(∀ x∈l,dK aj ni x=0)→bV aj ni l=0
 | [],_=>rfl
 | y :: l,h=>by
  unfold bV;rw[if_neg (by simpa using h y (by simp))];exact yH fun x hx=>h x (List.mem_cons_of_mem _ hx)
theorem acM {nodes:List Nd} {s c k:Nat} (hc:c < k) (hm:mv nodes s c=true) (hn:∀ i,i < c→mv nodes s i=false):∃ l,bH nodes s k=(c:Int) :: l:=by
 unfold bH;have e:List.range k=List.range c++(c :: List.range' (c+1) (k - c - 1)):=by
  rw[List.range_eq_range',List.range_eq_range',← List.range'_succ,show k - c - 1+1=k - c by omega];have:=List.range'_append_1 (s:=0) (m:=c) (n:=k - c);rw[Nat.zero_add,show c+(k - c)=k by omega] at this;exact this.symm
 have e2:(List.range c).filter (mv nodes s) = []:=by
  rw[List.filter_eq_nil_iff];intro i hi;rw[hn i (List.mem_range.1 hi)];simp
 rw[e,List.filter_append,e2,List.nil_append,List.filter_cons_of_pos hm];exact⟨_,rfl⟩
section
variable {C:MC} {V:List View} {cr:List Nat} {g:Gm}
theorem Bj.node (h:Bj C V cr g) {n:Nd} (hn:n∈g.nodes):DC C n∨∃ l seen,DF C V g.infos l seen n:=by
 obtain⟨i,hi⟩:=List.getElem?_of_mem hn;exact h.bt.node i n (Nat.zero_le _) (aB hi) hi
theorem Bj.pos (h:Bj C V cr g):0 < g.nodes.length:=by
 have:=h.bt.span;cases this with
 | cons hn _ _=>exact aB hn
theorem afY {lo hi:Int} {l:List Int} (h:∀ x∈l,lo≤x∧x≤hi):outside lo hi l=false:=by
 unfold outside;rw[List.any_eq_false];intro x hx;have:=h x hx;simp; omega
theorem Bj.first (h:Bj C V cr g) {x c:Nat} (hc:cr[x]? = some c):∃ l,bH g.nodes x g.nodes.length=(c:Int) :: l:=by
 obtain⟨n,n1,n2,n3⟩:=(h.km.has x c hc).resolve_right (by simp);refine acM (aB n1) (by unfold mv; rw[n1]; simp[n2,n3]) fun i hi=>?_
 cases hm:mv g.nodes x i with
 | false=>rfl
 | true =>
  unfold mv at hm;cases hg:g.nodes[i]? with
  | none=>rw[hg] at hm; cases hm
  | some n' =>
   rw[hg] at hm;simp only[Bool.and_eq_true,decide_eq_true_eq] at hm;obtain⟨y,d,y1,y2,y3⟩:=h.km.by' i n' hg hm.1;have:y=x:=by omega
   subst this;rw[hc] at y2; cases y2;omega
theorem Bj.form (h:Bj C V cr g) (hp1:1≤g.aj) (hp4:g.aj≤4) (hm:C.most≤200):bg g=0:=by
 have hpos:=h.pos;have hmo:=h.most;have hma:=h.many;have hne:bV g.aj g.infos.length g.nodes=0:=by
  refine yH fun n hn=>?_
  rcases h.node hn with he | ⟨l,seen,hmid⟩
  ·obtain⟨e1,e2,e3,e4,e5,e6,e7,_⟩:=he;unfold dK jB;rw[if_neg (by omega),if_neg (by omega),if_pos e1,e4,e5,if_neg (by rw[← h.aj]; simp[e2,e3,e6]),afY fun x hx=>by have:=e7 x hx; omega];rfl
  ·obtain⟨m1,m2,m3,m4,m5⟩:=hmid;have hpp:=h.places.pl _ (getD_mem (L:=C.levels) (k:=l) m1);rcases m5 with⟨a0,a1,a2,a3,a4,a5⟩ | ⟨a0,a1,a2,a3,x,a4,a5,a6⟩
   ·unfold dK dw;rw[if_pos a1,m4,if_neg (by rintro(h | h | h | h | h | h) <;> first | omega | exact h a2 | exact h a3 | exact h a4 | (simp at h)),afY fun x hx=>by have:=a5 x hx; omega];rfl
   ·have:=aB a5;unfold dK fM;rw[if_neg (by omega),if_pos a1,m4,a3,if_neg (by rintro(h | h | h | h) <;> first | omega | (simp at h)),if_neg (by have:=h.aj; omega)]
 have hw:=h.bt.walk (g.nodes.length+1) 0 0 (by omega) (Nat.zero_le _) (by omega) (by omega);have hw2:(eX g.nodes (g.nodes.length+1) 0 0 0).1=g.nodes.length∧(eX g.nodes (g.nodes.length+1) 0 0 0).2≤40:=by
  have h5:=h.places.len;unfold dA at hw;rw[if_neg (by simp)] at hw;have e0:((0:Nat):Int).toNat=0:=rfl;rw[e0] at hw;split at hw
  ·omega
  ·unfold dA at hw;exact⟨hw.1,by have:=hw.2.2; omega⟩
 have hin:AZ g:=qw hne;have ht:qm g=false:=by
  unfold qm;rw[List.any_eq_false];intro n hn hb;unfold fA at hb;rcases h.node hn with he | ⟨l,seen,m1,m2,m3,m4,m5⟩
  ·have:=he.1; simp[this] at hb
  ·rcases m5 with⟨a0,a1,_⟩ | ⟨a0,a1,a2,a3,x,a4,a5,a6⟩
   ·simp[a1] at hb
   ·rw[a4,Int.toNat_natCast,List.getD_eq_getElem?_getD,a5] at hb;simp at hb
 have hset:∀ x,x < g.infos.length→∃ c l,cr[x]? = some c∧(aN g)[x]? = some ((c:Int) :: l):=fun x hx=>by
  obtain⟨c,hc⟩:=au (l:=cr) (k:=x) (by rw[h.len]; exact hx);obtain⟨l,hl⟩:=h.first hc;exact⟨c,l,hc,by rw[fB hin hx,hl]⟩
 have hno:mF (aN g)=false:=by
  unfold mF;rw[List.any_eq_false];intro l hl hb;obtain⟨x,hx⟩:=List.getElem?_of_mem hl;have hlen:(aN g).length=g.infos.length:=bF _ _ _;obtain⟨c,l',_,h2⟩:=hset x (by rw[← hlen]; exact aB hx);rw[hx] at h2; cases h2;simp at hb
 have hfi:kZ (aN g) g.infos.length=false:=by
  unfold kZ;rw[List.any_eq_false];intro i hi hb;rw[List.mem_range'_1] at hi;obtain⟨c,l,c1,c2⟩:=hset i (by omega);obtain⟨d,l',d1,d2⟩:=hset (i - 1) (by omega);unfold qo at hb;rw[List.getD_eq_getElem?_getD (l:=aN g),c2,List.getD_eq_getElem?_getD (l:=aN g),d2] at hb;simp at hb;have hpw:=h.km.up;rw[List.pairwise_iff_getElem] at hpw;have:=hpw (i - 1) i (aB d1) (aB c1) (by omega);rw[List.getElem?_eq_getElem (aB c1)] at c1;rw[List.getElem?_eq_getElem (aB d1)] at d1;injection c1 with c1; injection d1 with d1
  omega
 unfold bg;rw[if_neg (by unfold jR; omega),if_neg (by simpa using hne),if_neg (by simpa using hw2.1),if_neg (by omega)];unfold oH;rw[if_neg (by simp[ht]),if_neg (by simp[hno]),if_neg (by simp[hfi])]
end
theorem Tryz.infoPlaceK:(Tryz.prog.info? 137).map (fun i=>(i.zero,i.size,i.bytes))=some (some (.agg #[.int .i64 0,.int .i64 0,.int .i64 0]),aaG.n,24):=by kernel_rfl
theorem Ak.infos {w:World} {base:Nat} {et:TypeId} {F G:Ac} {v:Value} {L:List Inf} (h:Ak ah2 w base et F v L) (hG:∀ b,v.ownBlock=some b→G b):AX w G v L:=by
 rcases h.at with⟨rfl,rfl⟩ | ⟨g,cap,rfl,hb,hg,hcap,hf,hx⟩
 ·exact⟨none,0,rfl,Nat.le_refl _,fun h=>absurd h (by simp)⟩
 ·exact⟨_,cap,rfl,hcap,fun _=>⟨g,0,rfl,hG g rfl,hg,fun k x hk=>⟨hx k x hk 0 _ rfl,hx k x hk 1 _ rfl⟩⟩⟩
theorem ai4 {w:World} {b:Nat} {t:TypeId} {n:Nat} (h:Row w b t (List.replicate n (.slice none 0 0))) {F:Ac} (hF:F b):AY w F (.slice (some ⟨b,0,none⟩) n n) (List.replicate n []):=by
 refine⟨_,n,by rw[List.length_replicate],by simp,fun _=>⟨b,0,rfl,hF,h.lt,fun k x hk=>?_⟩⟩;have hx:=List.mem_of_getElem? hk;rw[List.eq_of_mem_replicate hx];have hl:=aB hk;rw[List.length_replicate] at hl;refine⟨.slice none 0 0,?_,wo⟩;rw[Nat.mul_one,Nat.zero_add];exact h.cell (i:=k) (by simp[hl])
theorem Ak.base {α:Type} {K:Knd α} {w:World} {b b':Nat} {et:TypeId} {F:Ac} {v:Value} {L:List α} (h:Ak K w b et F v L) (hb:b'≤b):Ak K w b' et F v L :=
 ⟨⟨h.row.1,h.row.2.imp id fun ⟨g,cap,cur,e,hg,r⟩=>⟨g,cap,cur,e,Nat.le_trans hb hg,r⟩⟩,h.fine⟩
theorem yI (L:List Int) (aj:Int) (a:Nat) (ha:a≤L.length):∀ k,(fJ L aj k a).2≤L.length
 | 0=>ha
 | k+1=>rQ (rQ (rQ (yI L aj a ha k)))
theorem afn (w:World) (F:Ac) (A:Option Addr) (c:Nat) (L:List Int) (hL:Ae w F (.slice A L.length c) L) (hl:L.length≤9223372036854775807) (aj most:Int) (zero:Bool) (hp1:1≤aj) (hp4:aj≤4) (hm1:1≤most) (hm2:most≤200) :
  Calls Tryz.prog 42 #[.slice A L.length c,.int .i64 aj,.int .i64 most,.bool zero] w (Ret w fun u w'=>Az w' (fun b=>w.heap.size≤b) u (aaF L aj most zero)):=by
 have HL:=Aa (hL.keep (G:=fun b=>F b∧b < w.heap.size) (fun b hb hl=>⟨hb,hl⟩) (Same.refl _ _));clear hL;obtain⟨P,rfl⟩:∃ P:Nat,aj=(P:Int):=⟨aj.toNat,by omega⟩;go_enter Tryz.func42,Tryz.ntmps42;go_upto_region 2 with(fail)
 obtain⟨W,hW,rg,rd,rm,hB,hz⟩:=zQ w 25 #[.int .i64 0,.slice none 0 0,.slice none 0 0] 75 #[.slice A L.length c,.int .i64 0] 134 #[.pointer (some ⟨w.heap.size+1,0,none⟩),.slice none 0 0,.slice none 0 0,.int .i64 most,.int .i64 1,.bool zero,.bool false,.int .i64 0,.slice none 0 0,.slice none 0 0];rw[← hW];clear hW;obtain⟨gb,hgb⟩:∃ gb,gb=w.heap.size:=⟨_,rfl⟩;obtain⟨db,hdb⟩:∃ db,db=w.heap.size+1:=⟨_,rfl⟩;obtain⟨mb,hmb⟩:∃ mb,mb=w.heap.size+2:=⟨_,rfl⟩;rw[← hmb] at rm;rw[← hdb] at rd rm;rw[← hgb] at rg;have hlt3:gb < db∧db < mb∧mb < W.heap.size∧w.heap.size≤gb:=by omega
 have HB:=Aa hB; have HBEL:=Aa hB; have RG:=Aa rg; have RD:=Aa rd;have HL1:=Aa (HL.out.on (Below.same' hB _));have e1:w.heap.size+1=db:=hdb.symm;have e2:w.heap.size+1+1=mb:=by omega
 have e0:w.heap.size=gb:=hgb.symm;rw[e2,e1,e0];obtain⟨W1,hW1⟩:∃ W1,W1=W.setCell ⟨mb,7,none⟩ (.int .i64 (P:Int)):=⟨_,rfl⟩;have m7:=rm.cell (i:=7) rfl; have f7:=rm.frozen 7;have rm1:Row W1 mb 134 [.pointer (some ⟨db,0,none⟩),.slice none 0 0,.slice none 0 0,.int .i64 most,.int .i64 1,.bool zero,.bool false,(.int .i64 (P:Int)),.slice none 0 0,.slice none 0 0]:=by rw[hW1]; exact rm.set 7 _
 have hw1:Wrote (fun b=>b=mb) W W1:=hW1▸Wrote.setCell (K:=fun b=>b=mb) (p:=⟨mb,7,none⟩) (Wrote.refl _ _) (.inl rfl) _;have RM1:=Aa rm1;have RD1:=Aa (show Row W1 db 75 [.slice A L.length c,.int .i64 ((0:Nat):Int)] from RD.out.wrote hw1 (fun e=>by omega)); have RG1:=Aa (RG.out.wrote hw1 (fun e=>by omega));have HL2:=Aa (HL1.out.on (hw1.same fun b hb e=>by have:=hb.2; omega));have HWA:=Aa ((Wrote.refl (fun b=>b=mb∨b=db) W).step hw1 fun i _ e=>.inl e);have HLW:=HL1;have HY:=Aa hW1;have hsz1:W.heap.size≤W1.heap.size:=hw1.size;clear hW1 rm1 hw1 rm rg rd HB RG RD HL1 HL hB hz e0 e1 e2 hgb hdb hmb;have ai5:¬ (F db∧db < w.heap.size):=fun e=>by have:=e.2; omega
 have hd:=iL L 0 (n:=5) (by decide);obtain⟨n,hn⟩:∃ n:Nat,1+dP L 0 5=(n:Int):=⟨(1+dP L 0 5).toNat,by omega⟩;have hnb:1≤n∧n≤5:=by omega
 obtain⟨d0,hd0⟩:∃ d0,d0=dP L 0 5:=⟨_,rfl⟩;rw[← hd0] at hn hd;have hwn:IntKind.i64.wrap (1+d0)=1+d0:=IntWalk.i64_in _ (by omega);have HN:=Aa hn; have HD0:=Aa hd0;clear hn hd0;go_upto_region 3 with(fail)
 rw[← HY.out];clear HY m7 f7;have m0:=RM1.out.cell (i:=0) rfl;go_upto_region 4 with(go_at_call 90; (with_reducible refine(next_any W1 _ db A c L 0 5 RD1.out HL2.out ai5 (by decide) (by decide) hl).mono ?_); rintro e w2 ⟨rfl,hr2,hw2⟩; rw[← HD0.out]; have RD2:=Aa hr2; have RM2:=Aa (RM1.out.wrote hw2 (fun e=>by omega)); have RG2:=Aa (RG1.out.wrote hw2 (fun e=>by omega)); have HW2:=Aa (HWA.out.step hw2 fun i _ e=>.inr e); have hsz2:=Nat.le_trans hsz1 hw2.size; clear hr2 hw2)
 rw[HN.out];obtain⟨a1,ha1⟩:∃ a1,a1=cZ L 0:=⟨_,rfl⟩;rw[← ha1] at RD2;have HA1:=Aa ha1;clear ha1 m0 RD1 RM1 RG1 hwn;go_loopw [10] (fun iv wr=>∃ (k:Nat) (lv:List Place) (at0:Nat) (vl:Value),k≤n∧iv = .int .i64 ((n:Int) - (k:Int))∧Hid (fJ L (P:Int) k a1=(lv,at0))∧Hid (Ak aaG wr W.heap.size 137 (fun _=>False) vl lv)∧Hid (Row wr mb 134 [.pointer (some ⟨db,0,none⟩),vl,.slice none 0 0,.int .i64 most,.int .i64 1,.bool zero,.bool false,(.int .i64 (P:Int)),.slice none 0 0,.slice none 0 0])∧Hid (Row wr db 75 [.slice A L.length c,.int .i64 (at0:Int)])∧Hid (Row wr gb 25 [.int .i64 0,.slice none 0 0,.slice none 0 0])∧Hid (Wrote (fun b=>b=mb∨b=db) W wr)∧W.heap.size≤wr.heap.size) (fun iv _=>(intOf iv).toNat)
 case atStart=>exact⟨0,[],a1,_,Nat.zero_le _,by simp,Aa rfl,Aa (Ak.nil _ _ _ _ _),RM2,RD2,RG2,HW2,hsz2⟩
 case round =>
  clear RM2 RD2 RG2 HW2;obtain⟨k,lv,at0,vl,hk,rfl,HLV,HO,RM,RD,RG,HW,hsz⟩:=hrel;have HLr:=Aa (HLW.out.on (HW.out.same fun b hb e=>by have:=hb.2; omega));by_cases hkt:k < n
  ·skip
   have t0:decide ((0:Int) < (n:Int) - (k:Int))=true:=decide_eq_true (by omega);obtain⟨d1,hd1⟩:∃ d1,d1=dP L at0 ((P:Int)+1):=⟨_,rfl⟩;obtain⟨d2,hd2⟩:∃ d2,d2=dP L (cZ L at0) 2:=⟨_,rfl⟩;obtain⟨d3,hd3⟩:∃ d3,d3=dP L (cZ L (cZ L at0)) 16:=⟨_,rfl⟩;have b1:=iL L at0 (n:=(P:Int)+1) (by omega);have b2:=iL L (cZ L at0) (n:=2) (by decide);have HLV2:=Aa (show fJ L (P:Int) (k+1) a1=(lv ++ [⟨d1 - 1,2+d2,d3⟩],cZ L (cZ L (cZ L at0))) by rw[fJ,HLV.out,hd1,hd2,hd3]);rw[← hd1] at b1;rw[← hd2] at b2;have hw1:IntKind.i64.wrap (d1 - 1)=d1 - 1:=IntWalk.i64_in _ (by omega);have hw2:IntKind.i64.wrap (2+d2)=2+d2:=IntWalk.i64_in _ (by omega);have hw3:IntKind.i64.wrap ((P:Int)+1)=(P:Int)+1:=IntWalk.i64_in _ (by omega);have HD1:=Aa hd1; have HD2:=Aa hd2; have HD3:=Aa hd3;have hll:lv.length≤1000000:=by
    have:=(oN L (aj:=(P:Int)) (by omega) k a1).1;rw[HLV.out] at this;have e:lv.length=k:=this;omega
   have m0:=RM.out.cell (i:=0) rfl;have m1:=RM.out.cell (i:=1) rfl;clear hd1 hd2 hd3 HLV;go_wp2_with fail
   refine bK (fun w'=>w'.cell? ⟨mb,0,none⟩=some (.pointer (some ⟨db,0,none⟩))∧w'.cell? ⟨mb,1,none⟩=some (vl)) 27 3 (by kernel_rfl) rfl (by kernel_rfl) ?_;have hHeld:(fun w':World=>w'.cell? ⟨mb,0,none⟩=some (.pointer (some ⟨db,0,none⟩))∧w'.cell? ⟨mb,1,none⟩=some (vl)) wr.drew:=⟨m0,m1⟩;simp only[List.take_succ_cons,List.take_zero];have hb:Below wr.heap.size wr wr.drew:=aG (Below.refl _ wr) 1;replace m0:=ah m0 hb;replace m1:=ah m1 hb;replace HO:=Aa (HO.out.below hb); replace RM:=Aa (RM.out.below hb RM.out.lt); replace RD:=Aa (RD.out.below hb RD.out.lt); replace RG:=Aa (RG.out.below hb RG.out.lt); replace HLr:=Aa (HLr.out.on (Below.same' hb _));replace HW:=Aa (HW.out.trans (Below.wrote hb _)); replace hsz:=Nat.le_trans hsz hb.size;clear hb;generalize wr.drew=wn at *;refine tk0 [0,1,2,3,4,5,6,7,8,9,10,13,14,15,16,19,20,21,22] ?_;iterate 19 (refine tk (v:=?_) rfl (by kernel_rfl) (by kernel_rfl) (by kernel_rfl) (fun _ _ _ h=>h) (Or.inl ⟨by rfl,?_⟩) hHeld ?_;rotate_left;(focus intro wx hSx;(try dsimp only at hSx);go_split_ands;go_simp;try with_reducible rfl);try simp only[Act.put,lq1,lq2,lq3,lq4,lq5,lq6])
   refine tk1 ?_;refine tk2 11 (by kernel_rfl) rfl fun K hK=>?_
   go_simp;refine(next_any wn _ db A c L at0 ((P:Int)+1) RD.out HLr.out ai5 (by omega) (by omega) hl).mono ?_;rintro e wm11 ⟨rfl,hr2,hwx⟩;rw[← HD1.out];have hmd:mb≠db:=by omega
   replace m0:=bZ m0 hwx hmd; replace m1:=bZ m1 hwx hmd;replace RM:=Aa (RM.out.wrote hwx hmd); replace RG:=Aa (RG.out.wrote hwx (fun e=>by omega)); replace RD:=Aa hr2;replace HO:=Aa (HO.out.wrote hwx fun b hb e=>by have:=(HO.out.row.lt b (hb.resolve_left id)).1; omega);replace HLr:=Aa (HLr.out.on (hwx.same fun b hb e=>by have:=hb.2; omega));replace HW:=Aa (HW.out.step hwx fun i _ e=>.inr e); replace hsz:=Nat.le_trans hsz hwx.size;clear hr2 hwx hHeld hmd;refine hK.out _ _ ⟨m0,m1⟩ (fun hHeld=>?_);clear hK K;try simp only[Act.put,lq1,lq2,lq3,lq4,lq5,lq6]
   refine tk0 [12] ?_;(refine tk (v:=?_) rfl (by kernel_rfl) (by kernel_rfl) (by kernel_rfl) (fun _ _ _ h=>h) (Or.inl ⟨by rfl,?_⟩) hHeld ?_;rotate_left;(focus intro wx hSx;(try dsimp only at hSx);go_split_ands;go_simp;try with_reducible rfl);try simp only[Act.put,lq1,lq2,lq3,lq4,lq5,lq6])
   refine tk1 ?_;refine tk2 17 (by kernel_rfl) rfl fun K hK=>?_
   go_simp;refine(next_any wm11 _ db A c L (cZ L at0) 2 RD.out HLr.out ai5 (by omega) (by omega) hl).mono ?_;rintro e wm17 ⟨rfl,hr2,hwx⟩;rw[← HD2.out];have hmd:mb≠db:=by omega
   replace m0:=bZ m0 hwx hmd; replace m1:=bZ m1 hwx hmd;replace RM:=Aa (RM.out.wrote hwx hmd); replace RG:=Aa (RG.out.wrote hwx (fun e=>by omega)); replace RD:=Aa hr2;replace HO:=Aa (HO.out.wrote hwx fun b hb e=>by have:=(HO.out.row.lt b (hb.resolve_left id)).1; omega);replace HLr:=Aa (HLr.out.on (hwx.same fun b hb e=>by have:=hb.2; omega));replace HW:=Aa (HW.out.step hwx fun i _ e=>.inr e); replace hsz:=Nat.le_trans hsz hwx.size;clear hr2 hwx hHeld hmd;refine hK.out _ _ ⟨m0,m1⟩ (fun hHeld=>?_);clear hK K;try simp only[Act.put,lq1,lq2,lq3,lq4,lq5,lq6]
   refine tk0 [18] ?_;(refine tk (v:=?_) rfl (by kernel_rfl) (by kernel_rfl) (by kernel_rfl) (fun _ _ _ h=>h) (Or.inl ⟨by rfl,?_⟩) hHeld ?_;rotate_left;(focus intro wx hSx;(try dsimp only at hSx);go_split_ands;go_simp;try with_reducible rfl);try simp only[Act.put,lq1,lq2,lq3,lq4,lq5,lq6])
   refine tk1 ?_;refine tk2 23 (by kernel_rfl) rfl fun K hK=>?_
   go_simp;refine(next_any wm17 _ db A c L (cZ L (cZ L at0)) 16 RD.out HLr.out ai5 (by omega) (by omega) hl).mono ?_;rintro e wm23 ⟨rfl,hr2,hwx⟩;rw[← HD3.out];have hmd:mb≠db:=by omega
   replace m0:=bZ m0 hwx hmd; replace m1:=bZ m1 hwx hmd;replace RM:=Aa (RM.out.wrote hwx hmd); replace RG:=Aa (RG.out.wrote hwx (fun e=>by omega)); replace RD:=Aa hr2;replace HO:=Aa (HO.out.wrote hwx fun b hb e=>by have:=(HO.out.row.lt b (hb.resolve_left id)).1; omega);replace HLr:=Aa (HLr.out.on (hwx.same fun b hb e=>by have:=hb.2; omega));replace HW:=Aa (HW.out.step hwx fun i _ e=>.inr e); replace hsz:=Nat.le_trans hsz hwx.size;clear hr2 hwx hHeld hmd;refine hK.out _ _ ⟨m0,m1⟩ (fun hHeld=>?_);clear hK K;try simp only[Act.put,lq1,lq2,lq3,lq4,lq5,lq6]
   refine tk0 [24] ?_;(refine tk (v:=?_) rfl (by kernel_rfl) (by kernel_rfl) (by kernel_rfl) (fun _ _ _ h=>h) (Or.inl ⟨by rfl,?_⟩) hHeld ?_;rotate_left;(focus intro wx hSx;(try dsimp only at hSx);go_split_ands;go_simp;try with_reducible rfl);try simp only[Act.put,lq1,lq2,lq3,lq4,lq5,lq6])
   refine tk1 ?_;refine tk2 25 (by kernel_rfl) rfl fun K hK=>?_
   go_simp;refine hK.out _ _ ⟨gB m0 _,gB m1 _⟩ (fun hHeld=>?_);clear hK K;try simp only[Act.put,lq1,lq2,lq3,lq4,lq5,lq6]
   refine tk2 26 (by kernel_rfl) rfl fun K hK=>?_
   refine kF (K:=aaG) (F:=fun _=>False) (W:=wm23) rfl _ _ 131 137 24 _ Tryz.underlying131 Tryz.infoPlaceK rfl (by decide) rfl W.heap.size hsz vl lv rfl ⟨d1 - 1,2+d2,d3⟩ _ rfl hll rfl HO.out trivial ?_;intro g2 cap2 wq2 hown' hwq hat' hlt';have own:=fun b (e:vl.ownBlock=some b)=>(HO.out.row.lt b e).1
   have hvm:vl.ownBlock≠some mb:=fun e=>by have:=own _ e; omega
   have hvd:vl.ownBlock≠some db:=fun e=>by have:=own _ e; omega
   have hvg:vl.ownBlock≠some gb:=fun e=>by have:=own _ e; omega
   replace m0:=bZ m0 hwq hvm; replace m1:=bZ m1 hwq hvm;have ff:=(RM.out.wrote hwq hvm).frozen 1;have hg2:=hown'.row.lt g2 rfl;obtain⟨Wz,hWz⟩:∃ Wz,Wz=wq2.setCell ⟨mb,1,none⟩ (.slice (some ⟨g2,0,none⟩) (lv.length+1) cap2):=⟨_,rfl⟩;have hwz:Wrote (fun b=>b=mb) wq2 Wz:=hWz▸Wrote.setCell (K:=fun b=>b=mb) (p:=⟨mb,1,none⟩) (Wrote.refl _ _) (.inl rfl) _;have RM2:=Aa (show Row Wz mb 134 [.pointer (some ⟨db,0,none⟩),(.slice (some ⟨g2,0,none⟩) (lv.length+1) cap2),.slice none 0 0,.int .i64 most,.int .i64 1,.bool zero,.bool false,(.int .i64 (P:Int)),.slice none 0 0,.slice none 0 0] from hWz▸(RM.out.wrote hwq hvm).set 1 _);have RD2:=Aa ((RD.out.wrote hwq hvd).wrote hwz (fun e=>by omega)); have RG2:=Aa ((RG.out.wrote hwq hvg).wrote hwz (fun e=>by omega));have HO2:=Aa (hown'.wrote hwz fun b hb e=>by have e2:some g2=some b:=hb.resolve_left id; cases e2; omega);have HW2:=Aa ((HW.out.step hwq fun i hi e=>by have:=own _ e; omega).step hwz fun i _ e=>.inl e); have hsz2:=Nat.le_trans (Nat.le_trans hsz hwq.size) hwz.size;have HY:=Aa hWz;clear hown' hwq hat' hlt' hHeld own hvm hvd hvg hg2 hWz hwz HO RM RD RG HW;refine hK.out _ _ ⟨m0,m1⟩ (fun hHeld=>?_);clear hK K;try simp only[Act.put,lq1,lq2,lq3,lq4,lq5,lq6]
   refine wpAnyH_done (by kernel_rfl) ?_ _;clear hHeld;show wpList _ _ _ _ _ _;go_wp2
   show wpList _ _ _ _ _ _;go_wp2
   show wpList _ _ _ _ _ _;go_wp2
   rw[← HY.out];clear HY ff m0 m1;unfold Bo;show Exit.inBlock _ _ .normal _ _;go_wp2
   go_roundw
   case rel=>exact⟨k+1,lv ++ [⟨d1 - 1,2+d2,d3⟩],cZ L (cZ L (cZ L at0)),.slice (some ⟨g2,0,none⟩) (lv.length+1) cap2,by omega,by go_num,HLV2,HO2,RM2,RD2,RG2,HW2,hsz2⟩
   case measure=>simp[intOf]; omega
  ·have hke:k=n:=by omega
   subst hke;obtain⟨hlen,hpl⟩:=oN L (aj:=(P:Int)) (by omega) k a1;have ai6:=yI L (P:Int) a1 (by rw[HA1.out]; exact rQ (Nat.zero_le _)) k;rw[HLV.out] at hlen hpl ai6;dsimp only at hlen hpl ai6;have HC:=Aa (show BG ⟨L,lv,(P:Int),most,zero⟩ from⟨by show lv.length≤5; omega,hpl⟩);have HLEN:=Aa hlen; have HAT:=Aa ai6;have HG:=Aa (show aaF L (P:Int) most zero=⟨(P:Int),(bC ⟨L,lv,(P:Int),most,zero⟩ (k+1) 0 (List.replicate P []) ⟨at0,[],1,[],[]⟩).2.nodes,(bC ⟨L,lv,(P:Int),most,zero⟩ (k+1) 0 (List.replicate P []) ⟨at0,[],1,[],[]⟩).2.infos⟩ by
    have e1:(1+dP L 0 5).toNat=k:=by rw[← HD0.out,HN.out]; exact Int.toNat_natCast k
    have e2:fJ L (P:Int) k (cZ L 0)=(lv,at0):=by rw[← HA1.out]; exact HLV.out
    unfold aaF;simp only[e1,e2,Int.toNat_natCast])
   have HJ:=Aa (show JM ⟨L,lv,(P:Int),most,zero⟩ 0 ⟨at0,[],1,[],[]⟩ from⟨rfl,fun i v h=>by simp at h,Nat.le_refl _,by show((0:Nat):Int)+1≤most; omega,by show(0:Int)≤1; decide,fun v h=>(by cases h),fun v h=>(by cases h)⟩);have hPb:1≤P∧P≤4:=by omega
   clear hlen hpl ai6 hd HLV HN HD0 HA1;have m0:=RM.out.cell (i:=0) rfl;obtain⟨lb,hlb⟩:∃ lb,lb=wr.heap.size:=⟨_,rfl⟩;have hlb1:W.heap.size≤lb∧mb < lb∧db < lb∧gb < lb∧w.heap.size≤lb:=by omega
   have EJ:=Aa (fun (w4:World) (hb4:Below wr.heap.size wr w4) (hz4:lb < w4.heap.size)=>show MAt ⟨L,lv,(P:Int),most,zero⟩ ⟨w.heap.size,mb,db,fun b=>F b∧b < w.heap.size,A,c,vl⟩ (fun b=>b=lb) (.slice none 0 0) (.slice none 0 0) (.slice none 0 0) [] [] ⟨at0,[],1,[],[]⟩ w4 from by
    have HO4:=Aa ((HO.out.below hb4).base (b':=w.heap.size) (by omega));have HOB:=Aa (show ∀ b,vl.ownBlock=some b→W.heap.size≤b∧b < lb from fun b e=>by have:=HO.out.row.lt b e; omega);exact { box:=RM.out.below hb4 RM.out.lt,dr:=RD.out.below hb4 RD.out.lt,list:=HLr.out.on (Below.same' hb4 _),lev:=⟨HO4.out.row,fun _ _=>trivial⟩,views:=Ak.nil _ _ _ _ _,nodes:=Ak.nil _ _ _ _ _,infos:=Ak.nil _ _ _ _ _,lW:=rfl,l9:=rfl,out:=fun b hb=>hb.2,foot:=fun b hb=>(by have hb:b=lb:=hb; exact⟨by show w.heap.size≤b; omega,by omega,qE (by show b≠mb; omega) (by show b≠db; omega) (fun e=>by cases e) (fun e=>by cases e) (fun e=>by cases e)⟩),bW:=⟨by show w.heap.size≤mb; omega,by show w.heap.size≤db; omega,by show mb≠db; omega⟩,iZ:=fun b hb=>(by have:=HOB.out b hb; exact qE (by show b≠mb; omega) (by show b≠db; omega) (fun e=>by cases e) (fun e=>by cases e) (fun e=>by cases e)),bG:=fun b hb=>(by cases hb),bQ:=fun b hb=>(by cases hb),dI:=fun b hb=>(by cases hb),draws:=⟨HAT.out,hl⟩ })
   have HLB:=Aa hlb;have hbs:=afm (M:=⟨w.heap.size,mb,db,fun b=>F b∧b < w.heap.size,A,c,vl⟩) HC.out (by show most≤1000; omega) (by show(1:Int)≤(P:Int); omega) (by show(P:Int)≤4; omega) (k+1);unfold BP at hbs;have HBS:=Aa (hbs 0 (by show 0+(k+1)=lv.length+1; rw[HLEN.out]; omega) (Nat.zero_le _));clear hlb hbs;have HR0:=Aa (show ∀ l∈List.replicate P ([]:List Int),l.length=0 from fun l h=>by rw[List.eq_of_mem_replicate h]; rfl);have HR1:=Aa (show(List.replicate P ([]:List Int)).length=((P:Int)).toNat by simp);have HR2:=Aa (show(1:Int)≤1 from Int.le_refl _);go_upto_region 8 with(first | (at_make; (refine fG _ rfl _ _ 96 rfl 26 (.slice none 0 0) 24 Tryz.underlying96 Tryz.infoListK rfl P rfl rfl (by omega) (by omega) ?_; intro w4 hb4 hz4 hrow; have hlb4:lb < w4.heap.size:=(by rw[HLB.out]; omega); have HM4:=Aa (EJ.out w4 hb4 hlb4); have D9:=Aa hrow; have HW4:=Aa (HW.out.trans (Below.wrote hb4 _)); have RG4:=Aa (RG.out.below hb4 RG.out.lt); clear hrow hb4 hz4)) | (go_at_call 91; ((refine(HBS.out _ _ _ _ _ _ _ w4 _ (List.replicate P []) HM4.out (ai4 D9.out HLB.out.symm) HR0.out HR1.out HJ.out HR2.out).mono ?_); rintro e w5 ⟨rfl,hb5⟩; have HB5:=Aa hb5; clear hb5)))
   obtain⟨Fe,vv',vn',vi',Lv',Ln',f1,f2,u1,u2,u3,hm5,hw5⟩:=HB5.out;have hg:=HG.out;generalize (bC _ _ _ _ _).2=bs at hm5 hg;have HGE:=Aa hg;have hr5:=RG4.out.wrote hw5 (qE (by show gb≠mb; omega) (by show gb≠db; omega) (fun e=>by cases e) (fun e=>by cases e) (fun e=>by cases e));obtain⟨An,cn,hvn,hcn,_⟩:=hm5.nodes.form;obtain⟨Ai,ci,hvi,hci,_⟩:=hm5.infos.form;subst hvn hvi;have HM5:=Aa hm5; have HR5:=Aa hr5;have HW5:=Aa hw5; have HU2:=Aa u2; have HU3:=Aa u3; have HF2:=Aa f2;have m7:w5.cell? ⟨mb,7,none⟩=some (.int .i64 (P:Int)):=hm5.box.cell (i:=7) rfl;have m8:w5.cell? ⟨mb,8,none⟩=some (.slice An Ln'.length cn):=hm5.box.cell (i:=8) rfl;have m9:w5.cell? ⟨mb,9,none⟩=some (.slice Ai bs.infos.length ci):=hm5.box.cell (i:=9) rfl;have q0:=hr5.cell (i:=0) rfl; have q1:=hr5.cell (i:=1) rfl; have q2:=hr5.cell (i:=2) rfl;have y0:=hr5.frozen 0; have y1:=hr5.frozen 1; have y2:=hr5.frozen 2;clear hm5 hr5 hw5 u1 u2 u3 f1 f2 hg m0 HB5 HG;go_wp2_with fail
   obtain⟨Wz,hWz,hrz,hwz⟩:=ahV HR5.out (.int .i64 (P:Int)) (.slice An Ln'.length cn) (.slice Ai bs.infos.length ci);rw[← hWz];have HRZ:=Aa hrz; have HWZ:=Aa hwz;have t0:=hrz.cell (i:=0) rfl; have t1:=hrz.cell (i:=1) rfl; have t2:=hrz.cell (i:=2) rfl;clear hWz hrz hwz q0 q1 q2 y0 y1 y2 m7 m8 m9;refine bodyPost_ret (v:=.agg #[.int .i64 (P:Int),.slice An Ln'.length cn,.slice Ai bs.infos.length ci]) (by simp[results,Tryz.results42,go_sem,t0,t1,t2]) rfl ?_;have hb1:Below w.heap.size w w4:=Below.wr HBEL.out HW4.out HBEL.out.size fun b e=>by rcases e with e | e <;> omega
   have hb2:Below w.heap.size w w5:=Below.wr hb1 HW5.out hb1.size fun b e=>by
    rcases e with e | e | e | e | e
    ·have:b=mb:=e; omega
    ·have:b=db:=e; omega
    ·cases e
    ·cases e
    ·cases e
   have hb3:Below w.heap.size w Wz:=Below.wr hb2 HWZ.out hb2.size fun b e=>by omega
   refine⟨_,rfl,by first | exact hb3 | (rw[← hgb0]; exact hb3),?_⟩;rw[HGE.out];have hn:∀ b,(Fe b∨(Value.slice An Ln'.length cn).ownBlock=some b)→¬ b=gb:=fun b e h=>by
    rcases e with e | e
    ·rcases HF2.out b e with k | k
     ·have:b=lb:=k; omega
     ·have:=HW4.out.size; omega
    ·rcases HU2.out b e with k | k
     ·cases k
     ·have:=HW4.out.size; omega
   have hi:∀ b,(Fe b∨(Value.slice Ai bs.infos.length ci).ownBlock=some b)→¬ b=gb:=fun b e h=>by
    rcases e with e | e
    ·exact hn b (.inl e) h
    ·rcases HU3.out b e with k | k
     ·cases k
     ·have:=HW4.out.size; omega
   have hnz:=HM5.out.nodes.wrote HWZ.out hn;have hiz:=HM5.out.infos.wrote HWZ.out hi;have hnm:=HM5.out.l9;refine⟨_,_,rfl,?_,?_⟩
   ·have h:=aaD (F:=fun b=>w.heap.size≤b) hnz.row (fun b e=>by rcases HU2.out b e with k | k; cases k; have:=hb1.size; omega) (fun q hq=>vY.keep (q:=q) (hnz.fine q hq) (fun b hb _=>(HM5.out.foot b hb.1).1) (Same.refl _ _));rw[hnm] at h;exact h
   ·exact hiz.infos fun b e=>by rcases HU3.out b e with k | k; cases k; have:=hb1.size; omega
end Go.Proofs.YthmklhapjegfdaaGreatDoor
