/- parlourref17.ValuesOf. -/
import Derived.Test.YtnmeejofpkhlkaaGreatDoorR21
import Derived.Deep.Cut
import Derived.Test.YtnmeejofpkhlkaaGreatDoorR28
set_option linter.all false
set_option maxRecDepth 100000
set_option maxHeartbeats 12800000
namespace Go.Proofs.YtnmeejofpkhlkaaGreatDoor
open Lib renaming hid → Ag
open Go.RowKit
theorem fO {w:World} {b o:Nat} {v:Value} (h:w.cell? ⟨b,o,none⟩=some v) (ob:Obj):(w.alloc ob).cell? ⟨b,o,none⟩=some v:=ak h ((Below.refl _ _).alloc (Nat.le_refl _) _)
theorem abX {w:World} {F:Foot} {A:Option Addr} {n c:Nat} {l:List Int} (h:AA w F (.slice A n c) l) (hl:0 < l.length):∃ b o,A=some ⟨b,o,none⟩∧F b∧b < w.heap.size∧∀ (k:Nat) (x:Int),l[k]? = some x→w.cell? ⟨b,o+k,none⟩=some (.int .i64 x):=by
 obtain⟨A',c',he,_,hx⟩:=h;simp only[Value.slice.injEq] at he;obtain⟨rfl,_,rfl⟩:=he;obtain⟨b3,o3,h1,h2,h3,h4⟩:=hx hl;exact⟨b3,o3,h1,h2,h3,fun k x hk=>by have:=h4 k x hk; unfold o7 at this; rw[Nat.mul_one] at this; exact this⟩
open List renaming getElem_toArray → lq1, getElem_cons_zero → lq2, getElem_cons_succ → lq3, setIfInBounds_toArray → lq4, set_cons_zero → lq5, set_cons_succ → lq6
theorem nV (C:MC) (s:MS):∀ k,(gI C k s).1.length=k
 | 0=>rfl
 | k+1=>by unfold gI; simp[nV C s k]
theorem aaL (C:MC) (s:MS):∀ k,∀ x∈(gI C k s).1,-3≤x∧x≤3
 | 0=>fun x h=>by cases h
 | k+1=>fun x h=>by
  have e:(gI C (k+1) s).1=(gI C k s).1 ++ [((gI C k s).2.draw C 7).1 - 3]:=rfl;rw[e] at h;rcases List.mem_append.1 h with h | h
  ·exact aaL C s k x h
  ·rw[List.mem_singleton.1 h];have:=iw C.L (gI C k s).2.at' (n:=7) ay;have e2:((gI C k s).2.draw C 7).1=dw C.L (gI C k s).2.at' 7:=rfl;omega
theorem OwnSl.fz {α:Type} {K:Knd α} {w:World} {base:Nat} {et:TypeId} {F:Foot} {g n cap:Nat} {L:List α} (h:OwnSl K w base et F (.slice (some ⟨g,0,none⟩) n cap) L) (i:Nat):w.frozen? ⟨g,i,none⟩=false:=by
 rcases h.row.2 with⟨h',_⟩ | ⟨g',cap',cur,h',hb,hg,_⟩
 ·simp at h'
 ·simp only[Value.slice.injEq,Option.some.injEq,Addr.mk.injEq,and_true,true_and] at h';obtain⟨rfl,_,rfl⟩:=h';simp[World.frozen?,hg]
theorem OwnSl.bY {α:Type} {K:Knd α} {w:World} {base:Nat} {et:TypeId} {F:Foot} {g cap:Nat} {L:List α} (h:OwnSl K w base et F (.slice (some ⟨g,0,none⟩) L.length cap) L) {i:Nat} (hi:i < L.length) (j:Nat) (hj:j < K.n):∃ v,w.cell? ⟨g,i*K.n+j,none⟩=some v:=by
 rcases h.at with⟨h',_⟩ | ⟨g',cap',h',_,_,_,_,hx⟩
 ·simp at h'
 ·simp only[Value.slice.injEq,Option.some.injEq,Addr.mk.injEq,and_true,true_and] at h';obtain⟨rfl,rfl⟩:=h';obtain⟨q,hq⟩:=getSome hi;obtain⟨u,hu⟩:=getSome (l:=K.cells q) (k:=j) (by rw[K.len]; exact hj);have:=hx i q hq j u hu;rw[Nat.zero_add] at this;exact⟨u,this⟩
theorem OwnSl.setInt {w:World} {base:Nat} {et:TypeId} {F:Foot} {g cap:Nat} {L:List Int} (h:OwnSl oP w base et F (.slice (some ⟨g,0,none⟩) L.length cap) L) (i:Nat) (z:Int):OwnSl oP (w.setCell ⟨g,i,none⟩ (.int .i64 z)) base et F (.slice (some ⟨g,0,none⟩) L.length cap) (L.set i z):=by
 refine⟨?_,fun _ _=>trivial⟩;have hm:∀ l:List Int,l.flatMap oP.cells=l.map (Value.int .i64):=fun l=>by
  induction l with
  | nil=>rfl
  | cons a l ih=>rw[List.flatMap_cons,List.map_cons,ih]; rfl
 have hr:=(h.row.stored i (.int .i64 z)).1;rw[List.length_set,hm,List.map_set,← hm];exact hr
theorem aaM {C:MC} {M:ML} {Fd:Foot} {vv vn vi:Value} {Lv:List VV} {Ln:List NV} {s:MS} {W:World} (h:MAt C M Fd vv vn vi Lv Ln s W) (i:Nat) (hi:i < Ln.length) (hp1:1≤C.aA) (hp4:C.aA≤4) :
  Calls Tryz.prog 88 #[.pointer (some ⟨M.mb,0,none⟩),.int .i64 (i:Int)] W fun e w'=>e = .returned (.tuple #[])∧∃ q,q.n=⟨3,0,0,[],[],lM C (gI C C.aA.toNat s).1⟩ ∧
   MAt C M (fun b=>Fd b∨(W.heap.size≤b∧b < w'.heap.size)) vv vn vi Lv (Ln.set i q) (ny C i s) w'∧Wrote (Mut M.mb M.db vv vn vi) W w':=by
 have HM:=Ag h;clear h;go_in
 go_upto_region 1 with(fail)
 obtain⟨W1,hW1,rx,hB1,hz1⟩:=aO W 127 #[.int .i64 3,.int .i64 0,.int .i64 0,.slice none 0 0,.slice none 0 0,.slice none 0 0];rw[← hW1];obtain⟨xb,hxb⟩:=named W.heap.size;rw[← hxb] at rx ⊢;have hxl:xb < W1.heap.size:=byOmega;have hx1:W.heap.size≤xb:=byOmega;have HW:=Ag (Below.wrote hB1 (Mut M.mb M.db vv vn vi));have HM1:=Ag (HM.out.below hB1);clear hW1 hB1 hz1 hxb;go_wp2_with fail
 go_loopw [5] (fun iv wr=>∃ (k:Nat) (u:Value),k≤C.aA.toNat∧iv = .int .i64 (k:Int)∧OwnSl oP wr W1.heap.size 3 (fun _=>True) u (gI C k s).1∧Row wr xb 127 [.int .i64 3,.int .i64 0,.int .i64 0,.slice none 0 0,.slice none 0 0,u]∧MAt C M Fd vv vn vi Lv Ln (gI C k s).2 wr∧Wrote (Mut M.mb M.db vv vn vi) W wr∧W1.heap.size≤wr.heap.size) (fun iv _=>C.aA.toNat - (intOf iv).toNat)
 case atStart=>exact⟨0,_,byOmega,rfl,OwnSl.nil _ _ _ _ _,rx,HM1.out,HW.out,Nat.le_refl _⟩
 case round =>
  clear rx HM1 HW;obtain⟨k,u,hk,rfl,hown,rx,hm,hw,k6⟩:=hrel;have HO:=Ag hown;have HW:=Ag hw;have HM1:=Ag hm;have m7:=hm.box.cell (i:=7) rfl;clear hown hw hm;by_cases hkt:k < C.aA.toNat
  ·have t0:decide ((k:Int) < C.aA)=true:=decide_eq_true byOmega;have m0:=HM1.out.box.cell (i:=0) rfl;have x5:=rx.cell (i:=5) rfl;obtain⟨ps,hps⟩:=named ((gI C k s).2);obtain⟨pl,hpl⟩:=named ((gI C k s).1);have hpk:gI C (k+1) s=(pl ++ [(ps.draw C 7).1 - 3],(ps.draw C 7).2):=by rw[gI,hps,hpl]
   have HPK:=Ag hpk;have afO:pl.length=k:=by rw[hpl];exact nV C s k
   rw[← hps] at HM1;rw[← hpl] at HO;have hd:=iw C.L ps.at' (n:=7) ay;obtain⟨dv,hdv⟩:=named ((ps.draw C 7).1);have HDV:=Ag hdv;have hdb:0≤dv∧dv < 7:=by rw[hdv];exact hd
   have hwd:IntKind.i64.wrap (dv - 3)=dv - 3:=IntWalk.i64_in _ byOmega;rw[← hdv] at HPK;clear hpk hps hpl hd hdv;go_wp2_with fail
   clear m7;refine aX (fun w'=>w'.cell? ⟨M.mb,0,none⟩=some (.pointer (some ⟨M.db,0,none⟩))∧w'.cell? ⟨xb,5,none⟩=some (u)) 10 2 ah rfl ah ?_;have hHeld:(fun w':World=>w'.cell? ⟨M.mb,0,none⟩=some (.pointer (some ⟨M.db,0,none⟩))∧w'.cell? ⟨xb,5,none⟩=some (u)) wr.drew:=⟨m0,x5⟩;refine YV ?_;intro hb;replace m0:=ak m0 hb;replace x5:=ak x5 hb;replace HM1:=Ag (HM1.out.below hb);replace HO:=Ag (HO.out.below hb);replace rx:=rx.below hb rx.lt;refine zaK ?_;clear HW k6 hb;intro HW k6;generalize wr.drew=wn at *;refine tkm [0,1,2,3,4,5] ?_;refine tk2 6 ah rfl fun K hK=>?_
   go_simp;refine(aeb HM1.out 7 ay ay).mono ?_;rintro e wm ⟨rfl,hm2,hw2⟩;rw[← HDV.out];have hdbx:M.db≠xb:=by have:=HM.out.dr.lt;omega
   replace m0:=dh m0 hw2 HM1.out.dL.2.2;replace x5:=dh x5 hw2 hdbx.symm;have HUB:=Ag HO.out.row.lt;have hdl:=HM.out.dr.lt;replace HO:=Ag (show OwnSl oP wm W1.heap.size 3 (fun _=>True) u pl from⟨(OwnSl.wrote (F:=fun _=>False) (K:=oP) ⟨HO.out.row,fun _ _=>trivial⟩ hw2 fun b hb=>hb.elim (fun h=>h.elim) fun hb e=>by have:=(HUB.out b hb).1; omega).row,fun _ _=>trivial⟩);replace rx:=rx.wrote hw2 hdbx.symm;replace HW:=Ag (HW.out.step hw2 fun i _ e=>.inr (.inl e));replace k6:=Nat.le_trans k6 hw2.size;replace HM1:=Ag hm2;clear hw2 hm2 hHeld HUB;refine hK.out _ _ ⟨m0,x5⟩ (fun hHeld=>?_);clear hK K;refine Zb ?_;refine tkm [7] ?_;refine tk2 8 ah rfl fun K hK=>?_
   go_simp;refine hK.out _ _ ⟨fO m0 _,fO x5 _⟩ (fun hHeld=>?_);clear hK K;refine Zb ?_;refine tk2 9 ah rfl fun K hK=>?_
   refine kR (K:=oP) (F:=fun _=>True) (W:=wm) rfl _ _ 22 3 8 _ Tryz.underlying22 Tryz.infoIntK rfl ay rfl W1.heap.size k6 u pl rfl (dv - 3) _ rfl byOmega rfl HO.out trivial ?_;intro g' cap wq hown' hwq hat' hlt';have HUB:=Ag HO.out.row.lt;have hml:=HM.out.box.lt;have ajI:=HM.out.dr.lt;have une:∀ b,b < W1.heap.size→u.ownBlock≠some b:=fun b hb e=>by have:=(HUB.out b e).1;omega
   replace m0:=dh m0 hwq (une _ byOmega);replace x5:=dh x5 hwq (une _ hxl);replace rx:=rx.wrote hwq (une _ hxl);replace HM1:=Ag (HM1.out.on (hwq.same fun b hb=>une b (by have:=HM.out.afN hb; omega)));replace HW:=Ag (HW.out.step hwq fun i hi e=>absurd e (une i byOmega));replace k6:=Nat.le_trans k6 hwq.size;clear HO;rw[afO] at hown';have HO:=Ag hown';clear hown' hwq hat' hlt' hHeld HUB une;refine hK.out _ _ ⟨m0,x5⟩ (fun hHeld=>?_);clear hK K;refine Zb ?_;refine Zw ?_;clear hHeld;have ff:=rx.frozen 5;obtain⟨Wz,hWz⟩:=named (wq.setCell ⟨xb,5,none⟩ (.slice (some ⟨g',0,none⟩) (k+1) cap));have rx2:Row Wz xb 127 [.int .i64 3,.int .i64 0,.int .i64 0,.slice none 0 0,.slice none 0 0,(.slice (some ⟨g',0,none⟩) (k+1) cap)]:=ste hWz rx;have hwz:Wrote (fun b=>b=xb) wq Wz:=hWz▸Wrote.setCell (K:=fun b=>b=xb) (p:=⟨xb,5,none⟩) (Wrote.refl _ _) (.inl rfl) _;have HM2:=Ag (HM1.out.on (hwz.same fun b hb=>by have:=HM.out.afN hb; omega));have HO2:=Ag (show OwnSl oP Wz W1.heap.size 3 (fun _=>True) (.slice (some ⟨g',0,none⟩) (k+1) cap) (pl ++ [dv - 3]) from⟨(OwnSl.wrote (F:=fun _=>False) (K:=oP) ⟨HO.out.row,fun _ _=>trivial⟩ hwz fun b hb=>hb.elim (fun h=>h.elim) fun hb e=>by have:=(HO.out.row.lt b hb).1; omega).row,fun _ _=>trivial⟩);have HWZ:=Ag (HW.out.step hwz fun i hi e=>by omega);have k7:W1.heap.size≤Wz.heap.size:=Nat.le_trans k6 hwz.size;have HX:=Ag hWz;have RX:=Ag rx2;clear hWz rx2 rx hwz HM1 HO HW m0;go_wp2
   refine Y2 ?_;go_wp2
   rw[← HX.out];show Exit.inBlock _ _ .normal _ _;go_wp2
   go_roundw
   case rel=>exact⟨k+1,_,byOmega,by go_num,by rw[HPK.out]; exact HO2.out,RX.out,by rw[HPK.out]; exact HM2.out,HWZ.out,k7⟩
   case measure=>simp[intOf]; omega
  ·have hke:C.aA.toNat=k:=byOmega;have t0:decide ((k:Int) < C.aA)=false:=decide_eq_false byOmega;have m5:=HM1.out.box.cell (i:=5) rfl;have hvn:∃ g cap,vn = .slice (some ⟨g,0,none⟩) Ln.length cap:=by
    rcases HM.out.nodes.at with⟨_,h⟩ | ⟨g,cap,h,_⟩
    ·rw[h] at hi;exact absurd hi aB
    ·exact⟨g,cap,h⟩
   obtain⟨gn,cn,rfl⟩:=hvn;have hpi:=aaL C s k;obtain⟨ps,hps⟩:=named ((gI C k s).2);obtain⟨pl,hpl⟩:=named ((gI C k s).1);have afO:pl.length=k:=by rw[hpl];exact nV C s k
   rw[← hpl] at HO hpi;rw[← hps] at HM1;have HE:=Ag (show ny C i s = { ps with nodes:=ps.nodes.set i ⟨3,0,0,[],[],lM C pl⟩ }∧lM C (gI C C.aA.toNat s).1=lM C pl by rw[hpl,hps,← hke]; exact⟨rfl,rfl⟩);clear hps hpl;have hu:∃ g cap,u = .slice (some ⟨g,0,none⟩) k cap:=by
    rcases HO.out.at with⟨_,h⟩ | ⟨g,cap,h,_⟩
    ·rw[h] at afO;simp at afO;omega
    ·exact⟨g,cap,by rw[← afO]; exact h⟩
   obtain⟨gu,cu,rfl⟩:=hu;cases hz:C.zero with
   | false =>
    rw[hz] at m5;have hpy:lM C pl=pl:=if_neg (by rw[hz]; simp);refine zbz ?_;intro m8 x0 x1 x2 x3 x4 x5;go_wp2_with fail
    refine Zr ?_;clear m8 x0 x1 x2 x3 x4 x5 HM1 HO rx HW k6;intro hHeld m8 x0 x1 x2 x3 x4 x5 HM1 HO rx HW k6;generalize wr.drew=wn at *;refine tkm [0,1,2,3,4,5,6] ?_;refine Zk ?_;clear hHeld;intro f0 f1 f2 f3 f4 f5 q0 y0 q1 y1 q2 y2 q3 y3 q4 y4 q5 y5 HMB hbm aed HM2;refine zaW ?_;intro W9 hW9 hm9 hw9;have hsz:W9.heap.size=wn.heap.size:=by rw[hW9];simp
    refine zbt ?_;intro H9 HM9 HW9;clear hW9 hm9 hw9 HM1 HM2;go_wp2
    refine Y2 ?_;go_wp2
    rw[← H9.out];unfold Ba;go_end0;exact zav
   | true =>
    rw[hz] at m5;by_cases h2:C.aA=2
    ·have t2:(C.aA==2)=true:=by rw[h2];rfl
     obtain⟨p0,p1,rfl⟩:∃ a b,pl = [a,b]:=by
      match pl,afO with
      | [a,b],_=>exact⟨a,b,rfl⟩
      | [],h=>simp at h; omega
      | [_],h=>simp at h; omega
      | _ :: _ :: _ :: _,h=>simp at h; omega
     obtain rfl:k=2:=by simpa using afO.symm
     have hpy:lM C [p0,p1] = [p0,-p0]:=by rw[lM,if_pos ⟨hz,h2⟩];rfl
     have hp0:=hpi p0 aB;have hwn:IntKind.i64.wrap (-p0) = -p0:=IntWalk.i64_in _ byOmega;have x5:=rx.cell (i:=5) rfl;have hc:=HO.out.at;obtain⟨c0,c1⟩:wr.cell? ⟨gu,0,none⟩=some (.int .i64 p0)∧wr.cell? ⟨gu,1,none⟩=some (.int .i64 p1):=by
      rcases hc with⟨h,_⟩ | ⟨g,cap,h,_,_,_,_,hx⟩
      ·simp at h
      ·simp only[Value.slice.injEq,Option.some.injEq,Addr.mk.injEq,and_true,true_and] at h;obtain⟨rfl,_⟩:=h;exact⟨hx 0 p0 rfl 0 _ rfl,hx 1 p1 rfl 0 _ rfl⟩
     clear hc;go_wp2_with fail
     refine aX (fun w'=>w'.cell? ⟨xb,5,none⟩=some (.slice (some ⟨gu,0,none⟩) 2 cu)∧w'.cell? ⟨gu,0,none⟩=some (.int .i64 p0)∧w'.cell? ⟨gu,1,none⟩=some (.int .i64 p1)) 7 2 ah rfl ah ?_;have hHeld:(fun w':World=>w'.cell? ⟨xb,5,none⟩=some (.slice (some ⟨gu,0,none⟩) 2 cu)∧w'.cell? ⟨gu,0,none⟩=some (.int .i64 p0)∧w'.cell? ⟨gu,1,none⟩=some (.int .i64 p1)) wr.drew:=⟨x5,c0,c1⟩;refine YV ?_;intro hb;replace x5:=ak x5 hb;replace c0:=ak c0 hb;replace c1:=ak c1 hb;replace HM1:=Ag (HM1.out.below hb);replace HO:=Ag (HO.out.below hb);replace rx:=rx.below hb rx.lt;refine zaK ?_;clear HW k6 hb;intro HW k6;generalize wr.drew=wn at *;refine tkm [0,1,2,3,4,5,6] ?_;refine Zw ?_;clear hHeld;have f1:=HO.out.fz 1;obtain⟨Wz,hWz⟩:=named (wn.setCell ⟨gu,1,none⟩ (.int .i64 (-p0)));have hgu:=HO.out.row.lt gu rfl;have hml:=HM.out.box.lt;have ajI:=HM.out.dr.lt;have hwz:Wrote (fun b=>b=gu) wn Wz:=hWz▸Wrote.setCell (K:=fun b=>b=gu) (p:=⟨gu,1,none⟩) (Wrote.refl _ _) (.inl rfl) _;have HO2:=Ag (show OwnSl oP Wz W1.heap.size 3 (fun _=>True) (.slice (some ⟨gu,0,none⟩) 2 cu) [p0,-p0] from hWz▸OwnSl.setInt (L:=[p0,p1]) HO.out 1 (-p0));have HX:=Ag hWz;clear hWz;go_wp2
     refine Y2 ?_;go_wp2
     rw[← HX.out];have hxg:xb≠gu:=fun e=>by have:=hgu.1;omega
     unfold Ba;refine Yb ?_;replace rx:=rx.wrote hwz hxg;replace HM1:=Ag (HM1.out.on (hwz.same fun b hb e=>by have:=HM.out.afN hb; have:=hgu.1; omega));replace HW:=Ag (HW.out.step hwz fun j hj e=>by have:=hgu.1; omega);replace k6:=Nat.le_trans k6 hwz.size;clear HO x5 c0 c1 f1 hwz HX;have HO:=Ag HO2.out;clear HO2 hgu hml ajI hxg;refine zbz ?_;intro m8 x0 x1 x2 x3 x4 x5;go_wp2_with fail
     refine aX (fun w'=>w'.cell? ⟨M.mb,8,none⟩=some (.slice (some ⟨gn,0,none⟩) Ln.length cn)∧w'.cell? ⟨xb,0,none⟩=some (.int .i64 3)∧w'.cell? ⟨xb,1,none⟩=some (.int .i64 0)∧w'.cell? ⟨xb,2,none⟩=some (.int .i64 0)∧w'.cell? ⟨xb,3,none⟩=some (.slice none 0 0)∧w'.cell? ⟨xb,4,none⟩=some (.slice none 0 0)∧w'.cell? ⟨xb,5,none⟩=some (.slice (some ⟨gu,0,none⟩) 2 cu)) 7 2 ah rfl ah ?_;have hHeld:(fun w':World=>w'.cell? ⟨M.mb,8,none⟩=some (.slice (some ⟨gn,0,none⟩) Ln.length cn)∧w'.cell? ⟨xb,0,none⟩=some (.int .i64 3)∧w'.cell? ⟨xb,1,none⟩=some (.int .i64 0)∧w'.cell? ⟨xb,2,none⟩=some (.int .i64 0)∧w'.cell? ⟨xb,3,none⟩=some (.slice none 0 0)∧w'.cell? ⟨xb,4,none⟩=some (.slice none 0 0)∧w'.cell? ⟨xb,5,none⟩=some (.slice (some ⟨gu,0,none⟩) 2 cu)) Wz.drew:=⟨m8,x0,x1,x2,x3,x4,x5⟩;refine Zq ?_;have hb:Below Wz.heap.size Wz Wz.drew:=aI (Below.refl _ Wz) 1;replace m8:=ak m8 hb;refine Yg ?_;clear x0 x1 x2;intro x0 x1 x2;replace x3:=ak x3 hb;replace x4:=ak x4 hb;replace x5:=ak x5 hb;replace HM1:=Ag (HM1.out.below hb);replace HO:=Ag (HO.out.below hb);replace rx:=rx.below hb rx.lt;refine zaK ?_;clear HW k6 hb;intro HW k6;generalize Wz.drew=wn at *;refine tkm [0,1,2,3,4,5,6] ?_;refine Zk ?_;clear hHeld;intro f0 f1 f2 f3 f4 f5 q0 y0 q1 y1 q2 y2 q3 y3 q4 y4 q5 y5 HMB hbm aed HM2;obtain⟨W9,hW9,hm9,hw9⟩:=HM2.out.setNode rfl hi ⟨⟨3,0,0,[],[],[p0,-p0]⟩,.slice none 0 0,.slice none 0 0,.slice (some ⟨gu,0,none⟩) 2 cu⟩ ⟨aed,aed,HO.out.ints fun b hb=>.inr ⟨by have:=(HO.out.row.lt b hb).1; omega,(HO.out.row.lt b hb).2⟩⟩;have hsz:W9.heap.size=wn.heap.size:=by rw[hW9];simp
     refine zbt ?_;intro H9 HM9 HW9;clear hW9 hm9 hw9 HM1 HM2;go_wp2
     refine Y2 ?_;go_wp2
     rw[← H9.out];unfold Ba;go_end0;exact⟨rfl,⟨⟨3,0,0,[],[],[p0,-p0]⟩,.slice none 0 0,.slice none 0 0,.slice (some ⟨gu,0,none⟩) 2 cu⟩,by rw[HE.out.2,hpy],by rw[HE.out.1,hpy,hsz]; exact HM9.out,HW9.out⟩
    ·have t2:(C.aA==2)=false:=by simpa using h2
     have hpy:lM C pl=pl:=if_neg (by simp[h2]);refine zbz ?_;intro m8 x0 x1 x2 x3 x4 x5;go_wp2_with fail
     refine Zr ?_;clear m8 x0 x1 x2 x3 x4 x5 HM1 HO rx HW k6;intro hHeld m8 x0 x1 x2 x3 x4 x5 HM1 HO rx HW k6;generalize wr.drew=wn at *;refine tkm [0,1,2,3,4,5,6] ?_;refine Zk ?_;clear hHeld;intro f0 f1 f2 f3 f4 f5 q0 y0 q1 y1 q2 y2 q3 y3 q4 y4 q5 y5 HMB hbm aed HM2;refine zaW ?_;intro W9 hW9 hm9 hw9;have hsz:W9.heap.size=wn.heap.size:=by rw[hW9];simp
     refine zbt ?_;intro H9 HM9 HW9;clear hW9 hm9 hw9 HM1 HM2;go_wp2
     refine Y2 ?_;go_wp2
     rw[← H9.out];unfold Ba;go_end0;exact zav
theorem OwnSl.form {α:Type} {K:Knd α} {w:World} {base:Nat} {et:TypeId} {F:Foot} {v:Value} {L:List α} (h:OwnSl K w base et F v L):∃ A c,v = .slice A L.length c∧L.length≤c∧(0 < L.length→∃ g,A=some ⟨g,0,none⟩):=by
 rcases h.at with⟨rfl,rfl⟩ | ⟨g,cap,rfl,_,_,hc,_⟩
 ·exact Yv
 ·exact⟨_,cap,rfl,hc,fun _=>⟨g,rfl⟩⟩
theorem afP {info aC:Int} {s:MS} {I:List Inf} {x:Inf} (hp:¬ aC < 0) (hI:s.infos=I ++ [x]) (hi:info=(I.length:Int)) (hno:s.nodes.any (jI info)=false):jR info aC s = { s with infos:=I,views:=s.views.dropLast }:=by
 have hn:¬ (aC < 0∨info≠(s.infos.length:Int) - 1):=by
  rw[hI];simp;omega
 unfold jR;rw[if_neg hn,hno];subst hi;simp[hI]
theorem aaN {info aC:Int} {s:MS} (h:s.nodes.any (jI info)=true):jR info aC s=s:=by
 unfold jR;rw[if_pos h];split <;> rfl
theorem akV {f:Nd→Bool} {Ln:List NV} {N:List Nd} (hN:Ln.map NV.n=N) {k:Nat} {q:NV} (hq:Ln[k]? = some q) (hf:f q.n=true):N.any f=true:=by
 rw[← hN,List.any_eq_true];exact⟨q.n,List.mem_map.2 ⟨q,List.mem_of_getElem? hq,rfl⟩,hf⟩
theorem aee {f:Nd→Bool} {Ln:List NV} {k:Nat} {q:NV} (h:∀ j p,j < k→Ln[j]? = some p→f p.n=false) (hq:Ln[k]? = some q) (hf:f q.n=false):∀ j p,j < k+1→Ln[j]? = some p→f p.n=false:=fun j p hj hp=>by
 by_cases e:j=k
 ·subst e; rw[hq] at hp; cases hp; exact hf
 ·exact h j p byOmega hp
theorem not_any {f:Nd→Bool} {Ln:List NV} {N:List Nd} (hN:Ln.map NV.n=N) (h:∀ j p,j < Ln.length→Ln[j]? = some p→f p.n=false):N.any f=false:=by
 rw[← hN,List.any_eq_false];intro n hn;obtain⟨q,hq,rfl⟩:=List.mem_map.1 hn;obtain⟨j,hj,e⟩:=List.mem_iff_getElem.1 hq;rw[h j q hj (by rw[← e]; exact List.getElem?_eq_getElem hj)];simp
theorem MAt.alk {C:MC} {M:ML} {Fd:Foot} {vv vn vi:Value} {Lv:List VV} {Ln:List NV} {s:MS} {W W':World} (h:MAt C M Fd vv vn vi Lv Ln s W) {gi ci:Nat} {x:Inf} {I:List Inf} (hI:s.infos=I ++ [x]) (hi:vi = .slice (some ⟨gi,0,none⟩) (I.length+1) ci) (hW:W'=W.setCell ⟨M.mb,9,none⟩ (.slice (some ⟨gi,0,none⟩) I.length ci)) :
  MAt C M Fd vv vn (.slice (some ⟨gi,0,none⟩) I.length ci) Lv Ln { s with infos:=I } W'∧Wrote (fun b=>b=M.mb) W W':=by
 subst hi;have hw:Wrote (fun b=>b=M.mb) W (W.setCell ⟨M.mb,9,none⟩ (.slice (some ⟨gi,0,none⟩) I.length ci)):=Wrote.setCell (K:=fun b=>b=M.mb) (Wrote.refl _ _) (p:=⟨M.mb,9,none⟩) (.inl rfl) _;rw[hW];have gU:=h.infos;rw[hI] at gU;refine⟨?_,hw⟩;exact {
  box:=h.box.set 9 _
  dr:=h.dr.wrote hw (fun e=>h.dL.2.2 e.symm)
  list:=h.list.on (hw.same fun b hb e=>by have:=h.zA hb; have:=h.dL.1; subst e; omega)
  lev:=h.lev.wrote hw fun b hb=>hb.elim (fun hb=>(h.fdn hb).1) fun hb=>(h.lvn hb).1
  views:=h.views.wrote hw fun b hb=>hb.elim (fun hb=>(h.fdn hb).1) fun hb=>(h.cO b hb).1
  nodes:=h.nodes.wrote hw fun b hb=>hb.elim (fun hb=>(h.fdn hb).1) fun hb=>(h.dD b hb).1
  infos:=gU.short.wrote hw fun b hb=>hb.elim (fun hb=>(h.fdn hb).1) fun hb=>(h.fA b hb).1
  nU:=h.nU
  oO:=h.oO
  out:=h.out
  foot:=fun b hb=>⟨(h.foot b hb).1,by have:=(h.foot b hb).2.1; simp; omega,(h.foot b hb).2.2⟩
  dL:=h.dL
  jK:=h.jK
  cO:=h.cO
  dD:=h.dD
  fA:=h.fA
  draws:=h.draws
 }
theorem MAt.alm {C:MC} {M:ML} {Fd:Foot} {vv vn vi:Value} {Lv:List VV} {Ln:List NV} {s:MS} {W W':World} (h:MAt C M Fd vv vn vi Lv Ln s W) {gv cv:Nat} {y:VV} {L':List VV} (hL:Lv=L' ++ [y]) (hv:vv = .slice (some ⟨gv,0,none⟩) (L'.length+1) cv) (hW:W'=W.setCell ⟨M.mb,2,none⟩ (.slice (some ⟨gv,0,none⟩) L'.length cv)) :
  MAt C M Fd (.slice (some ⟨gv,0,none⟩) L'.length cv) vn vi L' Ln { s with views:=s.views.dropLast } W'∧Wrote (fun b=>b=M.mb) W W':=by
 subst hv hL;have hw:Wrote (fun b=>b=M.mb) W (W.setCell ⟨M.mb,2,none⟩ (.slice (some ⟨gv,0,none⟩) L'.length cv)):=Wrote.setCell (K:=fun b=>b=M.mb) (Wrote.refl _ _) (p:=⟨M.mb,2,none⟩) (.inl rfl) _;rw[hW];refine⟨?_,hw⟩;exact {
  box:=h.box.set 2 _
  dr:=h.dr.wrote hw (fun e=>h.dL.2.2 e.symm)
  list:=h.list.on (hw.same fun b hb e=>by have:=h.zA hb; have:=h.dL.1; subst e; omega)
  lev:=h.lev.wrote hw fun b hb=>hb.elim (fun hb=>(h.fdn hb).1) fun hb=>(h.lvn hb).1
  views:=h.views.short.wrote hw fun b hb=>hb.elim (fun hb=>(h.fdn hb).1) fun hb=>(h.cO b hb).1
  nodes:=h.nodes.wrote hw fun b hb=>hb.elim (fun hb=>(h.fdn hb).1) fun hb=>(h.dD b hb).1
  infos:=h.infos.wrote hw fun b hb=>hb.elim (fun hb=>(h.fdn hb).1) fun hb=>(h.fA b hb).1
  nU:=by
   have:=h.nU;rw[List.map_append,List.map_cons,List.map_nil] at this;rw[← this];simp
  oO:=h.oO
  out:=h.out
  foot:=fun b hb=>⟨(h.foot b hb).1,by have:=(h.foot b hb).2.1; simp; omega,(h.foot b hb).2.2⟩
  dL:=h.dL
  jK:=h.jK
  cO:=h.cO
  dD:=h.dD
  fA:=h.fA
  draws:=h.draws
 }
def Less (C:MC) (M:ML) (Fd:Foot) (vv vn vi:Value) (Ln:List NV) (s:MS) (W w':World):Prop:=∃ vv' vi' Lv',vv'.ownBlock=vv.ownBlock∧vi'.ownBlock=vi.ownBlock∧MAt C M Fd vv' vn vi' Lv' Ln s w'∧Wrote (Mut M.mb M.db vv vn vi) W w'
theorem ahp {C:MC} {M:ML} {Fd:Foot} {vv vn vi:Value} {Lv:List VV} {Ln:List NV} {s:MS} {W:World} (h:MAt C M Fd vv vn vi Lv Ln s W) (info aC:Int) (h0:0≤info) (hne:0 < Ln.length) (hvl:s.views.length=s.infos.length) (hil:s.infos.length≤1000000) (hnl:Ln.length≤1000000) :
  Calls Tryz.prog 90 #[.pointer (some ⟨M.mb,0,none⟩),.int .i64 info,.int .i64 aC] W fun e w'=>e = .returned (.tuple #[])∧Less C M Fd vv vn vi Ln (jR info aC s) W w':=by
 have HM:=Ag h;clear h;obtain⟨Ai,ci,rfl,hci,hgi⟩:=HM.out.infos.form;have m9:=HM.out.box.cell (i:=9) rfl;have hw1:IntKind.i64.wrap ((s.infos.length:Int) - 1)=(s.infos.length:Int) - 1:=IntWalk.i64_in _ byOmega;go_in
 by_cases hp:aC < 0
 ·have t1:decide (aC < 0)=true:=decide_eq_true hp;have e:jR info aC s=s:=if_pos (.inl hp);exact zaZ
 have t1:decide (aC < 0)=false:=decide_eq_false hp;by_cases hn:info=(s.infos.length:Int) - 1
 case neg =>
  have t2:(info != ((s.infos.length:Int) - 1))=true:=by simpa using hn
  have e:jR info aC s=s:=if_pos (.inr hn);exact zaZ
 have t2:(info != ((s.infos.length:Int) - 1))=false:=by simpa using hn
 have hlv:Lv.length=s.infos.length:=by rw[← hvl,← HM.out.nU,List.length_map]
 obtain⟨I,x,hI⟩:∃ I x,s.infos=I ++ [x]:=by
  rcases List.eq_nil_or_concat s.infos with h | ⟨I,x,h⟩
  ·rw[h] at hn;simp at hn;omega
  ·exact⟨I,x,by simpa using h⟩
 obtain⟨L',y,hL⟩:∃ L' y,Lv=L' ++ [y]:=by
  rcases List.eq_nil_or_concat Lv with h | ⟨I,x,h⟩
  ·rw[h,hI] at hlv;simp at hlv
  ·exact⟨I,x,by simpa using h⟩
 have hIl:s.infos.length=I.length+1:=by rw[hI];simp
 have hLl:Lv.length=L'.length+1:=by rw[hL];simp
 have hll:L'.length=I.length:=byOmega;obtain⟨gi,rfl⟩:=hgi byOmega;obtain⟨Av,cv,rfl,hcv,hgv⟩:=HM.out.views.form;obtain⟨gv,rfl⟩:=hgv byOmega;obtain⟨An,cn,rfl,hcn,hgn⟩:=HM.out.nodes.form;obtain⟨gn,rfl⟩:=hgn hne;have hin:info=(I.length:Int):=byOmega;have HD:=Ag (fun hno=>afP (s:=s) hp hI hin hno);have HDR:=Ag (HM.out.below (aI (Below.refl _ W) 1));have m8:=HM.out.box.cell (i:=8) rfl;have hx:=HM.out.nodes.at;obtain⟨hcell⟩:Nonempty (∀ k q,Ln[k]? = some q→W.cell? ⟨gn,k*6,none⟩=some (.int .i64 q.n.kind)∧W.cell? ⟨gn,k*6+2,none⟩=some (.int .i64 q.n.info)):=by
  rcases hx with⟨h,_⟩ | ⟨g,cap,h,_,_,_,_,hx⟩
  ·simp at h
  ·simp only[Value.slice.injEq,Option.some.injEq,Addr.mk.injEq,and_true,true_and] at h;obtain⟨rfl,_⟩:=h;refine⟨fun k q hk=>⟨?_,?_⟩⟩
   ·have:=hx k q hk 0 _ rfl;rw[Nat.zero_add] at this;exact this
   ·have:=hx k q hk 2 _ rfl;rw[Nat.zero_add] at this;exact this
 have HC:=Ag hcell;clear hcell hx;have HN:=Ag HM.out.oO;subst hin;rw[hIl] at m9 hci;rw[hLl] at hcv;clear t2 hw1 hn;have hwA:IntKind.i64.wrap ((I.length:Int)+1 - 1)=(I.length:Int):=by rw[Int.add_sub_cancel];exact IntWalk.i64_in _ byOmega
 have hwB:IntKind.i64.wrap (I.length:Int)=(I.length:Int):=IntWalk.i64_in _ byOmega;have hwC:IntKind.i64.wrap ((L'.length:Int)+1 - 1)=(L'.length:Int):=by rw[Int.add_sub_cancel];exact IntWalk.i64_in _ byOmega
 have hwD:IntKind.i64.wrap (L'.length:Int)=(L'.length:Int):=IntWalk.i64_in _ byOmega;have hcv2:L'.length≤cv:=byOmega;have hci2:I.length≤ci:=byOmega;have HE:=Ag (show Lv.length=L'.length+1∧s.infos.length=I.length+1 from⟨hLl,hIl⟩);clear hgi hgv hgn hlv hll hLl hIl;go_wp2
 go_loopw [6] (fun iv wr=>∃ k:Nat,k≤Ln.length∧iv = .int .i64 (k:Int)∧wr=W∧Hid (∀ j q,j < k→Ln[j]? = some q→jI (I.length:Int) q.n=false)) (fun iv _=>Ln.length - (intOf iv).toNat)
 case atStart=>exact⟨0,Nat.zero_le _,rfl,rfl,Ag fun j q hj=>absurd hj (Nat.not_lt_zero _)⟩
 case round =>
  obtain⟨k,hk,rfl,rfl,hno⟩:=hrel;by_cases hkt:k < Ln.length
  ·have t0:decide ((k:Int) < (Ln.length:Int))=true:=decide_eq_true byOmega;obtain⟨q,hq⟩:=getSome hkt;obtain⟨c0,c2⟩:=HC.out k q hq;obtain⟨kd,hkd⟩:=named q.n.kind;obtain⟨kf,hkf⟩:=named q.n.info;have HK:=Ag (show jI (I.length:Int) q.n=(decide (kd=2)&&decide (kf=(I.length:Int))) by rw[hkd,hkf]; rfl);have HQ:=Ag hq;rw[← hkd] at c0;rw[← hkf] at c2;clear hkd hkf hq;by_cases hk2:kd=2
   ·have t3:(kd==2)=true:=by simpa using hk2
    by_cases hk3:kf=(I.length:Int)
    ·have t4:(kf==(I.length:Int))=true:=by simpa using hk3
     have HU:=Ag (show jI (I.length:Int) q.n=true by rw[HK.out]; simp[hk2,hk3]);clear hk2 hk3;go_wp2_with fail
     refine bodyPost_ret (results_none rfl _ _ _) rfl ?_;exact⟨rfl,_,_,Lv,rfl,rfl,by rw[aaN (akV HN.out HQ.out HU.out)]; exact HM.out,Wrote.refl _ _⟩
    ·have t4:(kf==(I.length:Int))=false:=by simpa using hk3
     have HU:=Ag (show jI (I.length:Int) q.n=false by rw[HK.out]; simp[hk3]);clear hk2 hk3;go_wp2_with fail
     go_roundw
     case rel=>exact⟨k+1,byOmega,by go_num,trivial,Ag (aee hno.out HQ.out HU.out)⟩
     case measure=>simp[intOf]; omega
   ·have t3:(kd==2)=false:=by simpa using hk2
    have HU:=Ag (show jI (I.length:Int) q.n=false by rw[HK.out]; simp[hk2]);clear hk2;go_wp2_with fail
    go_roundw
    case rel=>exact⟨k+1,byOmega,by go_num,trivial,Ag (aee hno.out HQ.out HU.out)⟩
    case measure=>simp[intOf]; omega
  ·have hke:Ln.length=k:=byOmega;have t0:decide ((k:Int) < (Ln.length:Int))=false:=decide_eq_false byOmega;have HZ:=Ag (HD.out (not_any HN.out (by rw[hke]; exact hno.out)));have m2:=HM.out.box.cell (i:=2) rfl;have f9:=HM.out.box.frozen 9;obtain⟨Wy,hWy⟩:=named (wr.setCell ⟨M.mb,9,none⟩ (.slice (some ⟨gi,0,none⟩) I.length ci));have hvi:=HM.out.infos.form;obtain⟨hm1,hw1⟩:=HM.out.alk hI (by rw[HE.out.2]) hWy;have hm2:=hm1.box.cell (i:=2) rfl;rw[HE.out.1] at hm2;have HM1:=Ag hm1;have HW:=Ag hw1;have HY:=Ag hWy;clear hm1 hw1 hWy;go_wp2_with fail
   rw[← HY.out];clear HY m2 f9;refine aX (fun w'=>w'.cell? ⟨M.mb,2,none⟩=some (.slice (some ⟨gv,0,none⟩) (L'.length+1) cv)) 12 3 ah rfl ah ?_;have hHeld:(fun w':World=>w'.cell? ⟨M.mb,2,none⟩=some (.slice (some ⟨gv,0,none⟩) (L'.length+1) cv)) Wy.drew:=hm2;refine Zq ?_;have hb:Below Wy.heap.size Wy Wy.drew:=aI (Below.refl _ Wy) 1;replace hm2:=ak hm2 hb;replace HM1:=Ag (HM1.out.below hb);replace HW:=Ag (HW.out.trans (Below.wrote hb _));clear hb;generalize Wy.drew=wn at *;refine tkm [0,1,2,3,4,5,6,7,8,9,10,11] ?_;refine Yp ?_;clear hHeld;have f2:=HM1.out.box.frozen 2;obtain⟨Wz,hWz⟩:=named (wn.setCell ⟨M.mb,2,none⟩ (.slice (some ⟨gv,0,none⟩) L'.length cv));obtain⟨hm3,hw3⟩:=HM1.out.alm hL (by rw[HE.out.1]) hWz;have HM3:=Ag hm3;have HW3:=Ag (HW.out.trans hw3);have HY:=Ag hWz;clear hm3 hw3 hWz;refine Y2 ?_;go_wp2
   refine Y2 ?_;go_wp2
   refine Y2 ?_;go_wp2
   rw[← HY.out];unfold Ba;go_end0;exact⟨rfl,.slice (some ⟨gv,0,none⟩) L'.length cv,.slice (some ⟨gi,0,none⟩) I.length ci,L',rfl,rfl,by rw[HZ.out]; exact HM3.out,(Wrote.refl _ _).step HW3.out fun i _ e=>.inl e⟩
def DK (C:MC) (n:Nd):Prop:=n.kind=3∧n.aC=0∧n.info=0∧n.next = []∧n.weights = []∧(n.pay.length:Int)=C.aA∧(∀ x∈n.pay,-3≤x∧x≤3)∧(C.zero=true→C.aA=2→∃ x,n.pay = [x,-x])
def Dq (C:MC) (V:List View) (I:List Inf) (level:Nat) (seen:List (List Int)) (n:Nd):Prop :=
 level < C.levels.length∧1≤n.next.length∧n.next.length≤3∧n.pay = [] ∧
  (((C.levels.getD level default).aC < 0∧n.kind=1∧n.aC=0∧n.info=0∧n.weights.length=n.next.length∧∀ x∈n.weights,1≤x∧x≤3) ∨
  (0≤(C.levels.getD level default).aC∧n.kind=2∧n.aC=(C.levels.getD level default).aC∧n.weights = []∧∃ x:Nat,n.info=(x:Int)∧I[x]? = some ⟨n.aC,n.next.length⟩∧V[x]? = some ⟨n.aC,level,seen.getD n.aC.toNat [],x⟩))
inductive Bt (C:MC) (V:List View) (I:List Inf) (N:List Nd):Nat→List (List (List Int))→List Int→Nat→Nat→Prop
 | nil (level a:Nat):Bt C V I N level [] [] a a
 | fin {level a b:Nat} {n:Nd} {seen:List (List Int)} {ss:List (List (List Int))} {cs:List Int}:N[a]? = some n→DK C n→Bt C V I N level ss cs (a+1) b→Bt C V I N level (seen :: ss) ((a:Int) :: cs) a b
 | mid {level a m b:Nat} {n:Nd} {seen:List (List Int)} {ss:List (List (List Int))} {cs:List Int}:N[a]? = some n→Dq C V I level seen n →
   Bt C V I N (level+1) ((List.range n.next.length).map fun k=>gV (C.levels.getD level default) k seen) n.next (a+1) m→Bt C V I N level ss cs m b→Bt C V I N level (seen :: ss) ((a:Int) :: cs) a b
section
variable {C:MC} {V V':List View} {I I':List Inf} {N N':List Nd}
theorem aef {f a:Nat} {dep deep:Int} {n:Nd} (hn:N[a]? = some n):gy N (f+1) a dep deep=dJ (fun a d=>gy N f a (dep+1) d) n.next ((a:Int)+1) (max deep dep):=by
 rw[gy];simp only[hn]
theorem Bt.le {level a b:Nat} {ss:List (List (List Int))} {cs:List Int} (h:Bt C V I N level ss cs a b):a≤b:=by
 induction h with
 | nil=>exact Nat.le_refl _
 | fin _ _ _ ih=>omega
 | mid _ _ _ _ ih1 ih2=>omega
theorem Bt.grow {level a b:Nat} {ss:List (List (List Int))} {cs:List Int} (h:Bt C V I N level ss cs a b):(∀ i,a≤i→i < b→N'[i]? = N[i]?) →
  (∀ (i:Nat) (n:Nd) (x:Nat) (p:Inf) (q:View),a≤i→i < b→N[i]? = some n→n.kind=2→n.info=x→I[x]? = some p→V[x]? = some q→I'[x]? = some p∧V'[x]? = some q)→Bt C V' I' N' level ss cs a b:=by
 induction h with
 | nil level a=>intro _ _; exact .nil _ _
 | @fin level a b n seen ss cs hn he hr ih =>
  intro hN hI;have l:=hr.le;exact .fin ((hN a (Nat.le_refl _) byOmega).trans hn) he (ih (fun i h1 h2=>hN i byOmega h2) fun i n x p q h1 h2=>hI i n x p q byOmega h2)
 | @mid level a m b n seen ss cs hn hm hk hr ih1 ih2 =>
  intro hN hI;have l1:=hk.le;have l2:=hr.le;refine .mid ((hN a (Nat.le_refl _) byOmega).trans hn) ?_ (ih1 (fun i h1 h2=>hN i byOmega byOmega) fun i n x p q h1 h2=>hI i n x p q byOmega byOmega) (ih2 (fun i h1 h2=>hN i byOmega h2) fun i n x p q h1 h2=>hI i n x p q byOmega h2);obtain⟨h1,h2,h3,h4,h5⟩:=hm;refine⟨h1,h2,h3,h4,h5.imp id ?_⟩;rintro⟨k0,k1,k2,k3,x,k4,k5,k6⟩;obtain⟨e1,e2⟩:=hI a n x _ _ (Nat.le_refl _) byOmega hn k1 k4 k5 k6;exact⟨k0,k1,k2,k3,x,k4,e1,e2⟩
theorem Bt.snoc {level a m:Nat} {ss:List (List (List Int))} {cs:List Int} (h:Bt C V I N level ss cs a m) {b:Nat} {seen:List (List Int)} {c:Int}:Bt C V I N level [seen] [c] m b→Bt C V I N level (ss ++ [seen]) (cs ++ [c]) a b:=by
 induction h with
 | nil level a=>intro k; exact k
 | fin hn he _ ih=>intro k; exact .fin hn he (ih k)
 | mid hn hm hk _ _ ih=>intro k; exact .mid hn hm hk (ih k)
theorem Bt.span {level a b:Nat} {ss:List (List (List Int))} {cs:List Int} (h:Bt C V I N level ss cs a b):Span N cs a b:=by
 induction h with
 | nil level a=>exact .nil a
 | @fin level a b n seen ss cs hn he _ ih=>exact .cons hn (by rw[he.2.2.2.1]; exact .nil _) ih
 | mid hn _ _ _ ih1 ih2=>exact .cons hn ih1 ih2
theorem Bt.node {level a b:Nat} {ss:List (List (List Int))} {cs:List Int} (h:Bt C V I N level ss cs a b):∀ i n,a≤i→i < b→N[i]? = some n→DK C n∨∃ l seen,Dq C V I l seen n:=by
 induction h with
 | nil level a=>intro i n h1 h2; omega
 | @fin level a b n seen ss cs hn he _ ih =>
  intro i n' h1 h2 hi;by_cases e:i=a
  ·subst e;rw[hn] at hi;cases hi;exact .inl he
  ·exact ih i n' byOmega h2 hi
 | @mid level a m b n seen ss cs hn hm hk hr ih1 ih2 =>
  intro i n' h1 h2 hi;by_cases e:i=a
  ·subst e;rw[hn] at hi;cases hi;exact .inr ⟨_,_,hm⟩
  ·by_cases e2:i < m
   ·exact ih1 i n' byOmega e2 hi
   ·exact ih2 i n' byOmega h2 hi
theorem Bt.walk {level a b:Nat} {ss:List (List (List Int))} {cs:List Int} (h:Bt C V I N level ss cs a b):∀ (f:Nat) (dep deep:Int),b≤a+f→level≤C.levels.length→-1≤deep→deep≤dep+(C.levels.length - level:Nat) →
  (dJ (fun a d=>gy N f a dep d) cs a deep).1=(b:Int)∧-1≤(dJ (fun a d=>gy N f a dep d) cs a deep).2∧(dJ (fun a d=>gy N f a dep d) cs a deep).2≤dep+(C.levels.length - level:Nat):=by
 induction h with
 | nil level a=>intro f dep deep _ _ h1 h2; exact⟨rfl,h1,h2⟩
 | @fin level a b n seen ss cs hn he hr ih =>
  intro f dep deep hf hl h1 h2;have hb1:=hr.le;obtain⟨f,rfl⟩:∃ f',f=f'+1:=⟨f - 1,byOmega⟩;have hw:gy N (f+1) a dep deep=((a:Int)+1,max deep dep):=by
   rw[aef hn,he.2.2.2.1];rfl
  unfold dJ;rw[if_neg aB,Int.toNat_natCast];simp only[hw];rw[if_neg byOmega];have:=ih (f+1) dep (max deep dep) byOmega hl byOmega byOmega;rw[Int.natCast_add] at this;exact this
 | @mid level a m b n seen ss cs hn hm hk hr ih1 ih2 =>
  intro f dep deep hf hl h1 h2;have hb1:=hr.le;have hb2:=hk.le;obtain⟨f,rfl⟩:∃ f',f=f'+1:=⟨f - 1,byOmega⟩;obtain⟨k1,k2,k3⟩:=ih1 f (dep+1) (max deep dep) byOmega (by have:=hm.1; omega) byOmega (by have:=hm.1; omega);rw[Int.natCast_add] at k1 k2 k3;have hw:=aef (f:=f) (dep:=dep) (deep:=deep) hn;unfold dJ;rw[if_neg aB,Int.toNat_natCast];simp only[hw];rw[show((1:Nat):Int)=1 from rfl] at k1 k2 k3;rw[k1,if_neg byOmega];exact ih2 (f+1) dep _ byOmega hl k2 (by have:=hm.1; omega)
end
structure KM (O:List (Nat×Nat)) (N:List Nd) (cr:List Nat):Prop where
 up:cr.Pairwise (· < ·)
 lt:∀ c∈cr,c < N.length
 by':∀ j n,N[j]? = some n→n.kind=2→∃ x c:Nat,n.info=(x:Int)∧cr[x]? = some c∧c≤j
 has:∀ x c:Nat,cr[x]? = some c→(∃ n,N[c]? = some n∧n.kind=2∧n.info=(x:Int))∨(c,x)∈O
theorem KM.nil:KM [] [] []:=⟨.nil,fun _ h=>(by cases h),fun _ _ h=>(by simp at h),fun _ _ h=>(by simp at h)⟩
section
variable {O:List (Nat×Nat)} {N:List Nd} {cr:List Nat}
theorem KM.push (h:KM O N cr):KM O (N ++ [jE]) cr where
 up:=h.up
 lt c hc:=by have:=h.lt c hc; simp; omega
 by' j n hj hk:=by
  by_cases hl:j < N.length
  ·rw[List.getElem?_append_left hl] at hj;exact h.by' j n hj hk
  ·rw[List.getElem?_append_right byOmega] at hj;have:n=jE:=by simpa using List.mem_of_getElem? hj
   subst this;cases hk
 has x c hc:=by
  rcases h.has x c hc with⟨n,hn,hr⟩ | ho
  ·exact .inl ⟨n,by rw[List.getElem?_append_left (lt_of_get hn)]; exact hn,hr⟩
  ·exact .inr ho
theorem KM.make (h:KM O N cr):KM ((N.length,cr.length) :: O) (N ++ [jE]) (cr ++ [N.length]) where
 up:=by
  rw[List.pairwise_append];exact⟨h.up,aB,fun a ha b hb=>by rw[List.mem_singleton.1 hb]; exact h.lt a ha⟩
 lt c hc:=by
  rcases List.mem_append.1 hc with hc | hc
  ·have:=h.lt c hc;simp;omega
  ·rw[List.mem_singleton.1 hc];simp
 by' j n hj hk:=by
  obtain⟨x,c,h1,h2,h3⟩:=h.push.by' j n hj hk;exact⟨x,c,h1,by rw[List.getElem?_append_left (lt_of_get h2)]; exact h2,h3⟩
 has x c hc:=by
  by_cases hl:x < cr.length
  ·rw[List.getElem?_append_left hl] at hc;exact(h.push.has x c hc).imp id fun h=>List.mem_cons_of_mem _ h
  ·rw[List.getElem?_append_right byOmega] at hc;have e:x - cr.length < [N.length].length:=lt_of_get hc;have e2:x=cr.length:=by simp at e;omega
   subst e2;rw[Nat.sub_self] at hc;simp at hc;subst hc;exact .inr aB
theorem KM.set (h:KM O N cr) {i:Nat} {m n:Nd} (hm:N[i]? = some m) (hk:m.kind≠2) (hn:n.kind=2→∃ x c:Nat,n.info=(x:Int)∧cr[x]? = some c∧c≤i):KM O (N.set i n) cr where
 up:=h.up
 lt c hc:=by rw[List.length_set]; exact h.lt c hc
 by' j n' hj hk':=by
  by_cases e:i=j
  ·subst e;rw[List.getElem?_set_self (lt_of_get hm)] at hj;cases hj;exact hn hk'
  ·rw[List.getElem?_set_ne e] at hj;exact h.by' j n' hj hk'
 has x c hc:=by
  rcases h.has x c hc with⟨n',hn',h1,h2⟩ | ho
  ·refine .inl ⟨n',?_,h1,h2⟩;rw[List.getElem?_set_ne (fun e=>by subst e; rw[hm] at hn'; cases hn'; exact hk h1)];exact hn'
  ·exact .inr ho
theorem KM.close {i x:Nat} (h:KM ((i,x) :: O) N cr) {n:Nd} (hm:N[i]? = some n) (hk:n.kind=2) (hx:n.info=x):KM O N cr where
 up:=h.up
 lt:=h.lt
 by':=h.by'
 has y c hc:=by
  rcases h.has y c hc with h1 | h1
  ·exact .inl h1
  ·rcases List.mem_cons.1 h1 with h1 | h1
   ·cases h1;exact .inl ⟨n,hm,hk,hx⟩
   ·exact .inr h1
end
def VI (V:List View) (I:List Inf):Prop:=∀ (x:Nat) (v:View),V[x]? = some v→∃ f,I[x]? = some f∧f.aC=v.aC
def BD (O:List (Nat×Nat)) (V:List View) (level:Nat):Prop:=∀ c x:Nat,(c,x)∈O→∃ v,V[x]? = some v∧v.level < (level:Int)
structure Grown (O:List (Nat×Nat)) (cr:List Nat) (s r:MS):Prop where
 grow:∃ T Iv Vv cv,r.nodes=s.nodes++T∧r.infos=s.infos++Iv∧r.views=s.views++Vv∧KM O r.nodes (cr++cv)∧(cr++cv).length=r.infos.length
 vi:VI r.views r.infos
theorem BD.up {O:List (Nat×Nat)} {V W:List View} {level:Nat} (h:BD O V level):BD O (V++W) (level+1):=fun c x hc=>by
 obtain⟨v,hv,hl⟩:=h c x hc;exact⟨v,by rw[List.getElem?_append_left (lt_of_get hv)]; exact hv,byOmega⟩
theorem qZ {α:Type} {L M:List α} {k:Nat} {x:α} (h:L[k]? = some x):(L++M)[k]? = some x:=by rw[List.getElem?_append_left (lt_of_get h)]; exact h
theorem Bt.app {C:MC} {V W:List View} {I J:List Inf} {N T:List Nd} {level a b:Nat} {ss:List (List (List Int))} {cs:List Int} (h:Bt C V I N level ss cs a b) (hb:b≤N.length):Bt C (V++W) (I++J) (N++T) level ss cs a b :=
 h.grow (fun i _ hi=>List.getElem?_append_left byOmega) fun i n x p q _ _ _ _ _ h1 h2=>⟨qZ h1,qZ h2⟩
theorem endOk (C:MC) (hp:0≤C.aA) (s:MS):DK C ⟨3,0,0,[],[],lM C (gI C C.aA.toNat s).1⟩:=by
 have hl:=nV C s C.aA.toNat;have hi:=aaL C s C.aA.toNat;refine⟨rfl,rfl,rfl,rfl,rfl,?_,?_,?_⟩
 ·show((lM C (gI C C.aA.toNat s).1).length:Int)=C.aA;unfold lM;split <;> simp[hl] <;> omega
 ·intro x hx;have hx:x∈lM C (gI C C.aA.toNat s).1:=hx;unfold lM at hx;split at hx
  ·rcases List.mem_or_eq_of_mem_set hx with h | h
   ·exact hi x h
   ·have h0:(gI C C.aA.toNat s).1.getD 0 0∈(gI C C.aA.toNat s).1:=by
     rename_i h2
     have:0 < (gI C C.aA.toNat s).1.length:=by rw[hl,h2.2];decide
     rw[List.getD_eq_getElem?_getD,List.getElem?_eq_getElem this];exact List.getElem_mem this
    have:=hi _ h0;omega
  ·exact hi x hx
 ·intro hz h2;show ∃ x,lM C (gI C C.aA.toNat s).1 = [x,-x];rw[h2] at hl ⊢;unfold lM;rw[if_pos ⟨hz,h2⟩];generalize (gI C (2:Int).toNat s).1=l at *;match l,hl with
  | [a,b],_=>exact⟨a,rfl⟩
theorem BD.app {O:List (Nat×Nat)} {V W:List View} {level:Nat} (h:BD O V level):BD O (V++W) level:=fun c x hc=>by
 obtain⟨v,hv,hl⟩:=h c x hc;exact⟨v,qZ hv,hl⟩
theorem yc {C:MC} (hp:0≤C.aA) {O:List (Nat×Nat)} {cr:List Nat} {s t:MS} {level:Nat} {seen:List (List Int)} (h:KM O s.nodes cr) (hl:cr.length=s.infos.length) (hv:VI s.views s.infos) (hn:t.nodes=s.nodes ++ [jE]) (hi:t.infos=s.infos) (hw:t.views=s.views) :
  Grown O cr s (ny C s.nodes.length t)∧Bt C (ny C s.nodes.length t).views (ny C s.nodes.length t).infos (ny C s.nodes.length t).nodes level [seen] [(s.nodes.length:Int)] s.nodes.length (ny C s.nodes.length t).nodes.length:=by
 have ho:=endOk C hp t;obtain⟨a,ha⟩:=vG C t C.aA.toNat;generalize hq:(⟨3,0,0,[],[],lM C (gI C C.aA.toNat t).1⟩:Nd)=q at ho;have e:ny C s.nodes.length t = { t with at':=a,nodes:=t.nodes.set s.nodes.length q }:=by unfold ny;simp only[ha,← hq]
 rw[e];simp only[hn,hi,hw];have hset:(s.nodes ++ [jE]).set s.nodes.length q=s.nodes ++ [q]:=by rw[List.set_append_right _ _ (Nat.le_refl _),Nat.sub_self];rfl
 have hget:(s.nodes ++ [jE])[s.nodes.length]? = some jE:=by rw[List.getElem?_append_right (Nat.le_refl _),Nat.sub_self];rfl
 refine⟨⟨⟨[q],[],[],[],hset,aB,aB,?_,by simpa using hl⟩,hv⟩,?_⟩
 ·rw[List.append_nil];exact h.push.set hget ay fun hk=>by have:=ho.1;omega
 ·rw[hset];have hg:(s.nodes ++ [q])[s.nodes.length]? = some q:=by rw[List.getElem?_append_right (Nat.le_refl _),Nat.sub_self];rfl
  have:=Bt.fin (C:=C) (V:=s.views) (I:=s.infos) (N:=s.nodes ++ [q]) (level:=level) (seen:=seen) hg ho (.nil level _);rw[List.length_append];exact this
structure Opn (level:Nat) (p:Place) (seen:List (List Int)) (O:List (Nat×Nat)) (cr:List Nat) (s:MS) (o:Int×Int×MS):Prop where
 nodes:o.2.2.nodes=s.nodes ++ [jE]
 ex:∃ (P:List (Nat×Nat)) (Iv:List Inf) (Vv:List View) (cv:List Nat),o.2.2.infos=s.infos++Iv∧o.2.2.views=s.views++Vv∧KM P o.2.2.nodes (cr++cv)∧(cr++cv).length=o.2.2.infos.length∧BD P o.2.2.views (level+1) ∧
  (p.aC < 0→P=O)∧(¬ p.aC < 0→∃ x c:Nat,o.1=(x:Int)∧o.2.2.infos[x]? = some ⟨p.aC,o.2.1⟩∧o.2.2.views[x]? = some ⟨p.aC,level,seen.getD p.aC.toNat [],x⟩∧(cr++cv)[x]? = some c∧c≤s.nodes.length∧(P=O∨P=(s.nodes.length,x) :: O))
 vi:VI o.2.2.views o.2.2.infos
 drop:(jR o.1 p.aC o.2.2).nodes=s.nodes ++ [jE]∧(jR o.1 p.aC o.2.2).infos=s.infos∧(jR o.1 p.aC o.2.2).views=s.views
theorem aiU {C:MC} {p:Place} {level:Nat} {seen:List (List Int)} {O:List (Nat×Nat)} {cr:List Nat} {s t:MS} (hj:JM C 0 s) (h:KM O s.nodes cr) (hl:cr.length=s.infos.length) (hv:VI s.views s.infos) (ho:BD O s.views level) (hn:t.nodes=s.nodes ++ [jE]) (hi:t.infos=s.infos) (hw:t.views=s.views) :
  Opn level p seen O cr s (kQ C p (level:Int) seen t):=by
 unfold kQ;by_cases hp:p.aC < 0
 ·rw[if_pos hp];have e:jR 0 p.aC t=t:=by unfold jR;rw[if_pos (.inl hp)]
  refine⟨hn,⟨O,[],[],[],by simp[hi],by simp[hw],by rw[List.append_nil,hn]; exact h.push,by simp[hi,hl],?_,fun _=>rfl,fun h=>absurd hp h⟩,by simp only[hi,hw]; exact hv,by simp only[e]; exact⟨hn,hi,hw⟩⟩;have:=ho.up (W:=[]);rw[List.append_nil] at this;simp only[hw];exact this
 ·rw[if_neg hp];simp only;unfold jB;obtain⟨sl,hsl⟩:=named (seen.getD p.aC.toNat []);rw[← hsl];cases hf:t.views.find? (dH p.aC (level:Int) sl) with
  | some v =>
   simp only;have hm:=List.mem_of_find?_eq_some hf;have hs:=List.find?_some hf;rw[hw] at hm;obtain⟨x,hx⟩:=List.getElem?_of_mem hm;have hvi:=hj.vi x v hx;unfold dH at hs;simp only[Bool.and_eq_true,decide_eq_true_eq] at hs;obtain⟨⟨s1,s2⟩,s3⟩:=hs;obtain⟨v1,v2,v3,v4⟩:=v;simp only at s1 s2 s3 hvi;subst s1 s2 s3 hvi;obtain⟨f,hfx,hfp⟩:=hv x _ hx;obtain⟨f1,f2⟩:=f;simp only at hfp;subst hfp;have hxc:x < cr.length:=by rw[hl];exact lt_of_get hfx
   obtain⟨c,hc⟩:=getSome hxc;have hst:∃ n,s.nodes[c]? = some n∧n.kind=2∧n.info=x:=by
    rcases h.has x c hc with h1 | h1
    ·exact h1
    ·obtain⟨v,hv1,hv2⟩:=ho c x h1;rw[hx] at hv1;cases hv1;simp only at hv2;omega
   have hcl:=h.lt c (List.mem_of_getElem? hc);have e:jR (x:Int) p.aC t=t:=by
    refine aaN (List.any_eq_true.2 ?_);obtain⟨n,n1,n2,n3⟩:=hst;exact⟨n,by rw[hn]; exact List.mem_append_left _ (List.mem_of_getElem? n1),by simp[jI,n2,n3]⟩
   have ea:(t.infos.getD x default).actions=f2:=by rw[hi,List.getD_eq_getElem?_getD,hfx];rfl
   refine⟨hn,⟨O,[],[],[],by simp[hi],by simp[hw],by rw[List.append_nil,hn]; exact h.push,by simp[hi,hl],?_,fun h=>absurd h hp,fun _=>?_⟩,by simp only[hi,hw]; exact hv,by simp only[e]; exact⟨hn,hi,hw⟩⟩
   ·have:=ho.up (W:=[]);rw[List.append_nil] at this;simp only[hw];exact this
   ·refine⟨x,c,rfl,?_,by simp only[hw]; rw[← hsl]; exact hx,by simpa using hc,byOmega,.inl rfl⟩;show t.infos[x]? = some ⟨p.aC,(t.infos.getD x default).actions⟩;rw[ea,hi];exact hfx
  | none =>
   simp only;have ea:((t.infos ++ [(⟨p.aC,1+dw C.L t.at' 3⟩:Inf)]).getD t.infos.length default).actions=1+dw C.L t.at' 3:=by rw[List.getD_eq_getElem?_getD,List.getElem?_append_right (Nat.le_refl _),Nat.sub_self];rfl
   have hvl:=hj.vl;have hno:t.nodes.any (jI (t.infos.length:Int))=false:=by
    rw[List.any_eq_false];intro n hmem hu;rw[hn] at hmem;unfold jI at hu;simp only[Bool.and_eq_true,decide_eq_true_eq] at hu;rcases List.mem_append.1 hmem with hmem | hmem
    ·obtain⟨j,hj⟩:=List.getElem?_of_mem hmem;obtain⟨x,c,h1,h2,_⟩:=h.by' j n hj hu.1;have:=lt_of_get h2;rw[hi] at hu;omega
    ·rw[List.mem_singleton.1 hmem] at hu;exact absurd hu.1 ay
   refine⟨hn,⟨(s.nodes.length,cr.length) :: O,[⟨p.aC,1+dw C.L t.at' 3⟩],[⟨p.aC,level,sl,t.infos.length⟩],[s.nodes.length],by show t.infos ++ [(⟨p.aC,1+dw C.L t.at' 3⟩:Inf)]=s.infos ++ [⟨p.aC,1+dw C.L t.at' 3⟩]; rw[hi],by show t.views ++ [(⟨p.aC,level,sl,t.infos.length⟩:View)]=s.views ++ [⟨p.aC,level,sl,t.infos.length⟩]; rw[hw],?_,by show _=(t.infos ++ [(⟨p.aC,1+dw C.L t.at' 3⟩:Inf)]).length; simp[hi,hl],?_,fun h=>absurd h hp,fun _=>⟨t.infos.length,s.nodes.length,rfl,?_,?_,?_,Nat.le_refl _,.inr (by rw[hi,hl])⟩⟩,?_,?_⟩
   ·show KM _ t.nodes _;rw[hn];exact h.make
   ·show BD _ (t.views ++ [⟨p.aC,level,sl,t.infos.length⟩]) (level+1);intro c x hc;rcases List.mem_cons.1 hc with hc | hc
    ·cases hc;refine⟨⟨p.aC,level,sl,t.infos.length⟩,?_,by show(level:Int) < ((level+1:Nat):Int); omega⟩;rw[List.getElem?_append_right (by rw[hw,hvl,hl]; exact Nat.le_refl _),hw,hvl,hl,Nat.sub_self];rfl
    ·have:=(ho.up (W:=[⟨p.aC,level,sl,t.infos.length⟩])) c x hc;rw[hw];exact this
   ·simp only[Int.toNat_natCast,MS.draw,ea];rw[List.getElem?_append_right (Nat.le_refl _),Nat.sub_self];rfl
   ·show(t.views ++ [(⟨p.aC,level,sl,t.infos.length⟩:View)])[t.infos.length]? = _;rw[← hsl,List.getElem?_append_right (by rw[hw,hvl,hi]; exact Nat.le_refl _),hw,hvl,hi,Nat.sub_self];rfl
   ·rw[List.getElem?_append_right (by rw[hi,hl]; exact Nat.le_refl _),hi,hl,Nat.sub_self];rfl
   ·show VI (t.views ++ [⟨p.aC,level,sl,t.infos.length⟩]) (t.infos ++ [⟨p.aC,1+dw C.L t.at' 3⟩]);intro x v hx;by_cases hxl:x < t.views.length
    ·rw[List.getElem?_append_left hxl,hw] at hx;obtain⟨f,hf1,hf2⟩:=hv x v hx;exact⟨f,by rw[hi]; exact qZ hf1,hf2⟩
    ·rw[List.getElem?_append_right byOmega] at hx;have e1:x - t.views.length < 1:=lt_of_get hx;have e2:x=t.infos.length:=by rw[hw] at e1 hxl;rw[hi];omega
     have e3:x - t.views.length=0:=byOmega;rw[e3] at hx;simp at hx;subst hx;exact⟨⟨p.aC,1+dw C.L t.at' 3⟩,by rw[e2,List.getElem?_append_right (Nat.le_refl _),Nat.sub_self]; rfl,rfl⟩
   ·unfold jR;rw[if_neg (by simp[MS.draw]; omega)];rw[if_neg (by simp only[MS.draw]; rw[hno]; simp)];refine⟨hn,?_,?_⟩
    ·simp[MS.draw,hi]
    ·simp[MS.draw,hw]
theorem Grown.refl {O:List (Nat×Nat)} {cr:List Nat} {s:MS} (h:KM O s.nodes cr) (hl:cr.length=s.infos.length) (hv:VI s.views s.infos):Grown O cr s s:=⟨⟨[],[],[],[],aB,aB,aB,by simpa using h,by simpa using hl⟩,hv⟩
structure Sub (C:MC) (O:List (Nat×Nat)) (cr:List Nat) (level:Nat) (ss:List (List (List Int))) (cs:List Int) (s r:MS):Prop where
 j:JM C 0 r
 grown:Grown O cr s r
 bt:Bt C r.views r.infos r.nodes level ss cs s.nodes.length r.nodes.length
theorem aeg {C:MC} {rec:List (List Int)→MS→Nat×MS} {p:Place} {seen:List (List Int)} {level n:Nat} {O:List (Nat×Nat)} (hs:∀ l∈seen,l.length=n)
  (hrec:∀ sn s cr,(∀ l∈sn,l.length=n+1)→JM C 0 s→1≤s.pending→KM O s.nodes cr→cr.length=s.infos.length→VI s.views s.infos→BD O s.views level →
   (rec sn s).1=s.nodes.length∧(rec sn s).2.pending=s.pending - 1∧Sub C O cr level [sn] [(s.nodes.length:Int)] s (rec sn s).2) :
  ∀ (k:Nat) (s:MS) (cr:List Nat),JM C 0 s→(k:Int)≤s.pending→KM O s.nodes cr→cr.length=s.infos.length→VI s.views s.infos→BD O s.views level →
   (dA C rec p seen k s).s.pending=s.pending - k∧Sub C O cr level ((List.range k).map fun i=>gV p i seen) (dA C rec p seen k s).next s (dA C rec p seen k s).s∧(dA C rec p seen k s).next.length=k∧(p.aC < 0→(dA C rec p seen k s).weights.length=k∧∀ x∈(dA C rec p seen k s).weights,1≤x∧x≤3)∧(¬ p.aC < 0→(dA C rec p seen k s).weights = [])
 | 0,s,cr,hj,hk,h,hl,hv,ho=>⟨by simp[dA],⟨hj,Grown.refl h hl hv,.nil _ _⟩,rfl,fun _=>⟨rfl,fun _ h=>by cases h⟩,fun _=>rfl⟩
 | k+1,s,cr,hj,hk,h,hl,hv,ho=>by
  obtain⟨i1,⟨i2,i3,i4⟩,i5,i6,i7⟩:=aeg hs hrec k s cr hj byOmega h hl hv ho;have e:dA C rec p seen (k+1) s=(let r:=dA C rec p seen k s
   let d:=if p.aC < 0 then (r.weights ++ [1+(r.s.draw C 3).1],(r.s.draw C 3).2) else (r.weights,r.s)
   let c:=rec (gV p k seen) d.2
   ⟨d.1,r.next ++ [(c.1:Int)],c.2⟩):=rfl
  rw[e];generalize dA C rec p seen k s=r at *;obtain⟨ws,nx,q⟩:=r;simp only at i1 i2 i3 i4 i5 i6 i7 ⊢;obtain⟨w2,a,hd,hw1,hw2⟩:∃ w2 a,(if p.aC < 0 then (ws ++ [1+(q.draw C 3).1],(q.draw C 3).2) else (ws,q))=(w2,{ q with at':=a })∧(p.aC < 0→w2.length=k+1∧∀ x∈w2,1≤x∧x≤3)∧(¬ p.aC < 0→w2 = []):=by
   by_cases hp:p.aC < 0
   ·refine⟨_,cZ C.L q.at',if_pos hp,fun _=>⟨by simp[(i6 hp).1],fun x hx=>?_⟩,fun h=>absurd hp h⟩;rcases List.mem_append.1 hx with hx | hx
    ·exact(i6 hp).2 x hx
    ·rw[List.mem_singleton.1 hx];have:=iw C.L q.at' (n:=3) ay;have e3:(q.draw C 3).1=dw C.L q.at' 3:=rfl;omega
   ·exact⟨ws,q.at',if_neg hp,fun h=>absurd h hp,i7⟩
  rw[hd];simp only;obtain⟨T,Iv,Vv,cv,g1,g2,g3,g4,g5⟩:=i3.grow;obtain⟨j1,j2,j3⟩:=hrec (gV p k seen) { q with at':=a } (cr++cv) (uo hs) (i2.at a) (by show 1≤q.pending; omega) g4 g5 i3.vi (by show BD O q.views level; rw[g3]; exact ho.app);obtain⟨k2,k3,k4⟩:=j3;have k2':=k3.grow;obtain⟨T',Iv',Vv',cv',n1,n2,n3,n4,n5⟩:=k2';refine⟨?_,⟨k2,⟨⟨T++T',Iv++Iv',Vv++Vv',cv++cv',?_,?_,?_,?_,?_⟩,k3.vi⟩,?_⟩,by simp[i5],hw1,hw2⟩
  ·rw[j2];show q.pending - 1=_;omega
  ·rw[n1];show q.nodes++T'=_;rw[g1,List.append_assoc]
  ·rw[n2];show q.infos++Iv'=_;rw[g2,List.append_assoc]
  ·rw[n3];show q.views++Vv'=_;rw[g3,List.append_assoc]
  ·rw[← List.append_assoc];exact n4
  ·rw[← List.append_assoc];exact n5
  ·rw[j1,List.range_succ,List.map_append];refine Bt.snoc ?_ k4;rw[n1,n2,n3];exact i4.app (Nat.le_refl _)
theorem yg {C:MC} (hC:BH C) (hpl:0≤C.aA):∀ (f level:Nat) (seen:List (List Int)) (s:MS) (O:List (Nat×Nat)) (cr:List Nat),level+f=C.levels.length+1→level≤C.levels.length→(∀ l∈seen,l.length=level)→JM C 0 s→1≤s.pending→KM O s.nodes cr→cr.length=s.infos.length→VI s.views s.infos→BD O s.views level →
  (bQ C f level seen s).1=s.nodes.length∧(bQ C f level seen s).2.pending=s.pending - 1∧Sub C O cr level [seen] [(s.nodes.length:Int)] s (bQ C f level seen s).2
 | 0,level,seen,s,O,cr,hf,hl,_,_,_,_,_,_,_=>by omega
 | f+1,level,seen,s,O,cr,hf,hl,hs,hj,hp,h,hcl,hv,ho=>by
  have hJ:=zF hC (f+1) level seen s hf hl hs hj hp;have h1:=hj.push hp;suffices hh:(bQ C (f+1) level seen s).1=s.nodes.length∧Grown O cr s (bQ C (f+1) level seen s).2∧Bt C (bQ C (f+1) level seen s).2.views (bQ C (f+1) level seen s).2.infos (bQ C (f+1) level seen s).2.nodes level [seen] [(s.nodes.length:Int)] s.nodes.length (bQ C (f+1) level seen s).2.nodes.length from
   ⟨hh.1,hJ.2.1,hJ.1,hh.2.1,hh.2.2⟩
  clear hJ;unfold bQ;simp only;split
  ·exact⟨rfl,yc hpl h hcl hv rfl rfl rfl⟩
  rename_i hne
  have hlv:level < C.levels.length:=byOmega;split
  ·exact⟨rfl,yc hpl h hcl hv rfl rfl rfl⟩
  have hpp:=hC.pl _ (getD_mem (L:=C.levels) (k:=level) byOmega);have h5:=hC.len;obtain⟨o1,o2,o3,o4,o5,o6⟩:=JM.open (h1.at (cZ C.L s.at')) (C.levels.getD level default) byOmega (level:Int) seen (fun l hl=>by rw[hs l hl]; omega);have hop:=aiU (C:=C) (p:=C.levels.getD level default) (level:=level) (seen:=seen) (t:={ s with at':=cZ C.L s.at',pending:=s.pending - 1,nodes:=s.nodes ++ [jE] }) hj h hcl hv ho rfl rfl rfl;obtain⟨S,hS⟩:=named (kQ C (C.levels.getD level default) (level:Int) seen { s with at':=cZ C.L s.at',pending:=s.pending - 1,nodes:=s.nodes ++ [jE] });have e:kQ C (C.levels.getD level default) (level:Int) seen (MS.draw C { s with pending:=s.pending - 1,nodes:=s.nodes ++ [jE] } 8).2=S:=hS.symm;rw[e];rw[← hS] at o1 o2 o3 o4 o5 o6 hop;clear hS e;split
  ·exact⟨rfl,yc hpl h hcl hv hop.drop.1 hop.drop.2.1 hop.drop.2.2⟩
  rename_i hm
  obtain⟨P,Iv,Vv,cv,g1,g2,g3,g4,g5,g6,g7⟩:=hop.ex;have hn:=hop.nodes;have o2:S.2.2.pending=s.pending - 1:=o2;rw[o2] at hm;have j4:JM C 0 { S.2.2 with pending:=S.2.2.pending+S.2.1 }:=⟨o1.vl,o1.vi,o1.il,by
   show(S.2.2.nodes.length:Int)+(S.2.2.pending+S.2.1)≤C.most;rw[hn,o2]; simp; omega,by
   show 0≤S.2.2.pending+S.2.1;have:=o1.p0; omega,o1.vs,o1.ac⟩
  obtain⟨k1,⟨k2,k3,k4⟩,k5,k6,k7⟩:=aeg (C:=C) (rec:=bQ C f (level+1)) (p:=C.levels.getD level default) (level:=level+1) (O:=P) hs (fun sn t cr' hsn ht hpt hk' hl' hv' ho' =>
   yg hC hpl f (level+1) sn t P cr' byOmega byOmega hsn ht hpt hk' hl' hv' ho') S.2.1.toNat { S.2.2 with pending:=S.2.2.pending+S.2.1 } (cr++cv) j4 (by show(S.2.1.toNat:Int)≤S.2.2.pending+S.2.1; have:=o1.p0; omega) g3 g4 hop.vi g5
  refine⟨rfl,?_⟩;generalize dA C (bQ C f (level+1)) (C.levels.getD level default) seen S.2.1.toNat { S.2.2 with pending:=S.2.2.pending+S.2.1 } = r at *;obtain⟨ws,nx,q⟩:=r;simp only at k1 k2 k3 k4 k5 k6 k7 ⊢;obtain⟨T,Jv,Wv,dv,n1,n2,n3,n4,n5⟩:=k3.grow;have n1:q.nodes=s.nodes ++ [jE]++T:=by rw[n1]; show S.2.2.nodes++T=_; rw[hn]
  have n2:q.infos=S.2.2.infos++Jv:=n2;have n3:q.views=S.2.2.views++Wv:=n3;have k4:Bt C q.views q.infos q.nodes (level+1) ((List.range S.2.1.toNat).map fun i=>gV (C.levels.getD level default) i seen) nx S.2.2.nodes.length q.nodes.length:=k4;rw[hn,List.length_append] at k4;have hget:q.nodes[s.nodes.length]? = some jE:=by rw[n1,List.append_assoc,List.getElem?_append_right (Nat.le_refl _),Nat.sub_self]; rfl
  obtain⟨H,hH⟩:=named (iV (C.levels.getD level default) S.1 ws nx);rw[← hH];have hHn:H.next=nx:=by rw[hH]; unfold iV; split <;> rfl
  have hHp:H.pay = []:=by rw[hH]; unfold iV; split <;> rfl
  have hset:q.nodes.set s.nodes.length H=s.nodes++(H :: T):=by
   rw[n1,List.append_assoc,List.set_append_right _ _ (Nat.le_refl _),Nat.sub_self];rfl
  have hkind:H.kind=2→∃ x c:Nat,H.info=x∧(cr++cv++dv)[x]? = some c∧c≤s.nodes.length:=fun hk=>by
   by_cases hp0:(C.levels.getD level default).aC < 0
   ·rw[hH] at hk;unfold iV at hk;rw[if_pos hp0] at hk;cases hk
   ·obtain⟨x,c,x1,_,_,x4,x5,_⟩:=g7 hp0;exact⟨x,c,by rw[hH]; unfold iV; rw[if_neg hp0]; exact x1,qZ x4,x5⟩
  have hK:=n4.set hget ay hkind;have hK2:KM O (q.nodes.set s.nodes.length H) (cr++cv++dv):=by
   by_cases hp0:(C.levels.getD level default).aC < 0
   ·rw[g6 hp0] at hK;exact hK
   ·obtain⟨x,c,x1,_,_,x4,x5,x6⟩:=g7 hp0;rcases x6 with x6 | x6
    ·rw[x6] at hK;exact hK
    ·rw[x6] at hK;exact hK.close (List.getElem?_set_self (lt_of_get hget)) (by rw[hH]; unfold iV; rw[if_neg hp0]) (by rw[hH]; unfold iV; rw[if_neg hp0]; exact x1)
  have hmid:Dq C q.views q.infos level seen H:=by
   have ho5:1≤S.2.1.toNat∧S.2.1.toNat≤3:=by clear hK hK2 hkind n4 k3 k4;omega
   refine⟨hlv,by rw[hHn,k5]; exact ho5.1,by rw[hHn,k5]; exact ho5.2,hHp,?_⟩;by_cases hp0:(C.levels.getD level default).aC < 0
   ·refine .inl ⟨hp0,?_⟩;rw[hHn,hH];unfold iV;rw[if_pos hp0];exact⟨rfl,rfl,rfl,by rw[k5]; exact(k6 hp0).1,(k6 hp0).2⟩
   ·obtain⟨x,c,x1,x2,x3,_⟩:=g7 hp0;have hpl2:H.aC=(C.levels.getD level default).aC:=by rw[hH];unfold iV;rw[if_neg hp0]
    refine .inr ⟨Int.not_lt.1 hp0,by rw[hH]; unfold iV; rw[if_neg hp0],hpl2,by rw[hH]; unfold iV; rw[if_neg hp0]; exact k7 hp0,x,by rw[hH]; unfold iV; rw[if_neg hp0]; exact x1,?_,?_⟩
    ·have hS2:((S.2.1.toNat:Nat):Int)=S.2.1:=Int.toNat_of_nonneg (Int.le_trans ay o5);rw[hHn,k5,hpl2,n2,qZ x2,hS2]
    ·rw[hpl2,n3];exact qZ x3
  refine⟨⟨⟨H :: T,Iv++Jv,Vv++Wv,cv++dv,hset,by rw[n2,g1,List.append_assoc],by rw[n3,g2,List.append_assoc],by rw[← List.append_assoc]; exact hK2,by rw[← List.append_assoc]; exact n5⟩,k3.vi⟩,?_⟩;rw[List.length_set];refine Bt.mid (n:=H) (m:=q.nodes.length) (by exact List.getElem?_set_self (lt_of_get hget)) hmid ?_ (.nil _ _);rw[hHn,k5];exact k4.grow (fun i h1 _=>List.getElem?_set_ne (by simp at h1; omega)) fun i n x p q _ _ _ _ _ h1 h2=>⟨h1,h2⟩
theorem nC (L:List Int) {aA:Int} (hp:0≤aA):∀ (k a:Nat),(dR L aA k a).1.length=k∧∀ p∈(dR L aA k a).1,p.aC < aA∧-1≤p.aC∧2≤p.many∧p.many≤3∧0≤p.seen∧p.seen≤15
 | 0,a=>⟨rfl,fun _ h=>by cases h⟩
 | k+1,a=>by
  obtain⟨h1,h2⟩:=nC L hp k a;unfold dR;simp only;refine⟨by simp[h1],fun p hpm=>?_⟩;rcases List.mem_append.1 hpm with h | h
  ·exact h2 p h
  ·rw[List.mem_singleton.1 h];have d1:=iw L (dR L aA k a).2 (n:=aA+1) byOmega;have d2:=iw L (cZ L (dR L aA k a).2) (n:=2) ay;have d3:=iw L (cZ L (cZ L (dR L aA k a).2)) (n:=16) ay;simp only;omega
structure BF (C:MC) (V:List View) (cr:List Nat) (g:Gm):Prop where
 places:BH C
 aA:C.aA=g.aA
 bt:Bt C V g.infos g.nodes 0 [List.replicate g.aA.toNat []] [(0:Int)] 0 g.nodes.length
 km:KM [] g.nodes cr
 len:cr.length=g.infos.length
 vi:VI V g.infos
 most:(g.nodes.length:Int)≤C.most
 many:g.infos.length≤g.nodes.length
theorem aiV (L:List Int) {aA most:Int} (zero:Bool) (hp:1≤aA) (hm:1≤most):∃ C V cr,BF C V cr (pW L aA most zero)∧C.zero=zero∧C.most=most:=by
 refine ZL ?_;intro hl hpl hd hC hJ h1 h2 h3;obtain⟨T,Iv,Vv,cv,g1,g2,g3,g4,g5⟩:=h3.grown.grow;refine⟨_,_,cv,⟨hC,rfl,h3.bt,?_,?_,h3.grown.vi,?_,?_⟩,rfl,rfl⟩
 ·exact g4
 ·exact g5
 ·have:=h3.j.np;have:=h3.j.p0;show((bQ _ _ _ _ _).2.nodes.length:Int)≤_;omega
 ·exact h3.j.il
theorem yV {aA:Int} {ni:Nat}:∀ {l:List Nd},(∀ x∈l,eH aA ni x=0)→dG aA ni l=0
 | [],_=>rfl
 | y :: l,h=>by
  unfold dG;rw[if_neg (by simpa using h y aB)];exact yV fun x hx=>h x (List.mem_cons_of_mem _ hx)
theorem acS {nodes:List Nd} {s c k:Nat} (hc:c < k) (hm:mv nodes s c=true) (hn:∀ i,i < c→mv nodes s i=false):∃ l,bJ nodes s k=(c:Int) :: l:=by
 unfold bJ;have e:List.range k=List.range c++(c :: List.range' (c+1) (k - c - 1)):=by
  rw[List.range_eq_range',List.range_eq_range',← List.range'_succ,show k - c - 1+1=k - c by omega];have:=List.range'_append_1 (s:=0) (m:=c) (n:=k - c);rw[Nat.zero_add,show c+(k - c)=k by omega] at this;exact this.symm
 have e2:(List.range c).filter (mv nodes s) = []:=by
  rw[List.filter_eq_nil_iff];intro i hi;rw[hn i (List.mem_range.1 hi)];simp
 rw[e,List.filter_append,e2,List.nil_append,List.filter_cons_of_pos hm];exact⟨_,rfl⟩
section
variable {C:MC} {V:List View} {cr:List Nat} {g:Gm}
theorem BF.node (h:BF C V cr g) {n:Nd} (hn:n∈g.nodes):DK C n∨∃ l seen,Dq C V g.infos l seen n:=by
 obtain⟨i,hi⟩:=List.getElem?_of_mem hn;exact h.bt.node i n (Nat.zero_le _) (lt_of_get hi) hi
theorem BF.pos (h:BF C V cr g):0 < g.nodes.length:=by
 have:=h.bt.span;cases this with
 | cons hn _ _=>exact lt_of_get hn
theorem agC {lo hi:Int} {l:List Int} (h:∀ x∈l,lo≤x∧x≤hi):outside lo hi l=false:=by
 unfold outside;rw[List.any_eq_false];intro x hx;have:=h x hx;simp;omega
theorem BF.first (h:BF C V cr g) {x c:Nat} (hc:cr[x]? = some c):∃ l,bJ g.nodes x g.nodes.length=(c:Int) :: l:=by
 obtain⟨n,n1,n2,n3⟩:=(h.km.has x c hc).resolve_right aB;refine acS (lt_of_get n1) (by unfold mv; rw[n1]; simp[n2,n3]) fun i hi=>?_
 cases hm:mv g.nodes x i with
 | false=>rfl
 | true =>
  unfold mv at hm;cases hg:g.nodes[i]? with
  | none=>rw[hg] at hm; cases hm
  | some n' =>
   rw[hg] at hm;simp only[Bool.and_eq_true,decide_eq_true_eq] at hm;obtain⟨y,d,y1,y2,y3⟩:=h.km.by' i n' hg hm.1;have:y=x:=byOmega;subst this;rw[hc] at y2;cases y2;omega
theorem BF.form (h:BF C V cr g) (hp1:1≤g.aA) (hp4:g.aA≤4) (hm:C.most≤200):bP g=0:=by
 have hpos:=h.pos;have hmo:=h.most;have hma:=h.many;have hne:dG g.aA g.infos.length g.nodes=0:=by
  refine yV fun n hn=>?_
  rcases h.node hn with he | ⟨l,seen,hmid⟩
  ·obtain⟨e1,e2,e3,e4,e5,e6,e7,_⟩:=he;unfold eH jS;rw[if_neg byOmega,if_neg byOmega,if_pos e1,e4,e5,if_neg (by rw[← h.aA]; simp[e2,e3,e6]),agC fun x hx=>by have:=e7 x hx; omega];rfl
  ·obtain⟨m1,m2,m3,m4,m5⟩:=hmid;have hpp:=h.places.pl _ (getD_mem (L:=C.levels) (k:=l) m1);rcases m5 with⟨a0,a1,a2,a3,a4,a5⟩ | ⟨a0,a1,a2,a3,x,a4,a5,a6⟩
   ·unfold eH dI;rw[if_pos a1,m4,if_neg (by rintro(h | h | h | h | h | h) <;> first | omega | exact h a2 | exact h a3 | exact h a4 | (simp at h)),agC fun x hx=>by have:=a5 x hx; omega];rfl
   ·have:=lt_of_get a5;unfold eH gW;rw[if_neg byOmega,if_pos a1,m4,a3,if_neg (by rintro(h | h | h | h) <;> first | omega | (simp at h)),if_neg (by have:=h.aA; omega)]
 have hw:=h.bt.walk (g.nodes.length+1) 0 0 byOmega (Nat.zero_le _) byOmega byOmega;have hw2:(gy g.nodes (g.nodes.length+1) 0 0 0).1=g.nodes.length∧(gy g.nodes (g.nodes.length+1) 0 0 0).2≤40:=by
  have h5:=h.places.len;unfold dJ at hw;rw[if_neg aB] at hw;have e0:((0:Nat):Int).toNat=0:=rfl;rw[e0] at hw;split at hw
  ·omega
  ·unfold dJ at hw;exact⟨hw.1,by have:=hw.2.2; omega⟩
 have hin:BI g:=qN hne;have ht:qM g=false:=by
  unfold qM;rw[List.any_eq_false];intro n hn hb;unfold gB at hb;rcases h.node hn with he | ⟨l,seen,m1,m2,m3,m4,m5⟩
  ·have:=he.1;simp[this] at hb
  ·rcases m5 with⟨a0,a1,_⟩ | ⟨a0,a1,a2,a3,x,a4,a5,a6⟩
   ·simp[a1] at hb
   ·rw[a4,Int.toNat_natCast,List.getD_eq_getElem?_getD,a5] at hb;simp at hb
 have hset:∀ x,x < g.infos.length→∃ c l,cr[x]? = some c∧(fJ g)[x]? = some ((c:Int) :: l):=fun x hx=>by
  obtain⟨c,hc⟩:=getSome (l:=cr) (k:=x) (by rw[h.len]; exact hx);obtain⟨l,hl⟩:=h.first hc;exact⟨c,l,hc,by rw[iG hin hx,hl]⟩
 have hno:nN (fJ g)=false:=by
  unfold nN;rw[List.any_eq_false];intro l hl hb;obtain⟨x,hx⟩:=List.getElem?_of_mem hl;have hlen:(fJ g).length=g.infos.length:=fU _ _ _;obtain⟨c,l',_,h2⟩:=hset x (by rw[← hlen]; exact lt_of_get hx);rw[hx] at h2;cases h2;simp at hb
 have hfi:jF (fJ g) g.infos.length=false:=by
  unfold jF;rw[List.any_eq_false];intro i hi hb;rw[List.mem_range'_1] at hi;obtain⟨c,l,c1,c2⟩:=hset i byOmega;obtain⟨d,l',d1,d2⟩:=hset (i - 1) byOmega;unfold oH at hb;rw[List.getD_eq_getElem?_getD (l:=fJ g),c2,List.getD_eq_getElem?_getD (l:=fJ g),d2] at hb;simp at hb;have hpw:=h.km.up;rw[List.pairwise_iff_getElem] at hpw;have:=hpw (i - 1) i (lt_of_get d1) (lt_of_get c1) byOmega;rw[List.getElem?_eq_getElem (lt_of_get c1)] at c1;rw[List.getElem?_eq_getElem (lt_of_get d1)] at d1;injection c1 with c1;injection d1 with d1
  omega
 unfold bP;rw[if_neg (by unfold jU; omega),if_neg (by simpa using hne),if_neg (by simpa using hw2.1),if_neg byOmega];unfold nO;rw[if_neg (by simp[ht]),if_neg (by simp[hno]),if_neg (by simp[hfi])]
end
def ET (w:World) (_:Foot) (b o:Nat) (x:Int×Int):Prop:=w.cell? ⟨b,o,none⟩=some (.int .i64 x.1)∧w.cell? ⟨b,o+1,none⟩=some (.int .i64 x.2)
def AB (w:World) (F:Foot) (v:Value) (l:List (Int×Int)):Prop:=BN 2 ET w F v l
theorem AB.keep {w w':World} {F G:Foot} {v:Value} {l:List (Int×Int)} (h:AB w F v l) (hFG:∀ b,F b→b < w.heap.size→G b) (hs:Same F w w'):AB w' G v l :=
 BN.keep h hFG hs.size fun _ _ _ _ hb hl hx=>⟨by rw[hs.cell hb hl]; exact hx.1,by rw[hs.cell hb hl]; exact hx.2⟩
theorem AB.on {w w':World} {F:Foot} {v:Value} {l:List (Int×Int)} (h:AB w F v l) (hs:Same F w w'):AB w' F v l:=h.keep (fun _ h _=>h) hs
theorem AB.nil (w:World) (F:Foot):AB w F (.slice none 0 0) []:=⟨none,0,rfl,Nat.le_refl _,fun h=>absurd h aB⟩
def aeh:Knd (Int×Int) where
 n:=2
 cells q:=[.int .i64 q.1,.int .i64 q.2]
 fine _ _ _:=True
 len _:=rfl
 pos:=ay
 one _ u hu:=by
  simp only[List.mem_cons,List.not_mem_nil,or_false] at hu;rcases hu with rfl | rfl <;> rfl
 keep _ _ _:=trivial
theorem AB.open {w:World} {F:Foot} {v:Value} {l:List (Int×Int)} (h:AB w F v l):∃ A c,v = .slice A l.length c:=by
 obtain⟨A,c,h,_⟩:=h;exact⟨A,c,h⟩
theorem Tryz.infoPair:(Tryz.prog.info? 141).map (fun i=>(i.zero,i.size,i.bytes))=some (some (.agg #[.int .i64 0,.int .i64 0]),2,16):=ah
theorem Tryz.infoViewK:(Tryz.prog.info? 184).map (fun i=>(i.zero,i.size,i.bytes))=some (some (.agg #[.int .i64 0,.int .i64 0,.slice none 0 0,.int .i64 0]),aea.n,48):=ah
theorem Tryz.infoInfK:(Tryz.prog.info? 37).map (fun i=>(i.zero,i.size,i.bytes))=some (some (.agg #[.int .i64 0,.int .i64 0]),aiT.n,16):=ah
def Up (W:World) (v v':Value):Prop:=∀ b,v'.ownBlock=some b→v.ownBlock=some b∨W.heap.size≤b
theorem Up.refl (W:World) (v:Value):Up W v v:=fun _ h=>.inl h
theorem yX {W:World} {mb db:Nat} {vv vn vi vv' vn' vi':Value} (h1:Up W vv vv') (h2:Up W vn vn') (h3:Up W vi vi') {i:Nat} (hi:i < W.heap.size) (h:Mut mb db vv' vn' vi' i):Mut mb db vv vn vi i:=by
 rcases h with h | h | h | h | h
 ·exact .inl h
 ·exact .inr (.inl h)
 ·exact .inr (.inr (.inl ((h1 i h).resolve_right byOmega)))
 ·exact .inr (.inr (.inr (.inl ((h2 i h).resolve_right byOmega))))
 ·exact .inr (.inr (.inr (.inr ((h3 i h).resolve_right byOmega))))
theorem aiW {W wn:World} {v:Value} {g n cap:Nat} (h:v.ownBlock=some g∨wn.heap.size≤g) (hs:W.heap.size≤wn.heap.size):Up W v (.slice (some ⟨g,0,none⟩) n cap):=fun b hb=>by
 have e:some g=some b:=hb;cases e
 exact h.imp id fun h=>by omega
def More (C:MC) (M:ML) (Fd:Foot) (vv vn vi:Value) (Ln:List NV) (s:MS) (W w':World):Prop:=∃ vv' vi' Lv',Up W vv vv'∧Up W vi vi'∧MAt C M Fd vv' vn vi' Lv' Ln s w'∧Wrote (Mut M.mb M.db vv vn vi) W w'
theorem yh {f:View→Bool} {Ln:List VV} {k:Nat} {q:VV} (h:∀ j p,j < k→Ln[j]? = some p→f p.v=false) (hq:Ln[k]? = some q) (hf:f q.v=false):∀ j p,j < k+1→Ln[j]? = some p→f p.v=false:=fun j p hj hp=>by
 by_cases e:j=k
 ·subst e; rw[hq] at hp; cases hp; exact hf
 ·exact h j p byOmega hp
theorem ahq {C:MC} {aC level:Int} {seen:List Int} {s:MS} {Lv:List VV} (hv:Lv.map VV.v=s.views) {k:Nat} {q:VV} (hq:Lv[k]? = some q) (hs:dH aC level seen q.v=true) (hno:∀ j p,j < k→Lv[j]? = some p→dH aC level seen p.v=false):jB C aC level seen s=(q.v.info,s):=by
 have e:s.views.find? (dH aC level seen)=some q.v:=by
  rw[← hv];clear hv;induction Lv generalizing k with
  | nil=>cases hq
  | cons p L ih =>
   cases k with
   | zero=>simp at hq; subst hq; simp[List.find?_cons,hs]
   | succ k =>
    rw[List.map_cons,List.find?_cons,hno 0 p byOmega rfl];exact ih (k:=k) (by simpa using hq) fun j x hj hx=>hno (j+1) x byOmega (by simpa using hx)
 unfold jB;rw[e]
theorem ahr {C:MC} {aC level:Int} {seen:List Int} {s:MS} {Lv:List VV} (hv:Lv.map VV.v=s.views) (hno:∀ j p,j < Lv.length→Lv[j]? = some p→dH aC level seen p.v=false) :
  jB C aC level seen s=((s.infos.length:Int),{ (({ s with views:=s.views ++ [⟨aC,level,seen,s.infos.length⟩] }:MS).draw C 3).2 with infos:=s.infos ++ [⟨aC,1+dw C.L s.at' 3⟩] }):=by
 have e:s.views.find? (dH aC level seen)=none:=by
  rw[← hv,List.find?_eq_none];intro v hv';obtain⟨q,hq,rfl⟩:=List.mem_map.1 hv';obtain⟨j,hj,e⟩:=List.mem_iff_getElem.1 hq;rw[hno j q hj (by rw[← e]; exact List.getElem?_eq_getElem hj)];simp
 unfold jB;rw[e];rfl
theorem ahs {C:MC} {M:ML} {Fd:Foot} {vv vn vi:Value} {Lv:List VV} {Ln:List NV} {s:MS} {W:World} (h:MAt C M Fd vv vn vi Lv Ln s W) (aC level:Int) (sv:Value) (seen:List Int) (hs:AA W Fd sv seen) (hsl:seen.length < 1000000) (hvs:∀ v∈s.views,v.seen.length < 1000000) (hil:s.infos.length≤900000) (hvl:s.views.length≤900000) :
  Calls Tryz.prog 89 #[.pointer (some ⟨M.mb,0,none⟩),.int .i64 aC,.int .i64 level,sv] W fun e w'=>e = .returned (.int .i64 (jB C aC level seen s).1)∧More C M Fd vv vn vi Ln (jB C aC level seen s).2 W w':=by
 have HM:=Ag h;have HS:=Ag hs;have HVS:=Ag hvs;clear h hs hvs;obtain⟨Av,cv,rfl,hcv,hgv⟩:=HM.out.views.form;have HLV:=Ag (show Lv.length=s.views.length by rw[← HM.out.nU,List.length_map]);have hlb:Lv.length≤900000:=by rw[HLV.out];exact hvl
 obtain⟨As,cs,hsv,_⟩:=id HS.out;subst hsv;go_in;go_wp2
 go_loopw [9] (fun iv wr=>∃ k:Nat,k≤Lv.length∧iv = .int .i64 (k:Int)∧Hid (Below W.heap.size W wr)∧Hid (∀ j q,j < k→Lv[j]? = some q→dH aC level seen q.v=false)) (fun iv _=>Lv.length - (intOf iv).toNat)
 case atStart=>exact⟨0,Nat.zero_le _,rfl,Ag (Below.refl _ _),Ag fun j q hj=>absurd hj (Nat.not_lt_zero _)⟩
 case round =>
  obtain⟨k,hk,rfl,HB,hno⟩:=hrel;have HMW:=Ag (HM.out.below HB.out);have m2:=HMW.out.box.cell (i:=2) rfl;by_cases hkt:k < Lv.length
  ·have t0:decide ((k:Int) < (Lv.length:Int))=true:=decide_eq_true byOmega;obtain⟨gv,rfl⟩:=hgv byOmega;obtain⟨q,hq⟩:=getSome hkt;have hfull:AA wr Fd q.vs q.v.seen∧∀ j u,(aea.cells q)[j]? = some u→wr.cell? ⟨gv,k*4+j,none⟩=some u:=by
    rcases HMW.out.views.at with⟨h,_⟩ | ⟨g,cap,h,_,_,_,hf,hx⟩
    ·simp at h
    ·simp only[Value.slice.injEq,Option.some.injEq,Addr.mk.injEq,and_true,true_and] at h;obtain⟨rfl,_⟩:=h;exact⟨hf q (List.mem_of_getElem? hq),fun j u hu=>by have:=hx k q hq j u hu; rw[Nat.zero_add] at this; exact this⟩
   have hql:q.v.seen.length < 1000000:=HVS.out q.v (by rw[← HM.out.nU]; exact List.mem_map.2 ⟨q,List.mem_of_getElem? hq,rfl⟩);have HQ:=Ag hq;clear hq;obtain⟨⟨qp,ql,qs,qi⟩,qv⟩:=q;obtain⟨hqi,hqc⟩:=hfull;obtain⟨Aq,cq,hqv,_⟩:=id hqi;dsimp only at hqv hqi hql;subst hqv;have c0:wr.cell? ⟨gv,k*4,none⟩=some (.int .i64 qp):=hqc 0 _ rfl;have c1:wr.cell? ⟨gv,k*4+1,none⟩=some (.int .i64 ql):=hqc 1 _ rfl;have c2:wr.cell? ⟨gv,k*4+2,none⟩=some (.slice Aq qs.length cq):=hqc 2 _ rfl;have c3:wr.cell? ⟨gv,k*4+3,none⟩=some (.int .i64 qi):=hqc 3 _ rfl;have HI:=Ag hqi;clear hqi hqc;have HK:=Ag (show dH aC level seen ⟨qp,ql,qs,qi⟩=(decide (qp=aC)&&decide (ql=level)&&decide (qs=seen)) from rfl);go_upto_region 5 with(fail)
   obtain⟨W1,hW1,rx,hB1,hz1⟩:=aO wr 184 #[.int .i64 qp,.int .i64 ql,.slice Aq qs.length cq,.int .i64 qi];rw[← hW1];have HB1:=Ag (HB.out.trans (hB1.mono HB.out.size));have HI1:=Ag (HI.out.on (Below.same' hB1 Fd));have HS1:=Ag ((HS.out.on (Below.same' HB.out Fd)).on (Below.same' hB1 Fd));obtain⟨xb,hxb⟩:=named wr.heap.size;rw[← hxb] at rx ⊢;refine Zi ?_;intro x0 x1 x2;have x3:=rx.cell (i:=3) rfl;clear hW1 hB1 hz1 hxb rx c0 c1 c2 c3 m2 HI HB HMW;by_cases h3:qp=aC
   case neg =>
    have t3:(qp==aC)=false:=by simpa using h3
    have HU:=Ag (show dH aC level seen ⟨qp,ql,qs,qi⟩=false by rw[HK.out]; simp[h3]);clear h3;go_wp2_with fail
    go_roundw
    case rel=>exact⟨k+1,byOmega,by go_num,HB1,Ag (yh hno.out HQ.out HU.out)⟩
    case measure=>simp[intOf]; omega
   by_cases h4:ql=level
   case neg =>
    have t3:(qp==aC)=true:=by simpa using h3
    have t4:(ql==level)=false:=by simpa using h4
    have HU:=Ag (show dH aC level seen ⟨qp,ql,qs,qi⟩=false by rw[HK.out]; simp[h4]);clear h3 h4;go_wp2_with fail
    go_roundw
    case rel=>exact⟨k+1,byOmega,by go_num,HB1,Ag (yh hno.out HQ.out HU.out)⟩
    case measure=>simp[intOf]; omega
   have t3:(qp==aC)=true:=by simpa using h3
   have t4:(ql==level)=true:=by simpa using h4
   by_cases h5:qs=seen
   case neg =>
    have t5:decide (qs=seen)=false:=decide_eq_false h5;have HU:=Ag (show dH aC level seen ⟨qp,ql,qs,qi⟩=false by rw[HK.out]; simp[h5]);clear h3 h4 h5;go_wp2_with (go_at_call 132; (with_reducible refine(vZ _ Fd _ _ qs seen HI1.out HS1.out hql hsl).mono ?_); rintro e w' ⟨rfl,m,rfl⟩)
    go_roundw
    case rel=>exact⟨k+1,byOmega,by go_num,Ag (aI HB1.out _),Ag (yh hno.out HQ.out HU.out)⟩
    case measure=>simp[intOf]; omega
   have t5:decide (qs=seen)=true:=decide_eq_true h5;have HU:=Ag (show dH aC level seen ⟨qp,ql,qs,qi⟩=true by rw[HK.out]; simp[h3,h4,h5]);have HF:=Ag (ahq (C:=C) HM.out.nU HQ.out HU.out hno.out);clear h3 h4 h5;go_wp2_with (go_at_call 132; (with_reducible refine(vZ _ Fd _ _ qs seen HI1.out HS1.out hql hsl).mono ?_); rintro e w' ⟨rfl,m,rfl⟩)
   go_ret;exact⟨by rw[HF.out]; rfl,by rw[HF.out]; exact⟨_,_,Lv,fun _ h=>.inl h,fun _ h=>.inl h,HM.out.below (aI HB1.out _),Below.wrote (aI HB1.out _) _⟩⟩
  ·have hke:Lv.length=k:=byOmega;have t0:decide ((k:Int) < (Lv.length:Int))=false:=decide_eq_false byOmega;have HN:=Ag (ahr (C:=C) HM.out.nU (by rw[hke]; exact hno.out));obtain⟨Ai,ci,rfl,hci,_⟩:=HM.out.infos.form;have m9:=HMW.out.box.cell (i:=9) rfl;have HSW:=Ag (HS.out.on (Below.same' HB.out Fd));have HW:=Ag (Below.wrote HB.out (Mut M.mb M.db (.slice Av Lv.length cv) vn (.slice Ai s.infos.length ci)));have k6:=HB.out.size;have hbase:M.base≤W.heap.size:=Nat.le_of_lt (Nat.lt_of_le_of_lt HM.out.dL.1 HM.out.box.lt);have hdv:=iw C.L s.at' (n:=3) ay;obtain⟨dv,akW⟩:=named (dw C.L s.at' 3);have HDV:=Ag akW;rw[← akW] at hdv HN;have hwd:IntKind.i64.wrap (1+dv)=1+dv:=IntWalk.i64_in _ byOmega;have hwl:IntKind.i64.wrap ((s.infos.length:Int)+1 - 1)=(s.infos.length:Int):=by rw[Int.add_sub_cancel];exact IntWalk.i64_in _ byOmega
   have hwk:IntKind.i64.wrap (s.infos.length:Int)=(s.infos.length:Int):=IntWalk.i64_in _ byOmega;clear akW HB hgv hke;go_wp2_with fail
   refine aX (fun w'=>w'.cell? ⟨M.mb,2,none⟩=some (.slice Av Lv.length cv)∧w'.cell? ⟨M.mb,9,none⟩=some (.slice Ai s.infos.length ci)) 17 3 ah rfl ah ?_;have hHeld:(fun w':World=>w'.cell? ⟨M.mb,2,none⟩=some (.slice Av Lv.length cv)∧w'.cell? ⟨M.mb,9,none⟩=some (.slice Ai s.infos.length ci)) wr.drew:=⟨m2,m9⟩;refine YV ?_;intro hb;replace m2:=ak m2 hb;replace m9:=ak m9 hb;replace HMW:=Ag (HMW.out.below hb);replace HSW:=Ag (HSW.out.on (Below.same' hb Fd));refine zaK ?_;clear HW k6 hb;intro HW k6;generalize wr.drew=wn at *;refine tkm [0,1,2,3,4,5,6,7,8,9,10,11,12,13,14] ?_;refine tk2 15 ah rfl fun K hK=>?_
   go_simp;refine hK.out _ _ ⟨fO m2 _,fO m9 _⟩ (fun hHeld=>?_);clear hK K;refine Zb ?_;refine tk2 16 ah rfl fun K hK=>?_
   refine kR (K:=aea) (F:=Fd) (W:=wn) rfl _ _ 76 184 48 _ Tryz.underlying76 Tryz.infoViewK rfl ay rfl M.base (Nat.le_trans hbase k6) (.slice Av Lv.length cv) Lv rfl ⟨⟨aC,level,seen,s.infos.length⟩,.slice As seen.length cs⟩ _ rfl byOmega rfl HMW.out.views (HSW.out.keep (fun b hb _=>⟨hb,(HMW.out.fdn hb).2.2.1⟩) (Same.refl _ _)) ?_;intro g' cap wq hown' hwq hat' hlt';obtain⟨W2,hW2,hm2,hw2⟩:=HMW.out.afK hown' hwq hat' hlt';have yj:(Value.slice Av Lv.length cv).ownBlock≠some M.mb:=fun e=>(HMW.out.cO _ e).1 rfl
   replace m2:=dh m2 hwq yj;replace m9:=dh m9 hwq yj;have f2:=(HMW.out.box.wrote hwq yj).frozen 2;have HU:=Ag (aiW (n:=Lv.length+1) (cap:=cap) hat' k6);replace HW:=Ag (HW.out.trans hw2);replace k6:W.heap.size≤W2.heap.size:=Nat.le_trans k6 hw2.size;have HM2:=Ag hm2;have HY:=Ag hW2;clear hm2 hW2 hw2 hown' hwq hat' hlt' hHeld HMW HSW yj;refine hK.out _ _ ⟨m2,m9⟩ (fun hHeld=>?_);clear hK K;refine Zb ?_;refine Zw ?_;clear hHeld;go_wp2
   refine Y2 ?_;go_wp2
   refine Y2 ?_;go_wp2
   rw[← HY.out];unfold Ba;refine Yb ?_;have n0:=HM2.out.box.cell (i:=0) rfl;have n9:=HM2.out.box.cell (i:=9) rfl;clear HY m2 m9 f2;go_wp2_with fail
   refine aX (fun w'=>w'.cell? ⟨M.mb,0,none⟩=some (.pointer (some ⟨M.db,0,none⟩))∧w'.cell? ⟨M.mb,9,none⟩=some (.slice Ai s.infos.length ci)) 16 4 ah rfl ah ?_;have hHeld:(fun w':World=>w'.cell? ⟨M.mb,0,none⟩=some (.pointer (some ⟨M.db,0,none⟩))∧w'.cell? ⟨M.mb,9,none⟩=some (.slice Ai s.infos.length ci)) W2.drew:=⟨n0,n9⟩;refine Zq ?_;have hb:Below W2.heap.size W2 W2.drew:=aI (Below.refl _ W2) 1;replace n0:=ak n0 hb;replace n9:=ak n9 hb;replace HM2:=Ag (HM2.out.below hb);refine zaK ?_;clear HW k6 hb;intro HW k6;generalize W2.drew=wn at *;refine tkm [0,1,2,3,4,5,6,7,8,9,10] ?_;refine tk2 11 ah rfl fun K hK=>?_
   go_simp;refine(aeb HM2.out 3 ay ay).mono ?_;rintro e wm ⟨rfl,hm3,hw3⟩;replace n0:=dh n0 hw3 HM2.out.dL.2.2;replace n9:=dh n9 hw3 HM2.out.dL.2.2;replace HW:=Ag (HW.out.step hw3 fun i _ e=>.inr (.inl e));replace k6:=Nat.le_trans k6 hw3.size;have HM3:=Ag hm3;have afQ:(MS.draw C { s with views:=s.views ++ [⟨aC,level,seen,(s.infos.length:Int)⟩] } 3).1=dv:=HDV.out.symm;rw[afQ];clear hw3 hm3 hHeld HM2 afQ;refine hK.out _ _ ⟨n0,n9⟩ (fun hHeld=>?_);clear hK K;refine Zb ?_;refine tkm [12,13] ?_;refine tk2 14 ah rfl fun K hK=>?_
   go_simp;refine hK.out _ _ ⟨fO n0 _,fO n9 _⟩ (fun hHeld=>?_);clear hK K;refine Zb ?_;refine tk2 15 ah rfl fun K hK=>?_
   refine kR (K:=aiT) (F:=Fd) (W:=wm) rfl _ _ 25 37 16 _ Tryz.underlying25 Tryz.infoInfK rfl ay rfl M.base (Nat.le_trans hbase k6) (.slice Ai s.infos.length ci) s.infos rfl ⟨aC,1+dv⟩ _ rfl byOmega rfl HM3.out.infos trivial ?_;intro g2 cap2 wq2 hown' hwq hat' hlt';obtain⟨W4,hW4,hm4,hw4⟩:=HM3.out.afM hown' hwq hat' hlt';have yj:(Value.slice Ai s.infos.length ci).ownBlock≠some M.mb:=fun e=>(HM3.out.fA _ e).1 rfl
   replace n0:=dh n0 hwq yj;replace n9:=dh n9 hwq yj;have f9:=(HM3.out.box.wrote hwq yj).frozen 9;have HU2:=Ag (aiW (n:=s.infos.length+1) (cap:=cap2) hat' k6);replace HW:=Ag (HW.out.step hw4 fun i hi e=>yX HU.out (Up.refl W _) (Up.refl W _) hi e);replace k6:W.heap.size≤W4.heap.size:=Nat.le_trans k6 hw4.size;have o9:W4.cell? ⟨M.mb,9,none⟩=some (.slice (some ⟨g2,0,none⟩) (s.infos.length+1) cap2):=hm4.box.cell (i:=9) rfl;have HM4:=Ag hm4;have HY:=Ag (show W4=wq2.setCell ⟨M.mb,9,none⟩ (.slice (some ⟨g2,0,none⟩) (s.infos.length+1) cap2) from hW4);clear hm4 hW4 hw4 hown' hwq hat' hlt' hHeld HM3 yj;refine hK.out _ _ ⟨n0,n9⟩ (fun hHeld=>?_);clear hK K;refine Zb ?_;refine Zw ?_;clear hHeld;go_wp2
   refine Y2 ?_;go_wp2
   refine Y2 ?_;go_wp2
   refine Y2 ?_;go_wp2
   rw[← HY.out];unfold Ba;refine Yb ?_;clear HY n0 n9 f9;go_wp2_with fail
   go_ret;exact⟨by rw[HN.out]; rfl,by rw[HN.out]; exact⟨_,_,_,HU.out,HU2.out,HM4.out,HW.out⟩⟩
def BL (M:ML) (Fd:Foot) (vv vn vi:Value) (W:World) (b:Nat):Prop:=b < W.heap.size∧¬ M.F b∧¬ Fd b∧¬ Mut M.mb M.db vv vn vi b∧M.vl.ownBlock≠some b
section
variable {C:MC} {M:ML} {Fd Fe:Foot} {vv vn vi vv' vn' vi':Value} {Lv:List VV} {Ln:List NV} {s:MS} {W W':World}
theorem MAt.priv {K:Foot} (h:MAt C M Fd vv vn vi Lv Ln s W) (hw:Wrote K W W') (hK:∀ b,K b→b < W.heap.size→BL M Fd vv vn vi W b):MAt C M Fd vv vn vi Lv Ln s W' :=
 h.on (hw.same fun b hb hk=>by
  obtain⟨_,h1,h2,h3,h4⟩:=hK b hk (h.afN hb);rcases hb with hb | hb | hb | hb
  ·exact h1 hb
  ·exact h2 hb
  ·exact h3 hb
  ·exact h4 hb)
theorem MAt.zG (h:MAt C M Fd vv vn vi Lv Ln s W) {b:Nat} (h1:W.heap.size≤b) (h2:b < W'.heap.size):BL M Fd vv vn vi W' b :=
 ⟨h2,fun e=>by have:=h.afN (.inl e); omega,fun e=>by have:=h.afN (.inr (.inl e)); omega,fun e=>by have:=h.abW e; omega,fun e=>by have:=(h.lev.row.lt b e).2; omega⟩
theorem BL.wider {b:Nat} (h:BL M Fd vv vn vi W b) (hs:W.heap.size≤W'.heap.size):BL M Fd vv vn vi W' b:=⟨by have:=h.1; omega,h.2⟩
theorem BL.next {b:Nat} (h:BL M Fd vv vn vi W b) (hs:W.heap.size≤W'.heap.size) (hF:∀ b,Fe b→Fd b∨W.heap.size≤b) (h1:Up W vv vv') (h2:Up W vn vn') (h3:Up W vi vi'):BL M Fe vv' vn' vi' W' b :=
 ⟨by have:=h.1; omega,h.2.1,fun e=>(hF b e).elim h.2.2.1 fun e=>by have:=h.1; omega,fun e=>h.2.2.2.1 (yX h1 h2 h3 h.1 e),h.2.2.2.2⟩
theorem Up.trans (h:Up W vv vv') {vv'':Value} (k:Up W' vv' vv'') (hs:W.heap.size≤W'.heap.size):Up W vv vv'':=fun b hb=>(k b hb).elim (fun e=>h b e) fun e=>.inr byOmega
end
def abY:Knd (Value×List Int) where
 n:=1
 cells q:=[q.1]
 fine w F q:=AA w F q.1 q.2
 len _:=rfl
 pos:=ay
 one h u hu:=by
  obtain⟨A,c,hv,_⟩:=h;rw[List.mem_singleton.1 hu,hv];rfl
 keep h hFG hs:=h.keep hFG hs
theorem Tryz.infoListK:(Tryz.prog.info? 22).map (fun i=>(i.zero,i.size,i.bytes))=some (some (.slice none 0 0),abY.n,24):=ah
theorem OwnSl.lists {w:World} {base:Nat} {et:TypeId} {F G:Foot} {v:Value} {L:List (Value×List Int)} (h:OwnSl abY w base et F v L) (hF:∀ b,F b→b < w.heap.size→G b) (hG:∀ b,v.ownBlock=some b→G b):Bd w G v (L.map Prod.snd):=by
 rcases h.at with⟨rfl,rfl⟩ | ⟨g,cap,rfl,hb,hg,hcap,hf,hx⟩
 ·exact Yv
 ·refine⟨_,cap,by rw[List.length_map],by rw[List.length_map]; exact hcap,fun _=>⟨g,0,rfl,hG g rfl,hg,fun k x hk=>?_⟩⟩;rw[List.getElem?_map] at hk;obtain⟨q,hq,rfl⟩:=Option.map_eq_some_iff.1 hk;exact⟨q.1,hx k q hq 0 q.1 rfl,(hf q (List.mem_of_getElem? hq)).keep hF (Same.refl _ _)⟩
theorem nX {w:World} {F:Foot} {ops:Array Oper} {rest:List Oper} {o:Oper} {a:Act} {Q:Exit→Act→World→Prop} (hgd:o.guard=none) (s x:Operand) (ho:o.op = .call { callee:=.builtin .append,args:=#[s,x],argTypes:=#[22,22] })
  (v:Value) (l:List Int) (hs:a.eval s = .slice (some ⟨w.heap.size,0,none⟩) 0 0) (hx:a.eval x=v) (hv:AA w F v l) (hm:l.length≤1000000)
  (h:∀ g cap w',OwnSl oP w' w.heap.size 3 (fun _=>False) (.slice (some ⟨g,0,none⟩) l.length cap) l→Below w.heap.size w w'→w.heap.size < w'.heap.size→wpList Tryz.prog ops Q rest (a.put o.dst (.slice (some ⟨g,0,none⟩) l.length cap)) w') :
  wpList Tryz.prog ops Q (o :: rest) a (w.alloc (.cells #[] 3)):=by
 obtain⟨i0,hi,hz0,hz1,hz2⟩:=info_parts Tryz.infoInt;have hb0:Below w.heap.size w (w.alloc (.cells #[] 3)):=(Below.refl _ _).alloc (Nat.le_refl _) _;have hsz:(w.alloc (.cells #[] 3)).heap.size=w.heap.size+1:=aB;have own0:(w.alloc (.cells #[] 3)).ownsRow w.heap.size 3 1 (.slice (some ⟨w.heap.size,0,none⟩) 0 0) 0 []:=⟨rfl,.inr ⟨_,0,#[],rfl,Nat.le_refl _,heap_alloc_new _ _,Nat.le_refl _,by unfold maxLen; omega,rfl,rfl⟩⟩;have hv':=hv.on (Below.same' hb0 F);obtain⟨A,c,rfl,hc,hr⟩:=hv';have hm':l.flatMap oP.cells=l.map (Value.int .i64):=by
  clear hv hm h hr hx hc;induction l with
  | nil=>rfl
  | cons a l ih=>rw[List.flatMap_cons,List.map_cons,ih]; rfl
 by_cases h0:0 < l.length
 ·obtain⟨b,off,rfl,_,_,hcell⟩:=hr h0;refine wpList_append_lies (w.alloc (.cells #[] 3)) hgd s x 22 ho w.heap.size 3 i0 _ 1 8 Tryz.underlying22 hi hz0 hz1 hz2 rfl ay _ 0 [] hs own0 ⟨b,off,none⟩ l.length c (l.map (Value.int .i64)) hx aB (fun j u hj=>?_) (by simp[Value.oneCell']) h0 (by unfold maxLen; omega) byOmega byOmega _ rfl ?_
  ·rw[List.getElem?_map] at hj;obtain⟨y,hy,rfl⟩:=Option.map_eq_some_iff.1 hj;have:=hcell j y hy;unfold o7 at this;exact zco
  ·intro g cap w' h1 h2 h3 h4;rw[Nat.zero_add] at h1 ⊢;have h5:=h2.size;refine h g cap w' ⟨?_,fun _ _=>trivial⟩ ⟨h2.os.trans hb0.os,h2.tape.trans hb0.tape,h2.output.trans hb0.output,byOmega,fun k hk=>?_⟩ byOmega
   ·rw[hm'];exact h1
   ·exact(h2.block k byOmega (fun e=>by have e':some k=some w.heap.size:=e; cases e'; omega)).trans (hb0.block k hk)
 ·have hl:l = []:=List.eq_nil_of_length_eq_zero byOmega;subst hl;refine wpList_plain hgd fun K hK=>?_
  have hsrc:Src Tryz.prog i0.size 22 (.slice A 0 c) 0 [] (w.alloc (.cells #[] 3)):=by
   cases A with
   | none=>exact Src.ofNil _ Tryz.underlying22 c
   | some ad=>exact Src.ofSlice _ Tryz.underlying22 ad 0 c [] aB aB aB
  have hrun:=run_append_room_src (P:=Tryz.prog) (w.alloc (.cells #[] 3)) 22 22 o.type 3 i0 Tryz.underlying22 hi w.heap.size 0 0 0 (.slice A 0 c) 0 [] hsrc byOmega aB aB;unfold Oper.wp execOp;simp only[ho,resolve,invoke,builtin,Sem.run_bind,Sem.run_pure,Result.andThen_ok,List.map_toArray,List.map_cons,List.map_nil,hs];rw[show a.eval x = .slice A 0 c from hx,hrun];exact hK _ _ (h w.heap.size 0 (w.alloc (.cells #[] 3)) ⟨own0,fun _ _=>trivial⟩ hb0 byOmega)
def Built (C:MC) (M:ML) (Fd:Foot) (vv vn vi:Value) (s':MS) (W w':World):Prop:=∃ (Fe:Foot) (vv' vn' vi':Value) (Lv':List VV) (Ln':List NV),(∀ b,Fd b→Fe b)∧(∀ b,Fe b→Fd b∨W.heap.size≤b)∧Up W vv vv'∧Up W vn vn'∧Up W vi vi' ∧
 MAt C M Fe vv' vn' vi' Lv' Ln' s' w'∧Wrote (Mut M.mb M.db vv vn vi) W w'
structure KAt (C:MC) (M:ML) (Fe:Foot) (vv vn vi:Value) (Lv:List VV) (Ln:List NV) (s:MS) (hd:Nd) (p:Place) (base yb xb:Nat) (un uw:Value) (nx ws:List Int) (W:World):Prop where
 m:MAt C M Fe vv vn vi Lv Ln s W
 ry:Row W yb 127 [.int .i64 hd.kind,.int .i64 hd.aC,.int .i64 hd.info,un,uw,.slice none 0 0]
 rx:Row W xb 81 [.int .i64 p.aC,.int .i64 p.many,.int .i64 p.seen]
 hn:OwnSl oP W base 3 (fun _=>False) un nx
 hw:OwnSl oP W base 3 (fun _=>False) uw ws
 py:BL M Fe vv vn vi W yb
 px:BL M Fe vv vn vi W xb
 pn:∀ b,un.ownBlock=some b→BL M Fe vv vn vi W b
 pw:∀ b,uw.ownBlock=some b→BL M Fe vv vn vi W b∧un.ownBlock≠some b
 lt:yb < base∧xb < base∧yb≠xb
section
variable {C:MC} {M:ML} {Fe:Foot} {vv vn vi:Value} {Lv:List VV} {Ln:List NV} {s s':MS} {hd:Nd} {p:Place} {base yb xb:Nat} {un uw:Value} {nx ws:List Int} {W W':World}
theorem KAt.below (h:KAt C M Fe vv vn vi Lv Ln s hd p base yb xb un uw nx ws W) (hb:Below W.heap.size W W'):KAt C M Fe vv vn vi Lv Ln s hd p base yb xb un uw nx ws W' :=
 ⟨h.m.below hb,h.ry.below hb h.ry.lt,h.rx.below hb h.rx.lt,h.hn.below hb,h.hw.below hb,h.py.wider hb.size,h.px.wider hb.size,fun b e=>(h.pn b e).wider hb.size,fun b e=>⟨(h.pw b e).1.wider hb.size,(h.pw b e).2⟩,h.lt⟩
theorem KAt.wrote {K:Foot} (h:KAt C M Fe vv vn vi Lv Ln s hd p base yb xb un uw nx ws W) (hm:MAt C M Fe vv vn vi Lv Ln s' W') (hw:Wrote K W W') (hK:∀ b,K b→Mut M.mb M.db vv vn vi b):KAt C M Fe vv vn vi Lv Ln s' hd p base yb xb un uw nx ws W' :=
 ⟨hm,h.ry.wrote hw fun e=>h.py.2.2.2.1 (hK _ e),h.rx.wrote hw fun e=>h.px.2.2.2.1 (hK _ e),h.hn.wrote hw fun b hb e=>(h.pn b (hb.resolve_left id)).2.2.2.1 (hK _ e),h.hw.wrote hw fun b hb e=>(h.pw b (hb.resolve_left id)).1.2.2.2.1 (hK _ e),h.py.wider hw.size,h.px.wider hw.size,fun b e=>(h.pn b e).wider hw.size,fun b e=>⟨(h.pw b e).1.wider hw.size,(h.pw b e).2⟩,h.lt⟩
theorem KAt.fresh (h:KAt C M Fe vv vn vi Lv Ln s hd p base yb xb un uw nx ws W) (hb:Below W.heap.size W W'):KAt C M (fun b=>Fe b∨(W.heap.size≤b∧b < W'.heap.size)) vv vn vi Lv Ln s hd p base yb xb un uw nx ws W':=by
 have hx:=h.below hb;have hP:∀ b,BL M Fe vv vn vi W b→BL M (fun b=>Fe b∨(W.heap.size≤b∧b < W'.heap.size)) vv vn vi W' b:=fun b k=>⟨(k.wider hb.size).1,k.2.1,fun e=>e.elim k.2.2.1 fun e=>by have:=k.1; omega,k.2.2.2⟩
 exact⟨hx.m.fresh (fun b e=>h.m.abW e) (by have:=h.m.dL.1; have:=h.m.box.lt; omega),hx.ry,hx.rx,hx.hn,hx.hw,hP _ h.py,hP _ h.px,fun b e=>hP b (h.pn b e),fun b e=>⟨hP b (h.pw b e).1,(h.pw b e).2⟩,h.lt⟩
theorem KAt.built (h:KAt C M Fe vv vn vi Lv Ln s hd p base yb xb un uw nx ws W) (hb:Built C M Fe vv vn vi s' W W'):∃ (Fe':Foot) (vv' vn' vi':Value) (Lv':List VV) (Ln':List NV),(∀ b,Fe b→Fe' b)∧(∀ b,Fe' b→Fe b∨W.heap.size≤b)∧Up W vv vv'∧Up W vn vn'∧Up W vi vi' ∧
  KAt C M Fe' vv' vn' vi' Lv' Ln' s' hd p base yb xb un uw nx ws W'∧Wrote (Mut M.mb M.db vv vn vi) W W':=by
 obtain⟨Fe',vv',vn',vi',Lv',Ln',h1,h2,h3,h4,h5,h6,h7⟩:=hb;have hP:∀ b,BL M Fe vv vn vi W b→BL M Fe' vv' vn' vi' W' b:=fun b k=>k.next h7.size h2 h3 h4 h5
 exact⟨Fe',vv',vn',vi',Lv',Ln',h1,h2,h3,h4,h5,⟨h6,h.ry.wrote h7 h.py.2.2.2.1,h.rx.wrote h7 h.px.2.2.2.1,h.hn.wrote h7 fun b hb=>(h.pn b (hb.resolve_left id)).2.2.2.1,h.hw.wrote h7 fun b hb=>(h.pw b (hb.resolve_left id)).1.2.2.2.1,hP _ h.py,hP _ h.px,fun b e=>hP b (h.pn b e),fun b e=>⟨hP b (h.pw b e).1,(h.pw b e).2⟩,h.lt⟩,h7⟩
theorem KAt.aln (h:KAt C M Fe vv vn vi Lv Ln s hd p base yb xb un uw nx ws W) {g cap:Nat} {z:Int} {W1:World} (hown:OwnSl oP W1 base 3 (fun _=>False) (.slice (some ⟨g,0,none⟩) (nx.length+1) cap) (nx ++ [z])) (hwq:Wrote (fun b=>un.ownBlock=some b) W W1) (hat:un.ownBlock=some g∨W.heap.size≤g) :
  ∃ W2,W2=W1.setCell ⟨yb,3,none⟩ (.slice (some ⟨g,0,none⟩) (nx.length+1) cap)∧KAt C M Fe vv vn vi Lv Ln s hd p base yb xb (.slice (some ⟨g,0,none⟩) (nx.length+1) cap) uw (nx ++ [z]) ws W2∧Wrote (fun b=>base≤b∨b=yb) W W2:=by
 have hbs:∀ b,un.ownBlock=some b→base≤b:=fun b e=>(h.hn.row.lt b e).1
 have hgl:=hown.row.lt g rfl;have hl:=h.lt;have hs:=hwq.size;have hwz:Wrote (fun b=>b=yb) W1 (W1.setCell ⟨yb,3,none⟩ (.slice (some ⟨g,0,none⟩) (nx.length+1) cap)):=Wrote.setCell (K:=fun b=>b=yb) (p:=⟨yb,3,none⟩) (Wrote.refl _ _) (.inl rfl) _;have hsz:(W1.setCell ⟨yb,3,none⟩ (.slice (some ⟨g,0,none⟩) (nx.length+1) cap)).heap.size=W1.heap.size:=aB;have hw2:Wrote (fun b=>un.ownBlock=some b∨b=yb) W (W1.setCell ⟨yb,3,none⟩ (.slice (some ⟨g,0,none⟩) (nx.length+1) cap)):=⟨hwz.os.trans hwq.os,hwz.tape.trans hwq.tape,hwz.output.trans hwq.output,byOmega,fun i hi hn=>(hwz.block i byOmega (fun e=>hn (.inr e))).trans (hwq.block i hi (fun e=>hn (.inl e)))⟩;have own:∀ b,(Value.slice (some ⟨g,0,none⟩) (nx.length+1) cap).ownBlock=some b→b=g:=fun b hb=>by
  exact zbD
 have hP:∀ b,BL M Fe vv vn vi W b→BL M Fe vv vn vi (W1.setCell ⟨yb,3,none⟩ (.slice (some ⟨g,0,none⟩) (nx.length+1) cap)) b:=fun b k=>k.wider byOmega
 have hPg:BL M Fe vv vn vi (W1.setCell ⟨yb,3,none⟩ (.slice (some ⟨g,0,none⟩) (nx.length+1) cap)) g:=hat.elim (fun e=>hP g (h.pn g e)) fun e=>h.m.zG e byOmega
 refine⟨_,rfl,⟨h.m.priv hw2 fun b hb _=>hb.elim (fun e=>h.pn b e) fun e=>e▸h.py,(h.ry.wrote hwq fun e=>by have:=hbs _ e; omega).set 3 _,h.rx.wrote hw2 fun e=>e.elim (fun e=>by have:=hbs _ e; omega) fun e=>hl.2.2 e.symm,?_,?_,hP _ h.py,hP _ h.px,?_,?_,h.lt⟩,⟨hw2.os,hw2.tape,hw2.output,hw2.size,fun i hi hn=>hw2.block i hi fun e=>hn (e.imp (fun e=>hbs i e) id)⟩⟩
 ·exact hown.wrote hwz fun b hb e=>by have:=own b (hb.resolve_left id);omega
 ·exact h.hw.wrote hw2 fun b hb e=>e.elim (fun e=>(h.pw b (hb.resolve_left id)).2 e) fun e=>by have:=(h.hw.row.lt b (hb.resolve_left id)).1;omega
 ·intro b hb;rw[own b hb];exact hPg
 ·intro b hb;refine⟨hP b (h.pw b hb).1,fun e=>?_⟩;have e2:=own b e;subst e2;exact hat.elim (fun k=>(h.pw b hb).2 k) fun k=>by have:=(h.pw b hb).1.1;omega
theorem KAt.alo (h:KAt C M Fe vv vn vi Lv Ln s hd p base yb xb un uw nx ws W) {g cap:Nat} {z:Int} {W1:World} (hown:OwnSl oP W1 base 3 (fun _=>False) (.slice (some ⟨g,0,none⟩) (ws.length+1) cap) (ws ++ [z])) (hwq:Wrote (fun b=>uw.ownBlock=some b) W W1) (hat:uw.ownBlock=some g∨W.heap.size≤g) :
  ∃ W2,W2=W1.setCell ⟨yb,4,none⟩ (.slice (some ⟨g,0,none⟩) (ws.length+1) cap)∧KAt C M Fe vv vn vi Lv Ln s hd p base yb xb un (.slice (some ⟨g,0,none⟩) (ws.length+1) cap) nx (ws ++ [z]) W2∧Wrote (fun b=>base≤b∨b=yb) W W2:=by
 have hbs:∀ b,uw.ownBlock=some b→base≤b:=fun b e=>(h.hw.row.lt b e).1
 have hgl:=hown.row.lt g rfl;have hl:=h.lt;have hs:=hwq.size;have hwz:Wrote (fun b=>b=yb) W1 (W1.setCell ⟨yb,4,none⟩ (.slice (some ⟨g,0,none⟩) (ws.length+1) cap)):=Wrote.setCell (K:=fun b=>b=yb) (p:=⟨yb,4,none⟩) (Wrote.refl _ _) (.inl rfl) _;have hsz:(W1.setCell ⟨yb,4,none⟩ (.slice (some ⟨g,0,none⟩) (ws.length+1) cap)).heap.size=W1.heap.size:=aB;have hw2:Wrote (fun b=>uw.ownBlock=some b∨b=yb) W (W1.setCell ⟨yb,4,none⟩ (.slice (some ⟨g,0,none⟩) (ws.length+1) cap)):=⟨hwz.os.trans hwq.os,hwz.tape.trans hwq.tape,hwz.output.trans hwq.output,byOmega,fun i hi hn=>(hwz.block i byOmega (fun e=>hn (.inr e))).trans (hwq.block i hi (fun e=>hn (.inl e)))⟩;have own:∀ b,(Value.slice (some ⟨g,0,none⟩) (ws.length+1) cap).ownBlock=some b→b=g:=fun b hb=>by
  exact zbD
 have hP:∀ b,BL M Fe vv vn vi W b→BL M Fe vv vn vi (W1.setCell ⟨yb,4,none⟩ (.slice (some ⟨g,0,none⟩) (ws.length+1) cap)) b:=fun b k=>k.wider byOmega
 have hPg:BL M Fe vv vn vi (W1.setCell ⟨yb,4,none⟩ (.slice (some ⟨g,0,none⟩) (ws.length+1) cap)) g:=hat.elim (fun e=>hP g ((h.pw g e).1)) fun e=>h.m.zG e byOmega
 refine⟨_,rfl,⟨h.m.priv hw2 fun b hb _=>hb.elim (fun e=>(h.pw b e).1) fun e=>e▸h.py,(h.ry.wrote hwq fun e=>by have:=hbs _ e; omega).set 4 _,h.rx.wrote hw2 fun e=>e.elim (fun e=>by have:=hbs _ e; omega) fun e=>hl.2.2 e.symm,?_,?_,hP _ h.py,hP _ h.px,?_,?_,h.lt⟩,⟨hw2.os,hw2.tape,hw2.output,hw2.size,fun i hi hn=>hw2.block i hi fun e=>hn (e.imp (fun e=>hbs i e) id)⟩⟩
 ·exact h.hn.wrote hw2 fun b hb e=>e.elim (fun e=>(h.pw b e).2 (hb.resolve_left id)) fun e=>by have:=(h.hn.row.lt b (hb.resolve_left id)).1;omega
 ·exact hown.wrote hwz fun b hb e=>by have:=own b (hb.resolve_left id);omega
 ·intro b hb;exact hP b (h.pn b hb)
 ·intro b hb;rw[own b hb];exact⟨hPg,fun e=>hat.elim (fun k=>(h.pw g k).2 e) fun k=>by have:=(h.pn g e).1; omega⟩
end
theorem vH {C:MC} {rec:List (List Int)→MS→Nat×MS} {p:Place} {seen:List (List Int)} {k:Nat} {s:MS} {w1:List Int} {s1:MS} (h:(if p.aC < 0 then ((dA C rec p seen k s).weights ++ [1+((dA C rec p seen k s).s.draw C 3).1],((dA C rec p seen k s).s.draw C 3).2) else ((dA C rec p seen k s).weights,(dA C rec p seen k s).s))=(w1,s1)) :
  dA C rec p seen (k+1) s=⟨w1,(dA C rec p seen k s).next ++ [((rec (gV p k seen) s1).1:Int)],(rec (gV p k seen) s1).2⟩:=by
 show(⟨(if p.aC < 0 then ((dA C rec p seen k s).weights ++ [1+((dA C rec p seen k s).s.draw C 3).1],((dA C rec p seen k s).s.draw C 3).2) else ((dA C rec p seen k s).weights,(dA C rec p seen k s).s)).1,_,_⟩:KS)=_;rw[h]
theorem abZ {C:MC} {rec:List (List Int)→MS→Nat×MS} {p:Place} {seen:List (List Int)} {s:MS}:∀ k,(dA C rec p seen k s).weights.length≤k∧(dA C rec p seen k s).next.length=k
 | 0=>⟨Nat.le_refl _,rfl⟩
 | k+1=>by
  obtain⟨h1,h2⟩:=abZ (C:=C) (rec:=rec) (p:=p) (seen:=seen) (s:=s) k;by_cases hp:p.aC < 0
  ·rw[vH (if_pos hp)]; simp; omega
  ·rw[vH (if_neg hp)]; simp; omega
theorem Below.wr {K:Foot} {B:Nat} {a w w':World} (h:Below B a w) (hw:Wrote K w w') (hB:B≤w.heap.size) (hK:∀ b,K b→B≤b):Below B a w' :=
 ⟨hw.os.trans h.os,hw.tape.trans h.tape,hw.output.trans h.output,Nat.le_trans h.size hw.size,fun i hi=>(hw.block i (Nat.lt_of_lt_of_le hi hB) (fun e=>by have:=hK i e; omega)).trans (h.block i hi)⟩
theorem aiX {S:Int} {j:Nat} (h0:0≤S) (h1:S≤15) (hj:j≤4):bits BinOp.and IntKind.i64 (S / 2 ^ j) 1=if (S.toNat >>> j) % 2=1 then 1 else 0:=by
 obtain⟨n,rfl⟩:=Int.eq_ofNat_of_zero_le h0;have h:∀ n:Fin 16,∀ j:Fin 5,bits BinOp.and IntKind.i64 (((n:Nat):Int) / 2 ^ (j:Nat)) 1=if (((n:Nat):Int).toNat >>> (j:Nat)) % 2=1 then 1 else 0:=by decide +kernel
 exact h ⟨n,byOmega⟩ ⟨j,byOmega⟩
theorem aht {p:Place} {k j:Nat} {seen:List (List Int)} {l:List Int} (h:seen[j]? = some l):(gV p k seen)[j]? = some (l ++ [if (j:Int)=p.aC∨(p.seen.toNat >>> j) % 2=1 then (k:Int) else -1]):=by
 unfold gV;rw[List.getElem?_mapIdx,h];rfl
theorem node6 {w:World} {b:Nat} {t:TypeId} {a0 a1 a2 a3 a4 a5:Value} (h:Row w b t [a0,a1,a2,a3,a4,a5]) (v0 v1 v2 v3 v4 v5:Value):∃ W,W=((((((w.setCell ⟨b,0,none⟩ v0).setCell ⟨b,1,none⟩ v1).setCell ⟨b,2,none⟩ v2).setCell ⟨b,3,none⟩ v3).setCell ⟨b,4,none⟩ v4).setCell ⟨b,5,none⟩ v5) ∧
  Row W b t [v0,v1,v2,v3,v4,v5]∧Wrote (fun k=>k=b) w W:=by
 refine⟨_,rfl,?_,?_⟩
 ·exact(((((h.set 0 v0).set 1 v1).set 2 v2).set 3 v3).set 4 v4).set 5 v5
 ·have h0:Wrote (fun k=>k=b) w w:=Wrote.refl _ _;exact(((((h0.setCell (p:=⟨b,0,none⟩) (.inl rfl) v0).setCell (p:=⟨b,1,none⟩) (.inl rfl) v1).setCell (p:=⟨b,2,none⟩) (.inl rfl) v2).setCell (p:=⟨b,3,none⟩) (.inl rfl) v3).setCell (p:=⟨b,4,none⟩) (.inl rfl) v4).setCell (p:=⟨b,5,none⟩) (.inl rfl) v5
theorem Tryz.infoNodeK:(Tryz.prog.info? 127).map (fun i=>(i.zero,i.size,i.bytes))=some (some (.agg #[.int .i64 0,.int .i64 0,.int .i64 0,.slice none 0 0,.slice none 0 0,.slice none 0 0]),wV.n,96):=ah
theorem wW {w:World} {F:Foot}:AA w F (.slice none 0 0) []:=⟨none,0,rfl,Nat.le_refl _,fun h=>absurd h aB⟩
def MS.begun (s:MS):MS:={ s with pending:=s.pending - 1,nodes:=s.nodes ++ [jE] }
theorem ahu {C:MC} {f level:Nat} {seen:List (List Int)} {s:MS} (h:level=C.levels.length):bQ C (f+1) level seen s=(s.nodes.length,ny C s.nodes.length s.begun):=by
 unfold bQ;simp only[h,if_true];rfl
theorem afR {C:MC} {f level:Nat} {seen:List (List Int)} {s:MS} (h:level≠C.levels.length) (h8:(s.begun.draw C 8).1=1):bQ C (f+1) level seen s=(s.nodes.length,ny C s.nodes.length (s.begun.draw C 8).2):=by
 unfold bQ;simp only[h,if_false];exact if_pos h8
theorem ahv {C:MC} {f level:Nat} {seen:List (List Int)} {s:MS} {p:Place} {o:Int×Int×MS} (h:level≠C.levels.length) (h8:(s.begun.draw C 8).1≠1) (hp:C.levels[level]? = some p) (ho:o=kQ C p (level:Int) seen (s.begun.draw C 8).2) (hb:C.most < (s.nodes.length:Int)+1+o.2.2.pending+o.2.1) :
  bQ C (f+1) level seen s=(s.nodes.length,ny C s.nodes.length (jR o.1 p.aC o.2.2)):=by
 have e:C.levels.getD level default=p:=by rw[List.getD_eq_getElem?_getD,hp];rfl
 subst ho;unfold bQ;simp only[h,if_false,e];refine(if_neg h8).trans ?_;exact if_pos hb
theorem ahw {C:MC} {f level:Nat} {seen:List (List Int)} {s:MS} {p:Place} {o:Int×Int×MS} (h:level≠C.levels.length) (h8:(s.begun.draw C 8).1≠1) (hp:C.levels[level]? = some p) (ho:o=kQ C p (level:Int) seen (s.begun.draw C 8).2) (hb:¬ C.most < (s.nodes.length:Int)+1+o.2.2.pending+o.2.1) :
  bQ C (f+1) level seen s=(s.nodes.length,{ (dA C (bQ C f (level+1)) p seen o.2.1.toNat { o.2.2 with pending:=o.2.2.pending+o.2.1 }).s with nodes:=(dA C (bQ C f (level+1)) p seen o.2.1.toNat { o.2.2 with pending:=o.2.2.pending+o.2.1 }).s.nodes.set s.nodes.length (iV p o.1 (dA C (bQ C f (level+1)) p seen o.2.1.toNat { o.2.2 with pending:=o.2.2.pending+o.2.1 }).weights (dA C (bQ C f (level+1)) p seen o.2.1.toNat { o.2.2 with pending:=o.2.2.pending+o.2.1 }).next) }):=by
 have e:C.levels.getD level default=p:=by rw[List.getD_eq_getElem?_getD,hp];rfl
 subst ho;unfold bQ;simp only[h,if_false,e];refine(if_neg h8).trans ?_;exact if_neg hb
def Opened (C:MC) (M:ML) (Fd:Foot) (vv vn vn2 vi:Value) (Ln:List NV) (s:MS) (xb:Nat) (p:Place) (W w':World):Prop:=∃ (vv' vi':Value) (Lv':List VV),Up W vv vv'∧Up W vi vi'∧MAt C M Fd vv' vn2 vi' Lv' Ln s w'∧Wrote (Mut M.mb M.db vv vn vi) W w'∧Row w' xb 81 [.int .i64 p.aC,.int .i64 p.many,.int .i64 p.seen]∧BL M Fd vv' vn2 vi' w' xb
def Eb (p:Prop):Prop:=p
theorem akX {p:Prop} (h:Eb p):p:=h
def Cb (C:MC) (M:ML) (f:Nat):Prop:=∀ (level:Nat),level+f=C.levels.length+1→level≤C.levels.length→∀ (Fd:Foot) (vv vn vi:Value) (Lv:List VV) (Ln:List NV) (s:MS) (W:World) (nv:Value) (seen:List (List Int)),
  MAt C M Fd vv vn vi Lv Ln s W→Bd W Fd nv seen→(∀ l∈seen,l.length=level)→seen.length=C.aA.toNat→JM C 0 s→1≤s.pending →
  Calls Tryz.prog 37 #[.pointer (some ⟨M.mb,0,none⟩),.int .i64 (level:Int),nv] W fun e w'=>e = .returned (.int .i64 ((bQ C f level seen s).1:Int))∧Built C M Fd vv vn vi (bQ C f level seen s).2 W w'
theorem aei {C:MC} (hC:BH C) (hm:C.most≤1000) (hp1:1≤C.aA) (hp4:C.aA≤4) {M:ML} {f:Nat} (ih:Cb C M f):Cb C M (f+1):=by
  intro level hf hl Fd vv vn vi Lv Ln s W nv seen h hs hsl hsp hj hpe;have IH:=Ag (ih (level+1));clear ih;have HM:=Ag h;have HS:=Ag hs;have HJ:=Ag hj;have HSL:=Ag hsl;have HSP:=Ag hsp;have HC:=Ag hC;have HLN:=Ag (show Ln.length=s.nodes.length by rw[← h.oO,List.length_map]);have hnl:Ln.length≤1000:=by have:=HJ.out.np;have:=HJ.out.p0;have:=HLN.out;omega
  have hpb:s.pending≤1000:=by have:=HJ.out.np;omega
  clear h hs hsl hsp hj hC;obtain⟨An,cn,hvn,hcn,_⟩:=HM.out.nodes.form;have HV:=Ag hvn;obtain⟨As,cs,rfl,hcs,_⟩:=id HS.out;have hbase:M.base≤W.heap.size:=Nat.le_of_lt (Nat.lt_of_le_of_lt HM.out.dL.1 HM.out.box.lt);have m4:=HM.out.box.cell (i:=4) rfl;have m8:W.cell? ⟨M.mb,8,none⟩=some (.slice An Ln.length cn):=hvn▸HM.out.box.cell (i:=8) rfl;have f4:=HM.out.box.frozen 4;clear hvn;have hwp:IntKind.i64.wrap (s.pending - 1)=s.pending - 1:=IntWalk.i64_in _ byOmega;obtain⟨W1,hW1⟩:=named (W.setCell ⟨M.mb,4,none⟩ (.int .i64 (s.pending - 1)));have HM1:=Ag (show MAt C M Fd vv vn vi Lv Ln { s with pending:=s.pending - 1 } W1 from hW1▸HM.out.aaK (s.pending - 1));have HW:=Ag (show Wrote (Mut M.mb M.db vv vn vi) W W1 from hW1▸Wrote.setCell (Wrote.refl _ _) (.inl (.inl rfl)) _);have HY:=Ag hW1;clear hW1;go_in
  go_upto_region 3 with(fail)
  rw[← HY.out];have k6:=HW.out.size;clear m4 m8 f4 HY hwp;have m8:=HM1.out.box.cell (i:=8) rfl;have yj:vn.ownBlock≠some M.mb:=fun e=>(HM1.out.dD _ e).1 rfl
  go_wp2_with (at_builtin; refine akX ?_)
  unfold Eb;refine jJ (K:=wV) (F:=Fd) (w:=W1) (W:=W1) rfl _ _ 24 127 96 _ Tryz.underlying24 Tryz.infoNodeK rfl ay rfl M.base (Nat.le_trans hbase k6) vn Ln rfl ⟨jE,.slice none 0 0,.slice none 0 0,.slice none 0 0⟩ _ rfl byOmega rfl HM1.out.nodes ⟨wW,wW,wW⟩ ?_;intro g' cap wq hown' hwq hat' hlt';have m8:=dh m8 hwq yj;have f8:=(HM1.out.box.wrote hwq yj).frozen 8;have HO:=Ag hown';have HQ:=Ag hwq;have HA:=Ag hat';have HL:=Ag hlt';clear hown' hwq hat' hlt';obtain⟨W2,hW2,hm2,hw2⟩:=HM1.out.afL HO.out HQ.out HA.out HL.out;have HM2:=Ag (show MAt C M Fd vv (.slice (some ⟨g',0,none⟩) (Ln.length+1) cap) vi Lv (Ln ++ [⟨jE,.slice none 0 0,.slice none 0 0,.slice none 0 0⟩]) s.begun W2 from hm2);have HU:=Ag (aiW (n:=Ln.length+1) (cap:=cap) HA.out k6);have HW2:=Ag (HW.out.trans hw2);have HY:=Ag hW2;have k7:W.heap.size≤W2.heap.size:=HW2.out.size;clear hW2 hm2 hw2 HO HQ HA HL HM1 HW;go_upto_region 4 with(fail)
  rw[← HY.out];clear HY m8 f8 yj k6;have HJ1:=Ag (show JM C 1 s.begun from HJ.out.push hpe);obtain⟨Al,cl,hvl,hcl,hgl⟩:=HM.out.lev.form;have m1:W2.cell? ⟨M.mb,1,none⟩=some (.slice Al C.levels.length cl):=hvl▸HM2.out.box.cell (i:=1) rfl;have m0:=HM2.out.box.cell (i:=0) rfl;have HVL:=Ag hvl;clear hvl;by_cases hle:level=C.levels.length
  ·have HB:=Ag (ahu (f:=f) (seen:=seen) (s:=s) hle);have t1:((level:Int)==(C.levels.length:Int))=true:=by rw[hle];simp
   clear hle hf hl;have hlt:Ln.length < (Ln ++ [(⟨jE,.slice none 0 0,.slice none 0 0,.slice none 0 0⟩:NV)]).length:=aB;go_wp2_with (go_at_call 88; (with_reducible refine(aaM HM2.out Ln.length hlt hp1 hp4).mono ?_); rintro e w' ⟨rfl,q,hq,hm3,hw3⟩)
   go_ret;exact⟨by rw[HB.out,← HLN.out]; rfl,by rw[HB.out,← HLN.out]; exact⟨_,_,_,_,_,_,fun b hb=>.inl hb,fun b hb=>hb.imp id fun h=>by omega,Up.refl _ _,HU.out,Up.refl _ _,hm3,HW2.out.step hw3 fun i hi e=>yX (Up.refl W _) HU.out (Up.refl W _) hi e⟩⟩
  have t1:((level:Int)==(C.levels.length:Int))=false:=aF;have HLE:=Ag hle;have hlv:level < C.levels.length:=byOmega;obtain⟨dv,hdv⟩:=named ((s.begun.draw C 8).1);have HDV:=Ag hdv;obtain⟨s2,hs2⟩:=named ((s.begun.draw C 8).2);have HS2:=Ag hs2;have HJ2:=Ag (show JM C 1 s2 by rw[hs2]; exact HJ1.out.at _);have h2n:s2.nodes=s.nodes ++ [jE]:=by rw[hs2];rfl
  have H2N:=Ag h2n;clear hle hs2 h2n;by_cases h8:dv=1
  ·have HB:=Ag (afR (f:=f) (seen:=seen) HLE.out (HDV.out▸h8));have t2:(dv==1)=true:=by simpa using h8
   have hlt:Ln.length < (Ln ++ [(⟨jE,.slice none 0 0,.slice none 0 0,.slice none 0 0⟩:NV)]).length:=aB;clear h8 hdv;go_wp2_with (first | (go_at_call 36; (with_reducible refine(aeb HM2.out 8 ay ay).mono ?_); rintro e w' ⟨rfl,hm3,hw3⟩; rw[← HDV.out]; have HM3:=Ag (HS2.out▸hm3); have HW3:=Ag (HW2.out.step hw3 fun i _ e=>.inr (.inl e)); have k8:=Nat.le_trans k7 hw3.size; clear hw3 hm3) | (go_at_call 88; (with_reducible refine(aaM HM3.out Ln.length hlt hp1 hp4).mono ?_); rintro e w' ⟨rfl,q,hq,hm4,hw4⟩))
   go_ret;exact⟨by rw[HB.out,← HLN.out]; rfl,by rw[HB.out,← HLN.out,← HS2.out]; exact⟨_,_,_,_,_,_,fun b hb=>.inl hb,fun b hb=>hb.imp id fun h=>by omega,Up.refl _ _,HU.out,Up.refl _ _,hm4,HW3.out.step hw4 fun i hi e=>yX (Up.refl W _) HU.out (Up.refl W _) hi e⟩⟩
  have t2:(dv==1)=false:=by simpa using h8
  have HN8:=Ag h8;clear hdv;go_upto_region 7 with(go_at_call 36; (with_reducible refine(aeb HM2.out 8 ay ay).mono ?_); rintro e w3 ⟨rfl,hm3,hw3⟩; rw[← HDV.out]; have HM3:=Ag (HS2.out▸hm3); have HW3:=Ag (HW2.out.step hw3 fun i _ e=>.inr (.inl e)); have k8:=Nat.le_trans k7 hw3.size; clear hw3 hm3)
  clear m0 m1 t1 t2 h8 k7 HM2 HW2;obtain⟨p,hp⟩:=getSome hlv;have HP:=Ag hp;have HPO:=Ag (HC.out.pl p (List.mem_of_getElem? hp));clear hp;have hlc:∃ g,Al=some ⟨g,0,none⟩∧∀ j u,(aaJ.cells p)[j]? = some u→w3.cell? ⟨g,level*3+j,none⟩=some u:=by
   obtain⟨g,rfl⟩:=hgl byOmega;have hx:=HM3.out.lev.at;rw[HVL.out] at hx;rcases hx with⟨h,_⟩ | ⟨g',cap,h,_,_,_,_,hx⟩
   ·simp at h
   ·simp only[Value.slice.injEq,Option.some.injEq,Addr.mk.injEq,and_true,true_and] at h;obtain⟨rfl,_⟩:=h;exact⟨g,rfl,fun j u hu=>by have:=hx level p HP.out j u hu; rw[Nat.zero_add] at this; exact this⟩
  obtain⟨gl,rfl,hlc⟩:=hlc;have m1:w3.cell? ⟨M.mb,1,none⟩=some (.slice (some ⟨gl,0,none⟩) C.levels.length cl):=HVL.out▸HM3.out.box.cell (i:=1) rfl;have c0:w3.cell? ⟨gl,level*3,none⟩=some (.int .i64 p.aC):=hlc 0 _ rfl;have c1:w3.cell? ⟨gl,level*3+1,none⟩=some (.int .i64 p.many):=hlc 1 _ rfl;have c2:w3.cell? ⟨gl,level*3+2,none⟩=some (.int .i64 p.seen):=hlc 2 _ rfl;clear hlc hgl;go_upto_region 8 with(fail)
  obtain⟨w4,hw4,rx,hB4,hz4⟩:=aO w3 81 #[.int .i64 p.aC,.int .i64 p.many,.int .i64 p.seen];rw[← hw4];obtain⟨xb,hxb⟩:=named w3.heap.size;rw[← hxb] at rx ⊢;have hxW:W.heap.size≤xb:=byOmega;have HM4:=Ag (HM3.out.below hB4);have HPX:=Ag (HM3.out.zG (W':=w4) (b:=xb) byOmega byOmega);have HW4:=Ag (HW3.out.trans (Below.wrote hB4 _));have k9:W.heap.size≤w4.heap.size:=HW4.out.size;have HXM:=Ag (show(∀ b,M.F b∨Fd b∨Mut M.mb M.db vv (.slice (some ⟨g',0,none⟩) (Ln.length+1) cap) vi b∨M.vl.ownBlock=some b→b < xb) from fun b hb=>by rw[hxb]; exact HM3.out.afN hb);clear hw4 hB4 hz4 hxb c0 c1 c2 m1 HM3 HW3 k8;have x0:=rx.cell (i:=0) rfl;have x1:=rx.cell (i:=1) rfl;obtain⟨o,ho⟩:=named (kQ C p (level:Int) seen s2);have HO:=Ag ho;clear ho;go_upto_if 71 with(fail)
  obtain⟨bb,hbb⟩:=named (decide (0≤p.aC));rw[← hbb];have HBB:=Ag hbb;clear hbb;go_cut [9,10] from 69 to 90 (fun v9 v10 wx=>v9 = .int .i64 o.2.1∧v10 = .int .i64 o.1∧Opened C M Fd vv vn (.slice (some ⟨g',0,none⟩) (Ln.length+1) cap) vi (Ln ++ [⟨jE,.slice none 0 0,.slice none 0 0,.slice none 0 0⟩]) o.2.2 xb p W wx)
  case first =>
   by_cases hp0:p.aC < 0
   ·obtain rfl:bb=false:=by rw[HBB.out];exact decide_eq_false byOmega
    have HO2:=Ag (show o=(0,p.many,s2) by rw[HO.out]; exact if_pos hp0);clear hp0;go_wp2_with fail
    go_meet
    exact⟨by rw[HO2.out],by rw[HO2.out],vv,vi,Lv,Up.refl _ _,Up.refl _ _,by rw[HO2.out]; exact HM4.out,HW4.out,rx,HPX.out⟩
   ·obtain rfl:bb=true:=by rw[HBB.out];exact decide_eq_true byOmega
    obtain⟨P,hP⟩:∃ P:Nat,p.aC=(P:Int):=⟨p.aC.toNat,byOmega⟩;have hPs:P < seen.length:=by have:=HPO.out.1;have:=HSP.out;omega
    obtain⟨sl,hsl⟩:=getSome hPs;have Eh:=Ag (HSL.out sl (List.mem_of_getElem? hsl));have hsr:=Bd.on HS.out (HW4.out.same fun b hb=>(HM.out.foot b hb).2.2);obtain⟨_,_,hse,_,hsr⟩:=hsr;obtain⟨bs,os,hbs,hbf,hbl,aiY⟩:=hsr byOmega;simp only[Value.slice.injEq,true_and] at hse;obtain⟨rfl,rfl⟩:=hse;obtain⟨vs,hcs2,hvs⟩:=aiY P sl hsl;rw[Nat.mul_one] at hcs2;have HVS:=Ag hvs;have HO2:=Ag (show o=((jB C (P:Int) (level:Int) sl s2).1,((jB C (P:Int) (level:Int) sl s2).2.infos.getD (jB C (P:Int) (level:Int) sl s2).1.toNat default).actions,(jB C (P:Int) (level:Int) sl s2).2) by
     rw[HO.out];have e:seen.getD p.aC.toNat []=sl:=by rw[hP,Int.toNat_natCast,List.getD_eq_getElem?_getD,hsl];rfl
     unfold kQ;rw[if_neg hp0,e,hP])
    have HPP:=Ag hP;have HJF:=Ag (HJ2.out.find (P:Int) (level:Int) sl (by rw[Eh.out]; have:=HC.out.len; omega));rw[hP] at x0;subst hbs;clear hp0 hP hsl hsr aiY hvs;obtain⟨Av,cv,rfl,_⟩:=id HVS.out;have hxb4:∀ b,Mut M.mb M.db vv (.slice (some ⟨g',0,none⟩) (Ln.length+1) cap) vi b→b≠xb:=fun b hb e=>by have:=HXM.out b (.inr (.inr (.inl hb)));omega
    have hbs4:∀ b,Mut M.mb M.db vv (.slice (some ⟨g',0,none⟩) (Ln.length+1) cap) vi b→b≠bs:=fun b hb e=>(HM4.out.foot bs hbf).2.2 (e▸hb)
    clear x1;go_upto_region 10 with(fail)
    refine wp_region_held_drew (S:=fun w'=>w'.cell? ⟨xb,0,none⟩=some (.int .i64 (P:Int))∧w'.cell? ⟨bs,os+P,none⟩=some (.slice Av sl.length cv)) ah ⟨x0,hcs2⟩ (fun hHeld=>?_);have hb:Below w4.heap.size w4 w4.drew:=aI (Below.refl _ w4) 1;replace x0:=ak x0 hb;replace hcs2:=ak hcs2 hb;replace HM4:=Ag (HM4.out.below hb);replace HVS:=Ag (HVS.out.on (Below.same' hb Fd));replace rx:=rx.below hb rx.lt;replace HW4:=Ag (HW4.out.trans (Below.wrote hb _));replace k9:=Nat.le_trans k9 hb.size;replace HPX:=Ag (HPX.out.wider hb.size);clear hb;generalize w4.drew=wn at *;refine tkm [0,1,2,3,4,5,6,7,8] ?_;refine tk2 9 ah rfl fun K hK=>?_
    go_simp;refine(ahs HM4.out (P:Int) (level:Int) (.slice Av sl.length cv) sl HVS.out (by rw[Eh.out]; have:=HC.out.len; omega) (fun v hv=>by have:=HJ2.out.vs v hv; omega) (by have:=HJ2.out.il; have:=HJ2.out.np; have:=HJ2.out.p0; omega) (by have:=HJ2.out.vl; have:=HJ2.out.il; have:=HJ2.out.np; have:=HJ2.out.p0; omega)).mono ?_;rintro e w5 ⟨rfl,vv',vi',Lv',hu1,hu2,hm5,hw5⟩;replace x0:=dh x0 hw5 (fun e=>hxb4 _ e rfl);replace hcs2:=dh hcs2 hw5 (fun e=>hbs4 _ e rfl);replace rx:=rx.wrote hw5 (fun e=>hxb4 _ e rfl);have HU1:=Ag (Up.trans (Up.refl W vv) hu1 k9);have HU2:=Ag (Up.trans (Up.refl W vi) hu2 k9);replace HPX:=Ag (HPX.out.next (Fe:=Fd) hw5.size (fun b hb=>.inl hb) hu1 (Up.refl _ _) hu2);have HM5:=Ag hm5;have HW5:=Ag (HW4.out.step hw5 fun i hi e=>yX (Up.refl W _) HU.out (Up.refl W _) hi e);obtain⟨F2,hF2⟩:=named (jB C (P:Int) (level:Int) sl s2);rw[← hF2] at HM5 HO2 HJF ⊢;obtain⟨k,hk⟩:∃ k:Nat,F2.1=(k:Int):=⟨F2.1.toNat,by have:=HJF.out.2.2.2.1; omega⟩;have hkl:k < F2.2.infos.length:=by have:=HJF.out.2.2.2.2;omega
    rw[hk] at HO2 ⊢;obtain⟨inf,gU⟩:=getSome hkl;have HO3:=Ag (show o=((k:Int),inf.actions,F2.2) by rw[HO2.out,Int.toNat_natCast,List.getD_eq_getElem?_getD,gU]; rfl);have HIN:=Ag gU;clear hHeld hu1 hu2 hm5 hw5 hF2 hk gU HJF HO2 HM4 HW4 HVS;refine hK.out _ _ ⟨x0,hcs2⟩ (fun hHeld=>?_);clear hK K;refine Zb ?_;refine tkm [10] ?_;refine Yp ?_;clear hHeld;obtain⟨Ai,ci,hvi,hci,hgi⟩:=HM5.out.infos.form;obtain⟨gi,rfl⟩:=hgi byOmega;have m9:w5.cell? ⟨M.mb,9,none⟩=some (.slice (some ⟨gi,0,none⟩) F2.2.infos.length ci):=hvi▸HM5.out.box.cell (i:=9) rfl;have hc1:w5.cell? ⟨gi,k*2+1,none⟩=some (.int .i64 inf.actions):=by
     have hx:=HM5.out.infos.at;rw[hvi] at hx;rcases hx with⟨h,_⟩ | ⟨g2,cap2,h,_,_,_,_,hx⟩
     ·simp at h
     ·simp only[Value.slice.injEq,Option.some.injEq,Addr.mk.injEq,and_true,true_and] at h;obtain⟨rfl,_⟩:=h;have:=hx k inf HIN.out 1 _ rfl;rw[Nat.zero_add] at this;exact this
    have HVI:=Ag hvi;clear hvi hgi x0 hcs2;go_wp2_with fail
    go_meet
    exact⟨by rw[HO3.out],by rw[HO3.out],vv',vi',Lv',HU1.out,HU2.out,by rw[HO3.out]; exact HM5.out,HW5.out,rx,HPX.out⟩
  case rest =>
   obtain⟨rfl,rfl,vv1,vi1,Lv1,hu1,hu2,hm5,hw5,rx,hpx⟩:=hcut;replace HPX:=Ag hpx;clear hpx;obtain⟨o1,o2,o3,o4,o5,o6⟩:=JM.open HJ2.out p (by have:=HPO.out; omega) (level:Int) seen (fun l hl=>by rw[HSL.out l hl]; have:=HC.out.len; omega);rw[← HO.out] at o1 o2 o3 o4 o5 o6;have h2p:s2.pending=s.pending - 1:=by rw[HS2.out];rfl
   rw[h2p] at o2;rw[H2N.out] at o3;have hbig:=fun hb=>ahv (f:=f) (o:=o) HLE.out (by rw[← HDV.out]; exact HN8.out) HP.out (by rw[← HS2.out]; exact HO.out) hb
   have hmid:=fun hb=>ahw (f:=f) (o:=o) HLE.out (by rw[← HDV.out]; exact HN8.out) HP.out (by rw[← HS2.out]; exact HO.out) hb
   clear HO HJ2 HDV HN8 HS2 H2N h2p HM4 HW4 x0 x1 m8 HJ1;obtain⟨info,many,s3⟩:=o;dsimp only at o1 o2 o3 o4 o5 o6 hbig hmid hm5 ⊢;obtain⟨mn,rfl⟩:∃ mn:Nat,many=(mn:Int):=⟨many.toNat,byOmega⟩;have hmn:1≤mn∧mn≤3:=byOmega;have HBIG:=Ag hbig;have HMID:=Ag hmid;have HJ3:=Ag o1;have HM6:=Ag hm5;have HW6:=Ag hw5;have HU1:=Ag hu1;have HU2:=Ag hu2;have k9':W.heap.size≤wc.heap.size:=HW6.out.size;have hs3:Ln.length+1=s3.nodes.length:=by rw[o3,HLN.out];simp
   have HS3:=Ag hs3;have HO3:=Ag o3;obtain⟨pe,akY⟩:=named s3.pending;have m3:=HM6.out.box.cell (i:=3) rfl;have m4:=HM6.out.box.cell (i:=4) rfl;rw[← akY] at m4 o2;have HPE:=Ag akY;have hpeb:0≤pe∧pe≤1000:=byOmega;have hq1:IntKind.i64.wrap ((Ln.length:Int)+1)=(Ln.length:Int)+1:=IntWalk.i64_in _ byOmega;have hq2:IntKind.i64.wrap ((Ln.length:Int)+1+pe)=(Ln.length:Int)+1+pe:=IntWalk.i64_in _ byOmega;have hq3:IntKind.i64.wrap ((Ln.length:Int)+1+pe+(mn:Int))=(Ln.length:Int)+1+pe+(mn:Int):=IntWalk.i64_in _ byOmega;have HO2:=Ag o2;clear hbig hmid o1 o2 o3 o5 o6 hm5 hw5 hu1 hu2 hs3 akY k9;go_upto_region 12 with(fail)
   go_quiet (fail)
   obtain⟨Wq,hWq⟩:=named (wc.drewN nq);have hbq:Below wc.heap.size wc Wq:=hWq▸aI (Below.refl _ wc) nq;replace HM6:=Ag (HM6.out.below hbq);replace HW6:=Ag (HW6.out.trans (Below.wrote hbq _));replace rx:=rx.below hbq rx.lt;replace k9':=Nat.le_trans k9' hbq.size;replace HPX:=Ag (HPX.out.wider hbq.size);rw[← hWq];clear hWq hbq m3 m4;obtain⟨bb2,akZ⟩:=named (decide (C.most < (Ln.length:Int)+1+pe+(mn:Int)));rw[← akZ];have Ew:=Ag akZ;clear akZ;have ak0:M.base≤Wq.heap.size:=Nat.le_trans hbase k9';have hlt1:Ln.length < (Ln ++ [(⟨jE,.slice none 0 0,.slice none 0 0,.slice none 0 0⟩:NV)]).length:=aB;have x0:=rx.cell (i:=0) rfl;by_cases hb:C.most < (Ln.length:Int)+1+pe+(mn:Int)
   ·obtain rfl:bb2=true:=by rw[Ew.out];exact decide_eq_true hb
    have HB:=Ag (HBIG.out (by rw[← HPE.out,← HLN.out]; exact hb));have hil:=HJ3.out.il;have hnp:=HJ3.out.np;have hp0:=HJ3.out.p0;have hvl:=HJ3.out.vl;have h3l:s3.infos.length≤1000000:=byOmega;have hl2:(Ln ++ [(⟨jE,.slice none 0 0,.slice none 0 0,.slice none 0 0⟩:NV)]).length≤1000000:=aF;clear hb hil hnp hp0;have CG:=Ag hvl;clear hvl;go_wp2_with (first | (go_at_call 90; (with_reducible refine(ahp HM6.out info p.aC o4 byOmega CG.out h3l hl2).mono ?_); rintro e w7 ⟨rfl,vv2,vi2,Lv2,he1,he2,hm7,hw7⟩; have HM7:=Ag hm7; have HE:=Ag (And.intro he1 he2); have k10:=Nat.le_trans k9' hw7.size; have HW7:=Ag (HW6.out.step hw7 fun i hi e=>yX HU1.out HU.out HU2.out hi e); clear hw7 hm7 he1 he2) | (go_at_call 88; (with_reducible refine(aaM HM7.out Ln.length hlt1 hp1 hp4).mono ?_); rintro e w8 ⟨rfl,q,hq,hm8,hw8⟩))
    go_ret;have hu1:Up W vv vv2:=fun b hb=>HU1.out b (by rw[← HE.out.1]; exact hb)
    have hu2:Up W vi vi2:=fun b hb=>HU2.out b (by rw[← HE.out.2]; exact hb)
    exact⟨by rw[HB.out,← HLN.out]; rfl,by rw[HB.out,← HLN.out]; exact⟨_,_,_,_,_,_,fun b hb=>.inl hb,fun b hb=>hb.imp id fun h=>by omega,hu1,HU.out,hu2,hm8,HW7.out.step hw8 fun i hi e=>yX hu1 HU.out hu2 hi e⟩⟩
   obtain rfl:bb2=false:=by rw[Ew.out];exact decide_eq_false hb
   have HB:=Ag (HMID.out (by rw[← HPE.out,← HLN.out]; exact hb));have m4:=HM6.out.box.cell (i:=4) rfl;have f4:=HM6.out.box.frozen 4;rw[← HPE.out] at m4;have hq4:IntKind.i64.wrap (pe+(mn:Int))=pe+(mn:Int):=IntWalk.i64_in _ byOmega;obtain⟨s4,hs4⟩:∃ s4:MS,s4 = { s3 with pending:=s3.pending+(mn:Int) }:=⟨_,rfl⟩;rw[← hs4] at HB;obtain⟨W7,hW7⟩:=named (Wq.setCell ⟨M.mb,4,none⟩ (.int .i64 (pe+(mn:Int))));have HM7:=Ag (show MAt C M Fd vv1 (.slice (some ⟨g',0,none⟩) (Ln.length+1) cap) vi1 Lv1 (Ln ++ [⟨jE,.slice none 0 0,.slice none 0 0,.slice none 0 0⟩]) s4 W7 by rw[hW7,hs4,← HPE.out]; exact HM6.out.aaK (pe+(mn:Int)));have hw7:Wrote (fun b=>b=M.mb) Wq W7:=hW7▸Wrote.setCell (K:=fun b=>b=M.mb) (p:=⟨M.mb,4,none⟩) (Wrote.refl _ _) (.inl rfl) _;have hxmb:M.mb≠xb:=fun e=>HPX.out.2.2.2.1 (.inl e.symm)
   have HW7:=Ag (HW6.out.step hw7 fun i hi e=>.inl e);have HJ4:=Ag (show JM C 0 s4 by
    rw[hs4];refine⟨HJ3.out.vl,HJ3.out.vi,HJ3.out.il,?_,?_,HJ3.out.vs,HJ3.out.ac⟩
    ·show(s3.nodes.length:Int)+(s3.pending+(mn:Int))≤C.most;rw[← HPE.out,← HS3.out];omega
    ·show 0≤s3.pending+(mn:Int);rw[← HPE.out]; omega)
   have HN4:=Ag (show Ln.length+1=s4.nodes.length by rw[hs4]; exact HS3.out);have HP4:=Ag (show s4.pending=pe+(mn:Int) by rw[hs4]; show s3.pending+(mn:Int)=_; rw[← HPE.out]);have rx7:=rx.wrote hw7 (fun e=>hxmb e.symm);replace HPX:=Ag (HPX.out.wider hw7.size);have k10:=Nat.le_trans k9' hw7.size;have HY:=Ag hW7;clear hs4 hW7 HM6 HW6 rx k9' HJ3 hb x0 hw7;go_upto_region 17 with(fail)
   rw[← HY.out];clear HY m4 f4;go_upto_region 18 with(fail)
   obtain⟨w8,hw8,ry,hB8,hz8⟩:=aO W7 127 #[.int .i64 1,.int .i64 0,.int .i64 0,.slice none 0 0,.slice none 0 0,.slice none 0 0];rw[← hw8];obtain⟨yb,hyb⟩:=named W7.heap.size;rw[← hyb] at ry ⊢;have HPY:=Ag (HM7.out.zG (W':=w8) (b:=yb) byOmega byOmega);replace HPX:=Ag (HPX.out.wider hB8.size);have hxy:yb≠xb:=by have:=rx7.lt;omega
   have hyW:W.heap.size≤yb:=byOmega;have HM8:=Ag (HM7.out.below hB8);have HW8:=Ag (HW7.out.trans (Below.wrote hB8 _));have rx8:=rx7.below hB8 rx7.lt;have k11:W.heap.size≤w8.heap.size:=HW8.out.size;clear hw8 hyb hB8 hz8 rx7 HM7 HW7 k10;obtain⟨hd,hhd⟩:=named (iV p info [] []);have HHD:=Ag hhd;clear hhd;have x0:=rx8.cell (i:=0) rfl;go_upto_if 126 with(fail)
   obtain⟨bb3,ak1⟩:=named (decide (0≤p.aC));rw[← ak1];have Ey:=Ag ak1;clear ak1;go_cut [] from 124 to 130 (fun wx=>Row wx yb 127 [.int .i64 hd.kind,.int .i64 hd.aC,.int .i64 hd.info,.slice none 0 0,.slice none 0 0,.slice none 0 0]∧Wrote (fun b=>b=yb) w8 wx)
   case first =>
    by_cases hp0:p.aC < 0
    ·obtain rfl:bb3=false:=by rw[Ey.out];exact decide_eq_false byOmega
     have HH:=Ag (show hd.kind=1∧hd.aC=0∧hd.info=0 by rw[HHD.out]; unfold iV; rw[if_pos hp0]; exact⟨rfl,rfl,rfl⟩);clear hp0;go_wp2_with fail
     go_meet
     exact⟨by rw[HH.out.1,HH.out.2.1,HH.out.2.2]; exact ry,Wrote.refl _ _⟩
    ·obtain rfl:bb3=true:=by rw[Ey.out];exact decide_eq_true byOmega
     have HH:=Ag (show hd.kind=2∧hd.aC=p.aC∧hd.info=info by rw[HHD.out]; unfold iV; rw[if_neg hp0]; exact⟨rfl,rfl,rfl⟩);clear hp0;have y0:=ry.cell (i:=0) rfl;have f0:=ry.frozen 0;have y1:=ry.cell (i:=1) rfl;have f1:=ry.frozen 1;have y2:=ry.cell (i:=2) rfl;have f2:=ry.frozen 2;have y3:=ry.cell (i:=3) rfl;have f3:=ry.frozen 3;have y4:=ry.cell (i:=4) rfl;have f4:=ry.frozen 4;have y5:=ry.cell (i:=5) rfl;have f5:=ry.frozen 5;obtain⟨W9,hW9,ry9,hw9⟩:=node6 ry (.int .i64 2) (.int .i64 p.aC) (.int .i64 info) (.slice none 0 0) (.slice none 0 0) (.slice none 0 0);have HY:=Ag hW9;have HR9:=Ag ry9;have HW9:=Ag hw9;clear hW9 ry9 hw9;go_wp2_with fail
     rw[← HY.out];go_meet
     exact⟨by rw[HH.out.1,HH.out.2.1,HH.out.2.2]; exact HR9.out,HW9.out⟩
   case rest =>
    obtain⟨ry9,hw9⟩:=hcut;have HK:=Ag (show KAt C M Fd vv1 (.slice (some ⟨g',0,none⟩) (Ln.length+1) cap) vi1 Lv1 (Ln ++ [⟨jE,.slice none 0 0,.slice none 0 0,.slice none 0 0⟩]) s4 hd p w8.heap.size yb xb (.slice none 0 0) (.slice none 0 0) [] [] wc from
     ⟨HM8.out.priv hw9 fun b e _=>by subst e; exact HPY.out,ry9,rx8.wrote hw9 (fun e=>hxy e.symm),OwnSl.nil _ _ _ _ _,OwnSl.nil _ _ _ _ _,HPY.out.wider hw9.size,HPX.out.wider hw9.size,fun b e=>(by cases e),fun b e=>(by cases e),⟨ry.lt,rx8.lt,hxy⟩⟩)
    have HW9:=Ag (HW8.out.step hw9 fun i hi e=>by omega);obtain⟨w9,hw9e⟩:∃ w9:World,w9=wc:=⟨_,rfl⟩;have k12:w8.heap.size≤wc.heap.size:=hw9.size;clear ry9 hw9 HM8 HW8 HPY HPX ry rx8 x0 HXM HBIG HS3 HO3 HPE hq1 hq2 hq3 hq4 HO2 ak0 hlt1 Ew HBB Ey hxmb HMID;obtain⟨KK,hKK⟩:∃ KK:Nat→KS,KK=fun k=>dA C (bQ C f (level+1)) p seen k s4:=⟨_,rfl⟩
    have HKK:=Ag (fun k=>congrFun hKK k);have HK0:=Ag (show KK 0=⟨[],[],s4⟩ by rw[hKK]; rfl);clear hKK;go_wp2
    go_loopw [12] (fun iv wr=>∃ (k:Nat) (Fe:Foot) (vv' vn' vi':Value) (Lv':List VV) (Ln':List NV) (un uw:Value),k≤mn∧iv = .int .i64 (k:Int)∧Hid ((∀ b,Fd b→Fe b)∧(∀ b,Fe b→Fd b∨W.heap.size≤b)∧Up W vv vv'∧Up W vn vn'∧Up W vi vi')∧Hid (KAt C M Fe vv' vn' vi' Lv' Ln' (KK k).s hd p w8.heap.size yb xb un uw (KK k).next (KK k).weights wr)∧Hid (Wrote (Mut M.mb M.db vv vn vi) W wr)∧w8.heap.size≤wr.heap.size) (fun iv _=>mn - (intOf iv).toNat)
    case atStart=>exact⟨0,Fd,_,_,_,_,_,_,_,Nat.zero_le _,rfl,Ag ⟨fun _ h=>h,fun _ h=>.inl h,HU1.out,HU.out,HU2.out⟩,by rw[HK0.out]; exact HK,HW9,k12⟩
    case round =>
     clear HK HW9 hw9e k12 w9;obtain⟨k,Fe,vv',vn',vi',Lv',Ln',un,uw,hk,rfl,HF,HK,HW,k13⟩:=hrel;by_cases hkt:k < mn
     ·have t0:decide ((k:Int) < (mn:Int))=true:=decide_eq_true byOmega;obtain⟨hJk,hPk,_⟩:=acR (C:=C) (rec:=bQ C f (level+1)) (p:=p) HSL.out (fun sn t hsn ht hpt=>by
       obtain⟨a,b,c⟩:=zF HC.out f (level+1) sn t byOmega byOmega hsn ht hpt;exact⟨a,b,byOmega⟩) k s4 HJ4.out (by rw[HP4.out]; omega)
      rw[← HKK.out k] at hJk hPk;rw[HP4.out] at hPk;obtain⟨w1,s1,hd1⟩:∃ w1 s1,(if p.aC < 0 then ((KK k).weights ++ [1+((KK k).s.draw C 3).1],((KK k).s.draw C 3).2) else ((KK k).weights,(KK k).s))=(w1,s1):=⟨_,_,rfl⟩;have HS1:=Ag (show KK (k+1)=⟨w1,(KK k).next ++ [((bQ C f (level+1) (gV p k seen) s1).1:Int)],(bQ C f (level+1) (gV p k seen) s1).2⟩ by
       rw[HKK.out k] at hd1 ⊢;rw[HKK.out (k+1)];exact vH hd1)
      obtain⟨Kk,hKk⟩:=named (KK k);rw[← hKk] at HK HS1 hd1 hJk hPk;have HKq:=Ag hKk;clear hKk;obtain⟨wk,nk,sk⟩:=Kk;dsimp only at HK HS1 hd1 hJk hPk;have hJ1:JM C 0 s1∧1≤s1.pending:=by
       by_cases hp0:p.aC < 0
       ·rw[if_pos hp0] at hd1;injection hd1 with _ e
        rw[← e];exact⟨hJk.at _,by show 1≤sk.pending; omega⟩
       ·rw[if_neg hp0] at hd1;injection hd1 with _ e
        rw[← e];exact⟨hJk,byOmega⟩
      have hlen:wk.length≤k∧nk.length=k:=by
       have:=abZ (C:=C) (rec:=bQ C f (level+1)) (p:=p) (seen:=seen) (s:=s4) k;rw[← HKK.out k,← HKq.out] at this;exact this
      have HLEN:=Ag hlen;clear hlen;have HJ1:=Ag hJ1;have HJk:=Ag hJk;have HD1:=Ag hd1;clear hJ1 hJk hPk hd1;have x0:=HK.out.rx.cell (i:=0) rfl;go_upto_if 138 with(fail)
      obtain⟨bb4,ak2⟩:=named (decide (p.aC < 0));rw[← ak2];have HBB4:=Ag ak2;clear ak2;go_cut [] from 139 to 149 (fun wx=>∃ uw',KAt C M Fe vv' vn' vi' Lv' Ln' s1 hd p w8.heap.size yb xb un uw' nk w1 wx∧Wrote (Mut M.mb M.db vv vn vi) W wx∧w8.heap.size≤wx.heap.size)
      case first =>
       by_cases hp0:p.aC < 0
       ·obtain rfl:bb4=true:=by rw[HBB4.out];exact decide_eq_true hp0
        have hd1:=HD1.out;rw[if_pos hp0] at hd1;injection hd1 with e1 e2
        have hdv:=iw C.L sk.at' (n:=3) ay;obtain⟨dv2,afQ⟩:=named ((sk.draw C 3).1);have hdb:0≤dv2∧dv2 < 3:=by rw[afQ];exact hdv
        rw[← afQ] at e1;have HDV2:=Ag afQ;have HE1:=Ag e1;have HE2:=Ag e2;have hwd:IntKind.i64.wrap (1+dv2)=1+dv2:=IntWalk.i64_in _ byOmega;have hwl:wk.length≤1000000:=by have:=HLEN.out;omega
        have m0:=HK.out.m.box.cell (i:=0) rfl;have y4:=HK.out.ry.cell (i:=4) rfl;clear hp0 e1 e2 hdv afQ x0;go_wp2_with fail
        refine aX (fun w'=>w'.cell? ⟨M.mb,0,none⟩=some (.pointer (some ⟨M.db,0,none⟩))∧w'.cell? ⟨yb,4,none⟩=some (uw)) 10 2 ah rfl ah ?_;have hHeld:(fun w':World=>w'.cell? ⟨M.mb,0,none⟩=some (.pointer (some ⟨M.db,0,none⟩))∧w'.cell? ⟨yb,4,none⟩=some (uw)) wr.drew:=⟨m0,y4⟩;refine YV ?_;intro hb;replace m0:=ak m0 hb;replace y4:=ak y4 hb;replace HK:=Ag (HK.out.below hb);replace HW:=Ag (HW.out.trans (Below.wrote hb _));replace k13:=Nat.le_trans k13 hb.size;clear hb;generalize wr.drew=wn at *;refine tkm [0,1,2,3,4,5] ?_;refine tk2 6 ah rfl fun K hK=>?_
        go_simp;refine(aeb HK.out.m 3 ay ay).mono ?_;rintro e wm ⟨rfl,hm2,hw2⟩;rw[← HDV2.out];replace m0:=dh m0 hw2 HK.out.m.dL.2.2;replace y4:=dh y4 hw2 (fun e=>HK.out.py.2.2.2.1 (.inr (.inl e)));replace HW:=Ag (HW.out.step hw2 fun i _ e=>.inr (.inl e));replace k13:=Nat.le_trans k13 hw2.size;replace HK:=Ag (HK.out.wrote hm2 hw2 fun b e=>.inr (.inl e));clear hw2 hm2 hHeld;refine hK.out _ _ ⟨m0,y4⟩ (fun hHeld=>?_);clear hK K;refine Zb ?_;refine tkm [7] ?_;refine tk2 8 ah rfl fun K hK=>?_
        go_simp;refine hK.out _ _ ⟨fO m0 _,fO y4 _⟩ (fun hHeld=>?_);clear hK K;refine Zb ?_;refine tk2 9 ah rfl fun K hK=>?_
        refine kR (K:=oP) (F:=fun _=>False) (W:=wm) rfl _ _ 22 3 8 _ Tryz.underlying22 Tryz.infoIntK rfl ay rfl w8.heap.size k13 uw wk rfl (1+dv2) _ rfl hwl rfl HK.out.hw trivial ?_;intro g2 cap2 wq2 hown' hwq hat' hlt';have hymb:uw.ownBlock≠some M.mb:=fun e=>(HK.out.pw _ e).1.2.2.2.1 (.inl rfl)
        have afS:uw.ownBlock≠some yb:=fun e=>by have:=(HK.out.hw.row.lt _ e).1;have:=HK.out.lt.1;omega
        replace m0:=dh m0 hwq hymb;replace y4:=dh y4 hwq afS;have ff:=(HK.out.ry.wrote hwq afS).frozen 4;obtain⟨Wz,hWz,hkz,hwz⟩:=HK.out.alo hown' hwq hat';replace HW:=Ag (HW.out.step hwz fun i hi e=>by omega);replace k13:=Nat.le_trans k13 hwz.size;have HKZ:=Ag hkz;have HY:=Ag hWz;clear hown' hwq hat' hlt' hHeld hkz hWz hwz HK hymb afS;refine hK.out _ _ ⟨m0,y4⟩ (fun hHeld=>?_);clear hK K;refine Zb ?_;refine Yp ?_;clear hHeld m0;refine Y2 ?_;go_wp2
        refine Y2 ?_;go_wp2
        rw[← HY.out];unfold Ba;refine Yb ?_;go_wp2
        go_meet
        exact⟨_,by rw[← HE1.out,← HE2.out]; exact HKZ.out,HW.out,k13⟩
       ·obtain rfl:bb4=false:=by rw[HBB4.out];exact decide_eq_false hp0
        have hd1:=HD1.out;rw[if_neg hp0] at hd1;injection hd1 with e1 e2
        subst e1 e2;clear hp0;go_wp2_with fail
        go_meet
        exact⟨uw,HK.out,HW.out,k13⟩
      case rest =>
       obtain⟨uw2,hk2,hw2,k14⟩:=hcut;have HK2:=Ag hk2;have HW2:=Ag hw2;have HSc:=Ag (Bd.on HS.out (hw2.same fun b hb=>(HM.out.foot b hb).2.2));clear hk2 hw2 HK HW x0 k13;obtain⟨w10,rfl⟩:∃ w10:World,w10=wc:=⟨_,rfl⟩;have HNL:=Ag (show(gV p k seen).length=seen.length by unfold gV; simp);have HP0:=Ag HPO.out;have hsl5:level≤5:=by have:=HC.out.len;omega
       have hsl4:seen.length≤4:=by rw[HSP.out];omega
       go_wp2
       go_loopw [13,14] (fun u iv wq=>∃ (j:Nat) (LL:List (Value×List Int)),j≤seen.length∧iv = .int .i64 (j:Int)∧Hid (LL.length=j∧LL.map Prod.snd=(gV p k seen).take j)∧Hid (OwnSl abY wq w10.heap.size 22 (fun b=>w10.heap.size≤b) u LL)∧Hid (Below w10.heap.size w10 wq)) (fun _ iv _=>seen.length - (intOf iv).toNat)
       case atStart=>exact⟨0,[],Nat.zero_le _,rfl,Ag ⟨rfl,rfl⟩,Ag (OwnSl.nil _ _ _ _ _),Ag (Below.refl _ _)⟩
       case round =>
        obtain⟨j,LL,hj,rfl,HLL,HO,HB2⟩:=hrel;by_cases hjt:j < seen.length
        ·skip
         have t1:decide ((j:Int) < (seen.length:Int))=true:=decide_eq_true byOmega;obtain⟨sl,hsl⟩:=getSome hjt;have Eh:=Ag (HSL.out sl (List.mem_of_getElem? hsl));have hsr:=Bd.on HSc.out (Below.same' HB2.out Fd);obtain⟨_,_,hse,_,hsr⟩:=hsr;obtain⟨bs,os,hbs,hbf,hbl,aiY⟩:=hsr byOmega;simp only[Value.slice.injEq,true_and] at hse;obtain⟨rfl,rfl⟩:=hse;obtain⟨vs,hcs2,hvs⟩:=aiY j sl hsl;rw[Nat.mul_one] at hcs2;obtain⟨Av,cv,rfl,_⟩:=id hvs;have HVS:=Ag hvs;have HSJ:=Ag hsl;subst hbs;have x0:=(HK2.out.rx.below HB2.out HK2.out.rx.lt).cell (i:=0) rfl;have x2:=(HK2.out.rx.below HB2.out HK2.out.rx.lt).cell (i:=2) rfl;have afT:sl.length≤1000000:=by rw[Eh.out];omega
         clear hsr aiY hvs hsl;have hb10:=HB2.out.size;have ak3:LL.length≤1000000:=by rw[HLL.out.1];have:=HSP.out;omega
         have Ez:=Ag (aht (p:=p) (k:=k) HSJ.out);by_cases hjp:(j:Int)=p.aC
         ·have tj:((j:Int)==p.aC)=true:=by simp[hjp]
          have HX:=Ag (show(gV p k seen)[j]? = some (sl ++ [(k:Int)]) by rw[Ez.out,if_pos (.inl hjp)]);clear hjp;go_wp2_with (at_builtin; first | (refine nX (F:=Fd) rfl _ _ rfl (.slice Av sl.length cv) sl rfl rfl HVS.out afT ?_; intro g2 cap2 wq2 hown2 nD ak4; replace x0:=ak x0 nD; replace x2:=ak x2 nD; have HB3:=Ag nD; have HOW:=Ag hown2; have k20:=nD.size; clear hown2 nD) | ((refine jJ (K:=oP) (F:=fun _=>False) (w:=wq2) (W:=wq2) rfl _ _ 22 3 8 _ Tryz.underlying22 Tryz.infoIntK rfl ay rfl wr.heap.size k20 (.slice (some ⟨g2,0,none⟩) sl.length cap2) sl rfl ((k:Int)) _ rfl afT rfl HOW.out trivial ?_; intro g3 cap3 wq3 hown3 aej aiZ hlt3; have CY:=Ag hown3; have HB4:=Ag (Below.wr HB3.out aej k20 fun b e=>(HOW.out.row.lt b e).1); have HO4:=Ag (HO.out.below HB4.out); have k21:=Nat.le_trans hb10 HB4.out.size; clear hown3 aej aiZ hlt3)) | ((refine jJ (K:=abY) (F:=fun b=>w10.heap.size≤b) (w:=wq3) (W:=wq3) rfl _ _ 83 22 24 _ Tryz.underlying83 Tryz.infoListK rfl ay rfl w10.heap.size k21 u13 LL rfl (.slice (some ⟨g3,0,none⟩) (sl.length+1) cap3,sl ++ [(k:Int)]) _ rfl ak3 rfl HO4.out (CY.out.ints fun b e=>⟨by have:=(CY.out.row.lt b e).1; omega,fun e2=>by have:=(CY.out.row.lt b e).1; have:=(HO.out.row.lt b e2).2; omega⟩) ?_; intro g4 cap4 wq4 hown4 aek ai0 hlt4; have HO5:=Ag hown4; have HB5:=Ag (Below.wr (HB2.out.trans (HB4.out.mono hb10)) aek k21 fun b e=>(HO4.out.row.lt b e).1); clear hown4 aek ai0 hlt4)))
          go_roundw
          case rel=>exact⟨j+1,LL ++ [(.slice (some ⟨g3,0,none⟩) (sl.length+1) cap3,sl ++ [(k:Int)])],byOmega,by go_num,Ag ⟨by rw[List.length_append,HLL.out.1]; rfl,by rw[List.map_append,HLL.out.2,take_snoc HX.out]; rfl⟩,HO5,HB5⟩
          case measure=>simp[intOf]; omega
         ·have tj:((j:Int)==p.aC)=false:=by simp[hjp]
          have HJP:=Ag hjp;clear hjp;go_upto_if 173 with(at_builtin; refine nX (F:=Fd) rfl _ _ rfl (.slice Av sl.length cv) sl rfl rfl HVS.out afT ?_; intro g2 cap2 wq2 hown2 nD ak4; replace x0:=ak x0 nD; replace x2:=ak x2 nD; have HB3:=Ag nD; have HOW:=Ag hown2; have k20:=nD.size; clear hown2 nD)
          obtain⟨bv,hbv⟩:=named (bits BinOp.and IntKind.i64 (p.seen / 2 ^ j) 1);rw[← hbv];have hjp:=HJP.out;rw[aiX HP0.out.2.2.2.2.1 HP0.out.2.2.2.2.2 byOmega] at hbv;by_cases hjb:(p.seen.toNat >>> j) % 2=1
          ·rw[if_pos hjb] at hbv;subst hbv;have HX:=Ag (show(gV p k seen)[j]? = some (sl ++ [(k:Int)]) by rw[Ez.out,if_pos (.inr hjb)]);clear hjp hjb;go_wp2_with (at_builtin; first | (refine nX (F:=Fd) rfl _ _ rfl (.slice Av sl.length cv) sl rfl rfl HVS.out afT ?_; intro g2 cap2 wq2 hown2 nD ak4; replace x0:=ak x0 nD; replace x2:=ak x2 nD; have HB3:=Ag nD; have HOW:=Ag hown2; have k20:=nD.size; clear hown2 nD) | ((refine jJ (K:=oP) (F:=fun _=>False) (w:=wq2) (W:=wq2) rfl _ _ 22 3 8 _ Tryz.underlying22 Tryz.infoIntK rfl ay rfl wr.heap.size k20 (.slice (some ⟨g2,0,none⟩) sl.length cap2) sl rfl ((k:Int)) _ rfl afT rfl HOW.out trivial ?_; intro g3 cap3 wq3 hown3 aej aiZ hlt3; have CY:=Ag hown3; have HB4:=Ag (Below.wr HB3.out aej k20 fun b e=>(HOW.out.row.lt b e).1); have HO4:=Ag (HO.out.below HB4.out); have k21:=Nat.le_trans hb10 HB4.out.size; clear hown3 aej aiZ hlt3)) | ((refine jJ (K:=abY) (F:=fun b=>w10.heap.size≤b) (w:=wq3) (W:=wq3) rfl _ _ 83 22 24 _ Tryz.underlying83 Tryz.infoListK rfl ay rfl w10.heap.size k21 u13 LL rfl (.slice (some ⟨g3,0,none⟩) (sl.length+1) cap3,sl ++ [(k:Int)]) _ rfl ak3 rfl HO4.out (CY.out.ints fun b e=>⟨by have:=(CY.out.row.lt b e).1; omega,fun e2=>by have:=(CY.out.row.lt b e).1; have:=(HO.out.row.lt b e2).2; omega⟩) ?_; intro g4 cap4 wq4 hown4 aek ai0 hlt4; have HO5:=Ag hown4; have HB5:=Ag (Below.wr (HB2.out.trans (HB4.out.mono hb10)) aek k21 fun b e=>(HO4.out.row.lt b e).1); clear hown4 aek ai0 hlt4)))
           go_roundw
           case rel=>exact⟨j+1,LL ++ [(.slice (some ⟨g3,0,none⟩) (sl.length+1) cap3,sl ++ [(k:Int)])],byOmega,by go_num,Ag ⟨by rw[List.length_append,HLL.out.1]; rfl,by rw[List.map_append,HLL.out.2,take_snoc HX.out]; rfl⟩,HO5,HB5⟩
           case measure=>simp[intOf]; omega
          ·rw[if_neg hjb] at hbv;subst hbv;have HX:=Ag (show(gV p k seen)[j]? = some (sl ++ [(-1)]) by rw[Ez.out,if_neg (by rintro(e | e); exact hjp e; exact hjb e)]);clear hjp hjb;go_wp2_with (at_builtin; first | (refine nX (F:=Fd) rfl _ _ rfl (.slice Av sl.length cv) sl rfl rfl HVS.out afT ?_; intro g2 cap2 wq2 hown2 nD ak4; replace x0:=ak x0 nD; replace x2:=ak x2 nD; have HB3:=Ag nD; have HOW:=Ag hown2; have k20:=nD.size; clear hown2 nD) | ((refine jJ (K:=oP) (F:=fun _=>False) (w:=wq2) (W:=wq2) rfl _ _ 22 3 8 _ Tryz.underlying22 Tryz.infoIntK rfl ay rfl wr.heap.size k20 (.slice (some ⟨g2,0,none⟩) sl.length cap2) sl rfl ((-1)) _ rfl afT rfl HOW.out trivial ?_; intro g3 cap3 wq3 hown3 aej aiZ hlt3; have CY:=Ag hown3; have HB4:=Ag (Below.wr HB3.out aej k20 fun b e=>(HOW.out.row.lt b e).1); have HO4:=Ag (HO.out.below HB4.out); have k21:=Nat.le_trans hb10 HB4.out.size; clear hown3 aej aiZ hlt3)) | ((refine jJ (K:=abY) (F:=fun b=>w10.heap.size≤b) (w:=wq3) (W:=wq3) rfl _ _ 83 22 24 _ Tryz.underlying83 Tryz.infoListK rfl ay rfl w10.heap.size k21 u13 LL rfl (.slice (some ⟨g3,0,none⟩) (sl.length+1) cap3,sl ++ [(-1)]) _ rfl ak3 rfl HO4.out (CY.out.ints fun b e=>⟨by have:=(CY.out.row.lt b e).1; omega,fun e2=>by have:=(CY.out.row.lt b e).1; have:=(HO.out.row.lt b e2).2; omega⟩) ?_; intro g4 cap4 wq4 hown4 aek ai0 hlt4; have HO5:=Ag hown4; have HB5:=Ag (Below.wr (HB2.out.trans (HB4.out.mono hb10)) aek k21 fun b e=>(HO4.out.row.lt b e).1); clear hown4 aek ai0 hlt4)))
           go_roundw
           case rel=>exact⟨j+1,LL ++ [(.slice (some ⟨g3,0,none⟩) (sl.length+1) cap3,sl ++ [(-1)])],byOmega,by go_num,Ag ⟨by rw[List.length_append,HLL.out.1]; rfl,by rw[List.map_append,HLL.out.2,take_snoc HX.out]; rfl⟩,HO5,HB5⟩
           case measure=>simp[intOf]; omega
        ·have hje:j=seen.length:=byOmega;subst hje;have t1:decide ((seen.length:Int) < (seen.length:Int))=false:=decide_eq_false byOmega;obtain⟨bm,hbm⟩:=named (bQ C f (level+1) (gV p k seen) s1);have HBM:=Ag hbm;rw[← hbm] at HS1;clear hbm;have HNV:=Ag (show Bd wr (fun b=>Fe b∨(w10.heap.size≤b∧b < wr.heap.size)) u13 (gV p k seen) by
          have h:=HO.out.lists (G:=fun b=>Fe b∨(w10.heap.size≤b∧b < wr.heap.size)) (fun b hb hl=>.inr ⟨hb,hl⟩) (fun b e=>.inr (HO.out.row.lt b e));rw[HLL.out.2,List.take_of_length_le (by rw[HNL.out]; exact Nat.le_refl _)] at h;exact h)
         have HK3:=Ag (HK2.out.fresh HB2.out);have HW3:=Ag (HW2.out.trans (Below.wrote HB2.out _));have k15:=Nat.le_trans k14 HB2.out.size;obtain⟨F1,hF1⟩:∃ F1:Foot,F1=fun b=>Fe b∨(w10.heap.size≤b∧b < wr.heap.size):=⟨_,rfl⟩
         rw[← hF1] at HK3 HNV;have HF1:=Ag (show(∀ b,Fd b→F1 b)∧(∀ b,F1 b→Fd b∨W.heap.size≤b) from⟨fun b hb=>by rw[hF1]; exact .inl (HF.out.1 b hb),fun b hb=>by rw[hF1] at hb; exact hb.elim (fun e=>HF.out.2.1 b e) fun e=>.inr byOmega⟩);have HNLL:=Ag (show(gV p k seen).length=C.aA.toNat by rw[HNL.out,HSP.out]);have y3:=HK3.out.ry.cell (i:=3) rfl;have hwl1:IntKind.i64.wrap ((level:Int)+1)=(level:Int)+1:=IntWalk.i64_in _ byOmega;have hnkl:nk.length≤1000000:=by have:=HLEN.out;omega
         obtain⟨Au,cu,hu13,_⟩:=id HNV.out;subst hu13;clear HO HB2 HK2 HW2 HSc hF1 k14;go_wp2_with fail
         refine aX (fun w'=>w'.cell? ⟨yb,3,none⟩=some (un)) 9 2 ah rfl ah ?_;have hHeld:(fun w':World=>w'.cell? ⟨yb,3,none⟩=some (un)) wr.drew:=y3;refine YV ?_;intro hb;replace y3:=ak y3 hb;replace HK3:=Ag (HK3.out.below hb);replace HNV:=Ag (Bd.on HNV.out (Below.same' hb _));replace HW3:=Ag (HW3.out.trans (Below.wrote hb _));replace k15:=Nat.le_trans k15 hb.size;clear hb;generalize wr.drew=wn at *;refine tkm [0,1,2,3,4,5] ?_;refine tk2 6 ah rfl fun K hK=>?_
         go_simp;refine(IH.out byOmega byOmega F1 vv' vn' vi' Lv' Ln' s1 wn _ (gV p k seen) HK3.out.m HNV.out (uo HSL.out) HNLL.out HJ1.out.1 HJ1.out.2).mono ?_;rintro e wm ⟨rfl,hbt⟩;rw[← HBM.out] at hbt ⊢;obtain⟨Fe2,vv2,vn2,vi2,Lv2,Ln2,f1,f2,f3,f4,f5,hk4,hw4⟩:=HK3.out.built hbt;replace y3:=dh y3 hw4 (HK3.out.py.2.2.2.1);have hWn:W.heap.size≤wn.heap.size:=byOmega;have HF2:=Ag (show(∀ b,Fd b→Fe2 b)∧(∀ b,Fe2 b→Fd b∨W.heap.size≤b)∧Up W vv vv2∧Up W vn vn2∧Up W vi vi2 from⟨fun b hb=>f1 b (HF1.out.1 b hb),fun b hb=>(f2 b hb).elim (fun e=>HF1.out.2 b e) fun e=>.inr byOmega,Up.trans HF.out.2.2.1 f3 hWn,Up.trans HF.out.2.2.2.1 f4 hWn,Up.trans HF.out.2.2.2.2 f5 hWn⟩);have HW4:=Ag (HW3.out.step hw4 fun i hi e=>yX HF.out.2.2.1 HF.out.2.2.2.1 HF.out.2.2.2.2 hi e);replace k15:=Nat.le_trans k15 hw4.size;have HK4:=Ag hk4;clear hbt f1 f2 f3 f4 f5 hk4 hw4 hHeld HK3 HW3 HNV hWn;refine hK.out _ _ y3 (fun hHeld=>?_);clear hK K;refine Zb ?_;refine tk2 7 ah rfl fun K hK=>?_
         go_simp;refine hK.out _ _ (fO y3 _) (fun hHeld=>?_);clear hK K;refine Zb ?_;refine tk2 8 ah rfl fun K hK=>?_
         refine kR (K:=oP) (F:=fun _=>False) (W:=wm) rfl _ _ 22 3 8 _ Tryz.underlying22 Tryz.infoIntK rfl ay rfl w8.heap.size k15 un nk rfl (bm.1:Int) _ rfl hnkl rfl HK4.out.hn trivial ?_;intro g2 cap2 wq2 hown' hwq hat' hlt';have afS:un.ownBlock≠some yb:=fun e=>by have:=(HK4.out.hn.row.lt _ e).1;have:=HK4.out.lt.1;omega
         replace y3:=dh y3 hwq afS;have ff:=(HK4.out.ry.wrote hwq afS).frozen 3;obtain⟨Wz,hWz,hkz,hwz⟩:=HK4.out.aln hown' hwq hat';have HWZ:=Ag (HW4.out.step hwz fun i hi e=>by omega);replace k15:=Nat.le_trans k15 hwz.size;have HKZ:=Ag hkz;have HY:=Ag hWz;clear hown' hwq hat' hlt' hHeld hkz hWz hwz HK4 afS HW4;refine hK.out _ _ y3 (fun hHeld=>?_);clear hK K;refine Zb ?_;refine Zw ?_;clear hHeld;go_wp2
         refine Y2 ?_;go_wp2
         rw[← HY.out];clear HY ff y3;refine YM ?_;go_wp2
         go_roundw
         case rel=>exact⟨k+1,Fe2,vv2,vn2,vi2,Lv2,Ln2,.slice (some ⟨g2,0,none⟩) (nk.length+1) cap2,uw2,byOmega,by go_num,HF2,Ag (by rw[HS1.out]; exact HKZ.out),HWZ,k15⟩
         case measure=>simp[intOf]; omega
     ·have hke:k=mn:=byOmega;subst hke;have t0:decide ((k:Int) < (k:Int))=false:=decide_eq_false byOmega;obtain⟨_,_,hgr⟩:=acR (C:=C) (rec:=bQ C f (level+1)) (p:=p) HSL.out (fun sn t hsn ht hpt=>by
       obtain⟨a,b,c⟩:=zF HC.out f (level+1) sn t byOmega byOmega hsn ht hpt;exact⟨a,b,byOmega⟩) k s4 HJ4.out (by rw[HP4.out]; omega)
      rw[← HKK.out k] at hgr;have HB2:=Ag (show bQ C (f+1) level seen s=(s.nodes.length,{ (KK k).s with nodes:=(KK k).s.nodes.set s.nodes.length (iV p info (KK k).weights (KK k).next) }) by rw[HB.out,HKK.out k,Int.toNat_natCast]);obtain⟨Kk,hKk⟩:=named (KK k);rw[← hKk] at HK HB2 hgr;clear hKk;obtain⟨wk,nk,sk⟩:=Kk;dsimp only at HK HB2 hgr;have abk:Ln.length < Ln'.length:=by
       have h1:Ln'.length=sk.nodes.length:=by rw[← HK.out.m.oO,List.length_map]
       have h2:=HN4.out;omega
      have hvn:∃ g cap,vn' = .slice (some ⟨g,0,none⟩) Ln'.length cap:=by
       rcases HK.out.m.nodes.at with⟨_,h⟩ | ⟨g,cap,h,_⟩
       ·rw[h] at abk;exact absurd abk aB
       ·exact⟨g,cap,h⟩
      obtain⟨gn,cn2,rfl⟩:=hvn;have hHD:iV p info wk nk=⟨hd.kind,hd.aC,hd.info,nk,wk,[]⟩:=by
       rw[HHD.out];unfold iV;split <;> rfl
      have HHN:=Ag hHD;have hbm:M.base≤w8.heap.size:=Nat.le_trans hbase k11;clear hgr hHD HB HSL;obtain⟨Aun,cun,rfl,_,_⟩:=HK.out.hn.form;obtain⟨Auw,cuw,rfl,_,_⟩:=HK.out.hw.form;have m8:=HK.out.m.box.cell (i:=8) rfl;have y0:=HK.out.ry.cell (i:=0) rfl;have y1:=HK.out.ry.cell (i:=1) rfl;have y2:=HK.out.ry.cell (i:=2) rfl;have y3:=HK.out.ry.cell (i:=3) rfl;have y4:=HK.out.ry.cell (i:=4) rfl;have y5:=HK.out.ry.cell (i:=5) rfl;go_wp2_with fail
      refine aX (fun w'=>w'.cell? ⟨M.mb,8,none⟩=some (.slice (some ⟨gn,0,none⟩) Ln'.length cn2)∧w'.cell? ⟨yb,0,none⟩=some (.int .i64 hd.kind)∧w'.cell? ⟨yb,1,none⟩=some (.int .i64 hd.aC)∧w'.cell? ⟨yb,2,none⟩=some (.int .i64 hd.info)∧w'.cell? ⟨yb,3,none⟩=some (.slice Aun nk.length cun)∧w'.cell? ⟨yb,4,none⟩=some (.slice Auw wk.length cuw)∧w'.cell? ⟨yb,5,none⟩=some (.slice none 0 0)) 7 2 ah rfl ah ?_;have hHeld:(fun w':World=>w'.cell? ⟨M.mb,8,none⟩=some (.slice (some ⟨gn,0,none⟩) Ln'.length cn2)∧w'.cell? ⟨yb,0,none⟩=some (.int .i64 hd.kind)∧w'.cell? ⟨yb,1,none⟩=some (.int .i64 hd.aC)∧w'.cell? ⟨yb,2,none⟩=some (.int .i64 hd.info)∧w'.cell? ⟨yb,3,none⟩=some (.slice Aun nk.length cun)∧w'.cell? ⟨yb,4,none⟩=some (.slice Auw wk.length cuw)∧w'.cell? ⟨yb,5,none⟩=some (.slice none 0 0)) wr.drew:=⟨m8,y0,y1,y2,y3,y4,y5⟩;simp only[List.take_succ_cons,List.take_zero];have hb:Below wr.heap.size wr wr.drew:=aI (Below.refl _ wr) 1;replace m8:=ak m8 hb;replace y0:=ak y0 hb;replace y1:=ak y1 hb;replace y2:=ak y2 hb;replace y3:=ak y3 hb;replace y4:=ak y4 hb;replace y5:=ak y5 hb;replace HK:=Ag (HK.out.below hb);replace HW:=Ag (HW.out.trans (Below.wrote hb _)); replace k13:=Nat.le_trans k13 hb.size;clear hb;generalize wr.drew=wn at *;refine tkm [0,1,2,3,4,5,6] ?_;refine wpAnyH_done ah ?_ _;clear hHeld;show wpList _ _ _ _ _ _;have f0:=HK.out.m.nodes.fz (Ln.length*6);have f1:=HK.out.m.nodes.fz (Ln.length*6+1);have f2:=HK.out.m.nodes.fz (Ln.length*6+2);have f3:=HK.out.m.nodes.fz (Ln.length*6+3);have f4:=HK.out.m.nodes.fz (Ln.length*6+4);have f5:=HK.out.m.nodes.fz (Ln.length*6+5);obtain⟨q0,z0⟩:∃ v,wn.cell? ⟨gn,Ln.length*6,none⟩=some v:=HK.out.m.nodes.bY abk 0 ay;obtain⟨q1,z1⟩:∃ v,wn.cell? ⟨gn,Ln.length*6+1,none⟩=some v:=HK.out.m.nodes.bY abk 1 ay;obtain⟨q2,z2⟩:∃ v,wn.cell? ⟨gn,Ln.length*6+2,none⟩=some v:=HK.out.m.nodes.bY abk 2 ay;obtain⟨q3,z3⟩:∃ v,wn.cell? ⟨gn,Ln.length*6+3,none⟩=some v:=HK.out.m.nodes.bY abk 3 ay;obtain⟨q4,z4⟩:∃ v,wn.cell? ⟨gn,Ln.length*6+4,none⟩=some v:=HK.out.m.nodes.bY abk 4 ay;obtain⟨q5,z5⟩:∃ v,wn.cell? ⟨gn,Ln.length*6+5,none⟩=some v:=HK.out.m.nodes.bY abk 5 ay;have HM2:=Ag (HK.out.m.widen (Fe:=fun b=>Fe b∨(Value.slice Aun nk.length cun).ownBlock=some b∨(Value.slice Auw wk.length cuw).ownBlock=some b) (fun b hb=>.inl hb) fun b hb=>by
       rcases hb with hb | hb | hb
       ·exact HK.out.m.foot b hb
       ·have h1:=HK.out.pn b hb;have h2:=(HK.out.hn.row.lt b hb).1;exact⟨byOmega,h1.1,h1.2.2.2.1⟩
       ·have h1:=(HK.out.pw b hb).1; have h2:=(HK.out.hw.row.lt b hb).1; exact⟨byOmega,h1.1,h1.2.2.2.1⟩)
      obtain⟨W9,hW9,hm9,hw9⟩:=HM2.out.setNode rfl abk ⟨⟨hd.kind,hd.aC,hd.info,nk,wk,[]⟩,.slice Aun nk.length cun,.slice Auw wk.length cuw,.slice none 0 0⟩ ⟨HK.out.hn.ints fun b e=>.inr (.inl e),HK.out.hw.ints fun b e=>.inr (.inr e),wW⟩;have HF3:=Ag (show ∀ b,(Fe b∨(Value.slice Aun nk.length cun).ownBlock=some b∨(Value.slice Auw wk.length cuw).ownBlock=some b)→Fd b∨W.heap.size≤b from fun b hb=>hb.elim (fun e=>HF.out.2.1 b e) fun e=>.inr (e.elim (fun e=>by have:=(HK.out.hn.row.lt b e).1; omega) fun e=>by have:=(HK.out.hw.row.lt b e).1; omega));have H9:=Ag hW9;have HM9:=Ag hm9;have HW9:=Ag (HW.out.step hw9 fun i hi e=>(HF.out.2.2.2.1 i (by rw[e]; rfl)).elim (fun e=>.inr (.inr (.inr (.inl e)))) fun e=>by omega);clear hW9 hm9 hw9 HK HM2;go_wp2
      refine Y2 ?_;go_wp2
      rw[← H9.out];unfold Ba;refine Yb ?_;go_wp2
      go_ret;rw[HB2.out,HHN.out];exact⟨by rw[← HLN.out]; rfl,by rw[← HLN.out]; exact⟨_,_,_,_,_,_,fun b hb=>.inl (HF.out.1 b hb),HF3.out,HF.out.2.2.1,HF.out.2.2.2.1,HF.out.2.2.2.2,HM9.out,HW9.out⟩⟩
theorem afU {C:MC} (hC:BH C) (hm:C.most≤1000) (hp1:1≤C.aA) (hp4:C.aA≤4) {M:ML} (f:Nat):Cb C M f:=by
 induction f with
 | zero=>intro level hf hl; omega
 | succ f ih=>exact aei hC hm hp1 hp4 ih
theorem Tryz.infoPlaceK:(Tryz.prog.info? 81).map (fun i=>(i.zero,i.size,i.bytes))=some (some (.agg #[.int .i64 0,.int .i64 0,.int .i64 0]),aaJ.n,24):=ah
theorem OwnSl.infos {w:World} {base:Nat} {et:TypeId} {F G:Foot} {v:Value} {L:List Inf} (h:OwnSl aiT w base et F v L) (hG:∀ b,v.ownBlock=some b→G b):Bh w G v L:=by
 rcases h.at with⟨rfl,rfl⟩ | ⟨g,cap,rfl,hb,hg,hcap,hf,hx⟩
 ·exact Yv
 ·exact⟨_,cap,rfl,hcap,fun _=>⟨g,0,rfl,hG g rfl,hg,fun k x hk=>⟨hx k x hk 0 _ rfl,hx k x hk 1 _ rfl⟩⟩⟩
theorem aj0 {w:World} {b:Nat} {t:TypeId} {n:Nat} (h:Row w b t (List.replicate n (.slice none 0 0))) {F:Foot} (hF:F b):Bd w F (.slice (some ⟨b,0,none⟩) n n) (List.replicate n []):=by
 refine⟨_,n,by rw[List.length_replicate],aB,fun _=>⟨b,0,rfl,hF,h.lt,fun k x hk=>?_⟩⟩;have hx:=List.mem_of_getElem? hk;rw[List.eq_of_mem_replicate hx];have hl:=lt_of_get hk;rw[List.length_replicate] at hl;refine⟨.slice none 0 0,?_,wW⟩;rw[Nat.mul_one,Nat.zero_add];exact h.cell (i:=k) (by simp[hl])
theorem OwnSl.base {α:Type} {K:Knd α} {w:World} {b b':Nat} {et:TypeId} {F:Foot} {v:Value} {L:List α} (h:OwnSl K w b et F v L) (hb:b'≤b):OwnSl K w b' et F v L :=
 ⟨⟨h.row.1,h.row.2.imp id fun ⟨g,cap,cur,e,hg,r⟩=>⟨g,cap,cur,e,Nat.le_trans hb hg,r⟩⟩,h.fine⟩
theorem yY (L:List Int) (aA:Int) (a:Nat) (ha:a≤L.length):∀ k,(dR L aA k a).2≤L.length
 | 0=>ha
 | k+1=>sO (sO (sO (yY L aA a ha k)))
theorem afV (w:World) (F:Foot) (A:Option Addr) (c:Nat) (L:List Int) (hL:AA w F (.slice A L.length c) L) (hl:L.length≤9223372036854775807) (aA most:Int) (zero:Bool) (hp1:1≤aA) (hp4:aA≤4) (hm1:1≤most) (hm2:most≤200) :
  Calls Tryz.prog 7 #[.slice A L.length c,.int .i64 aA,.int .i64 most,.bool zero] w (Ret w fun u w'=>AO w' (fun b=>w.heap.size≤b) u (pW L aA most zero)):=by
 have HL:=Ag (hL.keep (G:=fun b=>F b∧b < w.heap.size) (fun b hb hl=>⟨hb,hl⟩) (Same.refl _ _));clear hL;obtain⟨P,rfl⟩:∃ P:Nat,aA=(P:Int):=⟨aA.toNat,byOmega⟩;go_in
 go_upto_region 2 with(fail)
 obtain⟨W,hW,rg,rd,rm,hB,hz⟩:=lC w 27 #[.int .i64 0,.slice none 0 0,.slice none 0 0] 34 #[.slice A L.length c,.int .i64 0] 78 #[.pointer (some ⟨w.heap.size+1,0,none⟩),.slice none 0 0,.slice none 0 0,.int .i64 most,.int .i64 1,.bool zero,.bool false,.int .i64 0,.slice none 0 0,.slice none 0 0];rw[← hW];clear hW;obtain⟨gb,hgb⟩:=named w.heap.size;obtain⟨db,hdb⟩:=named (w.heap.size+1);obtain⟨mb,hmb⟩:=named (w.heap.size+2);rw[← hmb] at rm;rw[← hdb] at rd rm;rw[← hgb] at rg;have hlt3:gb < db∧db < mb∧mb < W.heap.size∧w.heap.size≤gb:=byOmega;have HB:=Ag hB;have HBEL:=Ag hB;have RG:=Ag rg;have RD:=Ag rd;have HL1:=Ag (HL.out.on (Below.same' hB _));have e1:w.heap.size+1=db:=hdb.symm;have e2:w.heap.size+1+1=mb:=byOmega;have e0:w.heap.size=gb:=hgb.symm;rw[e2,e1,e0];obtain⟨W1,hW1⟩:=named (W.setCell ⟨mb,7,none⟩ (.int .i64 (P:Int)));have m7:=rm.cell (i:=7) rfl;have f7:=rm.frozen 7;have rm1:Row W1 mb 78 [.pointer (some ⟨db,0,none⟩),.slice none 0 0,.slice none 0 0,.int .i64 most,.int .i64 1,.bool zero,.bool false,(.int .i64 (P:Int)),.slice none 0 0,.slice none 0 0]:=by rw[hW1];exact rm.set 7 _
 have hw1:Wrote (fun b=>b=mb) W W1:=hW1▸Wrote.setCell (K:=fun b=>b=mb) (p:=⟨mb,7,none⟩) (Wrote.refl _ _) (.inl rfl) _;have RM1:=Ag rm1;have RD1:=Ag (show Row W1 db 34 [.slice A L.length c,.int .i64 ((0:Nat):Int)] from RD.out.wrote hw1 (fun e=>by omega));have RG1:=Ag (RG.out.wrote hw1 (fun e=>by omega));have HL2:=Ag (HL1.out.on (hw1.same fun b hb e=>by have:=hb.2; omega));have HWA:=Ag ((Wrote.refl (fun b=>b=mb∨b=db) W).step hw1 fun i _ e=>.inl e);have HLW:=HL1;have HY:=Ag hW1;have hsz1:W.heap.size≤W1.heap.size:=hw1.size;clear hW1 rm1 hw1 rm rg rd HB RG RD HL1 HL hB hz e0 e1 e2 hgb hdb hmb;have aj1:¬ (F db∧db < w.heap.size):=fun e=>by have:=e.2;omega
 have hd:=iw L 0 (n:=5) ay;obtain⟨n,hn⟩:∃ n:Nat,1+dw L 0 5=(n:Int):=⟨(1+dw L 0 5).toNat,byOmega⟩;have hnb:1≤n∧n≤5:=byOmega;obtain⟨d0,hd0⟩:=named (dw L 0 5);rw[← hd0] at hn hd;have hwn:IntKind.i64.wrap (1+d0)=1+d0:=IntWalk.i64_in _ byOmega;have HN:=Ag hn;have HD0:=Ag hd0;clear hn hd0;go_upto_region 3 with(fail)
 rw[← HY.out];clear HY m7 f7;have m0:=RM1.out.cell (i:=0) rfl;go_upto_region 4 with(go_at_call 36; (with_reducible refine(next_any W1 _ db A c L 0 5 RD1.out HL2.out aj1 ay ay hl).mono ?_); rintro e w2 ⟨rfl,hr2,hw2⟩; rw[← HD0.out]; have RD2:=Ag hr2; have RM2:=Ag (RM1.out.wrote hw2 (fun e=>by omega)); have RG2:=Ag (RG1.out.wrote hw2 (fun e=>by omega)); have HW2:=Ag (HWA.out.step hw2 fun i _ e=>.inr e); have hsz2:=Nat.le_trans hsz1 hw2.size; clear hr2 hw2)
 rw[HN.out];obtain⟨a1,ha1⟩:=named (cZ L 0);rw[← ha1] at RD2;have HA1:=Ag ha1;clear ha1 m0 RD1 RM1 RG1 hwn;go_loopw [10] (fun iv wr=>∃ (k:Nat) (lv:List Place) (at0:Nat) (vl:Value),k≤n∧iv = .int .i64 ((n:Int) - (k:Int))∧Hid (dR L (P:Int) k a1=(lv,at0))∧Hid (OwnSl aaJ wr W.heap.size 81 (fun _=>False) vl lv)∧Hid (Row wr mb 78 [.pointer (some ⟨db,0,none⟩),vl,.slice none 0 0,.int .i64 most,.int .i64 1,.bool zero,.bool false,(.int .i64 (P:Int)),.slice none 0 0,.slice none 0 0])∧Hid (Row wr db 34 [.slice A L.length c,.int .i64 (at0:Int)])∧Hid (Row wr gb 27 [.int .i64 0,.slice none 0 0,.slice none 0 0])∧Hid (Wrote (fun b=>b=mb∨b=db) W wr)∧W.heap.size≤wr.heap.size) (fun iv _=>(intOf iv).toNat)
 case atStart=>exact⟨0,[],a1,_,Nat.zero_le _,aB,Ag rfl,Ag (OwnSl.nil _ _ _ _ _),RM2,RD2,RG2,HW2,hsz2⟩
 case round =>
  clear RM2 RD2 RG2 HW2;obtain⟨k,lv,at0,vl,hk,rfl,HLV,HO,RM,RD,RG,HW,hsz⟩:=hrel;have HLr:=Ag (HLW.out.on (HW.out.same fun b hb e=>by have:=hb.2; omega));by_cases hkt:k < n
  ·skip
   have t0:decide ((0:Int) < (n:Int) - (k:Int))=true:=decide_eq_true byOmega;obtain⟨d1,hd1⟩:=named (dw L at0 ((P:Int)+1));obtain⟨d2,hd2⟩:=named (dw L (cZ L at0) 2);obtain⟨d3,hd3⟩:=named (dw L (cZ L (cZ L at0)) 16);have b1:=iw L at0 (n:=(P:Int)+1) byOmega;have b2:=iw L (cZ L at0) (n:=2) ay;have HLV2:=Ag (show dR L (P:Int) (k+1) a1=(lv ++ [⟨d1 - 1,2+d2,d3⟩],cZ L (cZ L (cZ L at0))) by rw[dR,HLV.out,hd1,hd2,hd3]);rw[← hd1] at b1;rw[← hd2] at b2;have hw1:IntKind.i64.wrap (d1 - 1)=d1 - 1:=IntWalk.i64_in _ byOmega;have hw2:IntKind.i64.wrap (2+d2)=2+d2:=IntWalk.i64_in _ byOmega;have hw3:IntKind.i64.wrap ((P:Int)+1)=(P:Int)+1:=IntWalk.i64_in _ byOmega;have HD1:=Ag hd1;have HD2:=Ag hd2;have HD3:=Ag hd3;have hll:lv.length≤1000000:=by
    have:=(nC L (aA:=(P:Int)) byOmega k a1).1;rw[HLV.out] at this;have e:lv.length=k:=this;omega
   have m0:=RM.out.cell (i:=0) rfl;have m1:=RM.out.cell (i:=1) rfl;clear hd1 hd2 hd3 HLV;go_wp2_with fail
   refine aX (fun w'=>w'.cell? ⟨mb,0,none⟩=some (.pointer (some ⟨db,0,none⟩))∧w'.cell? ⟨mb,1,none⟩=some (vl)) 27 3 ah rfl ah ?_;have hHeld:(fun w':World=>w'.cell? ⟨mb,0,none⟩=some (.pointer (some ⟨db,0,none⟩))∧w'.cell? ⟨mb,1,none⟩=some (vl)) wr.drew:=⟨m0,m1⟩;refine YV ?_;intro hb;replace m0:=ak m0 hb;replace m1:=ak m1 hb;replace HO:=Ag (HO.out.below hb);replace RM:=Ag (RM.out.below hb RM.out.lt);replace RD:=Ag (RD.out.below hb RD.out.lt);replace RG:=Ag (RG.out.below hb RG.out.lt);replace HLr:=Ag (HLr.out.on (Below.same' hb _));replace HW:=Ag (HW.out.trans (Below.wrote hb _));replace hsz:=Nat.le_trans hsz hb.size;clear hb;generalize wr.drew=wn at *;refine tkm [0,1,2,3,4,5,6,7,8,9,10,13,14,15,16,19,20,21,22] ?_;refine tk2 11 ah rfl fun K hK=>?_
   go_simp;refine(next_any wn _ db A c L at0 ((P:Int)+1) RD.out HLr.out aj1 byOmega byOmega hl).mono ?_;rintro e wm11 ⟨rfl,hr2,hwx⟩;rw[← HD1.out];refine ZG ?_;clear m0 m1 RM RG RD HO HLr HW hsz hr2 hwx hHeld hK K;intro m0 m1 RM RG RD HO HLr HW hsz hHeld;refine tkm [12] ?_;refine tk2 17 ah rfl fun K hK=>?_
   go_simp;refine(next_any wm11 _ db A c L (cZ L at0) 2 RD.out HLr.out aj1 byOmega byOmega hl).mono ?_;rintro e wm17 ⟨rfl,hr2,hwx⟩;rw[← HD2.out];refine ZG ?_;clear m0 m1 RM RG RD HO HLr HW hsz hr2 hwx hHeld hK K;intro m0 m1 RM RG RD HO HLr HW hsz hHeld;refine tkm [18] ?_;refine tk2 23 ah rfl fun K hK=>?_
   go_simp;refine(next_any wm17 _ db A c L (cZ L (cZ L at0)) 16 RD.out HLr.out aj1 byOmega byOmega hl).mono ?_;rintro e wm23 ⟨rfl,hr2,hwx⟩;rw[← HD3.out];refine ZG ?_;clear m0 m1 RM RG RD HO HLr HW hsz hr2 hwx hHeld hK K;intro m0 m1 RM RG RD HO HLr HW hsz hHeld;refine tkm [24] ?_;refine tk2 25 ah rfl fun K hK=>?_
   go_simp;refine hK.out _ _ ⟨fO m0 _,fO m1 _⟩ (fun hHeld=>?_);clear hK K;refine Zb ?_;refine tk2 26 ah rfl fun K hK=>?_
   refine kR (K:=aaJ) (F:=fun _=>False) (W:=wm23) rfl _ _ 75 81 24 _ Tryz.underlying75 Tryz.infoPlaceK rfl ay rfl W.heap.size hsz vl lv rfl ⟨d1 - 1,2+d2,d3⟩ _ rfl hll rfl HO.out trivial ?_;intro g2 cap2 wq2 hown' hwq hat' hlt';have own:=fun b (e:vl.ownBlock=some b)=>(HO.out.row.lt b e).1
   have hvm:vl.ownBlock≠some mb:=fun e=>by have:=own _ e;omega
   have hvd:vl.ownBlock≠some db:=fun e=>by have:=own _ e;omega
   have hvg:vl.ownBlock≠some gb:=fun e=>by have:=own _ e;omega
   replace m0:=dh m0 hwq hvm;replace m1:=dh m1 hwq hvm;have ff:=(RM.out.wrote hwq hvm).frozen 1;have hg2:=hown'.row.lt g2 rfl;obtain⟨Wz,hWz⟩:=named (wq2.setCell ⟨mb,1,none⟩ (.slice (some ⟨g2,0,none⟩) (lv.length+1) cap2));have hwz:Wrote (fun b=>b=mb) wq2 Wz:=hWz▸Wrote.setCell (K:=fun b=>b=mb) (p:=⟨mb,1,none⟩) (Wrote.refl _ _) (.inl rfl) _;have RM2:=Ag (show Row Wz mb 78 [.pointer (some ⟨db,0,none⟩),(.slice (some ⟨g2,0,none⟩) (lv.length+1) cap2),.slice none 0 0,.int .i64 most,.int .i64 1,.bool zero,.bool false,(.int .i64 (P:Int)),.slice none 0 0,.slice none 0 0] from hWz▸(RM.out.wrote hwq hvm).set 1 _);have RD2:=Ag ((RD.out.wrote hwq hvd).wrote hwz (fun e=>by omega));have RG2:=Ag ((RG.out.wrote hwq hvg).wrote hwz (fun e=>by omega));have HO2:=Ag (hown'.wrote hwz fun b hb e=>by have e2:some g2=some b:=hb.resolve_left id; cases e2; omega);have HW2:=Ag ((HW.out.step hwq fun i hi e=>by have:=own _ e; omega).step hwz fun i _ e=>.inl e);have hsz2:=Nat.le_trans (Nat.le_trans hsz hwq.size) hwz.size;have HY:=Ag hWz;clear hown' hwq hat' hlt' hHeld own hvm hvd hvg hg2 hWz hwz HO RM RD RG HW;refine hK.out _ _ ⟨m0,m1⟩ (fun hHeld=>?_);clear hK K;refine Zb ?_;refine Zw ?_;clear hHeld;go_wp2
   refine Y2 ?_;go_wp2
   refine Y2 ?_;go_wp2
   rw[← HY.out];clear HY ff m0 m1;refine YM ?_;go_wp2
   go_roundw
   case rel=>exact⟨k+1,lv ++ [⟨d1 - 1,2+d2,d3⟩],cZ L (cZ L (cZ L at0)),.slice (some ⟨g2,0,none⟩) (lv.length+1) cap2,byOmega,by go_num,HLV2,HO2,RM2,RD2,RG2,HW2,hsz2⟩
   case measure=>simp[intOf]; omega
  ·have hke:k=n:=byOmega;subst hke;obtain⟨hlen,hpl⟩:=nC L (aA:=(P:Int)) byOmega k a1;have ael:=yY L (P:Int) a1 (by rw[HA1.out]; exact sO (Nat.zero_le _)) k;rw[HLV.out] at hlen hpl ael;dsimp only at hlen hpl ael;have HC:=Ag (show BH ⟨L,lv,(P:Int),most,zero⟩ from⟨by show lv.length≤5; omega,hpl⟩);have HLEN:=Ag hlen; have HAT:=Ag ael;have HG:=Ag (show pW L (P:Int) most zero=⟨(P:Int),(bQ ⟨L,lv,(P:Int),most,zero⟩ (k+1) 0 (List.replicate P []) ⟨at0,[],1,[],[]⟩).2.nodes,(bQ ⟨L,lv,(P:Int),most,zero⟩ (k+1) 0 (List.replicate P []) ⟨at0,[],1,[],[]⟩).2.infos⟩ by
    have e1:(1+dw L 0 5).toNat=k:=by rw[← HD0.out,HN.out];exact Int.toNat_natCast k
    have e2:dR L (P:Int) k (cZ L 0)=(lv,at0):=by rw[← HA1.out];exact HLV.out
    unfold pW;simp only[e1,e2,Int.toNat_natCast])
   have HJ:=Ag (show JM ⟨L,lv,(P:Int),most,zero⟩ 0 ⟨at0,[],1,[],[]⟩ from⟨rfl,fun i v h=>by simp at h,Nat.le_refl _,by show((0:Nat):Int)+1≤most; omega,by show(0:Int)≤1; decide,fun v h=>(by cases h),fun v h=>(by cases h)⟩);have hPb:1≤P∧P≤4:=byOmega;clear hlen hpl ael hd HLV HN HD0 HA1;have m0:=RM.out.cell (i:=0) rfl;obtain⟨lb,hlb⟩:=named wr.heap.size;have hlb1:W.heap.size≤lb∧mb < lb∧db < lb∧gb < lb∧w.heap.size≤lb:=byOmega;have EU:=Ag (fun (w4:World) (hb4:Below wr.heap.size wr w4) (hz4:lb < w4.heap.size)=>show MAt ⟨L,lv,(P:Int),most,zero⟩ ⟨w.heap.size,mb,db,fun b=>F b∧b < w.heap.size,A,c,vl⟩ (fun b=>b=lb) (.slice none 0 0) (.slice none 0 0) (.slice none 0 0) [] [] ⟨at0,[],1,[],[]⟩ w4 from by
    have HO4:=Ag ((HO.out.below hb4).base (b':=w.heap.size) byOmega);have HOB:=Ag (show ∀ b,vl.ownBlock=some b→W.heap.size≤b∧b < lb from fun b e=>by have:=HO.out.row.lt b e; omega);exact { box:=RM.out.below hb4 RM.out.lt,dr:=RD.out.below hb4 RD.out.lt,list:=HLr.out.on (Below.same' hb4 _),lev:=⟨HO4.out.row,fun _ _=>trivial⟩,views:=OwnSl.nil _ _ _ _ _,nodes:=OwnSl.nil _ _ _ _ _,infos:=OwnSl.nil _ _ _ _ _,nU:=rfl,oO:=rfl,out:=fun b hb=>hb.2,foot:=fun b hb=>(by have hb:b=lb:=hb; exact⟨by show w.heap.size≤b; omega,byOmega,qY (by show b≠mb; omega) (by show b≠db; omega) (fun e=>by cases e) (fun e=>by cases e) (fun e=>by cases e)⟩),dL:=⟨by show w.heap.size≤mb; omega,by show w.heap.size≤db; omega,by show mb≠db; omega⟩,jK:=fun b hb=>(by have:=HOB.out b hb; exact qY (by show b≠mb; omega) (by show b≠db; omega) (fun e=>by cases e) (fun e=>by cases e) (fun e=>by cases e)),cO:=fun b hb=>(by cases hb),dD:=fun b hb=>(by cases hb),fA:=fun b hb=>(by cases hb),draws:=⟨HAT.out,hl⟩ })
   have HLB:=Ag hlb;have hbs:=afU (M:=⟨w.heap.size,mb,db,fun b=>F b∧b < w.heap.size,A,c,vl⟩) HC.out (by show most≤1000; omega) (by show(1:Int)≤(P:Int); omega) (by show(P:Int)≤4; omega) (k+1);unfold Cb at hbs;have HBS:=Ag (hbs 0 (by show 0+(k+1)=lv.length+1; rw[HLEN.out]; omega) (Nat.zero_le _));clear hlb hbs;have HR0:=Ag (show ∀ l∈List.replicate P ([]:List Int),l.length=0 from fun l h=>by rw[List.eq_of_mem_replicate h]; rfl);have HR1:=Ag (show(List.replicate P ([]:List Int)).length=((P:Int)).toNat by simp);have HR2:=Ag (show(1:Int)≤1 from Int.le_refl _);go_upto_region 8 with(first | (at_make; (refine dQ _ rfl _ _ 83 rfl 22 (.slice none 0 0) 24 Tryz.underlying83 Tryz.infoListK rfl P rfl rfl byOmega byOmega ?_; intro w4 hb4 hz4 hrow; have hlb4:lb < w4.heap.size:=(by rw[HLB.out]; omega); have HM4:=Ag (EU.out w4 hb4 hlb4); have AZ:=Ag hrow; have HW4:=Ag (HW.out.trans (Below.wrote hb4 _)); have RG4:=Ag (RG.out.below hb4 RG.out.lt); clear hrow hb4 hz4)) | (go_at_call 37; ((refine(HBS.out _ _ _ _ _ _ _ w4 _ (List.replicate P []) HM4.out (aj0 AZ.out HLB.out.symm) HR0.out HR1.out HJ.out HR2.out).mono ?_); rintro e w5 ⟨rfl,hb5⟩; have HB5:=Ag hb5; clear hb5)))
   obtain⟨Fe,vv',vn',vi',Lv',Ln',f1,f2,u1,u2,u3,hm5,hw5⟩:=HB5.out;have hg:=HG.out;generalize (bQ _ _ _ _ _).2=bs at hm5 hg;have HGE:=Ag hg;have hr5:=RG4.out.wrote hw5 (qY (by show gb≠mb; omega) (by show gb≠db; omega) (fun e=>by cases e) (fun e=>by cases e) (fun e=>by cases e));obtain⟨An,cn,hvn,hcn,_⟩:=hm5.nodes.form;obtain⟨Ai,ci,hvi,hci,_⟩:=hm5.infos.form;subst hvn hvi;have HM5:=Ag hm5;have HR5:=Ag hr5;have HW5:=Ag hw5;have HU2:=Ag u2;have HU3:=Ag u3;have HF2:=Ag f2;have m7:w5.cell? ⟨mb,7,none⟩=some (.int .i64 (P:Int)):=hm5.box.cell (i:=7) rfl;have m8:w5.cell? ⟨mb,8,none⟩=some (.slice An Ln'.length cn):=hm5.box.cell (i:=8) rfl;have m9:w5.cell? ⟨mb,9,none⟩=some (.slice Ai bs.infos.length ci):=hm5.box.cell (i:=9) rfl;have q0:=hr5.cell (i:=0) rfl;have q1:=hr5.cell (i:=1) rfl;have q2:=hr5.cell (i:=2) rfl;have y0:=hr5.frozen 0;have y1:=hr5.frozen 1;have y2:=hr5.frozen 2;clear hm5 hr5 hw5 u1 u2 u3 f1 f2 hg m0 HB5 HG;go_wp2_with fail
   obtain⟨Wz,hWz,hrz,hwz⟩:=set3 HR5.out (.int .i64 (P:Int)) (.slice An Ln'.length cn) (.slice Ai bs.infos.length ci);rw[← hWz];have HRZ:=Ag hrz;have HWZ:=Ag hwz;have t0:=hrz.cell (i:=0) rfl;have t1:=hrz.cell (i:=1) rfl;have t2:=hrz.cell (i:=2) rfl;clear hWz hrz hwz q0 q1 q2 y0 y1 y2 m7 m8 m9;refine bodyPost_ret (v:=.agg #[.int .i64 (P:Int),.slice An Ln'.length cn,.slice Ai bs.infos.length ci]) (by simp[results,Tryz.results7,go_sem,t0,t1,t2]) rfl ?_;have hb1:Below w.heap.size w w4:=Below.wr HBEL.out HW4.out HBEL.out.size fun b e=>by rcases e with e | e <;> omega
   have hb2:Below w.heap.size w w5:=Below.wr hb1 HW5.out hb1.size fun b e=>by
    rcases e with e | e | e | e | e
    ·have:b=mb:=e;omega
    ·have:b=db:=e;omega
    ·cases e
    ·cases e
    ·cases e
   have hb3:Below w.heap.size w Wz:=Below.wr hb2 HWZ.out hb2.size fun b e=>by omega
   refine⟨_,rfl,by first | exact hb3 | (rw[← hgb0]; exact hb3),?_⟩;rw[HGE.out];have hn:∀ b,(Fe b∨(Value.slice An Ln'.length cn).ownBlock=some b)→¬ b=gb:=fun b e h=>by
    rcases e with e | e
    ·rcases HF2.out b e with k | k
     ·have:b=lb:=k;omega
     ·have:=HW4.out.size;omega
    ·rcases HU2.out b e with k | k
     ·cases k
     ·have:=HW4.out.size;omega
   have hi:∀ b,(Fe b∨(Value.slice Ai bs.infos.length ci).ownBlock=some b)→¬ b=gb:=fun b e h=>by
    rcases e with e | e
    ·exact hn b (.inl e) h
    ·rcases HU3.out b e with k | k
     ·cases k
     ·have:=HW4.out.size;omega
   have hnz:=HM5.out.nodes.wrote HWZ.out hn;have hiz:=HM5.out.infos.wrote HWZ.out hi;have hnm:=HM5.out.oO;refine⟨_,_,rfl,?_,?_⟩
   ·have h:=afG (F:=fun b=>w.heap.size≤b) hnz.row (fun b e=>by rcases HU2.out b e with k | k; cases k; have:=hb1.size; omega) (fun q hq=>wV.keep (q:=q) (hnz.fine q hq) (fun b hb _=>(HM5.out.foot b hb.1).1) (Same.refl _ _));rw[hnm] at h;exact h
   ·exact hiz.infos fun b e=>by rcases HU3.out b e with k | k;cases k;have:=hb1.size;omega
end Go.Proofs.YtnmeejofpkhlkaaGreatDoor
