/- plan.share. -/
import Derived.Test.YthmklhapjegfdaaGreatDoorK30
import Derived.Test.YthmklhapjegfdaaGreatDoorK28
set_option linter.all false
set_option maxRecDepth 100000
set_option maxHeartbeats 12800000
namespace Go.Proofs.YthmklhapjegfdaaGreatDoor
open Lib renaming hid → Ac
open Go.RowKit
theorem zG:rl 1=1:=by
 unfold rl; rw[show(1:Rat).num=1 from rfl,show(1:Rat).den=1 from rfl,show(1:Int).natAbs=1 from rfl,ig]; rfl
theorem zH (x:Rat) (h:dS (ay x)=0):eY (ay x)=if dI x=true∨0 < iH x 1 then 2 else 0:=by
 unfold eY;rw[if_neg (by simpa using h),yO]; rfl
theorem afR (w:World) (F:Ag) (v:Value) (r:Raw) (hv:AB w F v r) (hu:U32 r) (hln:r.num.length≤100000) (hld:r.den.length≤100000) (hT:BF w) :
  Calls Tryz.prog 101 #[v] w (Ret w fun u _=>u = .int .i64 (eY r)):=by
 have HV:=Ac hv.old;obtain⟨A,c,B,d,rfl,hn,hd⟩:=hv.open;clear hv hn hd;have HU:=Ac hu; clear hu;have HTT:=Ac hT; clear hT;go_enter Tryz.func101,Tryz.ntmps101;go_wp2_with fail
 obtain⟨W,hW,rx,hB,hz⟩:=aN w 83 #[.bool r.neg,.slice A r.num.length c,.slice B r.den.length d];rw[← hW];clear hW;replace HTT:=Ac (HTT.out.on hB);replace HV:=Ac (HV.out.on (Below.same' hB _));have x0:=rx.cell (i:=0) rfl;have x1:=rx.cell (i:=1) rfl;have x2:=rx.cell (i:=2) rfl;clear rx;have hz:w.heap.size+1≤W.heap.size:=by omega
 go_wp2_with fail
 refine(abG W _ _ r HV.out HU.out hln hld HTT.out).mono ?_;rintro e wn ⟨_,rfl,hb,rfl⟩;replace x0:=ah x0 hb;replace x1:=ah x1 hb;replace x2:=ah x2 hb;replace HV:=Ac (HV.out.below hb);replace hz:=Nat.le_trans hz hb.size;replace hB:=hB.trans (hb.mono hB.size);clear hb;clear HTT;by_cases h1:dS r=0
 ·obtain⟨⟨x,rfl⟩,h2,h3⟩:=vK h1;have hrl:rl x≤1024:=by unfold rl; exact Nat.max_le.2 ⟨h2,h3⟩
  have t1:(dS (ay x) != 0)=false:=by rw[h1]; rfl
  have HE:=Ac (zH x h1);have HB:=Ac (show(ay x).neg=dI x from rfl);clear h1 h2 h3 hln hld HU;generalize dS (ay x)=re at *;by_cases hneg:dI x=true
  ·have HF:=Ac (HE.out.trans (if_pos (.inl hneg)));have e1:(ay x).neg=true:=by rw[HB.out]; exact hneg
   clear hneg HB HE;dsimp only;go_wp2
   go_ret;exact⟨_,rfl,hB,by rw[HF.out]; rfl⟩
  ·have e1:(ay x).neg=false:=by rw[HB.out]; simpa using hneg
   have HF:=Ac (HE.out.trans (show(if dI x=true∨0 < iH x 1 then (2:Int) else 0)=if 0 < iH x 1 then 2 else 0 by
    by_cases h:0 < iH x 1
    ·rw[if_pos h,if_pos (.inr h)]
    ·rw[if_neg h,if_neg (fun k=>k.elim hneg h)]))
   clear hneg HB HE;obtain⟨o,ho⟩:∃ o,o=iH x 1:=⟨_,rfl⟩;rw[← ho] at HF;have HO:=Ac ho; clear ho;by_cases hgt:0 < o
   ·skip
    have d1:decide (0 < o)=true:=decide_eq_true hgt;rw[e1] at HV x0;have HG:=Ac (HF.out.trans (if_pos hgt)); clear hgt HF;dsimp only;go_wp2_with fail
    refine(vU _ _ _ x HV.out (by omega)).mono ?_;rintro e wn ⟨va,rfl,hb,hu⟩;have HA:=Ac hu; clear hu;replace x0:=ah x0 hb;replace x1:=ah x1 hb;replace x2:=ah x2 hb;replace HV:=Ac (HV.out.below hb);replace hz:=Nat.le_trans hz hb.size;replace hB:=hB.trans (hb.mono hB.size);clear hb;clear HV;dsimp only;go_wp2_with fail
    refine(zh _ 1 (by decide) (by decide)).mono ?_;rintro e wn ⟨vb,rfl,hb,hu⟩;have HB:=Ac (AB.mono (G:=fun _=>True) hu (fun _ _ _=>trivial)); clear hu;replace x0:=ah x0 hb;replace x1:=ah x1 hb;replace x2:=ah x2 hb;replace HA:=Ac (HA.out.below hb);replace hz:=Nat.le_trans hz hb.size;replace hB:=hB.trans (hb.mono hB.size);clear hb;dsimp only;go_wp2_with fail
    refine(zD _ (fun _=>True) _ _ x ((1:Int):Rat) (HA.out.mono (fun _ _ _=>trivial)) HB.out (by omega) (by rw[show((1:Int):Rat)=1 from rfl,zG]; omega)).mono ?_;rintro e wn ⟨_,rfl,hb,rfl⟩;rw[show iH x ((1:Int):Rat)=o from HO.out.symm];replace x0:=ah x0 hb;replace x1:=ah x1 hb;replace x2:=ah x2 hb;replace HA:=Ac (HA.out.below hb);replace HB:=Ac (HB.out.below hb);replace hz:=Nat.le_trans hz hb.size;replace hB:=hB.trans (hb.mono hB.size);clear hb;dsimp only;go_wp2
    go_ret;exact⟨_,rfl,hB,by rw[HG.out]; rfl⟩
   ·skip
    have d1:decide (0 < o)=false:=decide_eq_false hgt;rw[e1] at HV x0;have HG:=Ac (HF.out.trans (if_neg hgt)); clear hgt HF;dsimp only;go_wp2_with fail
    refine(vU _ _ _ x HV.out (by omega)).mono ?_;rintro e wn ⟨va,rfl,hb,hu⟩;have HA:=Ac hu; clear hu;replace x0:=ah x0 hb;replace x1:=ah x1 hb;replace x2:=ah x2 hb;replace HV:=Ac (HV.out.below hb);replace hz:=Nat.le_trans hz hb.size;replace hB:=hB.trans (hb.mono hB.size);clear hb;clear HV;dsimp only;go_wp2_with fail
    refine(zh _ 1 (by decide) (by decide)).mono ?_;rintro e wn ⟨vb,rfl,hb,hu⟩;have HB:=Ac (AB.mono (G:=fun _=>True) hu (fun _ _ _=>trivial)); clear hu;replace x0:=ah x0 hb;replace x1:=ah x1 hb;replace x2:=ah x2 hb;replace HA:=Ac (HA.out.below hb);replace hz:=Nat.le_trans hz hb.size;replace hB:=hB.trans (hb.mono hB.size);clear hb;dsimp only;go_wp2_with fail
    refine(zD _ (fun _=>True) _ _ x ((1:Int):Rat) (HA.out.mono (fun _ _ _=>trivial)) HB.out (by omega) (by rw[show((1:Int):Rat)=1 from rfl,zG]; omega)).mono ?_;rintro e wn ⟨_,rfl,hb,rfl⟩;rw[show iH x ((1:Int):Rat)=o from HO.out.symm];replace x0:=ah x0 hb;replace x1:=ah x1 hb;replace x2:=ah x2 hb;replace HA:=Ac (HA.out.below hb);replace HB:=Ac (HB.out.below hb);replace hz:=Nat.le_trans hz hb.size;replace hB:=hB.trans (hb.mono hB.size);clear hb;dsimp only;go_wp2
    go_ret;exact⟨_,rfl,hB,by rw[HG.out]; rfl⟩
 ·have t1:(dS r != 0)=true:=by simp[h1]
  have HE:=Ac (show eY r=dS r by unfold eY; rw[if_pos h1]);clear h1;generalize dS r=re at *;dsimp only;go_wp2
  go_ret;exact⟨_,rfl,hB,by rw[HE.out]; rfl⟩
theorem ac6 (w:World) (F:Ag) (v:Value) (xs:List Rat) (hv:BD w F v xs) (hl:xs.length≤100000) (hx:∀ x∈xs,rl x≤100000) :
  Calls Tryz.prog 113 #[v] w (Ret w fun u w'=>BL w' (Ext F w.heap.size) u xs):=by
 obtain⟨A,c,rfl,hc,hN⟩:=hv;rw[List.length_map] at hc hN;have HN:=Ac hN; clear hN;have HX:=Ac hx; clear hx;show Calls _ _ #[.slice A (xs.map ay).length c] _ _;rw[List.length_map];go_enter Tryz.func113,Tryz.ntmps113;go_wp2
 go_loopw [3,8] (fun u i wr=>∃ (k:Nat) (L:List RV),k≤xs.length∧i = .int .i64 (k:Int)∧L.length=k∧L.map RV.r=(xs.take k).map aB∧Bc wr w.heap.size 118 (Old F w.heap.size) u L∧Below w.heap.size w wr) (fun _ i _=>xs.length - (intOf i).toNat)
 case atStart=>exact⟨0,[],by omega,rfl,rfl,rfl,Bc.nil _ _ _ _,Below.refl _ _⟩
 case round =>
  obtain⟨k,L,hk,rfl,hlen,hmap,hown,hbel⟩:=hrel;have HM:=Ac hmap; have HO:=Ac hown; have HLL:=Ac hlen; clear hmap hown hlen;have hz:=hbel.size;by_cases hlt:k < xs.length
  ·obtain⟨b,o,rfl,hF,hb,hx⟩:=HN.out (by omega);obtain⟨x,hx'⟩:=ak hlt;obtain⟨ex0,⟨vn,ex1,hn⟩,⟨vd,ex2,hd⟩⟩:=hx k (ay x) (by rw[List.getElem?_map,hx']; rfl);have hold:=aA hbel;have HXE:=Ac hx';have hrl:=HX.out x (List.mem_of_getElem? hx');have HR:=Ac (AB.below (r:=ay x) (AB.old (AB.make (r:=ay x) rfl hn hd)) hbel);obtain⟨A1,c1,rfl,_,_⟩:=hn;obtain⟨A2,c2,rfl,_,_⟩:=hd;replace ex1:w.cell? ⟨b,o+k*3+1,none⟩=some (.slice A1 (dig x.num.natAbs).length c1):=ex1;replace ex2:w.cell? ⟨b,o+k*3+2,none⟩=some (.slice A2 (dig x.den).length c2):=ex2;clear hx hx';go_wp2_with fail
   obtain⟨W2,hW2,rz,hB2,hzz⟩:=aN wr 83 #[.bool (ay x).neg,.slice A1 (dig x.num.natAbs).length c1,.slice A2 (dig x.den).length c2];rw[← hW2];clear hW2;replace HR:=Ac (HR.out.below hB2);replace HO:=Ac (HO.out.below hB2);have dJ:=hbel.trans (hB2.mono hz);have x0:=rz.cell (i:=0) rfl; have x1:=rz.cell (i:=1) rfl; have x2:=rz.cell (i:=2) rfl;clear hold hB2;go_wp2_with fail
   refine(vU W2 _ _ x HR.out hrl).mono ?_;rintro e wn ⟨u,rfl,hb2,hu⟩;replace HO:=Ac (HO.out.below hb2);have jr:=dJ.trans (hb2.mono dJ.size);have hz3:=jr.size;obtain⟨q,hq,rfl,fM⟩:=AB.rv hu;have HQ:=Ac hq; have HF:=Ac fM;clear hu x0 x1 x2 rz hb2 dJ hq fM;dsimp only[RV.cells];go_wp2_with (at_builtin; refine wM (F:=Old F w.heap.size) rfl _ _ 110 118 Tryz.underlying110 Tryz.infoNum rfl w.heap.size (Nat.le_refl _) u3 L rfl q (by have:=HLL.out; omega) rfl HO.out (HF.out.keep (fun b hb _=>⟨hb,fun e=>by have:=(HO.out.row.lt b e).1; have:=hb.2; omega⟩) (Same.refl _ _)) jr ?_; intro g cap w' hown' dB hlt'; have HO':=Ac hown'; clear hown')
   go_roundw
   case rel=>exact⟨k+1,L ++ [q],by omega,by go_num,by rw[List.length_append,HLL.out]; rfl,by rw[List.map_append,HM.out,take_snoc HXE.out,List.map_append]; show _ ++ [q.r]=_ ++ [aB x]; rw[HQ.out],HO'.out,dB⟩
   case measure=>simp[intOf]; omega
  ·go_wp2
   go_ret;have hall:xs.take k=xs:=List.take_of_length_le (by omega);refine⟨_,rfl,hbel,?_⟩;have:=HO.out.abv (G:=Ext F w.heap.size) (fun b hb=>.inl hb.1) (fun b hb=>.inr hb);rw[HM.out,hall] at this;exact this
theorem sum_any (w:World) (F:Ag) (v:Value) (xs:List Rat) (hv:BL w F v xs) (hl:xs.length≤100000) (hx:∀ x∈xs,rl x≤20000) (hs:∀ k,rl (o9 (xs.take k))≤20000) :
  Calls Tryz.prog 114 #[v] w (Ret w fun u w'=>NmV w' (Ext F w.heap.size) u (o9 xs)):=by
 obtain⟨A,c,rfl,hc,hN⟩:=hv;rw[List.length_map] at hc hN;have HN:=Ac hN; clear hN;have HX:=Ac hx; clear hx;have HS:=Ac hs; clear hs;show Calls _ _ #[.slice A (xs.map aB).length c] _ _;rw[List.length_map];go_enter Tryz.func114,Tryz.ntmps114;go_wp2_with fail
 obtain⟨W,hW,ry,rz,hB,hz⟩:=alloc2 w 118 #[.bool false,.slice none 0 0,.slice none 0 0] 118 #[.bool false,.slice none 0 0,.slice none 0 0];rw[← hW];clear hW;have hz:w.heap.size+2≤W.heap.size:=hz;have hry:=Ac ry; have hrz:=Ac rz; clear ry rz;try go_wp2
 go_loopw [8] (fun i wr=>∃ (k:Nat) (s:Rat) (A':Option Addr) (c':Nat) (B':Option Addr) (d':Nat),k≤xs.length∧i = .int .i64 (k:Int)∧s=o9 (xs.take k)∧Row wr w.heap.size 118 [.bool false,.slice none 0 0,.slice none 0 0]∧Row wr (w.heap.size+1) 118 [.bool (aB s).neg,.slice A' (aB s).num.length c',.slice B' (aB s).den.length d'] ∧
  NmV wr (Ext (Old F w.heap.size) (w.heap.size+2)) (.agg #[.bool (aB s).neg,.slice A' (aB s).num.length c',.slice B' (aB s).den.length d']) s∧Below w.heap.size w wr∧w.heap.size+2≤wr.heap.size) (fun i _=>xs.length - (intOf i).toNat)
 case atStart =>
  have h0:aB 0=⟨false,[],[]⟩:=by unfold aB; rw[if_pos (show(0:Rat).den=1 from rfl),show(0:Rat).num=0 from rfl,Int.natAbs_zero,aY]; rfl
  refine⟨0,0,none,0,none,0,by omega,rfl,rfl,hry.out,?_,?_,hB,hz⟩
  ·rw[h0]; exact hrz.out
  ·rw[h0]; exact NmV.zero _ _ _ _ _ _
 case round =>
  clear hry hrz hB hz;obtain⟨k,s,A',c',B',d',hk,rfl,hsum,hry,hrz,hnm,hB,hz⟩:=hrel;have HSU:=Ac hsum; have HNM:=Ac hnm; clear hsum hnm;have hrs:=HS.out k;rw[← HSU.out] at hrs;by_cases hlt:k < xs.length
  ·obtain⟨b,o,rfl,hF,hb,hx⟩:=HN.out (by omega);obtain⟨x,hx'⟩:=ak hlt;obtain⟨ex0,⟨vn,ex1,hn⟩,⟨vd,ex2,hd⟩⟩:=hx k (aB x) (by rw[List.getElem?_map,hx']; rfl);have hold:=aA hB;have HXE:=Ac hx';have hrl:=HX.out x (List.mem_of_getElem? hx');have HR:=Ac (AB.mono (G:=Ext (Old F w.heap.size) (w.heap.size+2)) (AB.below (r:=aB x) (AB.old (AB.make (r:=aB x) rfl hn hd)) hB) (fun b hb _=>.inl hb));obtain⟨A1,c1,rfl,_,_⟩:=hn;obtain⟨A2,c2,rfl,_,_⟩:=hd;clear hx hx';have y0:=fun o=>(hrz.alloc o).cell (i:=0) rfl; have y1:=fun o=>(hrz.alloc o).cell (i:=1) rfl; have y2:=fun o=>(hrz.alloc o).cell (i:=2) rfl
   go_wp2_with fail
   obtain⟨W2,hW2,rz,hB2,hzz⟩:=aN wr 118 #[.bool (aB x).neg,.slice A1 (aB x).num.length c1,.slice A2 (aB x).den.length c2];rw[← hW2];clear hW2;replace HR:=Ac (HR.out.below hB2);replace HNM:=Ac (HNM.out.below hB2);replace hry:=hry.below hB2 hry.lt;replace hrz:=hrz.below hB2 hrz.lt;replace hB:=hB.trans (hB2.mono hB.size);have x0:=rz.cell (i:=0) rfl; have x1:=rz.cell (i:=1) rfl; have x2:=rz.cell (i:=2) rfl;clear y0 y1 y2; have y0:=hrz.cell (i:=0) rfl; have y1:=hrz.cell (i:=1) rfl; have y2:=hrz.cell (i:=2) rfl;clear hold hB2;go_wp2_with fail
   refine(ahh W2 _ _ _ s x HNM.out HR.out hrs hrl).mono ?_;rintro e wn ⟨u,rfl,hb2,hu⟩;replace hu:NmV wn (Ext (Old F w.heap.size) (w.heap.size+2)) u (s+x):=hu.mono (fun b hb _=>hb.elim id fun h=>.inr (by omega));have HU:=Ac hu;obtain⟨A4,c4,B4,d4,rfl,hn,hd⟩:=hu.open;clear hn hd hu;replace hry:=hry.below hb2 hry.lt;replace hrz:=hrz.below hb2 hrz.lt;replace hB:=hB.trans (hb2.mono hB.size);have hz2:=hb2.size;clear x0 x1 x2 rz y0 y1 y2 hb2;have q0:=hrz.cell (i:=0) rfl; have y0:=hrz.frozen 0;have q1:=hrz.cell (i:=1) rfl; have y1:=hrz.frozen 1;have q2:=hrz.cell (i:=2) rfl; have y2:=hrz.frozen 2;dsimp only;go_wp2_with fail
   obtain⟨Wz,hWz,hrw,hwz,hkz⟩:=dK hrz (.bool (aB (s+x)).neg) (.slice A4 (aB (s+x)).num.length c4) (.slice B4 (aB (s+x)).den.length d4);rw[← hWz];clear q0 q1 q2 y0 y1 y2;have hryz:Row Wz w.heap.size 118 [.bool false,.slice none 0 0,.slice none 0 0]:=by
    rw[hWz]; exact((hry.other (a:=⟨w.heap.size+1,0,none⟩) (by simp) _).other (a:=⟨w.heap.size+1,1,none⟩) (by simp) _).other (a:=⟨w.heap.size+1,2,none⟩) (by simp) _
   have hsz:Wz.heap.size=wn.heap.size:=by rw[hWz]; simp
   clear hWz;have HUU:=Ac (HU.out.keep (fun b hb _=>hb) (hkz (Ext (Old F w.heap.size) (w.heap.size+2)) (fun h=>h.elim (fun h=>by have:=h.2; omega) fun h=>by omega)));go_roundw
   case rel=>exact⟨k+1,s+x,A4,c4,B4,d4,by omega,by go_num,by rw[take_snoc HXE.out,aaS,← HSU.out],hryz,hrw,HUU.out,hwz _ _ (by omega) hB,by omega⟩
   case measure=>simp[intOf]; omega
  ·have hall:xs.take k=xs:=List.take_of_length_le (by omega);have HF:=Ac (show s=o9 xs by rw[HSU.out,hall]);clear hall;have p0:=hrz.cell (i:=0) rfl; have p1:=hrz.cell (i:=1) rfl; have p2:=hrz.cell (i:=2) rfl;have q0:=hry.cell (i:=0) rfl;have y0:=hry.frozen 0;have q1:=hry.cell (i:=1) rfl;have y1:=hry.frozen 1;have q2:=hry.cell (i:=2) rfl;have y2:=hry.frozen 2;go_wp2
   obtain⟨Wz,hWz,hrz,hwz,hkz⟩:=dK hry (.bool (aB s).neg) (.slice A' (aB s).num.length c') (.slice B' (aB s).den.length d');rw[← hWz];clear hWz q0 q1 q2 y0 y1 y2;have t0:=hrz.cell (i:=0) rfl;have t1:=hrz.cell (i:=1) rfl;have t2:=hrz.cell (i:=2) rfl;refine bodyPost_ret (v:=.agg #[.bool (aB s).neg,.slice A' (aB s).num.length c',.slice B' (aB s).den.length d']) (by simp[results,Tryz.results114,go_sem,t0,t1,t2]) rfl ?_;exact⟨_,rfl,hwz _ _ (by omega) hB,by rw[← HF.out]; exact HNM.out.keep (fun b hb _=>hb.elim (fun h=>.inl h.1) fun h=>.inr (by omega)) (hkz _ (fun h=>h.elim (fun h=>by have:=h.2; omega) fun h=>by omega))⟩
open List renaming getElem_toArray → lq1, getElem_cons_zero → lq2, getElem_cons_succ → lq3, setIfInBounds_toArray → lq4, set_cons_zero → lq5, set_cons_succ → lq6
theorem Aw.below {w w':World} {F:Ag} {v:Value} {l:List Raw} (h:Aw w F v l) (hb:Below w.heap.size w w'):Aw w' F v l:=h.on (Below.same' hb F)
theorem yc {acts:List Int} {m:List (List Raw)} {k:Nat} {a:Int} {l:List Raw} (ha:acts[k]? = some a) (hl:m[k]? = some l):(List.zipWith kL acts m)[k]? = some (kL a l):=by
 rw[List.getElem?_zipWith,ha,hl]
theorem jQ {acts:List Int} {m:List (List Raw)} {k:Nat} {a:Int} {l:List Raw} (hlen:m.length=acts.length) (h0:gu ((List.zipWith kL acts m).take k)=0) (ha:acts[k]? = some a) (hl:m[k]? = some l) (hne:kL a l≠0):gZ acts m=kL a l:=by
 unfold gZ;rw[if_neg (by omega)];exact tV h0 (yc ha hl) hne
theorem aa1 {acts:List Int} {m:List (List Raw)} {k:Nat} (hlen:m.length=acts.length) (h0:gu ((List.zipWith kL acts m).take k)=0) (hk:m.length≤k):gZ acts m=0:=by
 unfold gZ;rw[if_neg (by omega)];rwa [List.take_of_length_le (by simp; omega)] at h0
def Bh (m:List (List Raw)):Prop:=∀ l∈m,l.length≤100000∧∀ r∈l,U32 r∧r.num.length≤100000∧r.den.length≤100000
theorem lC {a:Int} {l:List Raw} {j:Nat} {r:Raw} (hla:(l.length:Int)=a) (h0:gu ((l.map eY).take j)=0) (hr:l[j]? = some r) (hne:eY r≠0):kL a l=eY r:=by
 have hs:lV l=eY r:=tV h0 (by rw[List.getElem?_map,hr]; rfl) hne;unfold kL;rw[if_neg (by omega),if_pos (by rw[hs]; exact hne),hs]
theorem sW {a:Int} {l:List Raw} (hla:(l.length:Int)=a) (h0:lV l=0):kL a l=if iH (o9 (l.map vN)) 1≠0 then 14 else 0:=by
 unfold kL;rw[if_neg (by omega),if_neg (by omega)]
theorem aeh (w:World) (F:Ag) (vg vm:Value) (g:Gm) (m:List (List Raw)) (hg:Az w F vg g) (hm:Ae w F vm m) (hT:BF w) (hlm:m.length≤100000) (hli:g.infos.length≤100000) (hb:Bh m) (hact:∀ i∈g.infos,i.actions≤10) :
  Calls Tryz.prog 78 #[vg,vm] w (Ret w fun v _=>v = .int .i64 (gZ (g.infos.map Inf.actions) m)):=by
 obtain⟨vn,vi,rfl,⟨A,c,rfl,hc,hN⟩,⟨Ai,ci,rfl,hci,hI⟩⟩:=hg;obtain⟨Am,cm,rfl,hcm,hM⟩:=hm;have HI:=Ac hI; have HM:=Ac hM; have HBB:=Ac hb; have HA:=Ac hact; have HTT:=Ac hT;clear hN hI hM hb hact hT;obtain⟨acts,vk⟩:∃ a,a=g.infos.map Inf.actions:=⟨_,rfl⟩;rw[← vk];have hal:acts.length=g.infos.length:=by rw[vk,List.length_map]
 have HAC:=Ac vk; clear vk;by_cases hlen:m.length=g.infos.length
 ·have d1:((m.length:Int) != (g.infos.length:Int))=false:=by simp; omega
  have HLE:=Ac (show m.length=acts.length by omega);have hle1:m.length≤g.infos.length:=by omega
  have hle2:g.infos.length≤m.length:=by omega
  have hle3:m.length≤acts.length:=by omega
  clear hlen hal;go_enter Tryz.func78,Tryz.ntmps78;go_wp2_with fail
  obtain⟨W,hW,rx,hB,hz⟩:=aN w 25 #[.int .i64 g.aj,.slice A g.nodes.length c,.slice Ai g.infos.length ci];rw[← hW];clear hW;refine(zh W 1 (by decide) (by decide)).mono ?_;rintro e w1 ⟨u,rfl,hb1,hu⟩;obtain⟨one,hone⟩:∃ one:Rat,one=((1:Int):Rat):=⟨_,rfl⟩;rw[← hone] at hu;have H1:=Ac (show one=1 from hone); clear hone;have BH:=Ac (hu.mono (G:=fun _=>True) (fun _ _ _=>trivial));obtain⟨A1,c1,B1,d1',rfl,hn,hd⟩:=hu.open;clear hn hd hu;replace rx:=rx.below hb1 rx.lt;replace hB:=hB.trans (hb1.mono hB.size);clear hb1;have hz1:w.heap.size+1≤w1.heap.size:=by have:=rx.lt; omega
  dsimp only;go_wp2
  obtain⟨W1,hW1,ry,hB1,hzz⟩:=aN w1 118 #[.bool (aB one).neg,.slice A1 (aB one).num.length c1,.slice B1 (aB one).den.length d1'];rw[← hW1];clear hW1;replace BH:=Ac (BH.out.below hB1);replace rx:=rx.below hB1 rx.lt;replace hB:=hB.trans (hB1.mono hB.size);replace HTT:=Ac (HTT.out.on hB);replace HI:=Ac (fun h=>by
   obtain⟨b,o,h1,h2,h3,h4⟩:=HI.out h;exact(⟨b,o,h1,⟨h2,h3⟩,Nat.lt_of_lt_of_le h3 hB.size,fun k x hx=>⟨ah (h4 k x hx).c0 hB,ah (h4 k x hx).c1 hB⟩⟩:∃ b o,Ai=some ⟨b,o,none⟩∧Old F w.heap.size b∧b < W1.heap.size∧∀ k x,g.infos[k]? = some x→Dq W1 (Old F w.heap.size) b (o+k*2) x))
  replace HM:=Ac (Ae.keep (G:=F) (⟨Am,cm,rfl,hcm,HM.out⟩:Ae w F _ m) (fun _ h _=>h) (Below.same' hB F));clear hB1;have g2:=rx.cell (i:=2) rfl;have o0:=ry.cell (i:=0) rfl; have o1:=ry.cell (i:=1) rfl; have o2:=ry.cell (i:=2) rfl;have hgs:w.heap.size < W1.heap.size:=by omega
  have hos:w1.heap.size < W1.heap.size:=by omega
  clear rx ry hz hzz;have hz2:=hB.size;go_loopw [20] (fun i wr=>∃ k:Nat,k≤m.length∧i = .int .i64 (k:Int)∧gu ((List.zipWith kL acts m).take k)=0∧Below W1.heap.size W1 wr) (fun i _=>m.length - (intOf i).toNat)
  case atStart=>exact⟨0,by omega,rfl,rfl,Below.refl _ _⟩
  case round =>
   obtain⟨k,hk,rfl,hpre,hbel⟩:=hrel;have HP:=Ac hpre; clear hpre;have hold:=aA hbel;have hzr:=hbel.size;by_cases hlt:k < m.length
   ·obtain⟨l,hl⟩:=ak hlt;obtain⟨inf,pz⟩:=ak (l:=g.infos) (k:=k) (by omega);have hak:acts[k]? = some inf.actions:=by rw[HAC.out,List.getElem?_map,pz]; rfl
    obtain⟨A0,c0,he,_,hM⟩:=HM.out;cases he
    obtain⟨b,o,rfl,hF,hbl,hx⟩:=hM (by omega);obtain⟨ur,eu,hrow⟩:=hx k l hl;rw[Nat.mul_one] at eu;have HRW:=Ac hrow;obtain⟨Ar,cr,rfl,hcr,_⟩:=hrow;obtain⟨b2,p2,rfl,hF2,hbl2,hx2⟩:=HI.out (by omega);have ei:=(hx2 k inf pz).c1;have hia:inf.actions≤10:=HA.out inf (List.mem_of_getElem? pz);have fM:=HBB.out l (List.mem_of_getElem? hl);have HFI:=Ac fM.2;have hll:=fM.1;have HL:=Ac hl; have HK:=Ac hak;clear hx hx2 hM hl pz hak fM;by_cases hact:(l.length:Int)=inf.actions
    ·have d2:((l.length:Int) != inf.actions)=false:=by simp; omega
     have CW:=Ac hact;go_wp2
     go_loopw [36] (fun i wi=>∃ j:Nat,j≤l.length∧i = .int .i64 (j:Int)∧gu ((l.map eY).take j)=0∧Below W1.heap.size W1 wi) (fun i _=>l.length - (intOf i).toNat)
     case atStart=>exact⟨0,by omega,rfl,rfl,hbel⟩
     case round =>
      clear hold hbel hzr;obtain⟨j,hj,rfl,hpre,hbel⟩:=hrel;have HPJ:=Ac hpre; clear hpre;have hold:=aA hbel;have hzr:=hbel.size;by_cases hlt2:j < l.length
      ·obtain⟨A2,c2,he,_,hR⟩:=HRW.out;cases he
       obtain⟨b3,o3,rfl,hF3,hb3,hx3⟩:=hR (by omega);obtain⟨r,hr⟩:=ak hlt2;obtain⟨ex0,⟨vn,ex1,hn⟩,⟨vd,ex2,hd⟩⟩:=hx3 j r hr;have HRV:=Ac (AB.below (AB.make (r:=r) rfl hn hd) hbel);obtain⟨A4,c4,rfl,_,_⟩:=hn;obtain⟨A5,c5,rfl,_,_⟩:=hd;have hfr:=HFI.out r (List.mem_of_getElem? hr);have HFR:=Ac hfr.1;have hf2:=hfr.2.1; have hf3:=hfr.2.2;have HRR:=Ac hr;clear hx3 hR hr hfr;go_wp2_with fail
       obtain⟨W2,hW2,rz,hB2,hzz⟩:=aN wr 83 #[.bool r.neg,.slice A4 r.num.length c4,.slice A5 r.den.length c5];rw[← hW2];clear hW2;replace HRV:=Ac (HRV.out.below hB2);have x0:=rz.cell (i:=0) rfl; have x1:=rz.cell (i:=1) rfl; have x2:=rz.cell (i:=2) rfl;replace hbel:=hbel.trans (hB2.mono hbel.size);clear hold hB2 rz;go_wp2_with fail
       refine(afR W2 F _ r HRV.out HFR.out hf2 hf3 (HTT.out.on hbel)).mono ?_;rintro e wn ⟨_,rfl,hb,rfl⟩;replace hbel:=hbel.trans (hb.mono hbel.size);clear hb x0 x1 x2;have HSE:=Ac (rfl:eY r=eY r);generalize hse:eY r=se at *;have HS2:=Ac hse; clear hse HSE;by_cases hs0:se=0
       ·have t1:(se != 0)=false:=by rw[hs0]; rfl
        have HS0:=Ac hs0; clear hs0;dsimp only;go_wp2
        go_roundw
        case rel=>exact⟨j+1,by omega,by go_num,lK HPJ.out (by rw[List.getElem?_map,HRR.out]; show some (eY r)=_; rw[HS2.out,HS0.out]),hbel⟩
        case measure=>simp[intOf]; omega
       ·have t1:(se != 0)=true:=by simp[hs0]
        have hrow:kL inf.actions l=se:=(lC CW.out HPJ.out HRR.out (by rw[HS2.out]; exact hs0)).trans HS2.out;have HE:=Ac ((jQ HLE.out HP.out HK.out HL.out (by rw[hrow]; exact hs0)).trans hrow);clear hs0 hrow;dsimp only;go_wp2
        go_ret;exact⟨_,rfl,hB.trans (hbel.mono hB.size),by rw[HE.out]; rfl⟩
      ·have hsh:lV l=0:=by
        have:=HPJ.out;rw[List.take_of_length_le (by simp; omega)] at this;exact this
       obtain⟨xs,hxs,hlx⟩:=tX hsh;have hrow:=sW CW.out hsh;rw[hxs,acu] at hrow;have hxl:xs.length≤10:=by
        have h1:=CW.out;rw[hxs,List.length_map] at h1; omega
       have HXS:=Ac hxs;have HRA:=Ac (show BD wr F (.slice Ar l.length cr) xs by
        show Aw wr F _ (xs.map ay);rw[← HXS.out]; exact HRW.out.on (Below.same' hbel F))
       have hsm:∀ k,rl (o9 (xs.take k))≤20000:=fun k=>by
        have h1:=aeS (xs.take k) (fun x hx=>hlx x (List.mem_of_mem_take hx));have h2:(xs.take k).length≤xs.length:=by simp; omega
        omega
       have hsm2:rl (o9 xs)≤20000:=by
        have h1:=aeS xs hlx;omega
       have aa2:rl one≤20000:=by rw[H1.out,zG]; omega
       have BQ:=Ac (show kL inf.actions l=if iH (o9 xs) one≠0 then 14 else 0 by rw[H1.out]; rw[hxs]; exact hrow);have HLX:=Ac hlx; have HSM:=Ac hsm;clear hsh hxs hrow hlx hsm hold;replace o0:=ah o0 hbel; replace o1:=ah o1 hbel; replace o2:=ah o2 hbel;replace BH:=Ac (BH.out.below hbel);go_wp2_with fail
       refine wp_region_held_drew (S:=fun w'=>w'.cell? ⟨w1.heap.size,0,none⟩=some (.bool (aB one).neg)∧w'.cell? ⟨w1.heap.size,1,none⟩=some (.slice A1 (aB one).num.length c1)∧w'.cell? ⟨w1.heap.size,2,none⟩=some (.slice B1 (aB one).den.length d1')) (by kernel_rfl) ⟨o0,o1,o2⟩ (fun hHeld=>?_);have hb:Below wr.heap.size wr wr.drew:=aF (Below.refl _ wr) 1;replace o0:=ah o0 hb;replace o1:=ah o1 hb;replace o2:=ah o2 hb;replace HRA:=Ac (HRA.out.below hb);replace BH:=Ac (BH.out.below hb);replace hzr:=Nat.le_trans hzr hb.size;replace hbel:=hbel.trans (hb.mono hbel.size);clear hb;generalize wr.drew=wn at *;refine tk0 [0,3] ?_;iterate 2 (refine tk (v:=?_) rfl (by kernel_rfl) (by kernel_rfl) (by kernel_rfl) (fun _ _ _ h=>h) (Or.inl ⟨by rfl,?_⟩) hHeld ?_;rotate_left;(focus intro wx hSx;(try dsimp only at hSx);go_split_ands;go_simp;try with_reducible rfl);try simp only[Act.put,lq1,lq2,lq3,lq4,lq5,lq6])
       refine tk1 ?_;refine tk2 1 (by kernel_rfl) rfl fun K hK=>?_
       go_simp;refine(ac6 _ F _ xs HRA.out (by omega) (fun x hx=>by have:=HLX.out x hx; omega)).mono ?_;rintro e wn ⟨u,rfl,hb,hu⟩;have HNU:=Ac (Aw.keep (G:=fun _=>True) hu (fun _ _ _=>trivial) (Same.refl _ _)); clear hu;replace o0:=ah o0 hb;replace o1:=ah o1 hb;replace o2:=ah o2 hb;replace HRA:=Ac (HRA.out.below hb);replace BH:=Ac (BH.out.below hb);replace hzr:=Nat.le_trans hzr hb.size;replace hbel:=hbel.trans (hb.mono hbel.size);clear hb;dsimp only;clear hHeld;refine hK.out _ _ ⟨o0,o1,o2⟩ (fun hHeld=>?_);clear hK K;try simp only[Act.put,lq1,lq2,lq3,lq4,lq5,lq6]
       refine tk2 2 (by kernel_rfl) rfl fun K hK=>?_
       go_simp;refine(sum_any _ (fun _=>True) _ xs HNU.out (by omega) (fun x hx=>by have:=HLX.out x hx; omega) HSM.out).mono ?_;rintro e wn ⟨us,rfl,hb,hu⟩;have HSU:=Ac (AB.mono (G:=fun _=>True) hu (fun _ _ _=>trivial)); clear hu;replace o0:=ah o0 hb;replace o1:=ah o1 hb;replace o2:=ah o2 hb;replace HRA:=Ac (HRA.out.below hb);replace BH:=Ac (BH.out.below hb);replace HNU:=Ac (HNU.out.below hb);replace hzr:=Nat.le_trans hzr hb.size;replace hbel:=hbel.trans (hb.mono hbel.size);clear hb;dsimp only;clear hHeld;refine hK.out _ _ ⟨o0,o1,o2⟩ (fun hHeld=>?_);clear hK K;try simp only[Act.put,lq1,lq2,lq3,lq4,lq5,lq6]
       refine tk2 4 (by kernel_rfl) rfl fun K hK=>?_
       go_simp;refine(zD _ (fun _=>True) _ _ (o9 xs) one HSU.out BH.out hsm2 aa2).mono ?_;rintro e wn ⟨_,rfl,hb,rfl⟩;replace o0:=ah o0 hb;replace o1:=ah o1 hb;replace o2:=ah o2 hb;replace HRA:=Ac (HRA.out.below hb);replace BH:=Ac (BH.out.below hb);replace HNU:=Ac (HNU.out.below hb);replace HSU:=Ac (HSU.out.below hb);replace hzr:=Nat.le_trans hzr hb.size;replace hbel:=hbel.trans (hb.mono hbel.size);clear hb;dsimp only;clear hHeld;refine hK.out _ _ ⟨o0,o1,o2⟩ (fun hHeld=>?_);clear hK K;try simp only[Act.put,lq1,lq2,lq3,lq4,lq5,lq6]
       refine tk0 [5] ?_;(refine tk (v:=?_) rfl (by kernel_rfl) (by kernel_rfl) (by kernel_rfl) (fun _ _ _ h=>h) (Or.inl ⟨by rfl,?_⟩) hHeld ?_;rotate_left;(focus intro wx hSx;(try dsimp only at hSx);go_split_ands;go_simp;try with_reducible rfl);try simp only[Act.put,lq1,lq2,lq3,lq4,lq5,lq6])
       refine tk1 ?_;refine wpAnyH_done (by kernel_rfl) ?_ _;clear hHeld;clear o0 o1 o2 HNU HSU;generalize iH (o9 xs) one=e0 at *;show Exit.then _ _ .normal _ _;by_cases h0:e0=0
       ·have t1:(e0 != 0)=false:=by rw[h0]; rfl
        have hr0:kL inf.actions l=0:=by rw[BQ.out,if_neg (by simpa using h0)]
        have HR0:=Ac hr0; clear hr0 h0;go_wp2
        go_roundw
        case rel=>exact⟨k+1,by omega,by go_num,lK HP.out (by rw[yc HK.out HL.out,HR0.out]),hbel⟩
        case measure=>simp[intOf]; omega
       ·have t1:(e0 != 0)=true:=by simp[h0]
        have hr0:kL inf.actions l=14:=by rw[BQ.out,if_pos h0]
        have HE:=Ac ((jQ HLE.out HP.out HK.out HL.out (by rw[hr0]; decide)).trans hr0);clear hr0 h0;go_wp2
        go_ret;exact⟨_,rfl,hB.trans (hbel.mono hB.size),by rw[HE.out]; rfl⟩
    ·have d2:((l.length:Int) != inf.actions)=true:=by simp; omega
     have h3:kL inf.actions l=3:=by unfold kL; rw[if_pos hact]
     have HE:=Ac ((jQ HLE.out HP.out HK.out HL.out (by rw[h3]; decide)).trans h3);go_wp2
     go_ret;exact⟨_,rfl,hB.trans (hbel.mono hB.size),by rw[HE.out]; rfl⟩
   ·have HE:=Ac (aa1 HLE.out HP.out (by omega));go_wp2
    go_ret;exact⟨_,rfl,hB.trans (hbel.mono hB.size),by rw[HE.out]; rfl⟩
 ·have d1:((m.length:Int) != (g.infos.length:Int))=true:=by simp; omega
  have HE:=Ac (show gZ acts m=3 by unfold gZ; rw[if_pos (by omega)]);go_enter Tryz.func78,Tryz.ntmps78;go_wp2
  go_ret;exact⟨_,rfl,(Below.refl _ _).alloc (Nat.le_refl _) _,by rw[HE.out]; rfl⟩
theorem ac7 {g:Nat} (h:(dig g).length=1):dig g = [g]:=by
 have h0:g≠0:=aX.1 (by omega);refine mO h0 ?_;have:=jm g;rw[h,Nat.pow_one] at this;exact this
def BX (r:Raw) (g:Nat):Prop:=dS r=if g≠1 then 3 else if r.neg=true∧r.num.length=0 then 3 else 0
theorem afS {r:Raw} {g:Nat} (h:dS r=if (r.num.length=0∧r.neg=true)∨Nat.gcd (au r.num) (au r.den)≠1 then 3 else 0) (hg:g=Nat.gcd (au r.num) (au r.den)):BX r g:=by
 unfold BX;rw[h];by_cases hg1:g=1
 ·rw[if_neg (show ¬ (g≠1) from fun k=>k hg1)];by_cases h2:r.neg=true∧r.num.length=0
  ·rw[if_pos (Or.inl ⟨h2.2,h2.1⟩),if_pos h2]
  ·rw[if_neg (fun h=>Or.elim h (fun h=>h2 ⟨h.2,h.1⟩) (fun h=>h (hg.symm.trans hg1))),if_neg h2]
 ·rw[if_pos (Or.inr (fun h=>hg1 (hg.trans h))),if_pos hg1]
theorem aaw (w:World) (F:Ag) (v:Value) (r:Raw) (hv:AB w F v r) (hu:U32 r) (hln:r.num.length≤100000) (hld:r.den.length≤100000) :
  Calls Tryz.prog 99 #[v] w (Ret w fun u _=>u = .int .i64 (dS r)):=by
 obtain⟨A,c,B,d,rfl,hn,hd⟩:=hv.open;have HN:=Ac hn; have HD:=Ac hd;clear hv hn hd;have HR:=Ac (show dS r=if dh r.num r.den≠0 then dh r.num r.den else if (r.num.length=0∧r.neg=true)∨Nat.gcd (au r.num) (au r.den)≠1 then 3 else 0 from rfl);have HU:=Ac hu; clear hu;have HK:=Ac (fun h=>qM (num:=r.num) (den:=r.den) h);obtain⟨neg,num,den⟩:=r;dsimp only at *;go_enter Tryz.func99,Tryz.ntmps99;go_wp2_with fail
 obtain⟨W,hW,rx,hB,hz⟩:=aN w 83 #[.bool neg,.slice A num.length c,.slice B den.length d];rw[← hW];clear hW;replace HN:=Ac (Aj.on HN.out (Below.same' hB F)); replace HD:=Ac (Aj.on HD.out (Below.same' hB F));have x0:=rx.cell (i:=0) rfl;have x1:=rx.cell (i:=1) rfl;have x2:=rx.cell (i:=2) rfl;clear rx;have hz:w.heap.size+1≤W.heap.size:=by omega
 go_wp2_with fail
 refine(aea W F _ _ num den HN.out HD.out HU.out.1 HU.out.2 (by omega) (by omega)).mono ?_;rintro e w' ⟨rfl,rfl⟩;generalize dh num den=pe at *;by_cases h1:pe=0
 ·have t1:(pe != 0)=false:=by rw[h1]; rfl
  have hk:=HK.out h1;have hnn:Ah W F (.slice A num.length c) (au num):=by unfold Ah; rw[← hk.1]; exact HN.out
  have hdd:Ah W F (.slice B den.length d) (au den):=by unfold Ah; rw[← hk.2.1]; exact HD.out
  have hl1:(dig (au num)).length≤50000:=by rw[← hk.1]; have:=hk.2.2.2.1; omega
  have hl2:(dig (au den)).length≤50000:=by rw[← hk.2.1]; have:=hk.2.2.2.2; omega
  have HNN:=Ac hnn; have HDD:=Ac hdd;have hg0:Nat.gcd (au num) (au den)≠0:=Nat.ne_of_gt (Nat.gcd_pos_of_pos_right _ (Nat.pos_of_ne_zero hk.2.2.1));clear hnn hdd hk HK;obtain⟨g,hg⟩:∃ g,g=Nat.gcd (au num) (au den):=⟨_,rfl⟩;rw[← hg] at hg0;have HE:=Ac (afS (r:=⟨neg,num,den⟩) (g:=g) (HR.out.trans (if_neg (by simpa using h1))) hg);have HG:=Ac hg;have hG0:=Ac hg0;clear h1 HR hg hg0;by_cases hlen:(dig g).length=1
  ·have e1:(((dig g).length:Int) != 1)=false:=by rw[hlen]; rfl
   have HDG:=Ac (ac7 hlen);have hpos:0 < (dig g).length:=by omega
   clear hlen;have hor:((g:Int) != 1)=true∧dS ⟨neg,num,den⟩=3∨((g:Int) != 1)=false∧(neg=true∧((num.length:Int)==0)=true∧dS ⟨neg,num,den⟩=3∨neg=true∧((num.length:Int)==0)=false∧dS ⟨neg,num,den⟩=0∨neg=false∧dS ⟨neg,num,den⟩=0):=by
    have he:=HE.out;unfold BX at he;by_cases hg:g=1
    ·rw[if_neg (by simpa using hg)] at he;refine .inr ⟨by rw[hg]; rfl,?_⟩;cases neg
     ·rw[if_neg (by simp)] at he;exact .inr (.inr ⟨rfl,he⟩)
     ·by_cases h2:num.length=0
      ·rw[if_pos ⟨rfl,h2⟩] at he;exact .inl ⟨rfl,by rw[h2]; rfl,he⟩
      ·rw[if_neg (fun h=>h2 h.2)] at he;exact .inr (.inl ⟨rfl,beq_false_of_ne (by omega),he⟩)
    ·rw[if_pos hg] at he;exact .inl ⟨by simp; omega,he⟩
   have two:∀ (b:Bool) (T:Int),dS ⟨neg,num,den⟩=T→True:=fun _ _ _=>trivial
   clear two;rcases hor with⟨e2,he⟩ | ⟨e2,⟨rfl,e3,he⟩ | ⟨rfl,e3,he⟩ | ⟨rfl,he⟩⟩
   ·have HT:=Ac he; clear he HE;go_wp2_with fail
    refine(fE W F _ _ (au num) (au den) HNN.out HDD.out hl1 hl2).mono ?_;rintro e w1 ⟨va,rfl,hb,hu⟩;rw[← HG.out] at hu;obtain⟨A1,c1,rfl,_,_⟩:=hu;have hB1:=hB.trans (hb.mono hB.size);replace x0:=ah x0 hb; replace x1:=ah x1 hb; replace x2:=ah x2 hb;have HN1:=Ac (Ah.below (n:=au num) HNN.out hb); have HD1:=Ac (Ah.below (n:=au den) HDD.out hb);clear hb;dsimp only;go_wp2_with fail
    refine(fE w1 F _ _ (au num) (au den) HN1.out HD1.out hl1 hl2).mono ?_;rintro e w2 ⟨va,rfl,hb,hu⟩;rw[← HG.out] at hu;obtain⟨A2,c2,rfl,_,hN2⟩:=hu;have hB2:=hB1.trans (hb.mono hB1.size);replace x0:=ah x0 hb; replace x1:=ah x1 hb; replace x2:=ah x2 hb;obtain⟨b2,o2,rfl,_,hb2,hx2⟩:=hN2 hpos;have ex:=hx2 0 g (by rw[HDG.out]; rfl);unfold bP at ex; rw[Nat.mul_one,Nat.add_zero] at ex;clear hb hx2 hb2;dsimp only;go_wp2
    go_ret;exact⟨_,rfl,hB2,by rw[HT.out]; rfl⟩
   ·have HT:=Ac he; clear he HE;go_wp2_with fail
    refine(fE W F _ _ (au num) (au den) HNN.out HDD.out hl1 hl2).mono ?_;rintro e w1 ⟨va,rfl,hb,hu⟩;rw[← HG.out] at hu;obtain⟨A1,c1,rfl,_,_⟩:=hu;have hB1:=hB.trans (hb.mono hB.size);replace x0:=ah x0 hb; replace x1:=ah x1 hb; replace x2:=ah x2 hb;have HN1:=Ac (Ah.below (n:=au num) HNN.out hb); have HD1:=Ac (Ah.below (n:=au den) HDD.out hb);clear hb;dsimp only;go_wp2_with fail
    refine(fE w1 F _ _ (au num) (au den) HN1.out HD1.out hl1 hl2).mono ?_;rintro e w2 ⟨va,rfl,hb,hu⟩;rw[← HG.out] at hu;obtain⟨A2,c2,rfl,_,hN2⟩:=hu;have hB2:=hB1.trans (hb.mono hB1.size);replace x0:=ah x0 hb; replace x1:=ah x1 hb; replace x2:=ah x2 hb;obtain⟨b2,o2,rfl,_,hb2,hx2⟩:=hN2 hpos;have ex:=hx2 0 g (by rw[HDG.out]; rfl);unfold bP at ex; rw[Nat.mul_one,Nat.add_zero] at ex;clear hb hx2 hb2;dsimp only;go_wp2
    go_ret;exact⟨_,rfl,hB2,by rw[HT.out]; rfl⟩
   ·have HT:=Ac he; clear he HE;go_wp2_with fail
    refine(fE W F _ _ (au num) (au den) HNN.out HDD.out hl1 hl2).mono ?_;rintro e w1 ⟨va,rfl,hb,hu⟩;rw[← HG.out] at hu;obtain⟨A1,c1,rfl,_,_⟩:=hu;have hB1:=hB.trans (hb.mono hB.size);replace x0:=ah x0 hb; replace x1:=ah x1 hb; replace x2:=ah x2 hb;have HN1:=Ac (Ah.below (n:=au num) HNN.out hb); have HD1:=Ac (Ah.below (n:=au den) HDD.out hb);clear hb;dsimp only;go_wp2_with fail
    refine(fE w1 F _ _ (au num) (au den) HN1.out HD1.out hl1 hl2).mono ?_;rintro e w2 ⟨va,rfl,hb,hu⟩;rw[← HG.out] at hu;obtain⟨A2,c2,rfl,_,hN2⟩:=hu;have hB2:=hB1.trans (hb.mono hB1.size);replace x0:=ah x0 hb; replace x1:=ah x1 hb; replace x2:=ah x2 hb;obtain⟨b2,o2,rfl,_,hb2,hx2⟩:=hN2 hpos;have ex:=hx2 0 g (by rw[HDG.out]; rfl);unfold bP at ex; rw[Nat.mul_one,Nat.add_zero] at ex;clear hb hx2 hb2;dsimp only;go_wp2
    go_ret;exact⟨_,rfl,hB2,by rw[HT.out]; rfl⟩
   ·have HT:=Ac he; clear he HE;go_wp2_with fail
    refine(fE W F _ _ (au num) (au den) HNN.out HDD.out hl1 hl2).mono ?_;rintro e w1 ⟨va,rfl,hb,hu⟩;rw[← HG.out] at hu;obtain⟨A1,c1,rfl,_,_⟩:=hu;have hB1:=hB.trans (hb.mono hB.size);replace x0:=ah x0 hb; replace x1:=ah x1 hb; replace x2:=ah x2 hb;have HN1:=Ac (Ah.below (n:=au num) HNN.out hb); have HD1:=Ac (Ah.below (n:=au den) HDD.out hb);clear hb;dsimp only;go_wp2_with fail
    refine(fE w1 F _ _ (au num) (au den) HN1.out HD1.out hl1 hl2).mono ?_;rintro e w2 ⟨va,rfl,hb,hu⟩;rw[← HG.out] at hu;obtain⟨A2,c2,rfl,_,hN2⟩:=hu;have hB2:=hB1.trans (hb.mono hB1.size);replace x0:=ah x0 hb; replace x1:=ah x1 hb; replace x2:=ah x2 hb;obtain⟨b2,o2,rfl,_,hb2,hx2⟩:=hN2 hpos;have ex:=hx2 0 g (by rw[HDG.out]; rfl);unfold bP at ex; rw[Nat.mul_one,Nat.add_zero] at ex;clear hb hx2 hb2;dsimp only;go_wp2
    go_ret;exact⟨_,rfl,hB2,by rw[HT.out]; rfl⟩
  ·have e1:(((dig g).length:Int) != 1)=true:=by simp; omega
   have HT:=Ac (show dS ⟨neg,num,den⟩=3 by
    have he:=HE.out;unfold BX at he;rw[if_pos (fun h=>hlen (by rw[h,ig]; rfl))] at he;exact he)
   clear hlen HE;go_wp2_with fail
   refine(fE W F _ _ (au num) (au den) HNN.out HDD.out hl1 hl2).mono ?_;rintro e w1 ⟨va,rfl,hb,hu⟩;rw[← HG.out] at hu;obtain⟨A1,c1,rfl,_,_⟩:=hu;have hB1:=hB.trans (hb.mono hB.size);replace x0:=ah x0 hb; replace x1:=ah x1 hb; replace x2:=ah x2 hb;clear hb;dsimp only;go_wp2
   go_ret;exact⟨_,rfl,hB1,by rw[HT.out]; rfl⟩
 ·have t1:(pe != 0)=true:=by simp[h1]
  have HE:=Ac (show dS ⟨neg,num,den⟩=pe by rw[HR.out,if_pos h1]);clear h1;go_wp2
  go_ret;exact⟨_,rfl,hB,by rw[HE.out]; rfl⟩
theorem Aj.below {w w':World} {F:Ag} {v:Value} {l:List Nat} (h:Aj w F v l) (hb:Below w.heap.size w w'):Aj w' F v l:=h.on (Below.same' hb F)
theorem Aj.mono {w:World} {F G:Ag} {v:Value} {l:List Nat} (h:Aj w F v l) (hFG:∀ b,F b→b < w.heap.size→G b):Aj w G v l:=h.keep hFG (Same.refl _ _)
end Go.Proofs.YthmklhapjegfdaaGreatDoor
