/- plan.share. -/
import Derived.Test.YthmklhapjegfdaaGreatDoorL30
import Derived.Test.YthmklhapjegfdaaGreatDoorL29
set_option linter.all false
set_option maxRecDepth 100000
set_option maxHeartbeats 12800000
namespace Go.Proofs.YthmklhapjegfdaaGreatDoor
open Lib renaming hid → Aa
open Go.RowKit
theorem aeV:rl 1=1:=by
 unfold rl; rw[show(1:Rat).num=1 from rfl,show(1:Rat).den=1 from rfl,show(1:Int).natAbs=1 from rfl,jQ]; rfl
theorem aeW (x:Rat) (h:iY (aK x)=0):iw (aK x)=if dY x=true∨0 < lZ x 1 then 2 else 0:=by
 unfold iw;rw[if_neg (by simpa using h),zS]; rfl
theorem agB (w:World) (F:Ac) (v:Value) (r:Raw) (hv:AQ w F v r) (hu:U32 r) (hln:r.num.length≤100000) (hld:r.den.length≤100000) (hT:Bq w) :
  Calls Tryz.prog 101 #[v] w (Ret w fun u _=>u = .int .i64 (iw r)):=by
 have HV:=Aa hv.old;obtain⟨A,c,B,d,rfl,hn,hd⟩:=hv.open;clear hv hn hd;have HU:=Aa hu; clear hu;have HTT:=Aa hT; clear hT;go_enter Tryz.func101,Tryz.ntmps101;go_wp2_with fail
 obtain⟨W,hW,rx,hB,hz⟩:=aJ w 83 #[.bool r.neg,.slice A r.num.length c,.slice B r.den.length d];rw[← hW];clear hW;replace HTT:=Aa (HTT.out.on hB);replace HV:=Aa (HV.out.on (Below.same' hB _));have x0:=rx.cell (i:=0) rfl;have x1:=rx.cell (i:=1) rfl;have x2:=rx.cell (i:=2) rfl;clear rx;have hz:w.heap.size+1≤W.heap.size:=by omega
 go_wp2_with fail
 refine(acv W _ _ r HV.out HU.out hln hld HTT.out).mono ?_;rintro e wn ⟨_,rfl,hb,rfl⟩;replace x0:=ah x0 hb;replace x1:=ah x1 hb;replace x2:=ah x2 hb;replace HV:=Aa (HV.out.below hb);replace hz:=Nat.le_trans hz hb.size;replace hB:=hB.trans (hb.mono hB.size);clear hb;clear HTT;by_cases h1:iY r=0
 ·obtain⟨⟨x,rfl⟩,h2,h3⟩:=aby h1;have hrl:rl x≤1024:=by unfold rl; exact Nat.max_le.2 ⟨h2,h3⟩
  have t1:(iY (aK x) != 0)=false:=by rw[h1]; rfl
  have HE:=Aa (aeW x h1);have HB:=Aa (show(aK x).neg=dY x from rfl);clear h1 h2 h3 hln hld HU;generalize iY (aK x)=re at *;by_cases hneg:dY x=true
  ·have HF:=Aa (HE.out.trans (if_pos (.inl hneg)));have e1:(aK x).neg=true:=by rw[HB.out]; exact hneg
   clear hneg HB HE;dsimp only;go_wp2
   go_ret;exact⟨_,rfl,hB,by rw[HF.out]; rfl⟩
  ·have e1:(aK x).neg=false:=by rw[HB.out]; simpa using hneg
   have HF:=Aa (HE.out.trans (show(if dY x=true∨0 < lZ x 1 then (2:Int) else 0)=if 0 < lZ x 1 then 2 else 0 by
    by_cases h:0 < lZ x 1
    ·rw[if_pos h,if_pos (.inr h)]
    ·rw[if_neg h,if_neg (fun k=>k.elim hneg h)]))
   clear hneg HB HE;obtain⟨o,ho⟩:∃ o,o=lZ x 1:=⟨_,rfl⟩;rw[← ho] at HF;have HO:=Aa ho; clear ho;by_cases hgt:0 < o
   ·skip
    have d1:decide (0 < o)=true:=decide_eq_true hgt;rw[e1] at HV x0;have HG:=Aa (HF.out.trans (if_pos hgt)); clear hgt HF;dsimp only;go_wp2_with fail
    refine(wQ _ _ _ x HV.out (by omega)).mono ?_;rintro e wn ⟨va,rfl,hb,hu⟩;have HA:=Aa hu; clear hu;replace x0:=ah x0 hb;replace x1:=ah x1 hb;replace x2:=ah x2 hb;replace HV:=Aa (HV.out.below hb);replace hz:=Nat.le_trans hz hb.size;replace hB:=hB.trans (hb.mono hB.size);clear hb;clear HV;dsimp only;go_wp2_with fail
    refine(aam _ 1 (by decide) (by decide)).mono ?_;rintro e wn ⟨vb,rfl,hb,hu⟩;have HB:=Aa (AQ.mono (G:=fun _=>True) hu (fun _ _ _=>trivial)); clear hu;replace x0:=ah x0 hb;replace x1:=ah x1 hb;replace x2:=ah x2 hb;replace HA:=Aa (HA.out.below hb);replace hz:=Nat.le_trans hz hb.size;replace hB:=hB.trans (hb.mono hB.size);clear hb;dsimp only;go_wp2_with fail
    refine(aau _ (fun _=>True) _ _ x ((1:Int):Rat) (HA.out.mono (fun _ _ _=>trivial)) HB.out (by omega) (by rw[show((1:Int):Rat)=1 from rfl,aeV]; omega)).mono ?_;rintro e wn ⟨_,rfl,hb,rfl⟩;rw[show lZ x ((1:Int):Rat)=o from HO.out.symm];replace x0:=ah x0 hb;replace x1:=ah x1 hb;replace x2:=ah x2 hb;replace HA:=Aa (HA.out.below hb);replace HB:=Aa (HB.out.below hb);replace hz:=Nat.le_trans hz hb.size;replace hB:=hB.trans (hb.mono hB.size);clear hb;dsimp only;go_wp2
    go_ret;exact⟨_,rfl,hB,by rw[HG.out]; rfl⟩
   ·skip
    have d1:decide (0 < o)=false:=decide_eq_false hgt;rw[e1] at HV x0;have HG:=Aa (HF.out.trans (if_neg hgt)); clear hgt HF;dsimp only;go_wp2_with fail
    refine(wQ _ _ _ x HV.out (by omega)).mono ?_;rintro e wn ⟨va,rfl,hb,hu⟩;have HA:=Aa hu; clear hu;replace x0:=ah x0 hb;replace x1:=ah x1 hb;replace x2:=ah x2 hb;replace HV:=Aa (HV.out.below hb);replace hz:=Nat.le_trans hz hb.size;replace hB:=hB.trans (hb.mono hB.size);clear hb;clear HV;dsimp only;go_wp2_with fail
    refine(aam _ 1 (by decide) (by decide)).mono ?_;rintro e wn ⟨vb,rfl,hb,hu⟩;have HB:=Aa (AQ.mono (G:=fun _=>True) hu (fun _ _ _=>trivial)); clear hu;replace x0:=ah x0 hb;replace x1:=ah x1 hb;replace x2:=ah x2 hb;replace HA:=Aa (HA.out.below hb);replace hz:=Nat.le_trans hz hb.size;replace hB:=hB.trans (hb.mono hB.size);clear hb;dsimp only;go_wp2_with fail
    refine(aau _ (fun _=>True) _ _ x ((1:Int):Rat) (HA.out.mono (fun _ _ _=>trivial)) HB.out (by omega) (by rw[show((1:Int):Rat)=1 from rfl,aeV]; omega)).mono ?_;rintro e wn ⟨_,rfl,hb,rfl⟩;rw[show lZ x ((1:Int):Rat)=o from HO.out.symm];replace x0:=ah x0 hb;replace x1:=ah x1 hb;replace x2:=ah x2 hb;replace HA:=Aa (HA.out.below hb);replace HB:=Aa (HB.out.below hb);replace hz:=Nat.le_trans hz hb.size;replace hB:=hB.trans (hb.mono hB.size);clear hb;dsimp only;go_wp2
    go_ret;exact⟨_,rfl,hB,by rw[HG.out]; rfl⟩
 ·have t1:(iY r != 0)=true:=by simp[h1]
  have HE:=Aa (show iw r=iY r by unfold iw; rw[if_pos h1]);clear h1;generalize iY r=re at *;dsimp only;go_wp2
  go_ret;exact⟨_,rfl,hB,by rw[HE.out]; rfl⟩
theorem adG (w:World) (F:Ac) (v:Value) (xs:List Rat) (hv:BF w F v xs) (hl:xs.length≤100000) (hx:∀ x∈xs,rl x≤100000) :
  Calls Tryz.prog 113 #[v] w (Ret w fun u w'=>BN w' (Ext F w.heap.size) u xs):=by
 obtain⟨A,c,rfl,hc,hN⟩:=hv;rw[List.length_map] at hc hN;have HN:=Aa hN; clear hN;have HX:=Aa hx; clear hx;show Calls _ _ #[.slice A (xs.map aK).length c] _ _;rw[List.length_map];go_enter Tryz.func113,Tryz.ntmps113;go_wp2
 go_loopw [3,8] (fun u i wr=>∃ (k:Nat) (L:List RV),k≤xs.length∧i = .int .i64 (k:Int)∧L.length=k∧L.map RV.r=(xs.take k).map aC∧Ba wr w.heap.size 118 (Old F w.heap.size) u L∧Below w.heap.size w wr) (fun _ i _=>xs.length - (intOf i).toNat)
 case atStart=>exact⟨0,[],by omega,rfl,rfl,rfl,Ba.nil _ _ _ _,Below.refl _ _⟩
 case round =>
  obtain⟨k,L,hk,rfl,hlen,hmap,hown,hbel⟩:=hrel;have HM:=Aa hmap; have HO:=Aa hown; have HLL:=Aa hlen; clear hmap hown hlen;have hz:=hbel.size;by_cases hlt:k < xs.length
  ·obtain⟨b,o,rfl,hF,hb,hx⟩:=HN.out (by omega);obtain⟨x,hx'⟩:=au hlt;obtain⟨ex0,⟨vn,ex1,hn⟩,⟨vd,ex2,hd⟩⟩:=hx k (aK x) (by rw[List.getElem?_map,hx']; rfl);have hold:=aA hbel;have HXE:=Aa hx';have hrl:=HX.out x (List.mem_of_getElem? hx');have HR:=Aa (AQ.below (r:=aK x) (AQ.old (AQ.make (r:=aK x) rfl hn hd)) hbel);obtain⟨A1,c1,rfl,_,_⟩:=hn;obtain⟨A2,c2,rfl,_,_⟩:=hd;replace ex1:w.cell? ⟨b,o+k*3+1,none⟩=some (.slice A1 (dig x.num.natAbs).length c1):=ex1;replace ex2:w.cell? ⟨b,o+k*3+2,none⟩=some (.slice A2 (dig x.den).length c2):=ex2;clear hx hx';go_wp2_with fail
   obtain⟨W2,hW2,rz,hB2,hzz⟩:=aJ wr 83 #[.bool (aK x).neg,.slice A1 (dig x.num.natAbs).length c1,.slice A2 (dig x.den).length c2];rw[← hW2];clear hW2;replace HR:=Aa (HR.out.below hB2);replace HO:=Aa (HO.out.below hB2);have dR:=hbel.trans (hB2.mono hz);have x0:=rz.cell (i:=0) rfl; have x1:=rz.cell (i:=1) rfl; have x2:=rz.cell (i:=2) rfl;clear hold hB2;go_wp2_with fail
   refine(wQ W2 _ _ x HR.out hrl).mono ?_;rintro e wn ⟨u,rfl,hb2,hu⟩;replace HO:=Aa (HO.out.below hb2);have qM:=dR.trans (hb2.mono dR.size);have hz3:=qM.size;obtain⟨q,hq,rfl,iQ⟩:=AQ.rv hu;have HQ:=Aa hq; have HF:=Aa iQ;clear hu x0 x1 x2 rz hb2 dR hq iQ;dsimp only[RV.cells];go_wp2_with (at_builtin; refine yc (F:=Old F w.heap.size) rfl _ _ 110 118 Tryz.underlying110 Tryz.infoNum rfl w.heap.size (Nat.le_refl _) u3 L rfl q (by have:=HLL.out; omega) rfl HO.out (HF.out.keep (fun b hb _=>⟨hb,fun e=>by have:=(HO.out.row.lt b e).1; have:=hb.2; omega⟩) (Same.refl _ _)) qM ?_; intro g cap w' hown' jy hlt'; have HO':=Aa hown'; clear hown')
   go_roundw
   case rel=>exact⟨k+1,L ++ [q],by omega,by go_num,by rw[List.length_append,HLL.out]; rfl,by rw[List.map_append,HM.out,take_snoc HXE.out,List.map_append]; show _ ++ [q.r]=_ ++ [aC x]; rw[HQ.out],HO'.out,jy⟩
   case measure=>simp[intOf]; omega
  ·go_wp2
   go_ret;have hall:xs.take k=xs:=List.take_of_length_le (by omega);refine⟨_,rfl,hbel,?_⟩;have:=HO.out.adg (G:=Ext F w.heap.size) (fun b hb=>.inl hb.1) (fun b hb=>.inr hb);rw[HM.out,hall] at this;exact this
theorem sum_any (w:World) (F:Ac) (v:Value) (xs:List Rat) (hv:BN w F v xs) (hl:xs.length≤100000) (hx:∀ x∈xs,rl x≤20000) (hs:∀ k,rl (qP (xs.take k))≤20000) :
  Calls Tryz.prog 114 #[v] w (Ret w fun u w'=>NmV w' (Ext F w.heap.size) u (qP xs)):=by
 obtain⟨A,c,rfl,hc,hN⟩:=hv;rw[List.length_map] at hc hN;have HN:=Aa hN; clear hN;have HX:=Aa hx; clear hx;have HS:=Aa hs; clear hs;show Calls _ _ #[.slice A (xs.map aC).length c] _ _;rw[List.length_map];go_enter Tryz.func114,Tryz.ntmps114;go_wp2_with fail
 obtain⟨W,hW,ry,rz,hB,hz⟩:=alloc2 w 118 #[.bool false,.slice none 0 0,.slice none 0 0] 118 #[.bool false,.slice none 0 0,.slice none 0 0];rw[← hW];clear hW;have hz:w.heap.size+2≤W.heap.size:=hz;have hry:=Aa ry; have hrz:=Aa rz; clear ry rz;try go_wp2
 go_loopw [8] (fun i wr=>∃ (k:Nat) (s:Rat) (A':Option Addr) (c':Nat) (B':Option Addr) (d':Nat),k≤xs.length∧i = .int .i64 (k:Int)∧s=qP (xs.take k)∧Row wr w.heap.size 118 [.bool false,.slice none 0 0,.slice none 0 0]∧Row wr (w.heap.size+1) 118 [.bool (aC s).neg,.slice A' (aC s).num.length c',.slice B' (aC s).den.length d'] ∧
  NmV wr (Ext (Old F w.heap.size) (w.heap.size+2)) (.agg #[.bool (aC s).neg,.slice A' (aC s).num.length c',.slice B' (aC s).den.length d']) s∧Below w.heap.size w wr∧w.heap.size+2≤wr.heap.size) (fun i _=>xs.length - (intOf i).toNat)
 case atStart =>
  have h0:aC 0=⟨false,[],[]⟩:=by unfold aC; rw[if_pos (show(0:Rat).den=1 from rfl),show(0:Rat).num=0 from rfl,Int.natAbs_zero,aY]; rfl
  refine⟨0,0,none,0,none,0,by omega,rfl,rfl,hry.out,?_,?_,hB,hz⟩
  ·rw[h0]; exact hrz.out
  ·rw[h0]; exact NmV.zero _ _ _ _ _ _
 case round =>
  clear hry hrz hB hz;obtain⟨k,s,A',c',B',d',hk,rfl,hsum,hry,hrz,hnm,hB,hz⟩:=hrel;have HSU:=Aa hsum; have HNM:=Aa hnm; clear hsum hnm;have hrs:=HS.out k;rw[← HSU.out] at hrs;by_cases hlt:k < xs.length
  ·obtain⟨b,o,rfl,hF,hb,hx⟩:=HN.out (by omega);obtain⟨x,hx'⟩:=au hlt;obtain⟨ex0,⟨vn,ex1,hn⟩,⟨vd,ex2,hd⟩⟩:=hx k (aC x) (by rw[List.getElem?_map,hx']; rfl);have hold:=aA hB;have HXE:=Aa hx';have hrl:=HX.out x (List.mem_of_getElem? hx');have HR:=Aa (AQ.mono (G:=Ext (Old F w.heap.size) (w.heap.size+2)) (AQ.below (r:=aC x) (AQ.old (AQ.make (r:=aC x) rfl hn hd)) hB) (fun b hb _=>.inl hb));obtain⟨A1,c1,rfl,_,_⟩:=hn;obtain⟨A2,c2,rfl,_,_⟩:=hd;clear hx hx';have y0:=fun o=>(hrz.alloc o).cell (i:=0) rfl; have y1:=fun o=>(hrz.alloc o).cell (i:=1) rfl; have y2:=fun o=>(hrz.alloc o).cell (i:=2) rfl
   go_wp2_with fail
   obtain⟨W2,hW2,rz,hB2,hzz⟩:=aJ wr 118 #[.bool (aC x).neg,.slice A1 (aC x).num.length c1,.slice A2 (aC x).den.length c2];rw[← hW2];clear hW2;replace HR:=Aa (HR.out.below hB2);replace HNM:=Aa (HNM.out.below hB2);replace hry:=hry.below hB2 hry.lt;replace hrz:=hrz.below hB2 hrz.lt;replace hB:=hB.trans (hB2.mono hB.size);have x0:=rz.cell (i:=0) rfl; have x1:=rz.cell (i:=1) rfl; have x2:=rz.cell (i:=2) rfl;clear y0 y1 y2; have y0:=hrz.cell (i:=0) rfl; have y1:=hrz.cell (i:=1) rfl; have y2:=hrz.cell (i:=2) rfl;clear hold hB2;go_wp2_with fail
   refine(ahQ W2 _ _ _ s x HNM.out HR.out hrs hrl).mono ?_;rintro e wn ⟨u,rfl,hb2,hu⟩;replace hu:NmV wn (Ext (Old F w.heap.size) (w.heap.size+2)) u (s+x):=hu.mono (fun b hb _=>hb.elim id fun h=>.inr (by omega));have HU:=Aa hu;obtain⟨A4,c4,B4,d4,rfl,hn,hd⟩:=hu.open;clear hn hd hu;replace hry:=hry.below hb2 hry.lt;replace hrz:=hrz.below hb2 hrz.lt;replace hB:=hB.trans (hb2.mono hB.size);have hz2:=hb2.size;clear x0 x1 x2 rz y0 y1 y2 hb2;have q0:=hrz.cell (i:=0) rfl; have y0:=hrz.frozen 0;have q1:=hrz.cell (i:=1) rfl; have y1:=hrz.frozen 1;have q2:=hrz.cell (i:=2) rfl; have y2:=hrz.frozen 2;dsimp only;go_wp2_with fail
   obtain⟨Wz,hWz,hrw,hwz,hkz⟩:=gX hrz (.bool (aC (s+x)).neg) (.slice A4 (aC (s+x)).num.length c4) (.slice B4 (aC (s+x)).den.length d4);rw[← hWz];clear q0 q1 q2 y0 y1 y2;have hryz:Row Wz w.heap.size 118 [.bool false,.slice none 0 0,.slice none 0 0]:=by
    rw[hWz]; exact((hry.other (a:=⟨w.heap.size+1,0,none⟩) (by simp) _).other (a:=⟨w.heap.size+1,1,none⟩) (by simp) _).other (a:=⟨w.heap.size+1,2,none⟩) (by simp) _
   have hsz:Wz.heap.size=wn.heap.size:=by rw[hWz]; simp
   clear hWz;have HUU:=Aa (HU.out.keep (fun b hb _=>hb) (hkz (Ext (Old F w.heap.size) (w.heap.size+2)) (fun h=>h.elim (fun h=>by have:=h.2; omega) fun h=>by omega)));go_roundw
   case rel=>exact⟨k+1,s+x,A4,c4,B4,d4,by omega,by go_num,by rw[take_snoc HXE.out,agd,← HSU.out],hryz,hrw,HUU.out,hwz _ _ (by omega) hB,by omega⟩
   case measure=>simp[intOf]; omega
  ·have hall:xs.take k=xs:=List.take_of_length_le (by omega);have HF:=Aa (show s=qP xs by rw[HSU.out,hall]);clear hall;have p0:=hrz.cell (i:=0) rfl; have p1:=hrz.cell (i:=1) rfl; have p2:=hrz.cell (i:=2) rfl;have q0:=hry.cell (i:=0) rfl;have y0:=hry.frozen 0;have q1:=hry.cell (i:=1) rfl;have y1:=hry.frozen 1;have q2:=hry.cell (i:=2) rfl;have y2:=hry.frozen 2;go_wp2
   obtain⟨Wz,hWz,hrz,hwz,hkz⟩:=gX hry (.bool (aC s).neg) (.slice A' (aC s).num.length c') (.slice B' (aC s).den.length d');rw[← hWz];clear hWz q0 q1 q2 y0 y1 y2;have t0:=hrz.cell (i:=0) rfl;have t1:=hrz.cell (i:=1) rfl;have t2:=hrz.cell (i:=2) rfl;refine bodyPost_ret (v:=.agg #[.bool (aC s).neg,.slice A' (aC s).num.length c',.slice B' (aC s).den.length d']) (by simp[results,Tryz.results114,go_sem,t0,t1,t2]) rfl ?_;exact⟨_,rfl,hwz _ _ (by omega) hB,by rw[← HF.out]; exact HNM.out.keep (fun b hb _=>hb.elim (fun h=>.inl h.1) fun h=>.inr (by omega)) (hkz _ (fun h=>h.elim (fun h=>by have:=h.2; omega) fun h=>by omega))⟩
open List renaming getElem_toArray → lq1, getElem_cons_zero → lq2, getElem_cons_succ → lq3, setIfInBounds_toArray → lq4, set_cons_zero → lq5, set_cons_succ → lq6
theorem Aj.below {w w':World} {F:Ac} {v:Value} {l:List Raw} (h:Aj w F v l) (hb:Below w.heap.size w w'):Aj w' F v l:=h.on (Below.same' hb F)
theorem acE {acts:List Int} {m:List (List Raw)} {k:Nat} {a:Int} {l:List Raw} (ha:acts[k]? = some a) (hl:m[k]? = some l):(List.zipWith mg acts m)[k]? = some (mg a l):=by
 rw[List.getElem?_zipWith,ha,hl]
theorem wU {acts:List Int} {m:List (List Raw)} {k:Nat} {a:Int} {l:List Raw} (hlen:m.length=acts.length) (h0:iq ((List.zipWith mg acts m).take k)=0) (ha:acts[k]? = some a) (hl:m[k]? = some l) (hne:mg a l≠0):oU acts m=mg a l:=by
 unfold oU;rw[if_neg (by omega)];exact uy h0 (acE ha hl) hne
theorem agC {acts:List Int} {m:List (List Raw)} {k:Nat} (hlen:m.length=acts.length) (h0:iq ((List.zipWith mg acts m).take k)=0) (hk:m.length≤k):oU acts m=0:=by
 unfold oU;rw[if_neg (by omega)];rwa [List.take_of_length_le (by simp; omega)] at h0
def BJ (m:List (List Raw)):Prop:=∀ l∈m,l.length≤100000∧∀ r∈l,U32 r∧r.num.length≤100000∧r.den.length≤100000
theorem abf {a:Int} {l:List Raw} {j:Nat} {r:Raw} (hla:(l.length:Int)=a) (h0:iq ((l.map iw).take j)=0) (hr:l[j]? = some r) (hne:iw r≠0):mg a l=iw r:=by
 have hs:lH l=iw r:=uy h0 (by rw[List.getElem?_map,hr]; rfl) hne;unfold mg;rw[if_neg (by omega),if_pos (by rw[hs]; exact hne),hs]
theorem abg {a:Int} {l:List Raw} (hla:(l.length:Int)=a) (h0:lH l=0):mg a l=if lZ (qP (l.map adb)) 1≠0 then 14 else 0:=by
 unfold mg;rw[if_neg (by omega),if_neg (by omega)]
theorem aeX (w:World) (F:Ac) (vg vm:Value) (g:Gm) (m:List (List Raw)) (hg:Az w F vg g) (hm:Af w F vm m) (hT:Bq w) (hlm:m.length≤100000) (hli:g.infos.length≤100000) (hb:BJ m) (hact:∀ i∈g.infos,i.actions≤10) :
  Calls Tryz.prog 78 #[vg,vm] w (Ret w fun v _=>v = .int .i64 (oU (g.infos.map Inf.actions) m)):=by
 obtain⟨vn,vi,rfl,⟨A,c,rfl,hc,hN⟩,⟨Ai,ci,rfl,hci,hI⟩⟩:=hg;obtain⟨Am,cm,rfl,hcm,hM⟩:=hm;have HI:=Aa hI; have HM:=Aa hM; have HBB:=Aa hb; have HA:=Aa hact; have HTT:=Aa hT;clear hN hI hM hb hact hT;obtain⟨acts,afS⟩:∃ a,a=g.infos.map Inf.actions:=⟨_,rfl⟩;rw[← afS];have hal:acts.length=g.infos.length:=by rw[afS,List.length_map]
 have HAC:=Aa afS; clear afS;by_cases hlen:m.length=g.infos.length
 ·have d1:((m.length:Int) != (g.infos.length:Int))=false:=by simp; omega
  have HLE:=Aa (show m.length=acts.length by omega);have hle1:m.length≤g.infos.length:=by omega
  have hle2:g.infos.length≤m.length:=by omega
  have hle3:m.length≤acts.length:=by omega
  clear hlen hal;go_enter Tryz.func78,Tryz.ntmps78;go_wp2_with fail
  obtain⟨W,hW,rx,hB,hz⟩:=aJ w 25 #[.int .i64 g.aj,.slice A g.nodes.length c,.slice Ai g.infos.length ci];rw[← hW];clear hW;refine(aam W 1 (by decide) (by decide)).mono ?_;rintro e w1 ⟨u,rfl,hb1,hu⟩;obtain⟨one,hone⟩:∃ one:Rat,one=((1:Int):Rat):=⟨_,rfl⟩;rw[← hone] at hu;have H1:=Aa (show one=1 from hone); clear hone;have Cj:=Aa (hu.mono (G:=fun _=>True) (fun _ _ _=>trivial));obtain⟨A1,c1,B1,d1',rfl,hn,hd⟩:=hu.open;clear hn hd hu;replace rx:=rx.below hb1 rx.lt;replace hB:=hB.trans (hb1.mono hB.size);clear hb1;have hz1:w.heap.size+1≤w1.heap.size:=by have:=rx.lt; omega
  dsimp only;go_wp2
  obtain⟨W1,hW1,ry,hB1,hzz⟩:=aJ w1 118 #[.bool (aC one).neg,.slice A1 (aC one).num.length c1,.slice B1 (aC one).den.length d1'];rw[← hW1];clear hW1;replace Cj:=Aa (Cj.out.below hB1);replace rx:=rx.below hB1 rx.lt;replace hB:=hB.trans (hB1.mono hB.size);replace HTT:=Aa (HTT.out.on hB);replace HI:=Aa (fun h=>by
   obtain⟨b,o,h1,h2,h3,h4⟩:=HI.out h;exact(⟨b,o,h1,⟨h2,h3⟩,Nat.lt_of_lt_of_le h3 hB.size,fun k x hx=>⟨ah (h4 k x hx).c0 hB,ah (h4 k x hx).c1 hB⟩⟩:∃ b o,Ai=some ⟨b,o,none⟩∧Old F w.heap.size b∧b < W1.heap.size∧∀ k x,g.infos[k]? = some x→Eh W1 (Old F w.heap.size) b (o+k*2) x))
  replace HM:=Aa (Af.keep (G:=F) (⟨Am,cm,rfl,hcm,HM.out⟩:Af w F _ m) (fun _ h _=>h) (Below.same' hB F));clear hB1;have g2:=rx.cell (i:=2) rfl;have o0:=ry.cell (i:=0) rfl; have o1:=ry.cell (i:=1) rfl; have o2:=ry.cell (i:=2) rfl;have hgs:w.heap.size < W1.heap.size:=by omega
  have hos:w1.heap.size < W1.heap.size:=by omega
  clear rx ry hz hzz;have hz2:=hB.size;go_loopw [20] (fun i wr=>∃ k:Nat,k≤m.length∧i = .int .i64 (k:Int)∧iq ((List.zipWith mg acts m).take k)=0∧Below W1.heap.size W1 wr) (fun i _=>m.length - (intOf i).toNat)
  case atStart=>exact⟨0,by omega,rfl,rfl,Below.refl _ _⟩
  case round =>
   obtain⟨k,hk,rfl,hpre,hbel⟩:=hrel;have HP:=Aa hpre; clear hpre;have hold:=aA hbel;have hzr:=hbel.size;by_cases hlt:k < m.length
   ·obtain⟨l,hl⟩:=au hlt;obtain⟨inf,qR⟩:=au (l:=g.infos) (k:=k) (by omega);have hak:acts[k]? = some inf.actions:=by rw[HAC.out,List.getElem?_map,qR]; rfl
    obtain⟨A0,c0,he,_,hM⟩:=HM.out;cases he
    obtain⟨b,o,rfl,hF,hbl,hx⟩:=hM (by omega);obtain⟨ur,eu,hrow⟩:=hx k l hl;rw[Nat.mul_one] at eu;have HRW:=Aa hrow;obtain⟨Ar,cr,rfl,hcr,_⟩:=hrow;obtain⟨b2,p2,rfl,hF2,hbl2,hx2⟩:=HI.out (by omega);have ei:=(hx2 k inf qR).c1;have hia:inf.actions≤10:=HA.out inf (List.mem_of_getElem? qR);have iQ:=HBB.out l (List.mem_of_getElem? hl);have HFI:=Aa iQ.2;have hll:=iQ.1;have HL:=Aa hl; have HK:=Aa hak;clear hx hx2 hM hl qR hak iQ;by_cases hact:(l.length:Int)=inf.actions
    ·have d2:((l.length:Int) != inf.actions)=false:=by simp; omega
     have En:=Aa hact;go_wp2
     go_loopw [36] (fun i wi=>∃ j:Nat,j≤l.length∧i = .int .i64 (j:Int)∧iq ((l.map iw).take j)=0∧Below W1.heap.size W1 wi) (fun i _=>l.length - (intOf i).toNat)
     case atStart=>exact⟨0,by omega,rfl,rfl,hbel⟩
     case round =>
      clear hold hbel hzr;obtain⟨j,hj,rfl,hpre,hbel⟩:=hrel;have HPJ:=Aa hpre; clear hpre;have hold:=aA hbel;have hzr:=hbel.size;by_cases hlt2:j < l.length
      ·obtain⟨A2,c2,he,_,hR⟩:=HRW.out;cases he
       obtain⟨b3,o3,rfl,hF3,hb3,hx3⟩:=hR (by omega);obtain⟨r,hr⟩:=au hlt2;obtain⟨ex0,⟨vn,ex1,hn⟩,⟨vd,ex2,hd⟩⟩:=hx3 j r hr;have HRV:=Aa (AQ.below (AQ.make (r:=r) rfl hn hd) hbel);obtain⟨A4,c4,rfl,_,_⟩:=hn;obtain⟨A5,c5,rfl,_,_⟩:=hd;have hfr:=HFI.out r (List.mem_of_getElem? hr);have HFR:=Aa hfr.1;have hf2:=hfr.2.1; have hf3:=hfr.2.2;have HRR:=Aa hr;clear hx3 hR hr hfr;go_wp2_with fail
       obtain⟨W2,hW2,rz,hB2,hzz⟩:=aJ wr 83 #[.bool r.neg,.slice A4 r.num.length c4,.slice A5 r.den.length c5];rw[← hW2];clear hW2;replace HRV:=Aa (HRV.out.below hB2);have x0:=rz.cell (i:=0) rfl; have x1:=rz.cell (i:=1) rfl; have x2:=rz.cell (i:=2) rfl;replace hbel:=hbel.trans (hB2.mono hbel.size);clear hold hB2 rz;go_wp2_with fail
       refine(agB W2 F _ r HRV.out HFR.out hf2 hf3 (HTT.out.on hbel)).mono ?_;rintro e wn ⟨_,rfl,hb,rfl⟩;replace hbel:=hbel.trans (hb.mono hbel.size);clear hb x0 x1 x2;have HSE:=Aa (rfl:iw r=iw r);generalize hse:iw r=se at *;have HS2:=Aa hse; clear hse HSE;by_cases hs0:se=0
       ·have t1:(se != 0)=false:=by rw[hs0]; rfl
        have HS0:=Aa hs0; clear hs0;dsimp only;go_wp2
        go_roundw
        case rel=>exact⟨j+1,by omega,by go_num,ru HPJ.out (by rw[List.getElem?_map,HRR.out]; show some (iw r)=_; rw[HS2.out,HS0.out]),hbel⟩
        case measure=>simp[intOf]; omega
       ·have t1:(se != 0)=true:=by simp[hs0]
        have hrow:mg inf.actions l=se:=(abf En.out HPJ.out HRR.out (by rw[HS2.out]; exact hs0)).trans HS2.out;have HE:=Aa ((wU HLE.out HP.out HK.out HL.out (by rw[hrow]; exact hs0)).trans hrow);clear hs0 hrow;dsimp only;go_wp2
        go_ret;exact⟨_,rfl,hB.trans (hbel.mono hB.size),by rw[HE.out]; rfl⟩
      ·have hsh:lH l=0:=by
        have:=HPJ.out;rw[List.take_of_length_le (by simp; omega)] at this;exact this
       obtain⟨xs,hxs,hlx⟩:=uz hsh;have hrow:=abg En.out hsh;rw[hxs,zT] at hrow;have hxl:xs.length≤10:=by
        have h1:=En.out;rw[hxs,List.length_map] at h1; omega
       have HXS:=Aa hxs;have HRA:=Aa (show BF wr F (.slice Ar l.length cr) xs by
        show Aj wr F _ (xs.map aK);rw[← HXS.out]; exact HRW.out.on (Below.same' hbel F))
       have hsm:∀ k,rl (qP (xs.take k))≤20000:=fun k=>by
        have h1:=afJ (xs.take k) (fun x hx=>hlx x (List.mem_of_mem_take hx));have h2:(xs.take k).length≤xs.length:=by simp; omega
        omega
       have hsm2:rl (qP xs)≤20000:=by
        have h1:=afJ xs hlx;omega
       have akq:rl one≤20000:=by rw[H1.out,aeV]; omega
       have D9:=Aa (show mg inf.actions l=if lZ (qP xs) one≠0 then 14 else 0 by rw[H1.out]; rw[hxs]; exact hrow);have HLX:=Aa hlx; have HSM:=Aa hsm;clear hsh hxs hrow hlx hsm hold;replace o0:=ah o0 hbel; replace o1:=ah o1 hbel; replace o2:=ah o2 hbel;replace Cj:=Aa (Cj.out.below hbel);go_wp2_with fail
       refine wp_region_held_drew (S:=fun w'=>w'.cell? ⟨w1.heap.size,0,none⟩=some (.bool (aC one).neg)∧w'.cell? ⟨w1.heap.size,1,none⟩=some (.slice A1 (aC one).num.length c1)∧w'.cell? ⟨w1.heap.size,2,none⟩=some (.slice B1 (aC one).den.length d1')) (by kernel_rfl) ⟨o0,o1,o2⟩ (fun hHeld=>?_);have hb:Below wr.heap.size wr wr.drew:=aG (Below.refl _ wr) 1;replace o0:=ah o0 hb;replace o1:=ah o1 hb;replace o2:=ah o2 hb;replace HRA:=Aa (HRA.out.below hb);replace Cj:=Aa (Cj.out.below hb);replace hzr:=Nat.le_trans hzr hb.size;replace hbel:=hbel.trans (hb.mono hbel.size);clear hb;generalize wr.drew=wn at *;refine tk0 [0,3] ?_;iterate 2 (refine tk (v:=?_) rfl (by kernel_rfl) (by kernel_rfl) (by kernel_rfl) (fun _ _ _ h=>h) (Or.inl ⟨by rfl,?_⟩) hHeld ?_;rotate_left;(focus intro wx hSx;(try dsimp only at hSx);go_split_ands;go_simp;try with_reducible rfl);try simp only[Act.put,lq1,lq2,lq3,lq4,lq5,lq6])
       refine tk1 ?_;refine tk2 1 (by kernel_rfl) rfl fun K hK=>?_
       go_simp;refine(adG _ F _ xs HRA.out (by omega) (fun x hx=>by have:=HLX.out x hx; omega)).mono ?_;rintro e wn ⟨u,rfl,hb,hu⟩;have HNU:=Aa (Aj.keep (G:=fun _=>True) hu (fun _ _ _=>trivial) (Same.refl _ _)); clear hu;replace o0:=ah o0 hb;replace o1:=ah o1 hb;replace o2:=ah o2 hb;replace HRA:=Aa (HRA.out.below hb);replace Cj:=Aa (Cj.out.below hb);replace hzr:=Nat.le_trans hzr hb.size;replace hbel:=hbel.trans (hb.mono hbel.size);clear hb;dsimp only;clear hHeld;refine hK.out _ _ ⟨o0,o1,o2⟩ (fun hHeld=>?_);clear hK K;try simp only[Act.put,lq1,lq2,lq3,lq4,lq5,lq6]
       refine tk2 2 (by kernel_rfl) rfl fun K hK=>?_
       go_simp;refine(sum_any _ (fun _=>True) _ xs HNU.out (by omega) (fun x hx=>by have:=HLX.out x hx; omega) HSM.out).mono ?_;rintro e wn ⟨us,rfl,hb,hu⟩;have HSU:=Aa (AQ.mono (G:=fun _=>True) hu (fun _ _ _=>trivial)); clear hu;replace o0:=ah o0 hb;replace o1:=ah o1 hb;replace o2:=ah o2 hb;replace HRA:=Aa (HRA.out.below hb);replace Cj:=Aa (Cj.out.below hb);replace HNU:=Aa (HNU.out.below hb);replace hzr:=Nat.le_trans hzr hb.size;replace hbel:=hbel.trans (hb.mono hbel.size);clear hb;dsimp only;clear hHeld;refine hK.out _ _ ⟨o0,o1,o2⟩ (fun hHeld=>?_);clear hK K;try simp only[Act.put,lq1,lq2,lq3,lq4,lq5,lq6]
       refine tk2 4 (by kernel_rfl) rfl fun K hK=>?_
       go_simp;refine(aau _ (fun _=>True) _ _ (qP xs) one HSU.out Cj.out hsm2 akq).mono ?_;rintro e wn ⟨_,rfl,hb,rfl⟩;replace o0:=ah o0 hb;replace o1:=ah o1 hb;replace o2:=ah o2 hb;replace HRA:=Aa (HRA.out.below hb);replace Cj:=Aa (Cj.out.below hb);replace HNU:=Aa (HNU.out.below hb);replace HSU:=Aa (HSU.out.below hb);replace hzr:=Nat.le_trans hzr hb.size;replace hbel:=hbel.trans (hb.mono hbel.size);clear hb;dsimp only;clear hHeld;refine hK.out _ _ ⟨o0,o1,o2⟩ (fun hHeld=>?_);clear hK K;try simp only[Act.put,lq1,lq2,lq3,lq4,lq5,lq6]
       refine tk0 [5] ?_;(refine tk (v:=?_) rfl (by kernel_rfl) (by kernel_rfl) (by kernel_rfl) (fun _ _ _ h=>h) (Or.inl ⟨by rfl,?_⟩) hHeld ?_;rotate_left;(focus intro wx hSx;(try dsimp only at hSx);go_split_ands;go_simp;try with_reducible rfl);try simp only[Act.put,lq1,lq2,lq3,lq4,lq5,lq6])
       refine tk1 ?_;refine wpAnyH_done (by kernel_rfl) ?_ _;clear hHeld;clear o0 o1 o2 HNU HSU;generalize lZ (qP xs) one=e0 at *;show Exit.then _ _ .normal _ _;by_cases h0:e0=0
       ·have t1:(e0 != 0)=false:=by rw[h0]; rfl
        have hr0:mg inf.actions l=0:=by rw[D9.out,if_neg (by simpa using h0)]
        have HR0:=Aa hr0; clear hr0 h0;go_wp2
        go_roundw
        case rel=>exact⟨k+1,by omega,by go_num,ru HP.out (by rw[acE HK.out HL.out,HR0.out]),hbel⟩
        case measure=>simp[intOf]; omega
       ·have t1:(e0 != 0)=true:=by simp[h0]
        have hr0:mg inf.actions l=14:=by rw[D9.out,if_pos h0]
        have HE:=Aa ((wU HLE.out HP.out HK.out HL.out (by rw[hr0]; decide)).trans hr0);clear hr0 h0;go_wp2
        go_ret;exact⟨_,rfl,hB.trans (hbel.mono hB.size),by rw[HE.out]; rfl⟩
    ·have d2:((l.length:Int) != inf.actions)=true:=by simp; omega
     have h3:mg inf.actions l=3:=by unfold mg; rw[if_pos hact]
     have HE:=Aa ((wU HLE.out HP.out HK.out HL.out (by rw[h3]; decide)).trans h3);go_wp2
     go_ret;exact⟨_,rfl,hB.trans (hbel.mono hB.size),by rw[HE.out]; rfl⟩
   ·have HE:=Aa (agC HLE.out HP.out (by omega));go_wp2
    go_ret;exact⟨_,rfl,hB.trans (hbel.mono hB.size),by rw[HE.out]; rfl⟩
 ·have d1:((m.length:Int) != (g.infos.length:Int))=true:=by simp; omega
  have HE:=Aa (show oU acts m=3 by unfold oU; rw[if_pos (by omega)]);go_enter Tryz.func78,Tryz.ntmps78;go_wp2
  go_ret;exact⟨_,rfl,(Below.refl _ _).alloc (Nat.le_refl _) _,by rw[HE.out]; rfl⟩
theorem Ah.below {w w':World} {F:Ac} {v:Value} {l:List Nat} (h:Ah w F v l) (hb:Below w.heap.size w w'):Ah w' F v l:=h.on (Below.same' hb F)
theorem Ah.mono {w:World} {F G:Ac} {v:Value} {l:List Nat} (h:Ah w F v l) (hFG:∀ b,F b→b < w.heap.size→G b):Ah w G v l:=h.keep hFG (Same.refl _ _)
end Go.Proofs.YthmklhapjegfdaaGreatDoor
