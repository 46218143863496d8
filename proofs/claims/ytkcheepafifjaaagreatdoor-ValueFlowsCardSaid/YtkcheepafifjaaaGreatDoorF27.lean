/- plan.share. -/
import Derived.Test.YtkcheepafifjaaaGreatDoorF26
import Derived.Test.YtkcheepafifjaaaGreatDoorF24
set_option linter.all false
set_option maxRecDepth 100000
set_option maxHeartbeats 12800000
namespace Go.Proofs.YtkcheepafifjaaaGreatDoor
open Lib renaming hid → Ac
open Go.RowKit
theorem acp:rl 1=1:=by
 unfold rl; rw[show(1:Rat).num=1 from rfl,show(1:Rat).den=1 from rfl,show(1:Int).natAbs=1 from rfl,iD]; rfl
theorem aeT (x:Rat) (h:jh (ay x)=0):iO (ay x)=if dI x=true∨0 < nJ x 1 then 2 else 0:=by
 unfold iO;rw[if_neg (by simpa using h),zT]; rfl
theorem agw (w:World) (F:Ag) (v:Value) (r:Raw) (hv:AL w F v r) (hu:U32 r) (hln:r.num.length≤100000) (hld:r.den.length≤100000) (hT:AZ w) :
  Calls Tryz.prog 138 #[v] w (Ret w fun u _=>u = .int .i64 (iO r)):=by
 have HV:=Ac hv.old;obtain⟨A,c,B,d,rfl,hn,hd⟩:=hv.open;clear hv hn hd;have HU:=Ac hu; clear hu;have HTT:=Ac hT; clear hT;go_enter Tryz.func138,Tryz.ntmps138;go_wp2_with fail
 obtain⟨W,hW,rx,hB,hz⟩:=aH w 53 #[.bool r.neg,.slice A r.num.length c,.slice B r.den.length d];rw[← hW];clear hW;replace HTT:=Ac (HTT.out.on hB);replace HV:=Ac (HV.out.on (Below.same' hB _));have x0:=rx.cell (i:=0) rfl;have x1:=rx.cell (i:=1) rfl;have x2:=rx.cell (i:=2) rfl;clear rx;have hz:w.heap.size+1≤W.heap.size:=by omega
 go_wp2_with fail
 refine(acg W _ _ r HV.out HU.out hln hld HTT.out).mono ?_;rintro e wn ⟨_,rfl,hb,rfl⟩;replace x0:=ah x0 hb;replace x1:=ah x1 hb;replace x2:=ah x2 hb;replace HV:=Ac (HV.out.below hb);replace hz:=Nat.le_trans hz hb.size;replace hB:=hB.trans (hb.mono hB.size);clear hb;clear HTT;by_cases h1:jh r=0
 ·obtain⟨⟨x,rfl⟩,h2,h3⟩:=abl h1;have hrl:rl x≤1024:=by unfold rl; exact Nat.max_le.2 ⟨h2,h3⟩
  have t1:(jh (ay x) != 0)=false:=by rw[h1]; rfl
  have HE:=Ac (aeT x h1);have HB:=Ac (show(ay x).neg=dI x from rfl);clear h1 h2 h3 hln hld HU;generalize jh (ay x)=re at *;by_cases hneg:dI x=true
  ·have HF:=Ac (HE.out.trans (if_pos (.inl hneg)));have e1:(ay x).neg=true:=by rw[HB.out]; exact hneg
   clear hneg HB HE;dsimp only;go_wp2
   go_ret;exact⟨_,rfl,hB,by rw[HF.out]; rfl⟩
  ·have e1:(ay x).neg=false:=by rw[HB.out]; simpa using hneg
   have HF:=Ac (HE.out.trans (show(if dI x=true∨0 < nJ x 1 then (2:Int) else 0)=if 0 < nJ x 1 then 2 else 0 by
    by_cases h:0 < nJ x 1
    ·rw[if_pos h,if_pos (.inr h)]
    ·rw[if_neg h,if_neg (fun k=>k.elim hneg h)]))
   clear hneg HB HE;obtain⟨o,ho⟩:∃ o,o=nJ x 1:=⟨_,rfl⟩;rw[← ho] at HF;have HO:=Ac ho; clear ho;by_cases hgt:0 < o
   ·skip
    have d1:decide (0 < o)=true:=decide_eq_true hgt;rw[e1] at HV x0;have HG:=Ac (HF.out.trans (if_pos hgt)); clear hgt HF;dsimp only;go_wp2_with fail
    refine(tY _ _ _ x HV.out (by omega)).mono ?_;rintro e wn ⟨va,rfl,hb,hu⟩;have HA:=Ac hu; clear hu;replace x0:=ah x0 hb;replace x1:=ah x1 hb;replace x2:=ah x2 hb;replace HV:=Ac (HV.out.below hb);replace hz:=Nat.le_trans hz hb.size;replace hB:=hB.trans (hb.mono hB.size);clear hb;clear HV;dsimp only;go_wp2_with fail
    refine(oJ _ 1 (by decide) (by decide)).mono ?_;rintro e wn ⟨vb,rfl,hb,hu⟩;have HB:=Ac (AL.mono (G:=fun _=>True) hu (fun _ _ _=>trivial)); clear hu;replace x0:=ah x0 hb;replace x1:=ah x1 hb;replace x2:=ah x2 hb;replace HA:=Ac (HA.out.below hb);replace hz:=Nat.le_trans hz hb.size;replace hB:=hB.trans (hb.mono hB.size);clear hb;dsimp only;go_wp2_with fail
    refine(aas _ (fun _=>True) _ _ x ((1:Int):Rat) (HA.out.mono (fun _ _ _=>trivial)) HB.out (by omega) (by rw[show((1:Int):Rat)=1 from rfl,acp]; omega)).mono ?_;rintro e wn ⟨_,rfl,hb,rfl⟩;rw[show nJ x ((1:Int):Rat)=o from HO.out.symm];replace x0:=ah x0 hb;replace x1:=ah x1 hb;replace x2:=ah x2 hb;replace HA:=Ac (HA.out.below hb);replace HB:=Ac (HB.out.below hb);replace hz:=Nat.le_trans hz hb.size;replace hB:=hB.trans (hb.mono hB.size);clear hb;dsimp only;go_wp2
    go_ret;exact⟨_,rfl,hB,by rw[HG.out]; rfl⟩
   ·skip
    have d1:decide (0 < o)=false:=decide_eq_false hgt;rw[e1] at HV x0;have HG:=Ac (HF.out.trans (if_neg hgt)); clear hgt HF;dsimp only;go_wp2_with fail
    refine(tY _ _ _ x HV.out (by omega)).mono ?_;rintro e wn ⟨va,rfl,hb,hu⟩;have HA:=Ac hu; clear hu;replace x0:=ah x0 hb;replace x1:=ah x1 hb;replace x2:=ah x2 hb;replace HV:=Ac (HV.out.below hb);replace hz:=Nat.le_trans hz hb.size;replace hB:=hB.trans (hb.mono hB.size);clear hb;clear HV;dsimp only;go_wp2_with fail
    refine(oJ _ 1 (by decide) (by decide)).mono ?_;rintro e wn ⟨vb,rfl,hb,hu⟩;have HB:=Ac (AL.mono (G:=fun _=>True) hu (fun _ _ _=>trivial)); clear hu;replace x0:=ah x0 hb;replace x1:=ah x1 hb;replace x2:=ah x2 hb;replace HA:=Ac (HA.out.below hb);replace hz:=Nat.le_trans hz hb.size;replace hB:=hB.trans (hb.mono hB.size);clear hb;dsimp only;go_wp2_with fail
    refine(aas _ (fun _=>True) _ _ x ((1:Int):Rat) (HA.out.mono (fun _ _ _=>trivial)) HB.out (by omega) (by rw[show((1:Int):Rat)=1 from rfl,acp]; omega)).mono ?_;rintro e wn ⟨_,rfl,hb,rfl⟩;rw[show nJ x ((1:Int):Rat)=o from HO.out.symm];replace x0:=ah x0 hb;replace x1:=ah x1 hb;replace x2:=ah x2 hb;replace HA:=Ac (HA.out.below hb);replace HB:=Ac (HB.out.below hb);replace hz:=Nat.le_trans hz hb.size;replace hB:=hB.trans (hb.mono hB.size);clear hb;dsimp only;go_wp2
    go_ret;exact⟨_,rfl,hB,by rw[HG.out]; rfl⟩
 ·have t1:(jh r != 0)=true:=by simp[h1]
  have HE:=Ac (show iO r=jh r by unfold iO; rw[if_pos h1]);clear h1;generalize jh r=re at *;dsimp only;go_wp2
  go_ret;exact⟨_,rfl,hB,by rw[HE.out]; rfl⟩
theorem adL (w:World) (F:Ag) (v:Value) (xs:List Rat) (hv:BF w F v xs) (hl:xs.length≤100000) (hx:∀ x∈xs,rl x≤100000) :
  Calls Tryz.prog 140 #[v] w (Ret w fun u w'=>Bz w' (Ext F w.heap.size) u xs):=by
 obtain⟨A,c,rfl,hc,hN⟩:=hv;rw[List.length_map] at hc hN;have HN:=Ac hN; clear hN;have HX:=Ac hx; clear hx;show Calls _ _ #[.slice A (xs.map ay).length c] _ _;rw[List.length_map];go_enter Tryz.func140,Tryz.ntmps140;go_wp2
 go_loopw [3,8] (fun u i wr=>∃ (k:Nat) (L:List RV),k≤xs.length∧i = .int .i64 (k:Int)∧L.length=k∧L.map RV.r=(xs.take k).map ak∧AY wr w.heap.size 97 (Old F w.heap.size) u L∧Below w.heap.size w wr) (fun _ i _=>xs.length - (intOf i).toNat)
 case atStart=>exact⟨0,[],by omega,rfl,rfl,rfl,AY.nil _ _ _ _,Below.refl _ _⟩
 case round =>
  obtain⟨k,L,hk,rfl,hlen,hmap,hown,hbel⟩:=hrel;have HM:=Ac hmap; have HO:=Ac hown; have HLL:=Ac hlen; clear hmap hown hlen;have hz:=hbel.size;by_cases hlt:k < xs.length
  ·obtain⟨b,o,rfl,hF,hb,hx⟩:=HN.out (by omega);obtain⟨x,hx'⟩:=aB hlt;obtain⟨ex0,⟨vn,ex1,hn⟩,⟨vd,ex2,hd⟩⟩:=hx k (ay x) (by rw[List.getElem?_map,hx']; rfl);have hold:=aO hbel;have HXE:=Ac hx';have hrl:=HX.out x (List.mem_of_getElem? hx');have HR:=Ac (AL.below (r:=ay x) (AL.old (AL.make (r:=ay x) rfl hn hd)) hbel);obtain⟨A1,c1,rfl,_,_⟩:=hn;obtain⟨A2,c2,rfl,_,_⟩:=hd;replace ex1:w.cell? ⟨b,o+k*3+1,none⟩=some (.slice A1 (dig x.num.natAbs).length c1):=ex1;replace ex2:w.cell? ⟨b,o+k*3+2,none⟩=some (.slice A2 (dig x.den).length c2):=ex2;clear hx hx';go_wp2_with fail
   obtain⟨W2,hW2,rz,hB2,hzz⟩:=aH wr 53 #[.bool (ay x).neg,.slice A1 (dig x.num.natAbs).length c1,.slice A2 (dig x.den).length c2];rw[← hW2];clear hW2;replace HR:=Ac (HR.out.below hB2);replace HO:=Ac (HO.out.below hB2);have jL:=hbel.trans (hB2.mono hz);have x0:=rz.cell (i:=0) rfl; have x1:=rz.cell (i:=1) rfl; have x2:=rz.cell (i:=2) rfl;clear hold hB2;go_wp2_with fail
   refine(tY W2 _ _ x HR.out hrl).mono ?_;rintro e wn ⟨u,rfl,hb2,hu⟩;replace HO:=Ac (HO.out.below hb2);have lZ:=jL.trans (hb2.mono jL.size);have hz3:=lZ.size;obtain⟨q,hq,rfl,dO⟩:=AL.rv hu;have HQ:=Ac hq; have HF:=Ac dO;clear hu x0 x1 x2 rz hb2 jL hq dO;dsimp only[RV.cells];go_wp2_with (at_builtin; refine nC (F:=Old F w.heap.size) rfl _ _ 84 97 Tryz.underlying84 Tryz.infoNum rfl w.heap.size (Nat.le_refl _) u3 L rfl q (by have:=HLL.out; omega) rfl HO.out (HF.out.keep (fun b hb _=>⟨hb,fun e=>by have:=(HO.out.row.lt b e).1; have:=hb.2; omega⟩) (Same.refl _ _)) lZ ?_; intro g cap w' hown' dD hlt'; have HO':=Ac hown'; clear hown')
   go_roundw
   case rel=>exact⟨k+1,L ++ [q],by omega,by go_num,by rw[List.length_append,HLL.out]; rfl,by rw[List.map_append,HM.out,take_snoc HXE.out,List.map_append]; show _ ++ [q.r]=_ ++ [ak x]; rw[HQ.out],HO'.out,dD⟩
   case measure=>simp[intOf]; omega
  ·go_wp2
   go_ret;have hall:xs.take k=xs:=List.take_of_length_le (by omega);refine⟨_,rfl,hbel,?_⟩;have:=HO.out.sG (G:=Ext F w.heap.size) (fun b hb=>.inl hb.1) (fun b hb=>.inr hb);rw[HM.out,hall] at this;exact this
theorem sum_any (w:World) (F:Ag) (v:Value) (xs:List Rat) (hv:Bz w F v xs) (hl:xs.length≤100000) (hx:∀ x∈xs,rl x≤20000) (hs:∀ k,rl (jY (xs.take k))≤20000) :
  Calls Tryz.prog 139 #[v] w (Ret w fun u w'=>NmV w' (Ext F w.heap.size) u (jY xs)):=by
 obtain⟨A,c,rfl,hc,hN⟩:=hv;rw[List.length_map] at hc hN;have HN:=Ac hN; clear hN;have HX:=Ac hx; clear hx;have HS:=Ac hs; clear hs;show Calls _ _ #[.slice A (xs.map ak).length c] _ _;rw[List.length_map];go_enter Tryz.func139,Tryz.ntmps139;go_wp2_with fail
 obtain⟨W,hW,ry,rz,hB,hz⟩:=alloc2 w 97 #[.bool false,.slice none 0 0,.slice none 0 0] 97 #[.bool false,.slice none 0 0,.slice none 0 0];rw[← hW];clear hW;have hz:w.heap.size+2≤W.heap.size:=hz;have hry:=Ac ry; have hrz:=Ac rz; clear ry rz;try go_wp2
 go_loopw [8] (fun i wr=>∃ (k:Nat) (s:Rat) (A':Option Addr) (c':Nat) (B':Option Addr) (d':Nat),k≤xs.length∧i = .int .i64 (k:Int)∧s=jY (xs.take k)∧Row wr w.heap.size 97 [.bool false,.slice none 0 0,.slice none 0 0]∧Row wr (w.heap.size+1) 97 [.bool (ak s).neg,.slice A' (ak s).num.length c',.slice B' (ak s).den.length d'] ∧
  NmV wr (Ext (Old F w.heap.size) (w.heap.size+2)) (.agg #[.bool (ak s).neg,.slice A' (ak s).num.length c',.slice B' (ak s).den.length d']) s∧Below w.heap.size w wr∧w.heap.size+2≤wr.heap.size) (fun i _=>xs.length - (intOf i).toNat)
 case atStart =>
  have h0:ak 0=⟨false,[],[]⟩:=by unfold ak; rw[if_pos (show(0:Rat).den=1 from rfl),show(0:Rat).num=0 from rfl,Int.natAbs_zero,aZ]; rfl
  refine⟨0,0,none,0,none,0,by omega,rfl,rfl,hry.out,?_,?_,hB,hz⟩
  ·rw[h0]; exact hrz.out
  ·rw[h0]; exact NmV.zero _ _ _ _ _ _
 case round =>
  clear hry hrz hB hz;obtain⟨k,s,A',c',B',d',hk,rfl,hsum,hry,hrz,hnm,hB,hz⟩:=hrel;have HSU:=Ac hsum; have HNM:=Ac hnm; clear hsum hnm;have hrs:=HS.out k;rw[← HSU.out] at hrs;by_cases hlt:k < xs.length
  ·obtain⟨b,o,rfl,hF,hb,hx⟩:=HN.out (by omega);obtain⟨x,hx'⟩:=aB hlt;obtain⟨ex0,⟨vn,ex1,hn⟩,⟨vd,ex2,hd⟩⟩:=hx k (ak x) (by rw[List.getElem?_map,hx']; rfl);have hold:=aO hB;have HXE:=Ac hx';have hrl:=HX.out x (List.mem_of_getElem? hx');have HR:=Ac (AL.mono (G:=Ext (Old F w.heap.size) (w.heap.size+2)) (AL.below (r:=ak x) (AL.old (AL.make (r:=ak x) rfl hn hd)) hB) (fun b hb _=>.inl hb));obtain⟨A1,c1,rfl,_,_⟩:=hn;obtain⟨A2,c2,rfl,_,_⟩:=hd;clear hx hx';have y0:=fun o=>(hrz.alloc o).cell (i:=0) rfl; have y1:=fun o=>(hrz.alloc o).cell (i:=1) rfl; have y2:=fun o=>(hrz.alloc o).cell (i:=2) rfl
   go_wp2_with fail
   obtain⟨W2,hW2,rz,hB2,hzz⟩:=aH wr 97 #[.bool (ak x).neg,.slice A1 (ak x).num.length c1,.slice A2 (ak x).den.length c2];rw[← hW2];clear hW2;replace HR:=Ac (HR.out.below hB2);replace HNM:=Ac (HNM.out.below hB2);replace hry:=hry.below hB2 hry.lt;replace hrz:=hrz.below hB2 hrz.lt;replace hB:=hB.trans (hB2.mono hB.size);have x0:=rz.cell (i:=0) rfl; have x1:=rz.cell (i:=1) rfl; have x2:=rz.cell (i:=2) rfl;clear y0 y1 y2; have y0:=hrz.cell (i:=0) rfl; have y1:=hrz.cell (i:=1) rfl; have y2:=hrz.cell (i:=2) rfl;clear hold hB2;go_wp2_with fail
   refine(adI W2 _ _ _ s x HNM.out HR.out hrs hrl).mono ?_;rintro e wn ⟨u,rfl,hb2,hu⟩;replace hu:NmV wn (Ext (Old F w.heap.size) (w.heap.size+2)) u (s+x):=hu.mono (fun b hb _=>hb.elim id fun h=>.inr (by omega));have HU:=Ac hu;obtain⟨A4,c4,B4,d4,rfl,hn,hd⟩:=hu.open;clear hn hd hu;replace hry:=hry.below hb2 hry.lt;replace hrz:=hrz.below hb2 hrz.lt;replace hB:=hB.trans (hb2.mono hB.size);have hz2:=hb2.size;clear x0 x1 x2 rz y0 y1 y2 hb2;have q0:=hrz.cell (i:=0) rfl; have y0:=hrz.frozen 0;have q1:=hrz.cell (i:=1) rfl; have y1:=hrz.frozen 1;have q2:=hrz.cell (i:=2) rfl; have y2:=hrz.frozen 2;dsimp only;go_wp2_with fail
   obtain⟨Wz,hWz,hrw,hwz,hkz⟩:=aV hrz (.bool (ak (s+x)).neg) (.slice A4 (ak (s+x)).num.length c4) (.slice B4 (ak (s+x)).den.length d4);rw[← hWz];clear q0 q1 q2 y0 y1 y2;have hryz:Row Wz w.heap.size 97 [.bool false,.slice none 0 0,.slice none 0 0]:=by
    rw[hWz]; exact((hry.other (a:=⟨w.heap.size+1,0,none⟩) (by simp) _).other (a:=⟨w.heap.size+1,1,none⟩) (by simp) _).other (a:=⟨w.heap.size+1,2,none⟩) (by simp) _
   have hsz:Wz.heap.size=wn.heap.size:=by rw[hWz]; simp
   clear hWz;have HUU:=Ac (HU.out.keep (fun b hb _=>hb) (hkz (Ext (Old F w.heap.size) (w.heap.size+2)) (fun h=>h.elim (fun h=>by have:=h.2; omega) fun h=>by omega)));go_roundw
   case rel=>exact⟨k+1,s+x,A4,c4,B4,d4,by omega,by go_num,by rw[take_snoc HXE.out,xE,← HSU.out],hryz,hrw,HUU.out,hwz _ _ (by omega) hB,by omega⟩
   case measure=>simp[intOf]; omega
  ·have hall:xs.take k=xs:=List.take_of_length_le (by omega);have HF:=Ac (show s=jY xs by rw[HSU.out,hall]);clear hall;have p0:=hrz.cell (i:=0) rfl; have p1:=hrz.cell (i:=1) rfl; have p2:=hrz.cell (i:=2) rfl;have q0:=hry.cell (i:=0) rfl;have y0:=hry.frozen 0;have q1:=hry.cell (i:=1) rfl;have y1:=hry.frozen 1;have q2:=hry.cell (i:=2) rfl;have y2:=hry.frozen 2;go_wp2
   obtain⟨Wz,hWz,hrz,hwz,hkz⟩:=aV hry (.bool (ak s).neg) (.slice A' (ak s).num.length c') (.slice B' (ak s).den.length d');rw[← hWz];clear hWz q0 q1 q2 y0 y1 y2;have t0:=hrz.cell (i:=0) rfl;have t1:=hrz.cell (i:=1) rfl;have t2:=hrz.cell (i:=2) rfl;refine bodyPost_ret (v:=.agg #[.bool (ak s).neg,.slice A' (ak s).num.length c',.slice B' (ak s).den.length d']) (by simp[results,Tryz.results139,go_sem,t0,t1,t2]) rfl ?_;exact⟨_,rfl,hwz _ _ (by omega) hB,by rw[← HF.out]; exact HNM.out.keep (fun b hb _=>hb.elim (fun h=>.inl h.1) fun h=>.inr (by omega)) (hkz _ (fun h=>h.elim (fun h=>by have:=h.2; omega) fun h=>by omega))⟩
open List renaming getElem_toArray → lq1, getElem_cons_zero → lq2, getElem_cons_succ → lq3, setIfInBounds_toArray → lq4, set_cons_zero → lq5, set_cons_succ → lq6
theorem Ah.below {w w':World} {F:Ag} {v:Value} {l:List Raw} (h:Ah w F v l) (hb:Below w.heap.size w w'):Ah w' F v l:=h.on (Below.same' hb F)
theorem acr {acts:List Int} {m:List (List Raw)} {k:Nat} {a:Int} {l:List Raw} (ha:acts[k]? = some a) (hl:m[k]? = some l):(List.zipWith nV acts m)[k]? = some (nV a l):=by
 rw[List.getElem?_zipWith,ha,hl]
theorem xU {acts:List Int} {m:List (List Raw)} {k:Nat} {a:Int} {l:List Raw} (hlen:m.length=acts.length) (h0:iM ((List.zipWith nV acts m).take k)=0) (ha:acts[k]? = some a) (hl:m[k]? = some l) (hne:nV a l≠0):qy acts m=nV a l:=by
 unfold qy;rw[if_neg (by omega)];exact uU h0 (acr ha hl) hne
theorem agx {acts:List Int} {m:List (List Raw)} {k:Nat} (hlen:m.length=acts.length) (h0:iM ((List.zipWith nV acts m).take k)=0) (hk:m.length≤k):qy acts m=0:=by
 unfold qy;rw[if_neg (by omega)];rwa [List.take_of_length_le (by simp; omega)] at h0
def Bd (m:List (List Raw)):Prop:=∀ l∈m,l.length≤100000∧∀ r∈l,U32 r∧r.num.length≤100000∧r.den.length≤100000
theorem aa3 {a:Int} {l:List Raw} {j:Nat} {r:Raw} (hla:(l.length:Int)=a) (h0:iM ((l.map iO).take j)=0) (hr:l[j]? = some r) (hne:iO r≠0):nV a l=iO r:=by
 have hs:mX l=iO r:=uU h0 (by rw[List.getElem?_map,hr]; rfl) hne;unfold nV;rw[if_neg (by omega),if_pos (by rw[hs]; exact hne),hs]
theorem aa4 {a:Int} {l:List Raw} (hla:(l.length:Int)=a) (h0:mX l=0):nV a l=if nJ (jY (l.map adf)) 1≠0 then 14 else 0:=by
 unfold nV;rw[if_neg (by omega),if_neg (by omega)]
theorem aeU (w:World) (F:Ag) (vg vm:Value) (g:Gm) (m:List (List Raw)) (hg:AX w F vg g) (hm:Az w F vm m) (hT:AZ w) (hlm:m.length≤100000) (hli:g.infos.length≤100000) (hb:Bd m) (hact:∀ i∈g.infos,i.actions≤10) :
  Calls Tryz.prog 116 #[vg,vm] w (Ret w fun v _=>v = .int .i64 (qy (g.infos.map Inf.actions) m)):=by
 obtain⟨vn,vi,rfl,⟨A,c,rfl,hc,hN⟩,⟨Ai,ci,rfl,hci,hI⟩⟩:=hg;obtain⟨Am,cm,rfl,hcm,hM⟩:=hm;have HI:=Ac hI; have HM:=Ac hM; have HBB:=Ac hb; have HA:=Ac hact; have HTT:=Ac hT;clear hN hI hM hb hact hT;obtain⟨acts,afJ⟩:∃ a,a=g.infos.map Inf.actions:=⟨_,rfl⟩;rw[← afJ];have hal:acts.length=g.infos.length:=by rw[afJ,List.length_map]
 have HAC:=Ac afJ; clear afJ;by_cases hlen:m.length=g.infos.length
 ·have d1:((m.length:Int) != (g.infos.length:Int))=false:=by simp; omega
  have HLE:=Ac (show m.length=acts.length by omega);have hle1:m.length≤g.infos.length:=by omega
  have hle2:g.infos.length≤m.length:=by omega
  have hle3:m.length≤acts.length:=by omega
  clear hlen hal;go_enter Tryz.func116,Tryz.ntmps116;go_wp2_with fail
  obtain⟨W,hW,rx,hB,hz⟩:=aH w 25 #[.int .i64 g.au,.slice A g.nodes.length c,.slice Ai g.infos.length ci];rw[← hW];clear hW;refine(oJ W 1 (by decide) (by decide)).mono ?_;rintro e w1 ⟨u,rfl,hb1,hu⟩;obtain⟨one,hone⟩:∃ one:Rat,one=((1:Int):Rat):=⟨_,rfl⟩;rw[← hone] at hu;have H1:=Ac (show one=1 from hone); clear hone;have Cm:=Ac (hu.mono (G:=fun _=>True) (fun _ _ _=>trivial));obtain⟨A1,c1,B1,d1',rfl,hn,hd⟩:=hu.open;clear hn hd hu;replace rx:=rx.below hb1 rx.lt;replace hB:=hB.trans (hb1.mono hB.size);clear hb1;have hz1:w.heap.size+1≤w1.heap.size:=by have:=rx.lt; omega
  dsimp only;go_wp2
  obtain⟨W1,hW1,ry,hB1,hzz⟩:=aH w1 97 #[.bool (ak one).neg,.slice A1 (ak one).num.length c1,.slice B1 (ak one).den.length d1'];rw[← hW1];clear hW1;replace Cm:=Ac (Cm.out.below hB1);replace rx:=rx.below hB1 rx.lt;replace hB:=hB.trans (hB1.mono hB.size);replace HTT:=Ac (HTT.out.on hB);replace HI:=Ac (fun h=>by
   obtain⟨b,o,h1,h2,h3,h4⟩:=HI.out h;exact(⟨b,o,h1,⟨h2,h3⟩,Nat.lt_of_lt_of_le h3 hB.size,fun k x hx=>⟨ah (h4 k x hx).c0 hB,ah (h4 k x hx).c1 hB⟩⟩:∃ b o,Ai=some ⟨b,o,none⟩∧Old F w.heap.size b∧b < W1.heap.size∧∀ k x,g.infos[k]? = some x→Ea W1 (Old F w.heap.size) b (o+k*2) x))
  replace HM:=Ac (Az.keep (G:=F) (⟨Am,cm,rfl,hcm,HM.out⟩:Az w F _ m) (fun _ h _=>h) (Below.same' hB F));clear hB1;have g2:=rx.cell (i:=2) rfl;have o0:=ry.cell (i:=0) rfl; have o1:=ry.cell (i:=1) rfl; have o2:=ry.cell (i:=2) rfl;have hgs:w.heap.size < W1.heap.size:=by omega
  have hos:w1.heap.size < W1.heap.size:=by omega
  clear rx ry hz hzz;have hz2:=hB.size;go_loopw [20] (fun i wr=>∃ k:Nat,k≤m.length∧i = .int .i64 (k:Int)∧iM ((List.zipWith nV acts m).take k)=0∧Below W1.heap.size W1 wr) (fun i _=>m.length - (intOf i).toNat)
  case atStart=>exact⟨0,by omega,rfl,rfl,Below.refl _ _⟩
  case round =>
   obtain⟨k,hk,rfl,hpre,hbel⟩:=hrel;have HP:=Ac hpre; clear hpre;have hold:=aO hbel;have hzr:=hbel.size;by_cases hlt:k < m.length
   ·obtain⟨l,hl⟩:=aB hlt;obtain⟨inf,qm⟩:=aB (l:=g.infos) (k:=k) (by omega);have hak:acts[k]? = some inf.actions:=by rw[HAC.out,List.getElem?_map,qm]; rfl
    obtain⟨A0,c0,he,_,hM⟩:=HM.out;cases he
    obtain⟨b,o,rfl,hF,hbl,hx⟩:=hM (by omega);obtain⟨ur,eu,hrow⟩:=hx k l hl;rw[Nat.mul_one] at eu;have HRW:=Ac hrow;obtain⟨Ar,cr,rfl,hcr,_⟩:=hrow;obtain⟨b2,p2,rfl,hF2,hbl2,hx2⟩:=HI.out (by omega);have ei:=(hx2 k inf qm).c1;have hia:inf.actions≤10:=HA.out inf (List.mem_of_getElem? qm);have dO:=HBB.out l (List.mem_of_getElem? hl);have HFI:=Ac dO.2;have hll:=dO.1;have HL:=Ac hl; have HK:=Ac hak;clear hx hx2 hM hl qm hak dO;by_cases hact:(l.length:Int)=inf.actions
    ·have d2:((l.length:Int) != inf.actions)=false:=by simp; omega
     have Eh:=Ac hact;go_wp2
     go_loopw [36] (fun i wi=>∃ j:Nat,j≤l.length∧i = .int .i64 (j:Int)∧iM ((l.map iO).take j)=0∧Below W1.heap.size W1 wi) (fun i _=>l.length - (intOf i).toNat)
     case atStart=>exact⟨0,by omega,rfl,rfl,hbel⟩
     case round =>
      clear hold hbel hzr;obtain⟨j,hj,rfl,hpre,hbel⟩:=hrel;have HPJ:=Ac hpre; clear hpre;have hold:=aO hbel;have hzr:=hbel.size;by_cases hlt2:j < l.length
      ·obtain⟨A2,c2,he,_,hR⟩:=HRW.out;cases he
       obtain⟨b3,o3,rfl,hF3,hb3,hx3⟩:=hR (by omega);obtain⟨r,hr⟩:=aB hlt2;obtain⟨ex0,⟨vn,ex1,hn⟩,⟨vd,ex2,hd⟩⟩:=hx3 j r hr;have HRV:=Ac (AL.below (AL.make (r:=r) rfl hn hd) hbel);obtain⟨A4,c4,rfl,_,_⟩:=hn;obtain⟨A5,c5,rfl,_,_⟩:=hd;have hfr:=HFI.out r (List.mem_of_getElem? hr);have HFR:=Ac hfr.1;have hf2:=hfr.2.1; have hf3:=hfr.2.2;have HRR:=Ac hr;clear hx3 hR hr hfr;go_wp2_with fail
       obtain⟨W2,hW2,rz,hB2,hzz⟩:=aH wr 53 #[.bool r.neg,.slice A4 r.num.length c4,.slice A5 r.den.length c5];rw[← hW2];clear hW2;replace HRV:=Ac (HRV.out.below hB2);have x0:=rz.cell (i:=0) rfl; have x1:=rz.cell (i:=1) rfl; have x2:=rz.cell (i:=2) rfl;replace hbel:=hbel.trans (hB2.mono hbel.size);clear hold hB2 rz;go_wp2_with fail
       refine(agw W2 F _ r HRV.out HFR.out hf2 hf3 (HTT.out.on hbel)).mono ?_;rintro e wn ⟨_,rfl,hb,rfl⟩;replace hbel:=hbel.trans (hb.mono hbel.size);clear hb x0 x1 x2;have HSE:=Ac (rfl:iO r=iO r);generalize hse:iO r=se at *;have HS2:=Ac hse; clear hse HSE;by_cases hs0:se=0
       ·have t1:(se != 0)=false:=by rw[hs0]; rfl
        have HS0:=Ac hs0; clear hs0;dsimp only;go_wp2
        go_roundw
        case rel=>exact⟨j+1,by omega,by go_num,su HPJ.out (by rw[List.getElem?_map,HRR.out]; show some (iO r)=_; rw[HS2.out,HS0.out]),hbel⟩
        case measure=>simp[intOf]; omega
       ·have t1:(se != 0)=true:=by simp[hs0]
        have hrow:nV inf.actions l=se:=(aa3 Eh.out HPJ.out HRR.out (by rw[HS2.out]; exact hs0)).trans HS2.out;have HE:=Ac ((xU HLE.out HP.out HK.out HL.out (by rw[hrow]; exact hs0)).trans hrow);clear hs0 hrow;dsimp only;go_wp2
        go_ret;exact⟨_,rfl,hB.trans (hbel.mono hB.size),by rw[HE.out]; rfl⟩
      ·have hsh:mX l=0:=by
        have:=HPJ.out;rw[List.take_of_length_le (by simp; omega)] at this;exact this
       obtain⟨xs,hxs,hlx⟩:=uV hsh;have hrow:=aa4 Eh.out hsh;rw[hxs,zU] at hrow;have hxl:xs.length≤10:=by
        have h1:=Eh.out;rw[hxs,List.length_map] at h1; omega
       have HXS:=Ac hxs;have HRA:=Ac (show BF wr F (.slice Ar l.length cr) xs by
        show Ah wr F _ (xs.map ay);rw[← HXS.out]; exact HRW.out.on (Below.same' hbel F))
       have hsm:∀ k,rl (jY (xs.take k))≤20000:=fun k=>by
        have h1:=afx (xs.take k) (fun x hx=>hlx x (List.mem_of_mem_take hx));have h2:(xs.take k).length≤xs.length:=by simp; omega
        omega
       have hsm2:rl (jY xs)≤20000:=by
        have h1:=afx xs hlx;omega
       have aj6:rl one≤20000:=by rw[H1.out,acp]; omega
       have Cc:=Ac (show nV inf.actions l=if nJ (jY xs) one≠0 then 14 else 0 by rw[H1.out]; rw[hxs]; exact hrow);have HLX:=Ac hlx; have HSM:=Ac hsm;clear hsh hxs hrow hlx hsm hold;replace o0:=ah o0 hbel; replace o1:=ah o1 hbel; replace o2:=ah o2 hbel;replace Cm:=Ac (Cm.out.below hbel);go_wp2_with fail
       refine wp_region_held_drew (S:=fun w'=>w'.cell? ⟨w1.heap.size,0,none⟩=some (.bool (ak one).neg)∧w'.cell? ⟨w1.heap.size,1,none⟩=some (.slice A1 (ak one).num.length c1)∧w'.cell? ⟨w1.heap.size,2,none⟩=some (.slice B1 (ak one).den.length d1')) (by kernel_rfl) ⟨o0,o1,o2⟩ (fun hHeld=>?_);have hb:Below wr.heap.size wr wr.drew:=aG (Below.refl _ wr) 1;replace o0:=ah o0 hb;replace o1:=ah o1 hb;replace o2:=ah o2 hb;replace HRA:=Ac (HRA.out.below hb);replace Cm:=Ac (Cm.out.below hb);replace hzr:=Nat.le_trans hzr hb.size;replace hbel:=hbel.trans (hb.mono hbel.size);clear hb;generalize wr.drew=wn at *;refine tk0 [0,3] ?_;iterate 2 (refine tk (v:=?_) rfl (by kernel_rfl) (by kernel_rfl) (by kernel_rfl) (fun _ _ _ h=>h) (Or.inl ⟨by rfl,?_⟩) hHeld ?_;rotate_left;(focus intro wx hSx;(try dsimp only at hSx);go_split_ands;go_simp;try with_reducible rfl);try simp only[Act.put,lq1,lq2,lq3,lq4,lq5,lq6])
       refine tk1 ?_;refine tk2 1 (by kernel_rfl) rfl fun K hK=>?_
       go_simp;refine(adL _ F _ xs HRA.out (by omega) (fun x hx=>by have:=HLX.out x hx; omega)).mono ?_;rintro e wn ⟨u,rfl,hb,hu⟩;have HNU:=Ac (Ah.keep (G:=fun _=>True) hu (fun _ _ _=>trivial) (Same.refl _ _)); clear hu;replace o0:=ah o0 hb;replace o1:=ah o1 hb;replace o2:=ah o2 hb;replace HRA:=Ac (HRA.out.below hb);replace Cm:=Ac (Cm.out.below hb);replace hzr:=Nat.le_trans hzr hb.size;replace hbel:=hbel.trans (hb.mono hbel.size);clear hb;dsimp only;clear hHeld;refine hK.out _ _ ⟨o0,o1,o2⟩ (fun hHeld=>?_);clear hK K;try simp only[Act.put,lq1,lq2,lq3,lq4,lq5,lq6]
       refine tk2 2 (by kernel_rfl) rfl fun K hK=>?_
       go_simp;refine(sum_any _ (fun _=>True) _ xs HNU.out (by omega) (fun x hx=>by have:=HLX.out x hx; omega) HSM.out).mono ?_;rintro e wn ⟨us,rfl,hb,hu⟩;have HSU:=Ac (AL.mono (G:=fun _=>True) hu (fun _ _ _=>trivial)); clear hu;replace o0:=ah o0 hb;replace o1:=ah o1 hb;replace o2:=ah o2 hb;replace HRA:=Ac (HRA.out.below hb);replace Cm:=Ac (Cm.out.below hb);replace HNU:=Ac (HNU.out.below hb);replace hzr:=Nat.le_trans hzr hb.size;replace hbel:=hbel.trans (hb.mono hbel.size);clear hb;dsimp only;clear hHeld;refine hK.out _ _ ⟨o0,o1,o2⟩ (fun hHeld=>?_);clear hK K;try simp only[Act.put,lq1,lq2,lq3,lq4,lq5,lq6]
       refine tk2 4 (by kernel_rfl) rfl fun K hK=>?_
       go_simp;refine(aas _ (fun _=>True) _ _ (jY xs) one HSU.out Cm.out hsm2 aj6).mono ?_;rintro e wn ⟨_,rfl,hb,rfl⟩;replace o0:=ah o0 hb;replace o1:=ah o1 hb;replace o2:=ah o2 hb;replace HRA:=Ac (HRA.out.below hb);replace Cm:=Ac (Cm.out.below hb);replace HNU:=Ac (HNU.out.below hb);replace HSU:=Ac (HSU.out.below hb);replace hzr:=Nat.le_trans hzr hb.size;replace hbel:=hbel.trans (hb.mono hbel.size);clear hb;dsimp only;clear hHeld;refine hK.out _ _ ⟨o0,o1,o2⟩ (fun hHeld=>?_);clear hK K;try simp only[Act.put,lq1,lq2,lq3,lq4,lq5,lq6]
       refine tk0 [5] ?_;(refine tk (v:=?_) rfl (by kernel_rfl) (by kernel_rfl) (by kernel_rfl) (fun _ _ _ h=>h) (Or.inl ⟨by rfl,?_⟩) hHeld ?_;rotate_left;(focus intro wx hSx;(try dsimp only at hSx);go_split_ands;go_simp;try with_reducible rfl);try simp only[Act.put,lq1,lq2,lq3,lq4,lq5,lq6])
       refine tk1 ?_;refine wpAnyH_done (by kernel_rfl) ?_ _;clear hHeld;clear o0 o1 o2 HNU HSU;generalize nJ (jY xs) one=e0 at *;show Exit.then _ _ .normal _ _;by_cases h0:e0=0
       ·have t1:(e0 != 0)=false:=by rw[h0]; rfl
        have hr0:nV inf.actions l=0:=by rw[Cc.out,if_neg (by simpa using h0)]
        have HR0:=Ac hr0; clear hr0 h0;go_wp2
        go_roundw
        case rel=>exact⟨k+1,by omega,by go_num,su HP.out (by rw[acr HK.out HL.out,HR0.out]),hbel⟩
        case measure=>simp[intOf]; omega
       ·have t1:(e0 != 0)=true:=by simp[h0]
        have hr0:nV inf.actions l=14:=by rw[Cc.out,if_pos h0]
        have HE:=Ac ((xU HLE.out HP.out HK.out HL.out (by rw[hr0]; decide)).trans hr0);clear hr0 h0;go_wp2
        go_ret;exact⟨_,rfl,hB.trans (hbel.mono hB.size),by rw[HE.out]; rfl⟩
    ·have d2:((l.length:Int) != inf.actions)=true:=by simp; omega
     have h3:nV inf.actions l=3:=by unfold nV; rw[if_pos hact]
     have HE:=Ac ((xU HLE.out HP.out HK.out HL.out (by rw[h3]; decide)).trans h3);go_wp2
     go_ret;exact⟨_,rfl,hB.trans (hbel.mono hB.size),by rw[HE.out]; rfl⟩
   ·have HE:=Ac (agx HLE.out HP.out (by omega));go_wp2
    go_ret;exact⟨_,rfl,hB.trans (hbel.mono hB.size),by rw[HE.out]; rfl⟩
 ·have d1:((m.length:Int) != (g.infos.length:Int))=true:=by simp; omega
  have HE:=Ac (show qy acts m=3 by unfold qy; rw[if_pos (by omega)]);go_enter Tryz.func116,Tryz.ntmps116;go_wp2
  go_ret;exact⟨_,rfl,(Below.refl _ _).alloc (Nat.le_refl _) _,by rw[HE.out]; rfl⟩
theorem Ak.below {w w':World} {F:Ag} {v:Value} {l:List Nat} (h:Ak w F v l) (hb:Below w.heap.size w w'):Ak w' F v l:=h.on (Below.same' hb F)
theorem Ak.mono {w:World} {F G:Ag} {v:Value} {l:List Nat} (h:Ak w F v l) (hFG:∀ b,F b→b < w.heap.size→G b):Ak w G v l:=h.keep hFG (Same.refl _ _)
end Go.Proofs.YtkcheepafifjaaaGreatDoor
