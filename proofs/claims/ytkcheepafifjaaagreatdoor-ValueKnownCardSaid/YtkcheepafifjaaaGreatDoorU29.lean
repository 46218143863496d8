/- value.rats: numbers written as package api writes them, an error if one of them is too long. -/
import Derived.Test.YtkcheepafifjaaaGreatDoorU28
set_option linter.all false
set_option maxRecDepth 100000
set_option maxHeartbeats 12800000
namespace Go.Proofs.YtkcheepafifjaaaGreatDoor
open Lib renaming hid → Ac
open Go.RowKit
theorem grown_below {w w':World} {B:Nat} (h:Below B w w') (hB:w.heap.size≤B) (r:Option Nat):w.grownBy w' r:=⟨h.os,h.tape,h.output,h.size,fun k hk _=>h.block k (by omega)⟩
theorem xW {x:Rat}:eU x=0∨eU x=5:=by
 unfold eU; split
 ·exact .inr rfl
 ·exact .inl rfl
def jG (e0:Int) (x:Rat):Int:=if eU x≠0 then eU x else e0
theorem afm (w:World) (F:Ag) (v:Value) (x:Rat) (eb:Nat) (e0:Int) (hv:NmV w F v x) (hl:rl x≤100000) (he:Row w eb 31 [.int .i64 e0]) :
  Calls Tryz.prog 86 #[v,.pointer (some ⟨eb,0,none⟩)] w fun e w'=>∃ u,e = .returned u∧Az w' (fun b=>w.heap.size≤b) u (bD x)∧Row w' eb 31 [.int .i64 (jG e0 x)]∧w.grownBy w' (some eb):=by
 have HX:=Ac hv.old;obtain⟨A,c,B,d,rfl,hn,hd⟩:=hv.open;clear hn hd hv;have hel:=he.lt;obtain⟨oe,hoe⟩:∃ oe,oe=eU x:=⟨_,rfl⟩;have HEA:=Ac (show jG e0 x=if oe≠0 then oe else e0 by unfold jG; rw[hoe]);have HOE:=Ac hoe;have hcs:oe=0∨oe=5:=by rw[hoe]; exact xW
 clear hoe;go_enter Tryz.func86,Tryz.ntmps86;go_wp2_with fail
 obtain⟨W,hW,rx,rz,hB,hz⟩:=alloc2 w 97 #[.bool (aj x).neg,.slice A (aj x).num.length c,.slice B (aj x).den.length d] 53 #[.bool false,.slice none 0 0,.slice none 0 0];rw[← hW];clear hW;replace HX:=Ac (HX.out.on (Below.same' hB _));have hz:w.heap.size+2≤W.heap.size:=hz;have x0:=rx.cell (i:=0) rfl; have x1:=rx.cell (i:=1) rfl; have x2:=rx.cell (i:=2) rfl;replace he:=he.below hB he.lt;clear rx;go_wp2_with fail
 refine(acH W _ _ x HX.out hl).mono ?_;rintro e wn ⟨t,rfl,hb,u,rfl,hu⟩;rw[← HOE.out];replace rz:=rz.below hb rz.lt;replace he:=he.below hb he.lt;replace hz:=Nat.le_trans hz hb.size;replace hB:=hB.trans (hb.mono hB.size);clear hb;clear x0 x1 x2 HX;have HU:=Ac (hu.mono (G:=fun b=>w.heap.size+2≤b) (fun b hb _=>by omega));obtain⟨A1,c1,B1,d1,rfl,bV⟩:=hu.opened;clear bV hu;dsimp only;go_upto_region 2 with(fail)
 obtain⟨W2,hW2,rr,hb2,hzz⟩:=aB wn 53 #[.bool (bD x).neg,.slice A1 (bD x).num.length c1,.slice B1 (bD x).den.length d1];rw[← hW2];clear hW2;replace HU:=Ac (HU.out.below hb2);replace rz:=rz.below hb2 rz.lt;replace he:=he.below hb2 he.lt;replace hB:=hB.trans (hb2.mono hB.size);have hlz:=rz.lt;have p0:=rr.cell (i:=0) rfl; have p1:=rr.cell (i:=1) rfl; have p2:=rr.cell (i:=2) rfl;have q0:=rz.cell (i:=0) rfl; have f0:=rz.frozen 0;have q1:=rz.cell (i:=1) rfl; have f1:=rz.frozen 1;have q2:=rz.cell (i:=2) rfl; have f2:=rz.frozen 2;have hne:eb≠w.heap.size+1:=by omega
 have hne2:wn.heap.size≠w.heap.size+1:=by omega
 have hne3:eb≠wn.heap.size:=by have:=he.lt; omega
 rcases hcs with rfl | rfl
 ·go_wp2
  obtain⟨Wz,hWz,hrw,hwz,hkz⟩:=aW rz (.bool (bD x).neg) (.slice A1 (bD x).num.length c1) (.slice B1 (bD x).den.length d1);rw[← hWz];have he2:Row Wz eb 31 [.int .i64 e0]:=by rw[hWz]; exact((he.other (a:=⟨w.heap.size+1,0,none⟩) hne _).other (a:=⟨w.heap.size+1,1,none⟩) hne _).other (a:=⟨w.heap.size+1,2,none⟩) hne _
  clear hWz q0 q1 q2 f0 f1 f2;have t0:=hrw.cell (i:=0) rfl; have t1:=hrw.cell (i:=1) rfl; have t2:=hrw.cell (i:=2) rfl;refine bodyPost_ret (v:=.agg #[.bool (bD x).neg,.slice A1 (bD x).num.length c1,.slice B1 (bD x).den.length d1]) (by simp[results,Tryz.results86,go_sem,t0,t1,t2]) rfl ?_;exact⟨_,rfl,HU.out.keep (fun b hb _=>by omega) (hkz _ (by omega)),by rw[HEA.out]; exact he2,grown_below (hwz _ _ (by omega) hB) (by omega) _⟩
 ·have e0':=he.cell (i:=0) rfl; have e1':=he.frozen 0;go_wp2
  have hse:=he.set 0 (.int .i64 5);have hsz:=rz.other (a:=⟨eb,0,none⟩) (fun e=>hne e.symm) (.int .i64 5);have hsu:=HU.out.keep (fun b hb _=>hb) (Same.setCell (fun b=>w.heap.size+2≤b) W2 (p:=⟨eb,0,none⟩) (by simp; omega) (.int .i64 5));have hgr:=grown_setCell (p:=⟨eb,0,none⟩) (grown_below hB (by omega) (some eb)) (.inl rfl) (.int .i64 5);obtain⟨W3,hW3⟩:∃ W3,W3=W2.setCell ⟨eb,0,none⟩ (.int .i64 5):=⟨_,rfl⟩;rw[← hW3] at hse hsz hsu hgr ⊢;obtain⟨Wz,hWz,hrw,hwz,hkz⟩:=aW hsz (.bool (bD x).neg) (.slice A1 (bD x).num.length c1) (.slice B1 (bD x).den.length d1);rw[← hWz];have he2:Row Wz eb 31 [.int .i64 5]:=by rw[hWz]; exact((hse.other (a:=⟨w.heap.size+1,0,none⟩) hne _).other (a:=⟨w.heap.size+1,1,none⟩) hne _).other (a:=⟨w.heap.size+1,2,none⟩) hne _
  have hg3:w.grownBy Wz (some eb):=by
   rw[hWz];exact grown_setCell (p:=⟨w.heap.size+1,2,none⟩) (grown_setCell (p:=⟨w.heap.size+1,1,none⟩) (grown_setCell (p:=⟨w.heap.size+1,0,none⟩) hgr (.inr (by simp)) _) (.inr (by simp)) _) (.inr (by simp)) _
  clear hWz q0 q1 q2 f0 f1 f2;have t0:=hrw.cell (i:=0) rfl; have t1:=hrw.cell (i:=1) rfl; have t2:=hrw.cell (i:=2) rfl;refine bodyPost_ret (v:=.agg #[.bool (bD x).neg,.slice A1 (bD x).num.length c1,.slice B1 (bD x).den.length d1]) (by simp[results,Tryz.results86,go_sem,t0,t1,t2]) rfl ?_;exact⟨_,rfl,hsu.keep (fun b hb _=>by omega) (hkz _ (by omega)),by rw[HEA.out]; exact he2,hg3⟩
def adL (xs:List Rat):Int:=xs.foldl jG 0
theorem afn (xs:List Rat) (x:Rat):adL (xs ++ [x])=jG (adL xs) x:=by unfold adL; rw[List.foldl_append]; rfl
theorem qN {w w':World} {d:Nat} (h:w.grownBy w' (some d)) {b o:Nat} (hb:b < w.heap.size) (hd:b≠d) {v:Value} (hc:w.cell? ⟨b,o,none⟩=some v):w'.cell? ⟨b,o,none⟩=some v:=(o7 h b o hb hd).trans hc
theorem acI (w:World) (F:Ag) (v:Value) (xs:List Rat) (eb:Nat) (hv:Bg w F v xs) (hFe:¬ F eb) (hl:xs.length≤100000) (hf:∀ x∈xs,rl x≤100000) (he:Row w eb 31 [.int .i64 0]) :
  Calls Tryz.prog 85 #[v,.func (.func 86) #[] #[.pointer (some ⟨eb,0,none⟩)]] w fun e w'=>∃ u,e = .returned u∧Aj w' (fun b=>w.heap.size≤b) u (xs.map bD)∧Row w' eb 31 [.int .i64 (adL xs)]∧w.grownBy w' (some eb):=by
 obtain⟨A,c,rfl,hc,hN⟩:=hv;rw[List.length_map] at hc hN;have HN:=Ac hN; clear hN;have hcf:=fun args w=>enters' (f:=86) Tryz.func86 (by kernel_rfl) (by kernel_rfl) args w
 have HF:=Ac hf; clear hf;have hel:=he.lt;show Calls _ _ #[.slice A (xs.map aj).length c,_] _ _;rw[List.length_map];go_enter Tryz.func85,Tryz.ntmps85;go_wp2_with (at_make; refine oI _ rfl _ _ 30 rfl 53 Tryz.underlying30 Tryz.infoRat xs.length rfl rfl (by omega) ?_; intro w1 hb1 hz1 hm1)
 have HM:=Ac (hm1 (fun b=>w.heap.size≤b)); clear hm1;obtain⟨bo,hbo⟩:∃ bo,bo=w.heap.size:=⟨_,rfl⟩;have ae5:bo≤w.heap.size:=by omega
 have zU:w.heap.size≤bo:=by omega
 have ae6:bo < w1.heap.size:=by omega
 replace HM:Hid (AB w1 bo 53 (fun b=>w.heap.size≤b) (List.replicate xs.length rv0)):=by rw[hbo]; exact HM
 rw[← hbo];have hg1:=grown_below hb1 (Nat.le_refl _) (some eb);have hner:bo≠eb:=by omega
 replace he:=he.below hb1 he.lt;clear hz1 hb1 hbo;go_loopw [13] (fun i wr=>∃ (k:Nat) (L:List RV),k≤xs.length∧i = .int .i64 (k:Int)∧L.length=k∧L.map RV.r=(xs.take k).map bD∧AB wr bo 53 (fun b=>w.heap.size≤b) (L++List.replicate (xs.length - k) rv0)∧Row wr eb 31 [.int .i64 (adL (xs.take k))]∧w.grownBy wr (some eb)∧w1.heap.size≤wr.heap.size) (fun i _=>xs.length - (intOf i).toNat)
 case atStart=>exact⟨0,[],by omega,rfl,rfl,rfl,HM.out,he,hg1,Nat.le_refl _⟩
 case round =>
  clear HM hg1 he;obtain⟨k,L,hk,rfl,hlen,hmap,hm,he,hgr,hz⟩:=hrel;have HMP:=Ac hmap; have HM:=Ac hm; have HLL:=Ac hlen; clear hmap hm hlen;by_cases hlt:k < xs.length
  ·obtain⟨b,o,rfl,hF,hb,hx⟩:=HN.out (by omega);obtain⟨x,hx'⟩:=ay hlt;obtain⟨ex0,⟨vn,ex1,hn⟩,⟨vd,ex2,hd⟩⟩:=hx k (aj x) (by rw[List.getElem?_map,hx']; rfl);have HX:=Ac hx';have hrl:=HF.out x (List.mem_of_getElem? hx');have hsame:Same (fun b=>F b) w wr:=(Same.qx hgr).mono fun b hb=>fun e=>hFe (e▸hb)
   have HR:=Ac (Az.on (r:=aj x) (Az.make (r:=aj x) rfl hn hd) hsame);obtain⟨A1',c1',rfl,_,_⟩:=hn;obtain⟨A2',c2',rfl,_,_⟩:=hd;have hbe:b≠eb:=fun e=>hFe (e▸hF)
   replace ex0:=qN hgr hb hbe ex0; replace ex1:=qN hgr hb hbe ex1; replace ex2:=qN hgr hb hbe ex2;clear hx hx' hsame;go_wp2_with fail
   obtain⟨W2,hW2,rz,hB2,hzz⟩:=aB wr 97 #[.bool (aj x).neg,.slice A1' (aj x).num.length c1',.slice A2' (aj x).den.length c2'];rw[← hW2];have hz2:=hB2.size;replace HR:=Ac (HR.out.below hB2);replace HM:=Ac (HM.out.below hB2);replace he:=he.below hB2 he.lt;replace hgr:=gQ hgr (grown_below hB2 (Nat.le_refl _) (some eb));have x0:=rz.cell (i:=0) rfl; have x1:=rz.cell (i:=1) rfl; have x2:=rz.cell (i:=2) rfl;clear hB2 hW2 hzz rz ex0 ex1 ex2;go_wp2_with fail
   refine(afm W2 _ _ x eb _ HR.out hrl he).mono ?_;rintro e wn ⟨u,rfl,hu,he2,hg2⟩;have hsm:Same (fun b=>b≠eb) W2 wn:=Same.qx hg2;replace HM:=Ac (HM.out.on (by exact hg2.block bo (by omega) (by simp; omega)) (hsm.mono fun b hb=>by omega));have hgr2:=gQ hgr hg2;have hz3:=hg2.size;obtain⟨A1,c1,B1,d1,rfl,bV⟩:=hu.opened;obtain⟨q,hq⟩:∃ q:RV,q=⟨bD x,.slice A1 (bD x).num.length c1,.slice B1 (bD x).den.length d1⟩:=⟨_,rfl⟩;rw[← hq] at bV;have HQ:=Ac (show q.r=bD x by rw[hq]);have hqk:q.fine wn (fun c=>w.heap.size≤c∧c≠bo):=bV.keep (fun b hb _=>by omega) (Same.refl _ _);have HQF:=Ac hqk;have hget:(L++List.replicate (xs.length - k) rv0)[k]? = some rv0:=by
    rw[List.getElem?_append_right (by rw[HLL.out]; omega),HLL.out,Nat.sub_self,List.getElem?_replicate,if_pos (by omega)]
   have c0:wn.cell? ⟨bo,k*3,none⟩=some (.bool false):=HM.out.cell (j:=0) hget (by omega) rfl; have c1:=HM.out.cell (j:=1) hget (by omega) rfl; have c2:=HM.out.cell (j:=2) hget (by omega) rfl;have f0:=HM.out.row.frozen (k*3); have f1:=HM.out.row.frozen (k*3+1); have f2:=HM.out.row.frozen (k*3+2);obtain⟨W,hW,hm,hwB,hwS,hwz,hwb⟩:=HM.out.set k q hqk;rw[yS HLL.out hlt] at hm;have HM2:=Ac hm;have heW:Row W eb 31 [.int .i64 (adL (xs.take (k+1)))]:=by
    rw[take_snoc HX.out,afn]; exact he2.of_block (hwb eb (fun e=>hner e.symm))
   have hgW:w.grownBy W (some eb):=by
    rw[hW];exact grown_setCell (p:=⟨bo,k*3+2,none⟩) (grown_setCell (p:=⟨bo,k*3+1,none⟩) (grown_setCell (p:=⟨bo,k*3,none⟩) hgr2 (.inr zU) _) (.inr zU) _) (.inr zU) _
   have hzW:w1.heap.size≤W.heap.size:=by omega
   rw[hq] at hW;have HW:=Ac hW;clear hu bV hqk hm hget hq hwB hwS hwz hwb hW x0 x1 x2 hg2 hsm;dsimp only;go_wp2_with fail
   rw[← HW.out];go_roundw
   case rel=>exact⟨k+1,L ++ [q],by omega,by go_num,by rw[List.length_append,HLL.out]; rfl,vW HMP.out HX.out HQ.out,HM2.out,heW,hgW,hzW⟩
   case measure=>simp[intOf]; omega
  ·go_wp2
   go_ret;have hall:xs.take k=xs:=List.take_of_length_le (by omega);have hk2:L.length=xs.length:=by have:=HLL.out; omega
   have hm:=HM.out;rw[show xs.length - k=0 by omega,List.replicate_zero,List.append_nil] at hm;have:=hm.tN (G:=fun b=>w.heap.size≤b) (fun b hb=>hb) zU (c:=xs.length) (by omega);rw[HMP.out,hall,hk2] at this;rw[hall] at he;exact⟨_,rfl,this,he,hgr⟩
def jR (xs:List Rat):Int:=if xs.any (fun x=>decide (1024 < rl x)) then 5 else 0
def fitsV (xs:List Rat):List Raw:=if jR xs≠0 then [] else xs.map au
theorem wB:∀ (xs:List Rat) (e:Int),(e=0∨e=5)→xs.foldl jG e=if xs.any (fun x=>decide (1024 < rl x)) then 5 else e
 | [],e,_=>by simp
 | x :: xs,e,he=>by
  rw[List.foldl_cons,List.any_cons];by_cases h:1024 < rl x
  ·have h1:jG e x=5:=by unfold jG eU; rw[if_pos h]; rfl
   rw[h1,wB xs 5 (.inr rfl),decide_eq_true h,Bool.true_or];simp
  ·have h1:jG e x=e:=by unfold jG eU; rw[if_neg h]; rfl
   rw[h1,wB xs e he,decide_eq_false h,Bool.false_or]
theorem ahE (xs:List Rat):adL xs=jR xs:=wB xs 0 (.inl rfl)
theorem ahF (xs:List Rat):jR xs=0∨jR xs=5:=by
 unfold jR; split
 ·exact .inr rfl
 ·exact .inl rfl
theorem afo {xs:List Rat} (h:jR xs=0):∀ x∈xs,rl x≤1024:=by
 unfold jR at h;split at h
 ·omega
 ·rename_i h1
  intro x hx;have h2:(xs.any fun x=>decide (1024 < rl x))=false:=by simpa using h1
  have:=List.any_eq_false.1 h2 x hx;simpa using this
theorem afp {xs:List Rat} (h:jR xs=0):xs.map bD=fitsV xs:=by
 unfold fitsV;rw[if_neg (by simpa using h)];refine List.map_congr_left fun x hx=>?_
 have:=afo h x hx;unfold bD; rw[if_neg (by omega)]
theorem y5 (w:World) (F:Ag) (v:Value) (xs:List Rat) (hv:Bg w F v xs) (hl:xs.length≤100000) (hf:∀ x∈xs,rl x≤100000) :
  Calls Tryz.prog 47 #[v] w (Ret w fun u w'=>∃ t,u = .tuple #[t,.int .i64 (jR xs)]∧Aj w' (fun b=>w.heap.size≤b) t (fitsV xs)):=by
 have HN:=Ac (Aj.keep (G:=Old F w.heap.size) hv (fun b hb hl=>⟨hb,hl⟩) (Same.refl _ _));obtain⟨A,c,rfl,hc,_⟩:=hv;rw[List.length_map] at HN;have HF:=Ac hf; clear hf;show Calls _ _ #[.slice A (xs.map aj).length c] _ _;rw[List.length_map];go_enter Tryz.func47,Tryz.ntmps47;go_upto_region 2 with(fail)
 obtain⟨W,hW,re,hB,hz⟩:=aB w 31 #[.int .i64 0];rw[← hW];clear hW;replace HN:=Ac (Aj.keep HN.out (fun _ h _=>h) (Below.same' hB _));go_wp2_with fail
 refine(acI W _ _ xs w.heap.size HN.out (fun h=>by have:=h.2; omega) hl HF.out re).mono ?_;rintro e wn ⟨u,rfl,hu,he,hg⟩;have hB2:Below w.heap.size w wn:=hB.grown hg (by omega) (fun k hk=>by cases hk; exact Nat.le_refl _);have HU:=Ac hu;have e0:=he.cell (i:=0) rfl;rw[ahE] at e0;obtain⟨oe,hoe⟩:∃ oe,oe=jR xs:=⟨_,rfl⟩;rw[← hoe] at e0;have hcs:oe=0∨oe=5:=by rw[hoe]; exact ahF xs
 have HO:=Ac hoe;have hWs:=hB.size;clear hu he hg re hB hoe hz;dsimp only;rcases hcs with rfl | rfl
 ·go_wp2
  go_ret2;have h3:=HU.out;rw[afp HO.out.symm] at h3;exact⟨_,rfl,hB2,_,by rw[← HO.out]; rfl,h3.keep (fun b hb _=>by omega) (Same.refl _ _)⟩
 ·go_wp2_with fail
  go_quiet (fail)
  go_wp2
  go_ret2;refine⟨_,rfl,aC hB2 _,_,by rw[← HO.out]; rfl,?_⟩;have h3:fitsV xs = []:=by unfold fitsV; rw[if_pos (by rw[← HO.out]; decide)]
  rw[h3];exact Aj.nil _ _
end Go.Proofs.YtkcheepafifjaaaGreatDoor
