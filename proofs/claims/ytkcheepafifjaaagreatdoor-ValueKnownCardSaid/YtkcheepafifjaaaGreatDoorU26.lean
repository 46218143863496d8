/- The reference's rational numbers: Whole, Ratio, Order. -/
import Derived.Test.YtkcheepafifjaaaGreatDoorU25
import Derived.BigQuiet
set_option linter.all false
set_option maxRecDepth 100000
set_option maxHeartbeats 12800000
namespace Go.Proofs.YtkcheepafifjaaaGreatDoor
open Lib renaming hid → Ac
open List renaming getElem_toArray → lq1, getElem_cons_zero → lq2, getElem_cons_succ → lq3, setIfInBounds_toArray → lq4, set_cons_zero → lq5, set_cons_succ → lq6
open Go.RowKit
theorem afa (n:Int):mkRat (sgI (decide (n < 0)) n.natAbs) 1=(n:Rat):=by
 have h:sgI (decide (n < 0)) n.natAbs=n:=by
  unfold sgI; by_cases h:n < 0 <;> simp[h] <;> omega
 rw[h];exact(Rat.ext (by rw[Rat.num_mkRat]; simp) (by rw[Rat.den_mkRat]; simp))
theorem afb (a b:Int) (hb:b≠0):mkRat (sgI (decide (a < 0) != decide (b < 0)) a.natAbs) b.natAbs=(a:Rat) / (b:Rat):=by
 have e:(a:Rat) / (b:Rat)=Rat.divInt a b:=(Rat.divInt_eq_div a b).symm;rw[e];have hb2:b=sgI (decide (b < 0)) b.natAbs:=by unfold sgI; by_cases h:b < 0 <;> simp[h] <;> omega
 have ha2:a=sgI (decide (a < 0)) a.natAbs:=by unfold sgI; by_cases h:a < 0 <;> simp[h] <;> omega
 have h2:Rat.divInt a b=Rat.divInt (sgI (decide (a < 0)) a.natAbs) (sgI (decide (b < 0)) b.natAbs):=by rw[← ha2,← hb2]
 rw[h2];generalize decide (a < 0)=s;generalize decide (b < 0)=t;unfold sgI;cases s <;> cases t <;> simp[Rat.divInt_ofNat,Rat.divInt_neg']
theorem ny (w:World) (n:Int) (h1:-1000000000000≤n) (h2:n≤1000000000000) :
  Calls Tryz.prog 76 #[.int .i64 n] w (Ret w fun v w'=>RtV w' (fun b=>w.heap.size≤b) v (n:Rat)):=by
 have hl:(dig n.natAbs).length≤50000:=by have:(dig n.natAbs).length≤3:=aQ (by unfold LB; omega); omega
 have HW:=Ac (afa n);obtain⟨ng,hng⟩:∃ b,b=decide (n < 0):=⟨_,rfl⟩;rw[← hng] at HW;go_enter Tryz.func76,Tryz.ntmps76;go_wp2_with fail
 obtain⟨W,hW,hr,hB,hz'⟩:=aB w 53 #[.bool false,.slice none 0 0,.slice none 0 0];rw[← hW];clear hW;have hz:w.heap.size+1≤W.heap.size:=by omega
 clear hz';refine(vY W n h1 h2).mono ?_;rintro e wn ⟨vn,rfl,hb,hu⟩;have HN:=Ac (hu.mono (G:=(fun b=>w.heap.size+1≤b)) (fun b hb _=>by omega)); clear hu;replace hr:=hr.below hb hr.lt;replace hz:=Nat.le_trans hz hb.size;replace hB:=hB.trans (hb.mono hB.size);clear hb;dsimp only;go_wp2_with fail
 obtain⟨W2,hW2,hr2,hb,hz2⟩:=aB wn 115 #[.int .u32 1];have hone:Ah W2 (fun b=>w.heap.size+1≤b) (.slice (some ⟨wn.heap.size,0,none⟩) 1 1) 1:=by rw[hW2]; exact(acj wn).mono (fun b hb _=>by omega)
 rw[← hW2]; clear hW2 hr2 hz2;replace HN:=Ac (HN.out.below hb);replace hr:=hr.below hb hr.lt;replace hz:=Nat.le_trans hz hb.size;replace hB:=hB.trans (hb.mono hB.size);clear hb;have BI:=Ac hone; clear hone;rw[← hng];refine(kV _ (fun b=>w.heap.size+1≤b) ng _ _ n.natAbs 1 HN.out BI.out (by decide) hl (by rw[gK]; simp)).mono ?_;rintro e wn ⟨vm,rfl,hb,hu⟩;rw[HW.out] at hu;have hu2:RtV wn (fun b=>w.heap.size+1≤b) vm (n:Rat):=hu.mono (fun b hb _=>hb.elim id fun h=>by omega);have HM:=Ac hu2;obtain⟨Am,cm,Bm,dm,rfl,hn,hd⟩:=hu2.open;clear hn hd hu hu2;replace HN:=Ac (HN.out.below hb);replace BI:=Ac (BI.out.below hb);replace hr:=hr.below hb hr.lt;replace hz:=Nat.le_trans hz hb.size;replace hB:=hB.trans (hb.mono hB.size);clear hb;dsimp only;have q0:=hr.cell (i:=0) rfl;have y0:=hr.frozen 0;have q1:=hr.cell (i:=1) rfl;have y1:=hr.frozen 1;have q2:=hr.cell (i:=2) rfl;have y2:=hr.frozen 2;go_wp2
 obtain⟨Wz,hWz,hrz,hwz,hkz⟩:=aW hr (.bool (au (n:Rat)).neg) (.slice Am (au (n:Rat)).num.length cm) (.slice Bm (au (n:Rat)).den.length dm);rw[← hWz];clear hWz q0 q1 q2 y0 y1 y2;have t0:=hrz.cell (i:=0) rfl;have t1:=hrz.cell (i:=1) rfl;have t2:=hrz.cell (i:=2) rfl;refine bodyPost_ret (v:=.agg #[.bool (au (n:Rat)).neg,.slice Am (au (n:Rat)).num.length cm,.slice Bm (au (n:Rat)).den.length dm]) (by simp[results,Tryz.results76,go_sem,t0,t1,t2]) rfl ?_;exact⟨_,rfl,hwz _ _ (Nat.le_refl _) hB,(HM.out.on (hkz _ (by omega))).mono (fun b hb _=>by omega)⟩
theorem adB (w:World) (a b:Int) (ha1:-1000000000000≤a) (ha2:a≤1000000000000) (hb1:-1000000000000≤b) (hb2:b≤1000000000000) (hb0:b≠0) :
  Calls Tryz.prog 130 #[.int .i64 a,.int .i64 b] w (Ret w fun v w'=>RtV w' (fun b=>w.heap.size≤b) v ((a:Rat) / (b:Rat))):=by
 have hla:(dig a.natAbs).length≤50000:=by have:(dig a.natAbs).length≤3:=aQ (by unfold LB; omega); omega
 have hlb:(dig b.natAbs).length≤50000:=by have:(dig b.natAbs).length≤3:=aQ (by unfold LB; omega); omega
 have HW:=Ac (afb a b hb0);have acw:b.natAbs≠0:=by omega
 obtain⟨na,hna⟩:∃ b,b=decide (a < 0):=⟨_,rfl⟩;obtain⟨nb,hnb⟩:∃ c,c=decide (b < 0):=⟨_,rfl⟩;rw[← hna,← hnb] at HW;clear hb0;go_enter Tryz.func130,Tryz.ntmps130;go_wp2_with fail
 rw[← hna,← hnb];obtain⟨W,hW,hr,hB,hz'⟩:=aB w 53 #[.bool false,.slice none 0 0,.slice none 0 0];rw[← hW];clear hW;have hz:w.heap.size+1≤W.heap.size:=by omega
 clear hz';refine(vY W a ha1 ha2).mono ?_;rintro e wn ⟨vn,rfl,hb,hu⟩;have HN:=Ac (hu.mono (G:=(fun b=>w.heap.size+1≤b)) (fun b hb _=>by omega)); clear hu;replace hr:=hr.below hb hr.lt;replace hz:=Nat.le_trans hz hb.size;replace hB:=hB.trans (hb.mono hB.size);clear hb;dsimp only;go_wp2_with fail
 refine(vY _ b hb1 hb2).mono ?_;rintro e wn ⟨vd,rfl,hb,hu⟩;have HD:=Ac (hu.mono (G:=(fun b=>w.heap.size+1≤b)) (fun b hb _=>by omega)); clear hu;replace HN:=Ac (HN.out.below hb);replace hr:=hr.below hb hr.lt;replace hz:=Nat.le_trans hz hb.size;replace hB:=hB.trans (hb.mono hB.size);clear hb;dsimp only;go_wp2_with fail
 refine(kV _ (fun b=>w.heap.size+1≤b) _ _ _ a.natAbs b.natAbs HN.out HD.out acw hla hlb).mono ?_;rintro e wn ⟨vm,rfl,hb,hu⟩;have hu2:RtV wn (fun b=>w.heap.size+1≤b) vm ((a:Rat) / (b:Rat)):=by rw[show(!decide (a < 0)==decide (b < 0))=(na != nb) by rw[hna,hnb]; rfl,HW.out] at hu; exact hu.mono (fun b hb _=>hb.elim id fun h=>by omega)
 have HM:=Ac hu2;obtain⟨Am,cm,Bm,dm,rfl,hn,hd⟩:=hu2.open;clear hn hd hu hu2;replace HN:=Ac (HN.out.below hb);replace HD:=Ac (HD.out.below hb);replace hr:=hr.below hb hr.lt;replace hz:=Nat.le_trans hz hb.size;replace hB:=hB.trans (hb.mono hB.size);clear hb;dsimp only;have q0:=hr.cell (i:=0) rfl;have y0:=hr.frozen 0;have q1:=hr.cell (i:=1) rfl;have y1:=hr.frozen 1;have q2:=hr.cell (i:=2) rfl;have y2:=hr.frozen 2;go_wp2
 obtain⟨Wz,hWz,hrz,hwz,hkz⟩:=aW hr (.bool (au ((a:Rat) / (b:Rat))).neg) (.slice Am (au ((a:Rat) / (b:Rat))).num.length cm) (.slice Bm (au ((a:Rat) / (b:Rat))).den.length dm);rw[← hWz];clear hWz q0 q1 q2 y0 y1 y2;have t0:=hrz.cell (i:=0) rfl;have t1:=hrz.cell (i:=1) rfl;have t2:=hrz.cell (i:=2) rfl;refine bodyPost_ret (v:=.agg #[.bool (au ((a:Rat) / (b:Rat))).neg,.slice Am (au ((a:Rat) / (b:Rat))).num.length cm,.slice Bm (au ((a:Rat) / (b:Rat))).den.length dm]) (by simp[results,Tryz.results130,go_sem,t0,t1,t2]) rfl ?_;exact⟨_,rfl,hwz _ _ (Nat.le_refl _) hB,(HM.out.on (hkz _ (by omega))).mono (fun b hb _=>by omega)⟩
def Fact.ahV (B:Nat) (t:TypeId) (l:List Value):Fact:=⟨fun v w=>∃ b,v = .pointer (some ⟨b,0,none⟩)∧B≤b∧Row w b t l,fun _ _ _ ⟨b,h1,h2,h3⟩ hb=>⟨b,h1,h2,h3.below hb h3.lt⟩⟩
theorem qL (w:World) (F:Ag) (va vb:Value) (x y:Rat) (ha:RtV w F va x) (hb:RtV w F vb y) (hlx:rl x≤20000) (hly:rl y≤20000) :
  Calls Tryz.prog 77 #[va,vb] w (Ret w fun v _=>v = .int .i64 (iH x y)):=by
 have HO:=Ac (af7 x y);have hny:=ah5 y;have HX:=Ac ha.old; have HY:=Ac hb.old;obtain⟨A,c,B,d,rfl,hn,hd⟩:=ha.open;obtain⟨A',c',B',d',rfl,hn',hd'⟩:=hb.open;clear hn hd hn' hd' ha hb;go_enter Tryz.func77,Tryz.ntmps77;go_wp2_with fail
 obtain⟨W,hW,rx,ry,hB,hz⟩:=alloc2 w 53 #[.bool (au x).neg,.slice A (au x).num.length c,.slice B (au x).den.length d] 53 #[.bool (au y).neg,.slice A' (au y).num.length c',.slice B' (au y).den.length d'];rw[← hW];clear hW;replace HX:=Ac (HX.out.on (Below.same' hB _)); replace HY:=Ac (HY.out.on (Below.same' hB _));have hz:w.heap.size+2≤W.heap.size:=hz;have x0:=rx.cell (i:=0) rfl;have x1:=rx.cell (i:=1) rfl;have x2:=rx.cell (i:=2) rfl;have y0:=ry.cell (i:=0) rfl;have y1:=ry.cell (i:=1) rfl;have y2:=ry.cell (i:=2) rfl;clear rx ry;refine bC (fun w'=>w'.cell? ⟨w.heap.size,0,none⟩=some (.bool (au x).neg)∧w'.cell? ⟨w.heap.size,1,none⟩=some (.slice A (au x).num.length c)∧w'.cell? ⟨w.heap.size,2,none⟩=some (.slice B (au x).den.length d)∧w'.cell? ⟨w.heap.size+1,0,none⟩=some (.bool (au y).neg)∧w'.cell? ⟨w.heap.size+1,1,none⟩=some (.slice A' (au y).num.length c')∧w'.cell? ⟨w.heap.size+1,2,none⟩=some (.slice B' (au y).den.length d')) 5 1 (by kernel_rfl) rfl (by kernel_rfl) ?_;have hHeld:(fun w':World=>w'.cell? ⟨w.heap.size,0,none⟩=some (.bool (au x).neg)∧w'.cell? ⟨w.heap.size,1,none⟩=some (.slice A (au x).num.length c)∧w'.cell? ⟨w.heap.size,2,none⟩=some (.slice B (au x).den.length d)∧w'.cell? ⟨w.heap.size+1,0,none⟩=some (.bool (au y).neg)∧w'.cell? ⟨w.heap.size+1,1,none⟩=some (.slice A' (au y).num.length c')∧w'.cell? ⟨w.heap.size+1,2,none⟩=some (.slice B' (au y).den.length d')) W.drew:=⟨x0,x1,x2,y0,y1,y2⟩;simp only[List.take_succ_cons,List.take_zero];have hb:Below W.heap.size W W.drew:=aC (Below.refl _ W) 1;replace x0:=ah x0 hb;replace x1:=ah x1 hb;replace x2:=ah x2 hb;replace y0:=ah y0 hb;replace y1:=ah y1 hb;replace y2:=ah y2 hb;replace HX:=Ac (HX.out.below hb);replace HY:=Ac (HY.out.below hb);replace hz:=Nat.le_trans hz hb.size;replace hB:=hB.trans (hb.mono hB.size);clear hb;generalize W.drew=wn at *;refine tk0 [0,1] ?_;iterate 2 (refine tk (v:=?_) rfl (by kernel_rfl) (by kernel_rfl) (by kernel_rfl) (fun _ _ _ h=>h) (Or.inl ⟨by rfl,?_⟩) hHeld ?_;rotate_left;(focus intro wx hSx;(try dsimp only at hSx);go_split_ands;go_simp;try with_reducible rfl);try simp only[Act.put,lq1,lq2,lq3,lq4,lq5,lq6])
 refine tk1 ?_;refine kG (js:=[2,3,4]) ((Hold.cell (w.heap.size) 0 (.bool (au x).neg)).and ((Hold.cell (w.heap.size) 1 (.slice A (au x).num.length c)).and ((Hold.cell (w.heap.size) 2 (.slice B (au x).den.length d)).and ((Hold.cell (w.heap.size+1) 0 (.bool (au y).neg)).and ((Hold.cell (w.heap.size+1) 1 (.slice A' (au y).num.length c')).and ((Hold.cell (w.heap.size+1) 2 (.slice B' (au y).den.length d')).and ((Hold.of (Fact.raw (Old F w.heap.size) (au x)) (.agg #[.bool (au x).neg,.slice A (au x).num.length c,.slice B (au x).den.length d])).and ((Hold.of (Fact.raw (Old F w.heap.size) (au y)) (.agg #[.bool (au y).neg,.slice A' (au y).num.length c',.slice B' (au y).den.length d'])).and (Hold.below (w.heap.size+2) wn))))))))) [(2,Fact.raw (Ext (Old F w.heap.size) (w.heap.size+2)) (au (-y))),(3,Fact.raw (Ext (Old F w.heap.size) (w.heap.size+2)) (au (x + -y))),(4,Fact.ahV (w.heap.size+2) 53 [.bool false,.slice none 0 0,.slice none 0 0])] (by kernel_rfl) ⟨x0,x1,x2,y0,y1,y2,HX.out,HY.out,⟨hz,(Below.refl _ _).mono (Nat.le_refl _)⟩⟩ (fun _ h=>⟨h.1,h.2.1,h.2.2.1,h.2.2.2.1,h.2.2.2.2.1,h.2.2.2.2.2.1⟩) ?_;refine Flow.cons (o:=_) rfl (fun wk hS hf K hK=>?_) (fun v2=>?_)
 ·go_simp;refine(agR wk (Old F w.heap.size) _ y hS.2.2.2.2.2.2.2.1).mono ?_;rintro e w' ⟨u,rfl,hb,hu⟩;exact hK.out _ _ hb (Az.mono hu (fun b hb _=>.inl hb))
 try simp only[Act.put,lq1,lq2,lq3,lq4,lq5,lq6]
 refine Flow.cons (o:=_) rfl (fun wk hS hf K hK=>?_) (fun v3=>?_)
 ·have f2:=cO (f:=Fact.raw (Ext (Old F w.heap.size) (w.heap.size+2)) (au (-y))) (hf (2,v2) (by simp) (by kernel_rfl)) rfl;go_simp;refine(uh wk (Ext (Old F w.heap.size) (w.heap.size+2)) _ _ x (-y) (Az.mono hS.2.2.2.2.2.2.1 (fun b hb _=>.inl hb)) f2 hlx (by omega)).mono ?_;rintro e w' ⟨u,rfl,hb,hu⟩;have hw2:=hS.2.2.2.2.2.2.2.2.1;exact hK.out _ _ hb (Az.mono hu (fun b hb _=>hb.elim id fun h=>.inr (by omega)))
 try simp only[Act.put,lq1,lq2,lq3,lq4,lq5,lq6]
 refine Flow.cons (o:=_) rfl (fun wk hS hf K hK=>?_) (fun v4=>?_)
 ·go_simp;exact hK.out _ _ ((Below.refl _ _).alloc (Nat.le_refl _) _) ⟨_,rfl,hS.2.2.2.2.2.2.2.2.1,Row.new wk 53 #[.bool false,.slice none 0 0,.slice none 0 0]⟩
 try simp only[Act.put,lq1,lq2,lq3,lq4,lq5,lq6]
 refine Flow.nil (fun wE hS hf=>?_);have f3:=cO (f:=Fact.raw (Ext (Old F w.heap.size) (w.heap.size+2)) (au (x + -y))) (hf (3,v3) (by simp)) rfl;have f4:=cO (f:=Fact.ahV (w.heap.size+2) 53 [.bool false,.slice none 0 0,.slice none 0 0]) (hf (4,v4) (by simp)) rfl;have hBe:=hS.2.2.2.2.2.2.2.2.2;obtain⟨A6,c6,B6,d6,hv6,_,_⟩:=Az.open f3;dsimp only at hv6; subst hv6;obtain⟨bd,hv4,hbd,hrd⟩:=f4;dsimp only at hv4; subst hv4;have hBE:Below w.heap.size w wE:=hB.trans (hBe.mono (by omega));clear hf hS f3 x0 x1 x2 y0 y1 y2;show wpList _ _ _ _ _ _;have q0:=hrd.cell (i:=0) rfl; have z0:=hrd.frozen 0;have q1:=hrd.cell (i:=1) rfl; have z1:=hrd.frozen 1;have q2:=hrd.cell (i:=2) rfl; have z2:=hrd.frozen 2;go_wp2_with fail
 show Exit.then _ _ .normal _ _;obtain⟨W2,hW2,ain,hw2,_⟩:=aW hrd (.bool (au (x + -y)).neg) (.slice A6 (au (x + -y)).num.length c6) (.slice B6 (au (x + -y)).den.length d6);rw[← hW2];have hB2:Below w.heap.size w W2:=hw2 _ _ (by omega) hBE;clear hW2 q0 q1 q2 z0 z1 z2;have q0:=ain.cell (i:=0) rfl;have q1:=ain.cell (i:=1) rfl;have q2:=ain.cell (i:=2) rfl;have HSG:ku (x + -y)=if (x + -y).num.natAbs=0 then 0 else if dh (x + -y) then -1 else 1:=rfl
 have HSGN:=Ac HSG; clear HSG;rw[vP] at q1;rw[jy] at q0;by_cases h0:(x + -y).num.natAbs=0
 ·have HE:=Ac (show iH x y=0 by rw[HO.out,HSGN.out,if_pos h0]);have hl0:(((dig (x + -y).num.natAbs).length:Int)==0)=true:=by rw[h0,aX]; rfl
  clear h0;go_wp2
  go_ret;exact⟨_,rfl,hB2,by rw[HE.out]; rfl⟩
 ·have hl0:(((dig (x + -y).num.natAbs).length:Int)==0)=false:=by have:=aU.2 h0; exact beq_false_of_ne (by omega)
  have HE1:=Ac (show iH x y=if dh (x + -y) then -1 else 1 by rw[HO.out,HSGN.out,if_neg h0]);clear h0;generalize dh (x + -y)=ng at *;cases ng
  ·have HE:=Ac (show iH x y=1 from HE1.out);go_wp2
   go_ret;exact⟨_,rfl,hB2,by rw[HE.out]; rfl⟩
  ·have HE:=Ac (show iH x y = -1 from HE1.out);go_wp2
   go_ret;exact⟨_,rfl,hB2,by rw[HE.out]; rfl⟩
theorem rH (w:World) (n:Nat) (h2:n≤1000000000000) :
  Calls Tryz.prog 101 #[.int .i64 (n:Int)] w (Ret w fun v w'=>Ah w' (fun b=>w.heap.size≤b) v n):=by
 go_enter Tryz.func101,Tryz.ntmps101;go_wp2
 go_loopw [0,3] (fun u v wr=>∃ (m:Nat) (l:List Nat),u = .int .i64 (m:Int)∧m≤1000000000000∧l++dig m=dig n∧wr.ownsRow w.heap.size 115 1 v l.length (aO l)∧Below w.heap.size w wr) (fun u _ _=>(intOf u).natAbs)
 case atStart=>exact⟨n,[],rfl,h2,rfl,World.ownsRow_nil _ _ _ _,Below.refl _ _⟩
 case round =>
  obtain⟨m,l,rfl,hm2,hd,hown,hbel⟩:=hrel;have HD:=Ac hd;have HO:=Ac hown;have hll:l.length≤1000000:=by
   have h1:(dig n).length≤3:=aQ (by unfold LB; omega);rw[← hd,List.length_append] at h1; omega
  clear hd hown;by_cases h0:m=0
  ·subst h0;go_wp2
   go_ret;refine⟨_,rfl,hbel,?_⟩;have h2:=HD.out;rw[aX,List.append_nil] at h2;unfold Ah; rw[← h2];exact iq HO.out fun b hb=>(HO.out.lt b hb).1
  ·have hne:decide (0 < m)=true:=by simp; omega
   have HD2:=Ac (show l ++ [m % 1000000000]++dig (m / 1000000000)=dig n by rw[← HD.out,jH h0]; simp[LB]);obtain⟨r,hr⟩:∃ r:Nat,r=m % 1000000000:=⟨_,rfl⟩;obtain⟨m2,zZ⟩:∃ m2:Nat,m2=m / 1000000000:=⟨_,rfl⟩;rw[← hr,← zZ] at HD2;have hr9:r < 1000000000:=by omega
   have HLT:=Ac (show m2 < m by omega);have hm2b:m2≤1000000000000:=by omega
   have ht:(m:Int).tmod 1000000000=(r:Int):=by rw[hr]; rfl
   have hq:(m:Int).tdiv 1000000000=(m2:Int):=by rw[zZ]; rfl
   clear hr zZ h0;go_wp2_with (at_builtin; refine bK rfl _ _ 51 Tryz.underlying51 rfl w.heap.size (Nat.le_refl _) u3 l rfl _ r (by omega) hll rfl HO.out hbel ?_; intro g cap w' hown' aZ hlt' fJ; have HO':=Ac hown'; clear hown' fJ)
   go_roundw
   case rel=>exact⟨m2,l ++ [r],by go_num,hm2b,HD2.out,by simpa using HO'.out,aZ⟩
   case measure=>simp only[intOf]; have:=HLT.out; omega
theorem aey (w:World) (a b:Nat) (h1:a≤1000000000000) (h2:b≤1000000000000) :
  Calls Tryz.prog 100 #[.int .i64 (a:Int),.int .i64 (b:Int)] w (Ret w fun v _=>v = .int .i64 (Nat.gcd a b:Int)):=by
 go_enter Tryz.func100,Tryz.ntmps100;go_wp2
 go_loopw [0,1] (fun u v wr=>∃ (x y:Nat),u = .int .i64 (x:Int)∧v = .int .i64 (y:Int)∧x≤1000000000000∧y≤1000000000000∧Nat.gcd x y=Nat.gcd a b∧Below w.heap.size w wr) (fun _ v _=>(intOf v).natAbs)
 case atStart=>exact⟨a,b,rfl,rfl,h1,h2,rfl,Below.refl _ _⟩
 case round =>
  obtain⟨x,y,rfl,rfl,hx,hy,hg,hbel⟩:=hrel;have HG:=Ac hg; clear hg;by_cases h0:y=0
  ·subst h0;have hmx:(if -(x:Int) > (x:Int) then -(x:Int) else (x:Int))=(x:Int):=if_neg (by omega);have hnl:¬ ((x:Int) < -(x:Int)):=by omega
   go_wp2
   go_ret;refine⟨_,rfl,hbel,?_⟩;have:=HG.out;rw[Nat.gcd_zero_right] at this;rw[← this]; first | rfl | (rw[hmx]) | (simp[hnl])
  ·have hne:((y:Int) != 0)=true:=by simp; omega
   obtain⟨r,hr⟩:∃ r:Nat,r=x % y:=⟨_,rfl⟩;have ht:(x:Int).tmod (y:Int)=(r:Int):=by rw[hr]; rfl
   have hlt:r < y:=by rw[hr]; exact Nat.mod_lt _ (by omega)
   have HG2:=Ac (show Nat.gcd y r=Nat.gcd a b by rw[← HG.out,hr,Nat.gcd_comm x y,Nat.gcd_rec y x,Nat.gcd_comm]);clear hr;have hy0:(y:Int)≠0:=by omega
   go_wp2
   go_quiet (fail)
   go_wp2
   go_roundw
   case rel=>exact⟨y,r,rfl,by go_num,hy,by omega,HG2.out,aC hbel _⟩
   case measure=>simp only[intOf]; omega
theorem nT (neg:Bool) (n b:Nat) (hb:b≠0):au (mkRat (sgI neg n) b)=⟨neg&&decide (n≠0),dig (n / Nat.gcd n b),dig (b / Nat.gcd n b)⟩:=by
 have h:=jf (sgI neg n) hb;rw[lU] at h;unfold au;rw[h.1,h.2.1,jL _ hb];by_cases h0:n=0
 ·subst h0; rw[uF]; simp
 ·rw[rD h0]; simp[h0]
theorem aaC (w:World) (n b:Nat) (h1:n≤1000000000000) (h2:b≤1000000000000) (hb0:b≠0) :
  Calls Tryz.prog 64 #[.int .i64 (n:Int),.int .i64 (b:Int)] w (Ret w fun v w'=>RtV w' (fun b=>w.heap.size≤b) v (mkRat (sgI false n) b)):=by
 have HM:=Ac (nT false n b hb0);unfold RtV;rw[HM.out];clear HM;have hg0:0 < Nat.gcd n b:=Nat.gcd_pos_of_pos_right _ (by omega);have HGN:=Ac (Nat.gcd_dvd_left n b);have HG:=Ac (show ∀ w,Calls Tryz.prog 100 #[.int .i64 (n:Int),.int .i64 (b:Int)] w (Ret w fun v _=>v = .int .i64 (Nat.gcd n b:Int)) from fun w=>aey w n b h1 h2);generalize Nat.gcd n b=g at *;have e1:n / g≤n:=Nat.div_le_self _ _;have e2:b / g≤b:=Nat.div_le_self _ _;have t2:(b:Int).tdiv (g:Int)=((b / g:Nat):Int):=rfl;have hgz:(g:Int)≠0:=by omega
 have t1:(n:Int).tdiv (g:Int)=((n / g:Nat):Int):=rfl;have hbn:(false&&decide (n≠0))=false:=rfl;rw[hbn];have h1':n≤1000000000000:=h1;obtain⟨q,hq⟩:∃ q,q=n / g:=⟨_,rfl⟩;obtain⟨d,hd⟩:∃ d,d=b / g:=⟨_,rfl⟩;rw[← hq] at t1 e1 ⊢;rw[← hd] at t2 e2 ⊢;clear hq hd hbn;have hmx:(if -(n:Int) > (n:Int) then -(n:Int) else (n:Int))=(n:Int):=if_neg (by omega);have hnl:¬ ((n:Int) < -(n:Int)):=by omega
 have hlt:decide ((q:Int) < 0)=false:=decide_eq_false (by omega);go_enter Tryz.func64,Tryz.ntmps64;go_wp2_with fail
 obtain⟨W,hW,hr,hB,hz'⟩:=aB w 53 #[.bool false,.slice none 0 0,.slice none 0 0];rw[← hW];clear hW;have hz:w.heap.size+1≤W.heap.size:=by omega
 clear hz';try rw[hmx]
 refine(HG.out _).mono ?_;rintro e wn ⟨vn,rfl,hb,rfl⟩;replace hr:=hr.below hb hr.lt;replace hz:=Nat.le_trans hz hb.size;replace hB:=hB.trans (hb.mono hB.size);clear hb;dsimp only;go_wp2_with fail
 go_quiet (fail)
 have hb:Below wn.heap.size wn (wn.drewN nq):=aC (Below.refl _ wn) nq;replace hr:=hr.below hb hr.lt;replace hz:=Nat.le_trans hz hb.size;replace hB:=hB.trans (hb.mono hB.size);clear hb;generalize wn.drewN nq=wn at *;go_wp2_with fail
 refine(rH _ q (by omega)).mono ?_;rintro e wn ⟨vn,rfl,hb,hu⟩;have HN:=Ac (hu.mono (G:=(fun b=>w.heap.size+1≤b)) (fun b hb _=>by omega)); clear hu;replace hr:=hr.below hb hr.lt;replace hz:=Nat.le_trans hz hb.size;replace hB:=hB.trans (hb.mono hB.size);clear hb;dsimp only;go_wp2_with fail
 refine(rH _ d (by omega)).mono ?_;rintro e wn ⟨vd,rfl,hb,hu⟩;have HD:=Ac (hu.mono (G:=(fun b=>w.heap.size+1≤b)) (fun b hb _=>by omega)); clear hu;replace HN:=Ac (HN.out.below hb);replace hr:=hr.below hb hr.lt;replace hz:=Nat.le_trans hz hb.size;replace hB:=hB.trans (hb.mono hB.size);clear hb;have hn:=HN.out; have hd:=HD.out;obtain⟨Am,cm,rfl,_,_⟩:=hn;obtain⟨Bm,dm,rfl,_,_⟩:=hd;dsimp only;have q0:=hr.cell (i:=0) rfl;have y0:=hr.frozen 0;have q1:=hr.cell (i:=1) rfl;have y1:=hr.frozen 1;have q2:=hr.cell (i:=2) rfl;have y2:=hr.frozen 2;go_wp2
 obtain⟨Wz,hWz,hrz,hwz,hkz⟩:=aW hr (.bool false) (.slice Am (dig q).length cm) (.slice Bm (dig d).length dm);rw[← hWz];clear hWz q0 q1 q2 y0 y1 y2;have t0:=hrz.cell (i:=0) rfl;have t1:=hrz.cell (i:=1) rfl;have t2:=hrz.cell (i:=2) rfl;refine bodyPost_ret (v:=.agg #[.bool false,.slice Am (dig q).length cm,.slice Bm (dig d).length dm]) (by simp[results,Tryz.results64,go_sem,t0,t1,t2]) rfl ?_;exact⟨_,rfl,hwz _ _ (Nat.le_refl _) hB,_,_,rfl,(HN.out.on (hkz _ (by omega))).mono (fun b hb _=>by omega),(HD.out.on (hkz _ (by omega))).mono (fun b hb _=>by omega)⟩
theorem afc (w:World) (n b:Nat) (h1:n≤1000000000000) (h2:b≤1000000000000) (hb0:b≠0) (hn0:n≠0) :
  Calls Tryz.prog 64 #[.int .i64 (-(n:Int)),.int .i64 (b:Int)] w (Ret w fun v w'=>RtV w' (fun b=>w.heap.size≤b) v (mkRat (sgI true n) b)):=by
 have HM:=Ac (nT true n b hb0);unfold RtV;rw[HM.out];clear HM;have hg0:0 < Nat.gcd n b:=Nat.gcd_pos_of_pos_right _ (by omega);have HGN:=Ac (Nat.gcd_dvd_left n b);have HG:=Ac (show ∀ w,Calls Tryz.prog 100 #[.int .i64 (n:Int),.int .i64 (b:Int)] w (Ret w fun v _=>v = .int .i64 (Nat.gcd n b:Int)) from fun w=>aey w n b h1 h2);generalize Nat.gcd n b=g at *;have e1:n / g≤n:=Nat.div_le_self _ _;have e2:b / g≤b:=Nat.div_le_self _ _;have t2:(b:Int).tdiv (g:Int)=((b / g:Nat):Int):=rfl;have hgz:(g:Int)≠0:=by omega
 have t1:(-(n:Int)).tdiv (g:Int) = -((n / g:Nat):Int):=by rw[Int.neg_tdiv]; rfl
 have hq0:0 < n / g:=Nat.div_pos (Nat.le_of_dvd (by omega) HGN.out) hg0;have hbn:(true&&decide (n≠0))=true:=by simp[hn0]
 rw[hbn];have h1':n≤1000000000000:=h1;obtain⟨q,hq⟩:∃ q,q=n / g:=⟨_,rfl⟩;obtain⟨d,hd⟩:∃ d,d=b / g:=⟨_,rfl⟩;rw[← hq] at t1 e1 ⊢;rw[← hd] at t2 e2 ⊢;rw[← hq] at hq0;clear hq hd hbn;have hmx:(if - -(n:Int) > -(n:Int) then - -(n:Int) else -(n:Int))=(n:Int):=by rw[if_pos (by omega)]; omega
 have hnl:(-(n:Int) < - -(n:Int)):=by omega
 have hnl2:(-(n:Int) < (n:Int)):=by omega
 have hlt:decide (-(q:Int) < 0)=true:=decide_eq_true (by omega);have hlt2:decide (0 < q)=true:=decide_eq_true hq0;go_enter Tryz.func64,Tryz.ntmps64;go_wp2_with fail
 obtain⟨W,hW,hr,hB,hz'⟩:=aB w 53 #[.bool false,.slice none 0 0,.slice none 0 0];rw[← hW];clear hW;have hz:w.heap.size+1≤W.heap.size:=by omega
 clear hz';try rw[hmx]
 refine(HG.out _).mono ?_;rintro e wn ⟨vn,rfl,hb,rfl⟩;replace hr:=hr.below hb hr.lt;replace hz:=Nat.le_trans hz hb.size;replace hB:=hB.trans (hb.mono hB.size);clear hb;dsimp only;go_wp2_with fail
 go_quiet (fail)
 have hb:Below wn.heap.size wn (wn.drewN nq):=aC (Below.refl _ wn) nq;replace hr:=hr.below hb hr.lt;replace hz:=Nat.le_trans hz hb.size;replace hB:=hB.trans (hb.mono hB.size);clear hb;generalize wn.drewN nq=wn at *;go_wp2_with fail
 refine(rH _ q (by omega)).mono ?_;rintro e wn ⟨vn,rfl,hb,hu⟩;have HN:=Ac (hu.mono (G:=(fun b=>w.heap.size+1≤b)) (fun b hb _=>by omega)); clear hu;replace hr:=hr.below hb hr.lt;replace hz:=Nat.le_trans hz hb.size;replace hB:=hB.trans (hb.mono hB.size);clear hb;dsimp only;go_wp2_with fail
 refine(rH _ d (by omega)).mono ?_;rintro e wn ⟨vd,rfl,hb,hu⟩;have HD:=Ac (hu.mono (G:=(fun b=>w.heap.size+1≤b)) (fun b hb _=>by omega)); clear hu;replace HN:=Ac (HN.out.below hb);replace hr:=hr.below hb hr.lt;replace hz:=Nat.le_trans hz hb.size;replace hB:=hB.trans (hb.mono hB.size);clear hb;have hn:=HN.out; have hd:=HD.out;obtain⟨Am,cm,rfl,_,_⟩:=hn;obtain⟨Bm,dm,rfl,_,_⟩:=hd;dsimp only;have q0:=hr.cell (i:=0) rfl;have y0:=hr.frozen 0;have q1:=hr.cell (i:=1) rfl;have y1:=hr.frozen 1;have q2:=hr.cell (i:=2) rfl;have y2:=hr.frozen 2;go_wp2
 obtain⟨Wz,hWz,hrz,hwz,hkz⟩:=aW hr (.bool true) (.slice Am (dig q).length cm) (.slice Bm (dig d).length dm);rw[← hWz];clear hWz q0 q1 q2 y0 y1 y2;have t0:=hrz.cell (i:=0) rfl;have t1:=hrz.cell (i:=1) rfl;have t2:=hrz.cell (i:=2) rfl;refine bodyPost_ret (v:=.agg #[.bool true,.slice Am (dig q).length cm,.slice Bm (dig d).length dm]) (by simp[results,Tryz.results64,go_sem,t0,t1,t2]) rfl ?_;exact⟨_,rfl,hwz _ _ (Nat.le_refl _) hB,_,_,rfl,(HN.out.on (hkz _ (by omega))).mono (fun b hb _=>by omega),(HD.out.on (hkz _ (by omega))).mono (fun b hb _=>by omega)⟩
theorem afd (w:World) (a:Int) (b:Nat) (h1:-1000000000000≤a) (h2:a≤1000000000000) (h3:b≤1000000000000) (hb0:b≠0) :
  Calls Tryz.prog 64 #[.int .i64 a,.int .i64 (b:Int)] w (Ret w fun v w'=>RtV w' (fun b=>w.heap.size≤b) v (mkRat a b)):=by
 obtain⟨n,rfl | rfl⟩:=Int.eq_nat_or_neg a
 ·have:=aaC w n b (by omega) h3 hb0;simpa [sgI] using this
 ·by_cases h0:n=0
  ·subst h0;have:=aaC w 0 b (by omega) h3 hb0;simpa [sgI] using this
  ·have:=afc w n b (by omega) h3 hb0 h0;simpa [sgI] using this
theorem adC (w:World) (a:Int) (b:Nat) (h1:-1000000000000≤a) (h2:a≤1000000000000) (h3:b≤1000000000000) (hb0:b≠0) :
  Calls Tryz.prog 32 #[.int .i64 a,.int .i64 (b:Int)] w (Ret w fun v w'=>RtV w' (fun b=>w.heap.size≤b) v (mkRat a b)):=by
 have HR:=Ac (fun w=>afd w a b h1 h2 h3 hb0);generalize mkRat a b=x at *;go_enter Tryz.func32,Tryz.ntmps32;go_wp2_with fail
 obtain⟨W,hW,hr,hB,hz'⟩:=aB w 53 #[.bool false,.slice none 0 0,.slice none 0 0];rw[← hW];clear hW;have hz:w.heap.size+1≤W.heap.size:=by omega
 clear hz';refine(HR.out _).mono ?_;rintro e wn ⟨vm,rfl,hb,hu⟩;have hu2:RtV wn (fun b=>w.heap.size+1≤b) vm x:=hu.mono (fun b hb _=>by omega);have HM:=Ac hu2;obtain⟨Am,cm,Bm,dm,rfl,hn,hd⟩:=hu2.open;clear hn hd hu hu2;replace hr:=hr.below hb hr.lt;replace hz:=Nat.le_trans hz hb.size;replace hB:=hB.trans (hb.mono hB.size);clear hb;dsimp only;have q0:=hr.cell (i:=0) rfl;have y0:=hr.frozen 0;have q1:=hr.cell (i:=1) rfl;have y1:=hr.frozen 1;have q2:=hr.cell (i:=2) rfl;have y2:=hr.frozen 2;go_wp2
 obtain⟨Wz,hWz,hrz,hwz,hkz⟩:=aW hr (.bool (au x).neg) (.slice Am (au x).num.length cm) (.slice Bm (au x).den.length dm);rw[← hWz];clear hWz q0 q1 q2 y0 y1 y2;have t0:=hrz.cell (i:=0) rfl;have t1:=hrz.cell (i:=1) rfl;have t2:=hrz.cell (i:=2) rfl;refine bodyPost_ret (v:=.agg #[.bool (au x).neg,.slice Am (au x).num.length cm,.slice Bm (au x).den.length dm]) (by simp[results,Tryz.results32,go_sem,t0,t1,t2]) rfl ?_;exact⟨_,rfl,hwz _ _ (Nat.le_refl _) hB,(HM.out.on (hkz _ (by omega))).mono (fun b hb _=>by omega)⟩
theorem Tryz.infoRatT:(Tryz.prog.info? 53).map (fun i=>(i.zero,i.size,i.bytes))=some (some (.agg #[.bool false,.slice none 0 0,.slice none 0 0]),3,56):=by kernel_rfl
theorem lI (w:World) (F:Ag) (v:Value) (l:List Int) (b:Nat) (hv:Aw w F v l) (hl:l.length≤1000) (hx:∀ x∈l,-1000000000000≤x∧x≤1000000000000) (h3:b≤1000000000000) (hb0:b≠0) :
  Calls Tryz.prog 31 #[.int .i64 (b:Int),v] w (Ret w fun v w'=>BH w' (fun b=>w.heap.size≤b) v (l.map fun x=>mkRat x b)):=by
 have HV:=Ac hv;obtain⟨A,c,rfl,hc,hr⟩:=hv;have HR:=Ac hr; have HX:=Ac hx;clear hr hx;go_enter Tryz.func31,Tryz.ntmps31;go_wp2
 go_loopw [5,6] (fun u i wr=>∃ (k:Nat) (L:List RV),k≤l.length∧i = .int .i64 (k:Int)∧L.length=k∧L.map RV.r=((l.take k).map fun x=>au (mkRat x b))∧Ba wr w.heap.size 53 (fun b=>w.heap.size≤b) u L∧Below w.heap.size w wr) (fun _ i _=>l.length - (intOf i).toNat)
 case atStart=>exact⟨0,[],by omega,rfl,rfl,rfl,Ba.nil _ _ _ _,Below.refl _ _⟩
 case round =>
  obtain⟨k,L,hk,rfl,hLl,hLr,hown,hbel⟩:=hrel;have HO:=Ac hown; have HL:=Ac hLr;have HLL:=Ac hLl;clear hown hLr hLl;by_cases hlt:k < l.length
  ·obtain⟨bb,o,rfl,_,hb',hcell⟩:=HR.out (by omega);obtain⟨x,hxk⟩:=ay hlt;have e1:=hcell k x hxk;unfold jv at e1;rw[Nat.mul_one] at e1;have hxb:=HX.out x (List.mem_of_getElem? hxk);have HXK:=Ac hxk;have hold:=aI hbel;clear hcell hxk;have hz:=hbel.size;go_wp2_with fail
   refine(adC wr x b hxb.1 hxb.2 h3 hb0).mono ?_;rintro e w2 ⟨vm,rfl,hb2,hu⟩;obtain⟨q,hq,rfl,hqf⟩:=Az.rv hu;have iP:=hbel.trans (hb2.mono hbel.size);have HO2:=Ac (HO.out.below hb2);have HF:=Ac (show q.fine w2 (Apart (fun b=>w.heap.size≤b) u5) from hqf.keep (fun b hb _=>⟨by omega,fun e=>by have:=(HO.out.row.lt b e).2; omega⟩) (Same.refl _ _));have HQ:=Ac hq;clear hqf hu hq hb2 hold hbel;dsimp only[RV.cells];go_wp2_with (at_builtin; refine qI (F:=fun b=>w.heap.size≤b) rfl _ _ 30 53 Tryz.underlying30 Tryz.infoRatT rfl w.heap.size (Nat.le_refl _) u5 L rfl q (by have:=HLL.out; omega) rfl HO2.out HF.out iP ?_; intro g cap w' hown' aZ hlt'; have HO':=Ac hown'; clear hown')
   go_roundw
   case rel=>exact⟨k+1,L ++ [q],by omega,by go_num,by rw[List.length_append,HLL.out]; rfl,by rw[List.map_append,HL.out,take_snoc HXK.out,List.map_append,List.map_cons,List.map_nil,HQ.out]; rfl,HO'.out,aZ⟩
   case measure=>simp[intOf]; omega
  ·go_wp2
   go_ret;refine⟨_,rfl,hbel,?_⟩;have h5:=HO.out.tN (G:=fun b=>w.heap.size≤b) (fun b hb=>hb) (fun b hb=>hb);rw[HL.out,List.take_of_length_le (by omega)] at h5;unfold BH;rw[List.map_map];exact h5
def pX:List (List Rat):=[[1,1].map fun x=>mkRat x 2,[1,1].map fun x=>mkRat x 2,[1,1,1].map fun x=>mkRat x 3]
theorem Row.yT {w:World} {b:Nat} {l:List Int} (h:Row w b 3 (l.map (Value.int .i64))) {F:Ag} (hF:F b):Aw w F (.slice (some ⟨b,0,none⟩) l.length l.length) l:=by
 refine⟨_,_,rfl,Nat.le_refl _,fun _=>⟨b,0,rfl,hF,h.lt,fun k x hk=>?_⟩⟩;unfold jv;rw[Nat.zero_add,Nat.mul_one];exact h.cell (by rw[List.getElem?_map,hk]; rfl)
theorem ai0 {w:World} {F:Ag} {b:Nat} {v1 v2 v3:Value} {l1 l2 l3:List Raw} (h:Row w b 30 [v1,v2,v3]) (hF:F b) (h1:Aj w F v1 l1) (h2:Aj w F v2 l2) (h3:Aj w F v3 l3):Ae w F (.slice (some ⟨b,0,none⟩) 3 3) [l1,l2,l3]:=by
 refine⟨_,_,rfl,Nat.le_refl _,fun _=>⟨b,0,rfl,hF,h.lt,fun k x hk=>?_⟩⟩;rw[Nat.zero_add,Nat.mul_one];match k,hk with
 | 0,hk=>cases hk; exact⟨v1,h.cell rfl,h1⟩
 | 1,hk=>cases hk; exact⟨v2,h.cell rfl,h2⟩
 | 2,hk=>cases hk; exact⟨v3,h.cell rfl,h3⟩
theorem acA (w:World):Calls Tryz.prog 30 #[] w (Ret w fun v w'=>AP w' (fun b=>w.heap.size≤b) v pX):=by
 go_enter Tryz.func30,Tryz.ntmps30;have hB:=Below.refl w.heap.size w;go_wp2_with fail
 obtain⟨wa0,hwa,hr,hb,hz'⟩:=aB w 3 #[.int .i64 1,.int .i64 1];rw[← hwa];have hi:=Row.yT (l:=[1,1]) (F:=fun _=>True) hr trivial;clear hwa hr;replace hB:=hB.trans (hb.mono hB.size);have hz0:=hB.size;clear hb;refine(lI wa0 _ _ [1,1] 2 hi (by decide) (by decide) (by decide) (by decide)).mono ?_;rintro e wb0 ⟨v0,rfl,hb,hu⟩;have H0:=Ac (hu.keep (G:=fun b=>w.heap.size≤b) (fun b hb _=>by omega) (Same.refl _ _));clear hu hi;replace hB:=hB.trans (hb.mono hB.size);clear hb;dsimp only;go_wp2_with fail
 obtain⟨wa1,hwa,hr,hb,hz'⟩:=aB wb0 3 #[.int .i64 1,.int .i64 1];rw[← hwa];have hi:=Row.yT (l:=[1,1]) (F:=fun _=>True) hr trivial;clear hwa hr;replace H0:=Ac (Aj.on H0.out (Below.same' hb _));replace hB:=hB.trans (hb.mono hB.size);have hz1:=hB.size;clear hb;refine(lI wa1 _ _ [1,1] 2 hi (by decide) (by decide) (by decide) (by decide)).mono ?_;rintro e wb1 ⟨v1,rfl,hb,hu⟩;have H1:=Ac (hu.keep (G:=fun b=>w.heap.size≤b) (fun b hb _=>by omega) (Same.refl _ _));clear hu hi;replace H0:=Ac (Aj.on H0.out (Below.same' hb _));replace hB:=hB.trans (hb.mono hB.size);clear hb;dsimp only;go_wp2_with fail
 obtain⟨wa2,hwa,hr,hb,hz'⟩:=aB wb1 3 #[.int .i64 1,.int .i64 1,.int .i64 1];rw[← hwa];have hi:=Row.yT (l:=[1,1,1]) (F:=fun _=>True) hr trivial;clear hwa hr;replace H0:=Ac (Aj.on H0.out (Below.same' hb _));replace H1:=Ac (Aj.on H1.out (Below.same' hb _));replace hB:=hB.trans (hb.mono hB.size);have hz2:=hB.size;clear hb;refine(lI wa2 _ _ [1,1,1] 3 hi (by decide) (by decide) (by decide) (by decide)).mono ?_;rintro e wb2 ⟨v2,rfl,hb,hu⟩;have H2:=Ac (hu.keep (G:=fun b=>w.heap.size≤b) (fun b hb _=>by omega) (Same.refl _ _));clear hu hi;replace H0:=Ac (Aj.on H0.out (Below.same' hb _));replace H1:=Ac (Aj.on H1.out (Below.same' hb _));replace hB:=hB.trans (hb.mono hB.size);clear hb;dsimp only;have c0:=H0.out; have c1:=H1.out; have c2:=H2.out;obtain⟨A0,d0,rfl,_,_⟩:=c0;obtain⟨A1,d1,rfl,_,_⟩:=c1;obtain⟨A2,d2,rfl,_,_⟩:=c2;have hzz:=hB.size;go_wp2
 refine bodyPost_ret (v:=.slice (some ⟨wb2.heap.size,0,none⟩) 3 3) (by simp[results,Tryz.results30,go_sem]) rfl ?_;generalize hwa:World.alloc _ _=wz;obtain⟨wz',hwz,hr,hb,hz'⟩:=aB wb2 30 #[.slice A0 2 d0,.slice A1 2 d1,.slice A2 3 d2];have hww:wz=wz':=by rw[← hwa,hwz]
 rw[hww];refine⟨_,rfl,hB.trans (hb.mono hB.size),?_⟩;exact ai0 hr hzz (Aj.on H0.out (Below.same' hb _)) (Aj.on H1.out (Below.same' hb _)) (Aj.on H2.out (Below.same' hb _))
theorem sJ (w:World) (F:Ag) (v:Value) (l:List Nat) (hv:Ak w F v l) (hu:∀ x∈l,x < 4294967296) (hl:l.length≤1000000) :
  Calls Tryz.prog 134 #[v] w fun e w'=>e = .returned (.int .i64 (bY l))∧w=w':=by
 obtain⟨A,c,rfl,hc,hN⟩:=hv;have HN:=Ac hN; clear hN;have HU:=Ac hu; clear hu;by_cases h1:1024 < l.length
 ·have HE:=Ac (show bY l=4 by unfold bY; rw[if_pos h1]);have d1:decide ((1024:Int) < (l.length:Int))=true:=decide_eq_true (by omega);clear h1;go_enter Tryz.func134,Tryz.ntmps134;go_wp2
  go_ret;exact⟨by rw[HE.out]; rfl,rfl⟩
 have d1:decide ((1024:Int) < (l.length:Int))=false:=decide_eq_false (by omega);have H1:=Ac h1;go_enter Tryz.func134,Tryz.ntmps134;go_wp2
 go_loopw [3] (fun i wr=>∃ k:Nat,k≤l.length∧i = .int .i64 (k:Int)∧(l.take k).any (fun x=>decide (LB≤x))=false∧w=wr) (fun i _=>l.length - (intOf i).toNat)
 case atStart=>exact⟨0,by omega,rfl,rfl,rfl⟩
 case round =>
  obtain⟨k,hk,rfl,hpre,rfl⟩:=hrel;have HP:=Ac hpre; clear hpre;by_cases hlt:k < l.length
  ·obtain⟨b,o,rfl,_,hb,hx⟩:=HN.out (by omega);obtain⟨x,hx'⟩:=ay hlt;have ex:=hx k x hx';unfold bP at ex; rw[Nat.mul_one] at ex;have hxu:=HU.out x (List.mem_of_getElem? hx');have HX:=Ac hx';clear hx hx';by_cases hbad:1000000000≤x
   ·have HE:=Ac (show bY l=3 by
     unfold bY;rw[if_neg H1.out,if_pos (List.any_eq_true.2 ⟨x,List.mem_of_getElem? HX.out,decide_eq_true hbad⟩)])
    have d2:decide ((1000000000:Int)≤(x:Int))=true:=decide_eq_true (by omega);clear hbad;go_wp2
    go_ret;exact⟨by rw[HE.out]; rfl,rfl⟩
   ·have d2:decide ((1000000000:Int)≤(x:Int))=false:=decide_eq_false (by omega);have HB:=Ac (show(decide (LB≤x))=false from decide_eq_false hbad);go_wp2
    go_roundw
    case rel=>exact⟨k+1,by omega,by go_num,sG HX.out HP.out HB.out,by first | rfl | trivial⟩
    case measure=>simp[intOf]; omega
  ·have HA:=Ac (show l.any (fun x=>decide (LB≤x))=false by have:=HP.out; rwa [List.take_of_length_le (by omega)] at this);by_cases h0:0 < l.length
   ·obtain⟨b,o,rfl,_,hb,hx⟩:=HN.out h0;obtain⟨n1,hn1⟩:∃ n1,n1+1=l.length:=⟨l.length - 1,by omega⟩;obtain⟨x,hx'⟩:=ay (l:=l) (k:=n1) (by omega);have ex:=hx n1 x hx';unfold bP at ex; rw[Nat.mul_one] at ex;have HX:=Ac (show bY l=if x=0 then 3 else 0 by
     unfold bY;rw[if_neg H1.out,HA.out,if_neg (by decide),List.getLast?_eq_getElem?,show l.length - 1=n1 by omega,hx'];simp)
    have i1:(l.length:Int) - 1=(n1:Int):=by omega
    clear hx hx' hn1;by_cases hz:x=0
    ·have d3:((x:Int)==0)=true:=by rw[hz]; rfl
     have HE:=Ac (show bY l=3 by rw[HX.out,if_pos hz]);clear hz;go_wp2
     go_ret;exact⟨by rw[HE.out]; rfl,rfl⟩
    ·have d3:((x:Int)==0)=false:=beq_false_of_ne (by omega);have HE:=Ac (show bY l=0 by rw[HX.out,if_neg hz]);clear hz;go_wp2
     go_ret;exact⟨by rw[HE.out]; rfl,rfl⟩
   ·have HE:=Ac (show bY l=0 by
     have:l = []:=List.eq_nil_of_length_eq_zero (by omega);rw[this]; rfl)
    have d3:decide ((0:Int) < (l.length:Int))=false:=decide_eq_false (by omega);go_wp2
    go_ret;exact⟨by rw[HE.out]; rfl,rfl⟩
theorem adD (w:World) (F:Ag) (vn vd:Value) (num den:List Nat) (hn:Ak w F vn num) (hd:Ak w F vd den) (hnu:∀ x∈num,x < 4294967296) (hdu:∀ x∈den,x < 4294967296) (hln:num.length≤1000000) (hld:den.length≤1000000) :
  Calls Tryz.prog 108 #[vn,vd] w fun e w'=>e = .returned (.int .i64 (dI num den))∧w=w':=by
 have HN:=Ac hn; have HD:=Ac hd;obtain⟨A,c,rfl,hc,hN⟩:=hn;obtain⟨B,d,rfl,hd,hM⟩:=hd;clear hN hM;have HNU:=Ac hnu; have HDU:=Ac hdu; clear hnu hdu;have HP:=Ac (show dI num den=if bY num≠0 then bY num else if bY den≠0 then bY den else if den.length=0 then 6 else 0 from rfl);go_enter Tryz.func108,Tryz.ntmps108;go_wp2_with fail
 refine(sJ w F _ num HN.out HNU.out hln).mono ?_;rintro e w' ⟨rfl,rfl⟩;generalize bY num=e1 at *;by_cases h1:e1=0
 ·have t1:(e1 != 0)=false:=by rw[h1]; rfl
  go_wp2_with fail
  refine(sJ w F _ den HD.out HDU.out hld).mono ?_;rintro e w' ⟨rfl,rfl⟩;generalize bY den=e2 at *;by_cases h2:e2=0
  ·have t2:(e2 != 0)=false:=by rw[h2]; rfl
   by_cases h3:den.length=0
   ·have t3:((den.length:Int)==0)=true:=by rw[h3]; rfl
    have HE:=Ac (show dI num den=6 by rw[HP.out,if_neg (by simpa using h1),if_neg (by simpa using h2),if_pos h3]);clear h1 h2 h3;go_wp2
    go_ret;exact⟨by rw[HE.out]; rfl,rfl⟩
   ·have t3:((den.length:Int)==0)=false:=beq_false_of_ne (by omega);have HE:=Ac (show dI num den=0 by rw[HP.out,if_neg (by simpa using h1),if_neg (by simpa using h2),if_neg h3]);clear h1 h2 h3;go_wp2
    go_ret;exact⟨by rw[HE.out]; rfl,rfl⟩
  ·have t2:(e2 != 0)=true:=by simp[h2]
   have HE:=Ac (show dI num den=e2 by rw[HP.out,if_neg (by simpa using h1),if_pos h2]);clear h1 h2;go_wp2
   go_ret;exact⟨by rw[HE.out]; rfl,rfl⟩
 ·have t1:(e1 != 0)=true:=by simp[h1]
  have HE:=Ac (show dI num den=e1 by rw[HP.out,if_pos h1]);clear h1;go_wp2
  go_ret;exact⟨by rw[HE.out]; rfl,rfl⟩
end Go.Proofs.YtkcheepafifjaaaGreatDoor
