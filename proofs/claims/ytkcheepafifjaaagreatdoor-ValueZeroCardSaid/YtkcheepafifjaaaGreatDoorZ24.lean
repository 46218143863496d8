/- The reference's long division: parlourref01.Over. -/
import Derived.Test.YtkcheepafifjaaaGreatDoorZ23
import Derived.Test.YtkcheepafifjaaaGreatDoorZ17
import Derived.BigQuiet
set_option linter.all false
set_option maxRecDepth 100000
set_option maxHeartbeats 12800000
namespace Go.Proofs.YtkcheepafifjaaaGreatDoor
open Lib renaming hid → Ac
open Go.RowKit
theorem abZ {x:Rat}:aG (-x)=⟨!bW x&&decide (0 < (dig x.num.natAbs).length),dig x.num.natAbs,dig x.den⟩:=by
 unfold aG;rw[Rat.neg_num,Rat.neg_den,Int.natAbs_neg];by_cases h:x=0
 ·subst h;rw[show(-(0:Rat))=0 from by simp];simp[aV,aef]
 ·rw[afp h];have:=aW.2 (show x.num.natAbs≠0 from fun e=>h ((jY x).1 e));simp[this]
theorem afR (w:World) (F:Ae) (v:Value) (x:Rat) (hv:RtV w F v x) :
  Calls Tryz.prog 40 #[v] w (Ret w fun u w'=>RtV w' F u (-x)):=by
 have HX:=Ac hv.old;obtain⟨A,c,B,d,rfl,hn,hd⟩:=hv.open;clear hn hd hv;rw[uJ,nS];have HM:=Ac (abZ (x:=x));obtain⟨ng,hng⟩:∃ b,b=bW x:=⟨_,rfl⟩;rw[← hng];have HNG:=Ac hng;clear hng;by_cases h0:0 < (dig x.num.natAbs).length
 ·have d0:decide (0 < (dig x.num.natAbs).length)=true:=decide_eq_true h0;have HMM:=Ac (show aG (-x)=⟨!ng,dig x.num.natAbs,dig x.den⟩ by rw[HM.out,d0,HNG.out]; simp);clear HM h0;cases ng
  ·go_enter Tryz.func40,Tryz.ntmps40;go_wp2
   obtain⟨W,hW,hr,hr2,hB,hz⟩:=alloc2 w 53 #[.bool true,.slice A (dig x.num.natAbs).length c,.slice B (aG x).den.length d] 53 #[.bool true,.slice A (dig x.num.natAbs).length c,.slice B (aG x).den.length d];rw[← hW];clear hW;have t0:=hr2.cell (i:=0) rfl;have t1:=hr2.cell (i:=1) rfl;have t2:=hr2.cell (i:=2) rfl;refine bodyPost_ret (v:=.agg #[.bool true,.slice A (dig x.num.natAbs).length c,.slice B (aG x).den.length d]) (by simp[results,Tryz.results40,go_sem,t0,t1,t2]) rfl ?_;refine⟨_,rfl,hB,?_⟩;unfold RtV;rw[HMM.out];obtain⟨_,_,hh,hn,hd⟩:=HX.out;cases hh
   exact AB.make rfl (hn.keep (fun b hb _=>hb.1) (Below.same' hB _)) (hd.keep (fun b hb _=>hb.1) (Below.same' hB _))
  ·go_enter Tryz.func40,Tryz.ntmps40;go_wp2
   obtain⟨W,hW,hr,hr2,hB,hz⟩:=alloc2 w 53 #[.bool false,.slice A (dig x.num.natAbs).length c,.slice B (aG x).den.length d] 53 #[.bool false,.slice A (dig x.num.natAbs).length c,.slice B (aG x).den.length d];rw[← hW];clear hW;have t0:=hr2.cell (i:=0) rfl;have t1:=hr2.cell (i:=1) rfl;have t2:=hr2.cell (i:=2) rfl;refine bodyPost_ret (v:=.agg #[.bool false,.slice A (dig x.num.natAbs).length c,.slice B (aG x).den.length d]) (by simp[results,Tryz.results40,go_sem,t0,t1,t2]) rfl ?_;refine⟨_,rfl,hB,?_⟩;unfold RtV;rw[HMM.out];obtain⟨_,_,hh,hn,hd⟩:=HX.out;cases hh
   exact AB.make rfl (hn.keep (fun b hb _=>hb.1) (Below.same' hB _)) (hd.keep (fun b hb _=>hb.1) (Below.same' hB _))
 ·have d0:decide (0 < (dig x.num.natAbs).length)=false:=decide_eq_false h0;have HMM:=Ac (show aG (-x)=⟨false,dig x.num.natAbs,dig x.den⟩ by rw[HM.out,d0]; simp);clear HM;cases ng
  ·go_enter Tryz.func40,Tryz.ntmps40;go_wp2
   obtain⟨W,hW,hr,hr2,hB,hz⟩:=alloc2 w 53 #[.bool false,.slice A (dig x.num.natAbs).length c,.slice B (aG x).den.length d] 53 #[.bool false,.slice A (dig x.num.natAbs).length c,.slice B (aG x).den.length d];rw[← hW];clear hW;have t0:=hr2.cell (i:=0) rfl;have t1:=hr2.cell (i:=1) rfl;have t2:=hr2.cell (i:=2) rfl;refine bodyPost_ret (v:=.agg #[.bool false,.slice A (dig x.num.natAbs).length c,.slice B (aG x).den.length d]) (by simp[results,Tryz.results40,go_sem,t0,t1,t2]) rfl ?_;refine⟨_,rfl,hB,?_⟩;unfold RtV;rw[HMM.out];obtain⟨_,_,hh,hn,hd⟩:=HX.out;cases hh
   exact AB.make rfl (hn.keep (fun b hb _=>hb.1) (Below.same' hB _)) (hd.keep (fun b hb _=>hb.1) (Below.same' hB _))
  ·go_enter Tryz.func40,Tryz.ntmps40;go_wp2
   obtain⟨W,hW,hr,hr2,hB,hz⟩:=alloc2 w 53 #[.bool false,.slice A (dig x.num.natAbs).length c,.slice B (aG x).den.length d] 53 #[.bool false,.slice A (dig x.num.natAbs).length c,.slice B (aG x).den.length d];rw[← hW];clear hW;have t0:=hr2.cell (i:=0) rfl;have t1:=hr2.cell (i:=1) rfl;have t2:=hr2.cell (i:=2) rfl;refine bodyPost_ret (v:=.agg #[.bool false,.slice A (dig x.num.natAbs).length c,.slice B (aG x).den.length d]) (by simp[results,Tryz.results40,go_sem,t0,t1,t2]) rfl ?_;refine⟨_,rfl,hB,?_⟩;unfold RtV;rw[HMM.out];obtain⟨_,_,hh,hn,hd⟩:=HX.out;cases hh
   exact AB.make rfl (hn.keep (fun b hb _=>hb.1) (Below.same' hB _)) (hd.keep (fun b hb _=>hb.1) (Below.same' hB _))
theorem qG (w:World) (n:Nat) (h2:n≤1000000000000) :
  Calls Tryz.prog 101 #[.int .i64 (n:Int)] w (Ret w fun v w'=>Ag w' (fun b=>w.heap.size≤b) v n):=by
 go_enter Tryz.func101,Tryz.ntmps101;go_wp2
 go_loopw [0,3] (fun u v wr=>∃ (m:Nat) (l:List Nat),u = .int .i64 (m:Int)∧m≤1000000000000∧l++dig m=dig n∧wr.ownsRow w.heap.size 115 1 v l.length (aP l)∧Below w.heap.size w wr) (fun u _ _=>(intOf u).natAbs)
 case atStart=>exact⟨n,[],rfl,h2,rfl,World.ownsRow_nil _ _ _ _,Below.refl _ _⟩
 case round =>
  obtain⟨m,l,rfl,hm2,hd,hown,hbel⟩:=hrel;have HD:=Ac hd;have HO:=Ac hown;have hll:l.length≤1000000:=by
   have h1:(dig n).length≤3:=bF (by unfold LB; omega);rw[← hd,List.length_append] at h1; omega
  clear hd hown;by_cases h0:m=0
  ·subst h0;go_wp2
   go_ret;refine⟨_,rfl,hbel,?_⟩;have h2:=HD.out;rw[aV,List.append_nil] at h2;unfold Ag; rw[← h2];exact l9 HO.out fun b hb=>(HO.out.lt b hb).1
  ·have hne:decide (0 < m)=true:=by simp; omega
   have HD2:=Ac (show l ++ [m % 1000000000]++dig (m / 1000000000)=dig n by rw[← HD.out,jX h0]; simp[LB]);obtain⟨r,hr⟩:∃ r:Nat,r=m % 1000000000:=⟨_,rfl⟩;obtain⟨m2,ahu⟩:∃ m2:Nat,m2=m / 1000000000:=⟨_,rfl⟩;rw[← hr,← ahu] at HD2;have hr9:r < 1000000000:=by omega
   have HLT:=Ac (show m2 < m by omega);have hm2b:m2≤1000000000000:=by omega
   have ht:(m:Int).tmod 1000000000=(r:Int):=by rw[hr]; rfl
   have hq:(m:Int).tdiv 1000000000=(m2:Int):=by rw[ahu]; rfl
   clear hr ahu h0;go_wp2_with (at_builtin; refine gG rfl _ _ 51 Tryz.underlying51 rfl w.heap.size (Nat.le_refl _) u3 l rfl _ r (by omega) hll rfl HO.out hbel ?_; intro g cap w' hown' gy hlt' nO; have HO':=Ac hown'; clear hown' nO)
   go_roundw
   case rel=>exact⟨m2,l ++ [r],by go_num,hm2b,HD2.out,by simpa using HO'.out,gy⟩
   case measure=>simp only[intOf]; have:=HLT.out; omega
theorem adY (w:World) (a b:Nat) (h1:a≤1000000000000) (h2:b≤1000000000000) :
  Calls Tryz.prog 100 #[.int .i64 (a:Int),.int .i64 (b:Int)] w (Ret w fun v _=>v = .int .i64 (Nat.gcd a b:Int)):=by
 go_enter Tryz.func100,Tryz.ntmps100;go_wp2
 go_loopw [0,1] (fun u v wr=>∃ (x y:Nat),u = .int .i64 (x:Int)∧v = .int .i64 (y:Int)∧x≤1000000000000∧y≤1000000000000∧Nat.gcd x y=Nat.gcd a b∧Below w.heap.size w wr) (fun _ v _=>(intOf v).natAbs)
 case atStart=>exact⟨a,b,rfl,rfl,h1,h2,rfl,Below.refl _ _⟩
 case round =>
  obtain⟨x,y,rfl,rfl,hx,hy,hg,hbel⟩:=hrel;have HG:=Ac hg; clear hg;by_cases h0:y=0
  ·subst h0;have hmx:(if -(x:Int) > (x:Int) then -(x:Int) else (x:Int))=(x:Int):=if_neg (by omega);have hnl:¬ ((x:Int) < -(x:Int)):=by omega
   go_wp2
   go_ret;refine⟨_,rfl,hbel,?_⟩;have:=HG.out;rw[Nat.gcd_zero_right] at this;rw[← this]; first | rfl | (rw[hmx]) | (simp[hnl])
  ·have hne:((y:Int) != 0)=true:=by simp; omega
   obtain⟨r,hr⟩:∃ r:Nat,r=x % y:=⟨_,rfl⟩;have ht:(x:Int).tmod (y:Int)=(r:Int):=by rw[hr]; rfl
   have hlt:r < y:=by rw[hr]; exact Nat.mod_lt _ (by omega)
   have HG2:=Ac (show Nat.gcd y r=Nat.gcd a b by rw[← HG.out,hr,Nat.gcd_comm x y,Nat.gcd_rec y x,Nat.gcd_comm]);clear hr;have hy0:(y:Int)≠0:=by omega
   go_wp2
   go_quiet (fail)
   go_wp2
   go_roundw
   case rel=>exact⟨y,r,rfl,by go_num,hy,by omega,HG2.out,aF hbel _⟩
   case measure=>simp only[intOf]; omega
theorem jS (neg:Bool) (n b:Nat) (hb:b≠0):aG (mkRat (sgI neg n) b)=⟨neg&&decide (n≠0),dig (n / Nat.gcd n b),dig (b / Nat.gcd n b)⟩:=by
 have h:=je (sgI neg n) hb;rw[mW] at h;unfold aG;rw[h.1,h.2.1,kK _ hb];by_cases h0:n=0
 ·subst h0; rw[xH]; simp
 ·rw[sW h0]; simp[h0]
theorem aad (w:World) (n b:Nat) (h1:n≤1000000000000) (h2:b≤1000000000000) (hb0:b≠0) :
  Calls Tryz.prog 64 #[.int .i64 (n:Int),.int .i64 (b:Int)] w (Ret w fun v w'=>RtV w' (fun b=>w.heap.size≤b) v (mkRat (sgI false n) b)):=by
 have HM:=Ac (jS false n b hb0);unfold RtV;rw[HM.out];clear HM;have hg0:0 < Nat.gcd n b:=Nat.gcd_pos_of_pos_right _ (by omega);have HGN:=Ac (Nat.gcd_dvd_left n b);have HG:=Ac (show ∀ w,Calls Tryz.prog 100 #[.int .i64 (n:Int),.int .i64 (b:Int)] w (Ret w fun v _=>v = .int .i64 (Nat.gcd n b:Int)) from fun w=>adY w n b h1 h2);generalize Nat.gcd n b=g at *;have e1:n / g≤n:=Nat.div_le_self _ _;have e2:b / g≤b:=Nat.div_le_self _ _;have t2:(b:Int).tdiv (g:Int)=((b / g:Nat):Int):=rfl;have hgz:(g:Int)≠0:=by omega
 have t1:(n:Int).tdiv (g:Int)=((n / g:Nat):Int):=rfl;have hbn:(false&&decide (n≠0))=false:=rfl;rw[hbn];have h1':n≤1000000000000:=h1;obtain⟨q,hq⟩:∃ q,q=n / g:=⟨_,rfl⟩;obtain⟨d,hd⟩:∃ d,d=b / g:=⟨_,rfl⟩;rw[← hq] at t1 e1 ⊢;rw[← hd] at t2 e2 ⊢;clear hq hd hbn;have hmx:(if -(n:Int) > (n:Int) then -(n:Int) else (n:Int))=(n:Int):=if_neg (by omega);have hnl:¬ ((n:Int) < -(n:Int)):=by omega
 have hlt:decide ((q:Int) < 0)=false:=decide_eq_false (by omega);go_enter Tryz.func64,Tryz.ntmps64;go_wp2_with fail
 obtain⟨W,hW,hr,hB,hz'⟩:=aH w 53 #[.bool false,.slice none 0 0,.slice none 0 0];rw[← hW];clear hW;have hz:w.heap.size+1≤W.heap.size:=by omega
 clear hz';try rw[hmx]
 refine(HG.out _).mono ?_;rintro e wn ⟨vn,rfl,hb,rfl⟩;replace hr:=hr.below hb hr.lt;replace hz:=Nat.le_trans hz hb.size;replace hB:=hB.trans (hb.mono hB.size);clear hb;dsimp only;go_wp2_with fail
 go_quiet (fail)
 have hb:Below wn.heap.size wn (wn.drewN nq):=aF (Below.refl _ wn) nq;replace hr:=hr.below hb hr.lt;replace hz:=Nat.le_trans hz hb.size;replace hB:=hB.trans (hb.mono hB.size);clear hb;generalize wn.drewN nq=wn at *;go_wp2_with fail
 refine(qG _ q (by omega)).mono ?_;rintro e wn ⟨vn,rfl,hb,hu⟩;have HN:=Ac (hu.mono (G:=(fun b=>w.heap.size+1≤b)) (fun b hb _=>by omega)); clear hu;replace hr:=hr.below hb hr.lt;replace hz:=Nat.le_trans hz hb.size;replace hB:=hB.trans (hb.mono hB.size);clear hb;dsimp only;go_wp2_with fail
 refine(qG _ d (by omega)).mono ?_;rintro e wn ⟨vd,rfl,hb,hu⟩;have HD:=Ac (hu.mono (G:=(fun b=>w.heap.size+1≤b)) (fun b hb _=>by omega)); clear hu;replace HN:=Ac (HN.out.below hb);replace hr:=hr.below hb hr.lt;replace hz:=Nat.le_trans hz hb.size;replace hB:=hB.trans (hb.mono hB.size);clear hb;have hn:=HN.out; have hd:=HD.out;obtain⟨Am,cm,rfl,_,_⟩:=hn;obtain⟨Bm,dm,rfl,_,_⟩:=hd;dsimp only;have q0:=hr.cell (i:=0) rfl;have y0:=hr.frozen 0;have q1:=hr.cell (i:=1) rfl;have y1:=hr.frozen 1;have q2:=hr.cell (i:=2) rfl;have y2:=hr.frozen 2;go_wp2
 obtain⟨Wz,hWz,hrz,hwz,hkz⟩:=bJ hr (.bool false) (.slice Am (dig q).length cm) (.slice Bm (dig d).length dm);rw[← hWz];clear hWz q0 q1 q2 y0 y1 y2;have t0:=hrz.cell (i:=0) rfl;have t1:=hrz.cell (i:=1) rfl;have t2:=hrz.cell (i:=2) rfl;refine bodyPost_ret (v:=.agg #[.bool false,.slice Am (dig q).length cm,.slice Bm (dig d).length dm]) (by simp[results,Tryz.results64,go_sem,t0,t1,t2]) rfl ?_;exact⟨_,rfl,hwz _ _ (Nat.le_refl _) hB,_,_,rfl,(HN.out.on (hkz _ (by omega))).mono (fun b hb _=>by omega),(HD.out.on (hkz _ (by omega))).mono (fun b hb _=>by omega)⟩
theorem aez (w:World) (n b:Nat) (h1:n≤1000000000000) (h2:b≤1000000000000) (hb0:b≠0) (hn0:n≠0) :
  Calls Tryz.prog 64 #[.int .i64 (-(n:Int)),.int .i64 (b:Int)] w (Ret w fun v w'=>RtV w' (fun b=>w.heap.size≤b) v (mkRat (sgI true n) b)):=by
 have HM:=Ac (jS true n b hb0);unfold RtV;rw[HM.out];clear HM;have hg0:0 < Nat.gcd n b:=Nat.gcd_pos_of_pos_right _ (by omega);have HGN:=Ac (Nat.gcd_dvd_left n b);have HG:=Ac (show ∀ w,Calls Tryz.prog 100 #[.int .i64 (n:Int),.int .i64 (b:Int)] w (Ret w fun v _=>v = .int .i64 (Nat.gcd n b:Int)) from fun w=>adY w n b h1 h2);generalize Nat.gcd n b=g at *;have e1:n / g≤n:=Nat.div_le_self _ _;have e2:b / g≤b:=Nat.div_le_self _ _;have t2:(b:Int).tdiv (g:Int)=((b / g:Nat):Int):=rfl;have hgz:(g:Int)≠0:=by omega
 have t1:(-(n:Int)).tdiv (g:Int) = -((n / g:Nat):Int):=by rw[Int.neg_tdiv]; rfl
 have hq0:0 < n / g:=Nat.div_pos (Nat.le_of_dvd (by omega) HGN.out) hg0;have hbn:(true&&decide (n≠0))=true:=by simp[hn0]
 rw[hbn];have h1':n≤1000000000000:=h1;obtain⟨q,hq⟩:∃ q,q=n / g:=⟨_,rfl⟩;obtain⟨d,hd⟩:∃ d,d=b / g:=⟨_,rfl⟩;rw[← hq] at t1 e1 ⊢;rw[← hd] at t2 e2 ⊢;rw[← hq] at hq0;clear hq hd hbn;have hmx:(if - -(n:Int) > -(n:Int) then - -(n:Int) else -(n:Int))=(n:Int):=by rw[if_pos (by omega)]; omega
 have hnl:(-(n:Int) < - -(n:Int)):=by omega
 have zF:(-(n:Int) < (n:Int)):=by omega
 have hlt:decide (-(q:Int) < 0)=true:=decide_eq_true (by omega);have hlt2:decide (0 < q)=true:=decide_eq_true hq0;go_enter Tryz.func64,Tryz.ntmps64;go_wp2_with fail
 obtain⟨W,hW,hr,hB,hz'⟩:=aH w 53 #[.bool false,.slice none 0 0,.slice none 0 0];rw[← hW];clear hW;have hz:w.heap.size+1≤W.heap.size:=by omega
 clear hz';try rw[hmx]
 refine(HG.out _).mono ?_;rintro e wn ⟨vn,rfl,hb,rfl⟩;replace hr:=hr.below hb hr.lt;replace hz:=Nat.le_trans hz hb.size;replace hB:=hB.trans (hb.mono hB.size);clear hb;dsimp only;go_wp2_with fail
 go_quiet (fail)
 have hb:Below wn.heap.size wn (wn.drewN nq):=aF (Below.refl _ wn) nq;replace hr:=hr.below hb hr.lt;replace hz:=Nat.le_trans hz hb.size;replace hB:=hB.trans (hb.mono hB.size);clear hb;generalize wn.drewN nq=wn at *;go_wp2_with fail
 refine(qG _ q (by omega)).mono ?_;rintro e wn ⟨vn,rfl,hb,hu⟩;have HN:=Ac (hu.mono (G:=(fun b=>w.heap.size+1≤b)) (fun b hb _=>by omega)); clear hu;replace hr:=hr.below hb hr.lt;replace hz:=Nat.le_trans hz hb.size;replace hB:=hB.trans (hb.mono hB.size);clear hb;dsimp only;go_wp2_with fail
 refine(qG _ d (by omega)).mono ?_;rintro e wn ⟨vd,rfl,hb,hu⟩;have HD:=Ac (hu.mono (G:=(fun b=>w.heap.size+1≤b)) (fun b hb _=>by omega)); clear hu;replace HN:=Ac (HN.out.below hb);replace hr:=hr.below hb hr.lt;replace hz:=Nat.le_trans hz hb.size;replace hB:=hB.trans (hb.mono hB.size);clear hb;have hn:=HN.out; have hd:=HD.out;obtain⟨Am,cm,rfl,_,_⟩:=hn;obtain⟨Bm,dm,rfl,_,_⟩:=hd;dsimp only;have q0:=hr.cell (i:=0) rfl;have y0:=hr.frozen 0;have q1:=hr.cell (i:=1) rfl;have y1:=hr.frozen 1;have q2:=hr.cell (i:=2) rfl;have y2:=hr.frozen 2;go_wp2
 obtain⟨Wz,hWz,hrz,hwz,hkz⟩:=bJ hr (.bool true) (.slice Am (dig q).length cm) (.slice Bm (dig d).length dm);rw[← hWz];clear hWz q0 q1 q2 y0 y1 y2;have t0:=hrz.cell (i:=0) rfl;have t1:=hrz.cell (i:=1) rfl;have t2:=hrz.cell (i:=2) rfl;refine bodyPost_ret (v:=.agg #[.bool true,.slice Am (dig q).length cm,.slice Bm (dig d).length dm]) (by simp[results,Tryz.results64,go_sem,t0,t1,t2]) rfl ?_;exact⟨_,rfl,hwz _ _ (Nat.le_refl _) hB,_,_,rfl,(HN.out.on (hkz _ (by omega))).mono (fun b hb _=>by omega),(HD.out.on (hkz _ (by omega))).mono (fun b hb _=>by omega)⟩
theorem uQ (w:World) (a:Int) (b:Nat) (h1:-1000000000000≤a) (h2:a≤1000000000000) (h3:b≤1000000000000) (hb0:b≠0) :
  Calls Tryz.prog 64 #[.int .i64 a,.int .i64 (b:Int)] w (Ret w fun v w'=>RtV w' (fun b=>w.heap.size≤b) v (mkRat a b)):=by
 obtain⟨n,rfl | rfl⟩:=Int.eq_nat_or_neg a
 ·have:=aad w n b (by omega) h3 hb0;simpa [sgI] using this
 ·by_cases h0:n=0
  ·subst h0;have:=aad w 0 b (by omega) h3 hb0;simpa [sgI] using this
  ·have:=aez w n b (by omega) h3 hb0 h0;simpa [sgI] using this
theorem yD (w:World) (a:Int) (b:Nat) (h1:-1000000000000≤a) (h2:a≤1000000000000) (h3:b≤1000000000000) (hb0:b≠0) :
  Calls Tryz.prog 32 #[.int .i64 a,.int .i64 (b:Int)] w (Ret w fun v w'=>RtV w' (fun b=>w.heap.size≤b) v (mkRat a b)):=by
 have HR:=Ac (fun w=>uQ w a b h1 h2 h3 hb0);generalize mkRat a b=x at *;go_enter Tryz.func32,Tryz.ntmps32;go_wp2_with fail
 obtain⟨W,hW,hr,hB,hz'⟩:=aH w 53 #[.bool false,.slice none 0 0,.slice none 0 0];rw[← hW];clear hW;have hz:w.heap.size+1≤W.heap.size:=by omega
 clear hz';refine(HR.out _).mono ?_;rintro e wn ⟨vm,rfl,hb,hu⟩;have hu2:RtV wn (fun b=>w.heap.size+1≤b) vm x:=hu.mono (fun b hb _=>by omega);have HM:=Ac hu2;obtain⟨Am,cm,Bm,dm,rfl,hn,hd⟩:=hu2.open;clear hn hd hu hu2;replace hr:=hr.below hb hr.lt;replace hz:=Nat.le_trans hz hb.size;replace hB:=hB.trans (hb.mono hB.size);clear hb;dsimp only;have q0:=hr.cell (i:=0) rfl;have y0:=hr.frozen 0;have q1:=hr.cell (i:=1) rfl;have y1:=hr.frozen 1;have q2:=hr.cell (i:=2) rfl;have y2:=hr.frozen 2;go_wp2
 obtain⟨Wz,hWz,hrz,hwz,hkz⟩:=bJ hr (.bool (aG x).neg) (.slice Am (aG x).num.length cm) (.slice Bm (aG x).den.length dm);rw[← hWz];clear hWz q0 q1 q2 y0 y1 y2;have t0:=hrz.cell (i:=0) rfl;have t1:=hrz.cell (i:=1) rfl;have t2:=hrz.cell (i:=2) rfl;refine bodyPost_ret (v:=.agg #[.bool (aG x).neg,.slice Am (aG x).num.length cm,.slice Bm (aG x).den.length dm]) (by simp[results,Tryz.results32,go_sem,t0,t1,t2]) rfl ?_;exact⟨_,rfl,hwz _ _ (Nat.le_refl _) hB,(HM.out.on (hkz _ (by omega))).mono (fun b hb _=>by omega)⟩
theorem Tryz.infoRatT:(Tryz.prog.info? 53).map (fun i=>(i.zero,i.size,i.bytes))=some (some (.agg #[.bool false,.slice none 0 0,.slice none 0 0]),3,56):=by kernel_rfl
theorem eG (w:World) (F:Ae) (v:Value) (l:List Int) (b:Nat) (hv:Ak w F v l) (hl:l.length≤1000) (hx:∀ x∈l,-1000000000000≤x∧x≤1000000000000) (h3:b≤1000000000000) (hb0:b≠0) :
  Calls Tryz.prog 31 #[.int .i64 (b:Int),v] w (Ret w fun v w'=>Bg w' (fun b=>w.heap.size≤b) v (l.map fun x=>mkRat x b)):=by
 have HV:=Ac hv;obtain⟨A,c,rfl,hc,hr⟩:=hv;have HR:=Ac hr; have HX:=Ac hx;clear hr hx;go_enter Tryz.func31,Tryz.ntmps31;go_wp2
 go_loopw [5,6] (fun u i wr=>∃ (k:Nat) (L:List RV),k≤l.length∧i = .int .i64 (k:Int)∧L.length=k∧L.map RV.r=((l.take k).map fun x=>aG (mkRat x b))∧AQ wr w.heap.size 53 (fun b=>w.heap.size≤b) u L∧Below w.heap.size w wr) (fun _ i _=>l.length - (intOf i).toNat)
 case atStart=>exact⟨0,[],by omega,rfl,rfl,rfl,AQ.nil _ _ _ _,Below.refl _ _⟩
 case round =>
  obtain⟨k,L,hk,rfl,hLl,hLr,hown,hbel⟩:=hrel;have HO:=Ac hown; have HL:=Ac hLr;have HLL:=Ac hLl;clear hown hLr hLl;by_cases hlt:k < l.length
  ·obtain⟨bb,o,rfl,_,hb',hcell⟩:=HR.out (by omega);obtain⟨x,hxk⟩:=aB hlt;have e1:=hcell k x hxk;unfold lg at e1;rw[Nat.mul_one] at e1;have hxb:=HX.out x (List.mem_of_getElem? hxk);have HXK:=Ac hxk;have hold:=aK hbel;clear hcell hxk;have hz:=hbel.size;go_wp2_with fail
   refine(yD wr x b hxb.1 hxb.2 h3 hb0).mono ?_;rintro e w2 ⟨vm,rfl,hb2,hu⟩;obtain⟨q,hq,rfl,hqf⟩:=AB.rv hu;have lN:=hbel.trans (hb2.mono hbel.size);have HO2:=Ac (HO.out.below hb2);have HF:=Ac (show q.fine w2 (Apart (fun b=>w.heap.size≤b) u5) from hqf.keep (fun b hb _=>⟨by omega,fun e=>by have:=(HO.out.row.lt b e).2; omega⟩) (Same.refl _ _));have HQ:=Ac hq;clear hqf hu hq hb2 hold hbel;dsimp only[RV.cells];go_wp2_with (at_builtin; refine nD (F:=fun b=>w.heap.size≤b) rfl _ _ 30 53 Tryz.underlying30 Tryz.infoRatT rfl w.heap.size (Nat.le_refl _) u5 L rfl q (by have:=HLL.out; omega) rfl HO2.out HF.out lN ?_; intro g cap w' hown' gy hlt'; have HO':=Ac hown'; clear hown')
   go_roundw
   case rel=>exact⟨k+1,L ++ [q],by omega,by go_num,by rw[List.length_append,HLL.out]; rfl,by rw[List.map_append,HL.out,take_snoc HXK.out,List.map_append,List.map_cons,List.map_nil,HQ.out]; rfl,HO'.out,gy⟩
   case measure=>simp[intOf]; omega
  ·go_wp2
   go_ret;refine⟨_,rfl,hbel,?_⟩;have h5:=HO.out.tK (G:=fun b=>w.heap.size≤b) (fun b hb=>hb) (fun b hb=>hb);rw[HL.out,List.take_of_length_le (by omega)] at h5;unfold Bg;rw[List.map_map];exact h5
def jT:List (List Rat):=[[1,1].map fun x=>mkRat x 2,[1,1].map fun x=>mkRat x 2,[1,1,1].map fun x=>mkRat x 3]
theorem Row.lJ {w:World} {b:Nat} {l:List Int} (h:Row w b 3 (l.map (Value.int .i64))) {F:Ae} (hF:F b):Ak w F (.slice (some ⟨b,0,none⟩) l.length l.length) l:=by
 refine⟨_,_,rfl,Nat.le_refl _,fun _=>⟨b,0,rfl,hF,h.lt,fun k x hk=>?_⟩⟩;unfold lg;rw[Nat.zero_add,Nat.mul_one];exact h.cell (by rw[List.getElem?_map,hk]; rfl)
theorem ahd {w:World} {F:Ae} {b:Nat} {v1 v2 v3:Value} {l1 l2 l3:List Raw} (h:Row w b 30 [v1,v2,v3]) (hF:F b) (h1:Af w F v1 l1) (h2:Af w F v2 l2) (h3:Af w F v3 l3):Aj w F (.slice (some ⟨b,0,none⟩) 3 3) [l1,l2,l3]:=by
 refine⟨_,_,rfl,Nat.le_refl _,fun _=>⟨b,0,rfl,hF,h.lt,fun k x hk=>?_⟩⟩;rw[Nat.zero_add,Nat.mul_one];match k,hk with
 | 0,hk=>cases hk; exact⟨v1,h.cell rfl,h1⟩
 | 1,hk=>cases hk; exact⟨v2,h.cell rfl,h2⟩
 | 2,hk=>cases hk; exact⟨v3,h.cell rfl,h3⟩
theorem pU (w:World):Calls Tryz.prog 30 #[] w (Ret w fun v w'=>AO w' (fun b=>w.heap.size≤b) v jT):=by
 go_enter Tryz.func30,Tryz.ntmps30;have hB:=Below.refl w.heap.size w;go_wp2_with fail
 obtain⟨wa0,hwa,hr,hb,hz'⟩:=aH w 3 #[.int .i64 1,.int .i64 1];rw[← hwa];have hi:=Row.lJ (l:=[1,1]) (F:=fun _=>True) hr trivial;clear hwa hr;replace hB:=hB.trans (hb.mono hB.size);have hz0:=hB.size;clear hb;refine(eG wa0 _ _ [1,1] 2 hi (by decide) (by decide) (by decide) (by decide)).mono ?_;rintro e wb0 ⟨v0,rfl,hb,hu⟩;have H0:=Ac (hu.keep (G:=fun b=>w.heap.size≤b) (fun b hb _=>by omega) (Same.refl _ _));clear hu hi;replace hB:=hB.trans (hb.mono hB.size);clear hb;dsimp only;go_wp2_with fail
 obtain⟨wa1,hwa,hr,hb,hz'⟩:=aH wb0 3 #[.int .i64 1,.int .i64 1];rw[← hwa];have hi:=Row.lJ (l:=[1,1]) (F:=fun _=>True) hr trivial;clear hwa hr;replace H0:=Ac (Af.on H0.out (Below.same' hb _));replace hB:=hB.trans (hb.mono hB.size);have hz1:=hB.size;clear hb;refine(eG wa1 _ _ [1,1] 2 hi (by decide) (by decide) (by decide) (by decide)).mono ?_;rintro e wb1 ⟨v1,rfl,hb,hu⟩;have H1:=Ac (hu.keep (G:=fun b=>w.heap.size≤b) (fun b hb _=>by omega) (Same.refl _ _));clear hu hi;replace H0:=Ac (Af.on H0.out (Below.same' hb _));replace hB:=hB.trans (hb.mono hB.size);clear hb;dsimp only;go_wp2_with fail
 obtain⟨wa2,hwa,hr,hb,hz'⟩:=aH wb1 3 #[.int .i64 1,.int .i64 1,.int .i64 1];rw[← hwa];have hi:=Row.lJ (l:=[1,1,1]) (F:=fun _=>True) hr trivial;clear hwa hr;replace H0:=Ac (Af.on H0.out (Below.same' hb _));replace H1:=Ac (Af.on H1.out (Below.same' hb _));replace hB:=hB.trans (hb.mono hB.size);have hz2:=hB.size;clear hb;refine(eG wa2 _ _ [1,1,1] 3 hi (by decide) (by decide) (by decide) (by decide)).mono ?_;rintro e wb2 ⟨v2,rfl,hb,hu⟩;have H2:=Ac (hu.keep (G:=fun b=>w.heap.size≤b) (fun b hb _=>by omega) (Same.refl _ _));clear hu hi;replace H0:=Ac (Af.on H0.out (Below.same' hb _));replace H1:=Ac (Af.on H1.out (Below.same' hb _));replace hB:=hB.trans (hb.mono hB.size);clear hb;dsimp only;have c0:=H0.out; have c1:=H1.out; have c2:=H2.out;obtain⟨A0,d0,rfl,_,_⟩:=c0;obtain⟨A1,d1,rfl,_,_⟩:=c1;obtain⟨A2,d2,rfl,_,_⟩:=c2;have hzz:=hB.size;go_wp2
 refine bodyPost_ret (v:=.slice (some ⟨wb2.heap.size,0,none⟩) 3 3) (by simp[results,Tryz.results30,go_sem]) rfl ?_;generalize hwa:World.alloc _ _=wz;obtain⟨wz',hwz,hr,hb,hz'⟩:=aH wb2 30 #[.slice A0 2 d0,.slice A1 2 d1,.slice A2 3 d2];have hww:wz=wz':=by rw[← hwa,hwz]
 rw[hww];refine⟨_,rfl,hB.trans (hb.mono hB.size),?_⟩;exact ahd hr hzz (Af.on H0.out (Below.same' hb _)) (Af.on H1.out (Below.same' hb _)) (Af.on H2.out (Below.same' hb _))
end Go.Proofs.YtkcheepafifjaaaGreatDoor
