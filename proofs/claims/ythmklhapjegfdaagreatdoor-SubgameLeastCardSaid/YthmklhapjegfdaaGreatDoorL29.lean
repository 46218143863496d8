/- The reference's long division: parlourref01.Over. -/
import Derived.Test.YthmklhapjegfdaaGreatDoorL27
import Derived.Test.YthmklhapjegfdaaGreatDoorL20
import Derived.BigQuiet
set_option linter.all false
set_option maxRecDepth 100000
set_option maxHeartbeats 12800000
namespace Go.Proofs.YthmklhapjegfdaaGreatDoor
open Lib renaming hid → Aa
open Go.RowKit
theorem sN (w:World) (n:Nat) (h2:n≤1000000000000) :
  Calls Tryz.prog 144 #[.int .i64 (n:Int)] w (Ret w fun v w'=>Ag w' (fun b=>w.heap.size≤b) v n):=by
 go_enter Tryz.func144,Tryz.ntmps144;go_wp2
 go_loopw [0,3] (fun u v wr=>∃ (m:Nat) (l:List Nat),u = .int .i64 (m:Int)∧m≤1000000000000∧l++dig m=dig n∧wr.ownsRow w.heap.size 166 1 v l.length (aQ l)∧Below w.heap.size w wr) (fun u _ _=>(intOf u).natAbs)
 case atStart=>exact⟨n,[],rfl,h2,rfl,World.ownsRow_nil _ _ _ _,Below.refl _ _⟩
 case round =>
  obtain⟨m,l,rfl,hm2,hd,hown,hbel⟩:=hrel;have HD:=Aa hd;have HO:=Aa hown;have hll:l.length≤1000000:=by
   have h1:(dig n).length≤3:=dH (by unfold LB; omega);rw[← hd,List.length_append] at h1; omega
  clear hd hown;by_cases h0:m=0
  ·subst h0;go_wp2
   go_ret;refine⟨_,rfl,hbel,?_⟩;have h2:=HD.out;rw[aY,List.append_nil] at h2;unfold Ag; rw[← h2];exact nD HO.out fun b hb=>(HO.out.lt b hb).1
  ·have hne:decide (0 < m)=true:=by simp; omega
   have HD2:=Aa (show l ++ [m % 1000000000]++dig (m / 1000000000)=dig n by rw[← HD.out,kG h0]; simp[LB]);obtain⟨r,hr⟩:∃ r:Nat,r=m % 1000000000:=⟨_,rfl⟩;obtain⟨m2,ajQ⟩:∃ m2:Nat,m2=m / 1000000000:=⟨_,rfl⟩;rw[← hr,← ajQ] at HD2;have hr9:r < 1000000000:=by omega
   have HLT:=Aa (show m2 < m by omega);have hm2b:m2≤1000000000000:=by omega
   have ht:(m:Int).tmod 1000000000=(r:Int):=by rw[hr]; rfl
   have hq:(m:Int).tdiv 1000000000=(m2:Int):=by rw[ajQ]; rfl
   clear hr ajQ h0;go_wp2_with (at_builtin; refine gW rfl _ _ 81 Tryz.underlying81 rfl w.heap.size (Nat.le_refl _) u3 l rfl _ r (by omega) hll rfl HO.out hbel ?_; intro g cap w' hown' jy hlt' oO; have HO':=Aa hown'; clear hown' oO)
   go_roundw
   case rel=>exact⟨m2,l ++ [r],by go_num,hm2b,HD2.out,by simpa using HO'.out,jy⟩
   case measure=>simp only[intOf]; have:=HLT.out; omega
theorem afR (w:World) (a b:Nat) (h1:a≤1000000000000) (h2:b≤1000000000000) :
  Calls Tryz.prog 143 #[.int .i64 (a:Int),.int .i64 (b:Int)] w (Ret w fun v _=>v = .int .i64 (Nat.gcd a b:Int)):=by
 go_enter Tryz.func143,Tryz.ntmps143;go_wp2
 go_loopw [0,1] (fun u v wr=>∃ (x y:Nat),u = .int .i64 (x:Int)∧v = .int .i64 (y:Int)∧x≤1000000000000∧y≤1000000000000∧Nat.gcd x y=Nat.gcd a b∧Below w.heap.size w wr) (fun _ v _=>(intOf v).natAbs)
 case atStart=>exact⟨a,b,rfl,rfl,h1,h2,rfl,Below.refl _ _⟩
 case round =>
  obtain⟨x,y,rfl,rfl,hx,hy,hg,hbel⟩:=hrel;have HG:=Aa hg; clear hg;by_cases h0:y=0
  ·subst h0;have hmx:(if -(x:Int) > (x:Int) then -(x:Int) else (x:Int))=(x:Int):=if_neg (by omega);have hnl:¬ ((x:Int) < -(x:Int)):=by omega
   go_wp2
   go_ret;refine⟨_,rfl,hbel,?_⟩;have:=HG.out;rw[Nat.gcd_zero_right] at this;rw[← this]; first | rfl | (rw[hmx]) | (simp[hnl])
  ·have hne:((y:Int) != 0)=true:=by simp; omega
   obtain⟨r,hr⟩:∃ r:Nat,r=x % y:=⟨_,rfl⟩;have ht:(x:Int).tmod (y:Int)=(r:Int):=by rw[hr]; rfl
   have hlt:r < y:=by rw[hr]; exact Nat.mod_lt _ (by omega)
   have HG2:=Aa (show Nat.gcd y r=Nat.gcd a b by rw[← HG.out,hr,Nat.gcd_comm x y,Nat.gcd_rec y x,Nat.gcd_comm]);clear hr;have hy0:(y:Int)≠0:=by omega
   go_wp2
   go_quiet (fail)
   go_wp2
   go_roundw
   case rel=>exact⟨y,r,rfl,by go_num,hy,by omega,HG2.out,aG hbel _⟩
   case measure=>simp only[intOf]; omega
theorem oI (neg:Bool) (n b:Nat) (hb:b≠0):aK (mkRat (sgI neg n) b)=⟨neg&&decide (n≠0),dig (n / Nat.gcd n b),dig (b / Nat.gcd n b)⟩:=by
 have h:=lQ (sgI neg n) hb;rw[nX] at h;unfold aK;rw[h.1,h.2.1,ny _ hb];by_cases h0:n=0
 ·subst h0; rw[zD]; simp
 ·rw[vI h0]; simp[h0]
theorem abI (w:World) (n b:Nat) (h1:n≤1000000000000) (h2:b≤1000000000000) (hb0:b≠0) :
  Calls Tryz.prog 89 #[.int .i64 (n:Int),.int .i64 (b:Int)] w (Ret w fun v w'=>RtV w' (fun b=>w.heap.size≤b) v (mkRat (sgI false n) b)):=by
 have HM:=Aa (oI false n b hb0);unfold RtV;rw[HM.out];clear HM;have hg0:0 < Nat.gcd n b:=Nat.gcd_pos_of_pos_right _ (by omega);have HGN:=Aa (Nat.gcd_dvd_left n b);have HG:=Aa (show ∀ w,Calls Tryz.prog 143 #[.int .i64 (n:Int),.int .i64 (b:Int)] w (Ret w fun v _=>v = .int .i64 (Nat.gcd n b:Int)) from fun w=>afR w n b h1 h2);generalize Nat.gcd n b=g at *;have e1:n / g≤n:=Nat.div_le_self _ _;have e2:b / g≤b:=Nat.div_le_self _ _;have t2:(b:Int).tdiv (g:Int)=((b / g:Nat):Int):=rfl;have hgz:(g:Int)≠0:=by omega
 have t1:(n:Int).tdiv (g:Int)=((n / g:Nat):Int):=rfl;have hbn:(false&&decide (n≠0))=false:=rfl;rw[hbn];have h1':n≤1000000000000:=h1;obtain⟨q,hq⟩:∃ q,q=n / g:=⟨_,rfl⟩;obtain⟨d,hd⟩:∃ d,d=b / g:=⟨_,rfl⟩;rw[← hq] at t1 e1 ⊢;rw[← hd] at t2 e2 ⊢;clear hq hd hbn;have hmx:(if -(n:Int) > (n:Int) then -(n:Int) else (n:Int))=(n:Int):=if_neg (by omega);have hnl:¬ ((n:Int) < -(n:Int)):=by omega
 have hlt:decide ((q:Int) < 0)=false:=decide_eq_false (by omega);go_enter Tryz.func89,Tryz.ntmps89;go_wp2_with fail
 obtain⟨W,hW,hr,hB,hz'⟩:=aJ w 83 #[.bool false,.slice none 0 0,.slice none 0 0];rw[← hW];clear hW;have hz:w.heap.size+1≤W.heap.size:=by omega
 clear hz';try rw[hmx]
 refine(HG.out _).mono ?_;rintro e wn ⟨vn,rfl,hb,rfl⟩;replace hr:=hr.below hb hr.lt;replace hz:=Nat.le_trans hz hb.size;replace hB:=hB.trans (hb.mono hB.size);clear hb;dsimp only;go_wp2_with fail
 go_quiet (fail)
 have hb:Below wn.heap.size wn (wn.drewN nq):=aG (Below.refl _ wn) nq;replace hr:=hr.below hb hr.lt;replace hz:=Nat.le_trans hz hb.size;replace hB:=hB.trans (hb.mono hB.size);clear hb;generalize wn.drewN nq=wn at *;go_wp2_with fail
 refine(sN _ q (by omega)).mono ?_;rintro e wn ⟨vn,rfl,hb,hu⟩;have HN:=Aa (hu.mono (G:=(fun b=>w.heap.size+1≤b)) (fun b hb _=>by omega)); clear hu;replace hr:=hr.below hb hr.lt;replace hz:=Nat.le_trans hz hb.size;replace hB:=hB.trans (hb.mono hB.size);clear hb;dsimp only;go_wp2_with fail
 refine(sN _ d (by omega)).mono ?_;rintro e wn ⟨vd,rfl,hb,hu⟩;have HD:=Aa (hu.mono (G:=(fun b=>w.heap.size+1≤b)) (fun b hb _=>by omega)); clear hu;replace HN:=Aa (HN.out.below hb);replace hr:=hr.below hb hr.lt;replace hz:=Nat.le_trans hz hb.size;replace hB:=hB.trans (hb.mono hB.size);clear hb;have hn:=HN.out; have hd:=HD.out;obtain⟨Am,cm,rfl,_,_⟩:=hn;obtain⟨Bm,dm,rfl,_,_⟩:=hd;dsimp only;have q0:=hr.cell (i:=0) rfl;have y0:=hr.frozen 0;have q1:=hr.cell (i:=1) rfl;have y1:=hr.frozen 1;have q2:=hr.cell (i:=2) rfl;have y2:=hr.frozen 2;go_wp2
 obtain⟨Wz,hWz,hrz,hwz,hkz⟩:=gX hr (.bool false) (.slice Am (dig q).length cm) (.slice Bm (dig d).length dm);rw[← hWz];clear hWz q0 q1 q2 y0 y1 y2;have t0:=hrz.cell (i:=0) rfl;have t1:=hrz.cell (i:=1) rfl;have t2:=hrz.cell (i:=2) rfl;refine bodyPost_ret (v:=.agg #[.bool false,.slice Am (dig q).length cm,.slice Bm (dig d).length dm]) (by simp[results,Tryz.results89,go_sem,t0,t1,t2]) rfl ?_;exact⟨_,rfl,hwz _ _ (Nat.le_refl _) hB,_,_,rfl,(HN.out.on (hkz _ (by omega))).mono (fun b hb _=>by omega),(HD.out.on (hkz _ (by omega))).mono (fun b hb _=>by omega)⟩
theorem agz (w:World) (n b:Nat) (h1:n≤1000000000000) (h2:b≤1000000000000) (hb0:b≠0) (hn0:n≠0) :
  Calls Tryz.prog 89 #[.int .i64 (-(n:Int)),.int .i64 (b:Int)] w (Ret w fun v w'=>RtV w' (fun b=>w.heap.size≤b) v (mkRat (sgI true n) b)):=by
 have HM:=Aa (oI true n b hb0);unfold RtV;rw[HM.out];clear HM;have hg0:0 < Nat.gcd n b:=Nat.gcd_pos_of_pos_right _ (by omega);have HGN:=Aa (Nat.gcd_dvd_left n b);have HG:=Aa (show ∀ w,Calls Tryz.prog 143 #[.int .i64 (n:Int),.int .i64 (b:Int)] w (Ret w fun v _=>v = .int .i64 (Nat.gcd n b:Int)) from fun w=>afR w n b h1 h2);generalize Nat.gcd n b=g at *;have e1:n / g≤n:=Nat.div_le_self _ _;have e2:b / g≤b:=Nat.div_le_self _ _;have t2:(b:Int).tdiv (g:Int)=((b / g:Nat):Int):=rfl;have hgz:(g:Int)≠0:=by omega
 have t1:(-(n:Int)).tdiv (g:Int) = -((n / g:Nat):Int):=by rw[Int.neg_tdiv]; rfl
 have hq0:0 < n / g:=Nat.div_pos (Nat.le_of_dvd (by omega) HGN.out) hg0;have hbn:(true&&decide (n≠0))=true:=by simp[hn0]
 rw[hbn];have h1':n≤1000000000000:=h1;obtain⟨q,hq⟩:∃ q,q=n / g:=⟨_,rfl⟩;obtain⟨d,hd⟩:∃ d,d=b / g:=⟨_,rfl⟩;rw[← hq] at t1 e1 ⊢;rw[← hd] at t2 e2 ⊢;rw[← hq] at hq0;clear hq hd hbn;have hmx:(if - -(n:Int) > -(n:Int) then - -(n:Int) else -(n:Int))=(n:Int):=by rw[if_pos (by omega)]; omega
 have hnl:(-(n:Int) < - -(n:Int)):=by omega
 have abe:(-(n:Int) < (n:Int)):=by omega
 have hlt:decide (-(q:Int) < 0)=true:=decide_eq_true (by omega);have hlt2:decide (0 < q)=true:=decide_eq_true hq0;go_enter Tryz.func89,Tryz.ntmps89;go_wp2_with fail
 obtain⟨W,hW,hr,hB,hz'⟩:=aJ w 83 #[.bool false,.slice none 0 0,.slice none 0 0];rw[← hW];clear hW;have hz:w.heap.size+1≤W.heap.size:=by omega
 clear hz';try rw[hmx]
 refine(HG.out _).mono ?_;rintro e wn ⟨vn,rfl,hb,rfl⟩;replace hr:=hr.below hb hr.lt;replace hz:=Nat.le_trans hz hb.size;replace hB:=hB.trans (hb.mono hB.size);clear hb;dsimp only;go_wp2_with fail
 go_quiet (fail)
 have hb:Below wn.heap.size wn (wn.drewN nq):=aG (Below.refl _ wn) nq;replace hr:=hr.below hb hr.lt;replace hz:=Nat.le_trans hz hb.size;replace hB:=hB.trans (hb.mono hB.size);clear hb;generalize wn.drewN nq=wn at *;go_wp2_with fail
 refine(sN _ q (by omega)).mono ?_;rintro e wn ⟨vn,rfl,hb,hu⟩;have HN:=Aa (hu.mono (G:=(fun b=>w.heap.size+1≤b)) (fun b hb _=>by omega)); clear hu;replace hr:=hr.below hb hr.lt;replace hz:=Nat.le_trans hz hb.size;replace hB:=hB.trans (hb.mono hB.size);clear hb;dsimp only;go_wp2_with fail
 refine(sN _ d (by omega)).mono ?_;rintro e wn ⟨vd,rfl,hb,hu⟩;have HD:=Aa (hu.mono (G:=(fun b=>w.heap.size+1≤b)) (fun b hb _=>by omega)); clear hu;replace HN:=Aa (HN.out.below hb);replace hr:=hr.below hb hr.lt;replace hz:=Nat.le_trans hz hb.size;replace hB:=hB.trans (hb.mono hB.size);clear hb;have hn:=HN.out; have hd:=HD.out;obtain⟨Am,cm,rfl,_,_⟩:=hn;obtain⟨Bm,dm,rfl,_,_⟩:=hd;dsimp only;have q0:=hr.cell (i:=0) rfl;have y0:=hr.frozen 0;have q1:=hr.cell (i:=1) rfl;have y1:=hr.frozen 1;have q2:=hr.cell (i:=2) rfl;have y2:=hr.frozen 2;go_wp2
 obtain⟨Wz,hWz,hrz,hwz,hkz⟩:=gX hr (.bool true) (.slice Am (dig q).length cm) (.slice Bm (dig d).length dm);rw[← hWz];clear hWz q0 q1 q2 y0 y1 y2;have t0:=hrz.cell (i:=0) rfl;have t1:=hrz.cell (i:=1) rfl;have t2:=hrz.cell (i:=2) rfl;refine bodyPost_ret (v:=.agg #[.bool true,.slice Am (dig q).length cm,.slice Bm (dig d).length dm]) (by simp[results,Tryz.results89,go_sem,t0,t1,t2]) rfl ?_;exact⟨_,rfl,hwz _ _ (Nat.le_refl _) hB,_,_,rfl,(HN.out.on (hkz _ (by omega))).mono (fun b hb _=>by omega),(HD.out.on (hkz _ (by omega))).mono (fun b hb _=>by omega)⟩
theorem agA (w:World) (a:Int) (b:Nat) (h1:-1000000000000≤a) (h2:a≤1000000000000) (h3:b≤1000000000000) (hb0:b≠0) :
  Calls Tryz.prog 89 #[.int .i64 a,.int .i64 (b:Int)] w (Ret w fun v w'=>RtV w' (fun b=>w.heap.size≤b) v (mkRat a b)):=by
 obtain⟨n,rfl | rfl⟩:=Int.eq_nat_or_neg a
 ·have:=abI w n b (by omega) h3 hb0;simpa [sgI] using this
 ·by_cases h0:n=0
  ·subst h0;have:=abI w 0 b (by omega) h3 hb0;simpa [sgI] using this
  ·have:=agz w n b (by omega) h3 hb0 h0;simpa [sgI] using this
theorem Row.gQ {w:World} {b:Nat} {l:List Int} (h:Row w b 3 (l.map (Value.int .i64))) {F:Ac} (hF:F b):Ae w F (.slice (some ⟨b,0,none⟩) l.length l.length) l:=by
 refine⟨_,_,rfl,Nat.le_refl _,fun _=>⟨b,0,rfl,hF,h.lt,fun k x hk=>?_⟩⟩;unfold iH;rw[Nat.zero_add,Nat.mul_one];exact h.cell (by rw[List.getElem?_map,hk]; rfl)
theorem ahP {w:World} {F:Ac} {b:Nat} {v1 v2 v3:Value} {l1 l2 l3:List Raw} (h:Row w b 64 [v1,v2,v3]) (hF:F b) (h1:Aj w F v1 l1) (h2:Aj w F v2 l2) (h3:Aj w F v3 l3):Af w F (.slice (some ⟨b,0,none⟩) 3 3) [l1,l2,l3]:=by
 refine⟨_,_,rfl,Nat.le_refl _,fun _=>⟨b,0,rfl,hF,h.lt,fun k x hk=>?_⟩⟩;rw[Nat.zero_add,Nat.mul_one];match k,hk with
 | 0,hk=>cases hk; exact⟨v1,h.cell rfl,h1⟩
 | 1,hk=>cases hk; exact⟨v2,h.cell rfl,h2⟩
 | 2,hk=>cases hk; exact⟨v3,h.cell rfl,h3⟩
end Go.Proofs.YthmklhapjegfdaaGreatDoor
