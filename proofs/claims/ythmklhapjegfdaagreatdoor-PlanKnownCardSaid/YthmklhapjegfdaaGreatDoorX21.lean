/- parlourkit.SameRat, SameVec. -/
import Derived.Test.YthmklhapjegfdaaGreatDoorX18
import Derived.StillTailTactics
set_option linter.all false
set_option maxRecDepth 100000
set_option maxHeartbeats 12800000
namespace Go.Proofs.YthmklhapjegfdaaGreatDoor
open Lib renaming hid → Ag
open Go.RowKit
theorem ajJ {r s:Raw}:decide (r=s)=((r.neg==s.neg)&&decide (r.num=s.num)&&decide (r.den=s.den)):=by
 cases r with | mk n a b=>cases s with | mk n' a' b' =>
  by_cases h1:n=n' <;> by_cases h2:a=a' <;> by_cases h3:b=b' <;> simp[h1,h2,h3]
theorem zG (w:World) (F:Aj) (v1 v2:Value) (r s:Raw) (h1:AA w F v1 r) (h2:AA w F v2 s) (l1:r.num.length≤500000∧r.den.length≤500000) (l2:s.num.length≤500000∧s.den.length≤500000) :
  Calls Tryz.prog 58 #[v1,v2] w (Ret w fun v _=>v = .bool (decide (r=s))):=by
 obtain⟨n1,d1,rfl,hn1,hd1⟩:=h1;obtain⟨n2,d2,rfl,hn2,hd2⟩:=h2;have HN1:=Ag hn1;have HN2:=Ag hn2;have HD1:=Ag hd1;have HD2:=Ag hd2;obtain⟨A1,c1,rfl,_,_⟩:=hn1;obtain⟨A2,c2,rfl,_,_⟩:=hn2;obtain⟨A3,c3,rfl,_,_⟩:=hd1;obtain⟨A4,c4,rfl,_,_⟩:=hd2;rw[ajJ];by_cases hq:r.neg=s.neg
 ·rw[hq];have t1:(s.neg==s.neg)=true:=aA;rw[t1];generalize s.neg=q at *;go_in;go_wp2_with fail
  obtain⟨W,hW,rx,ry,hB,hz⟩:=alloc2 w 83 #[.bool q,.slice A1 r.num.length c1,.slice A3 r.den.length c3] 83 #[.bool q,.slice A2 s.num.length c2,.slice A4 s.den.length c4];rw[← hW];clear hW;replace HN1:=Ag (HN1.out.on (Below.same' hB F));replace HN2:=Ag (HN2.out.on (Below.same' hB F));replace HD1:=Ag (HD1.out.on (Below.same' hB F));replace HD2:=Ag (HD2.out.on (Below.same' hB F));have x2:=rx.cell (i:=2) rfl;have y2:=ry.cell (i:=2) rfl;clear rx ry;refine(vH W F _ _ _ _ HN1.out HN2.out byOmega byOmega).mono ?_;rintro e w1 ⟨u,rfl,hb1,rfl⟩;replace x2:=ah x2 hb1;replace y2:=ah y2 hb1;replace HD1:=Ag (HD1.out.on (Below.same' hb1 F));replace HD2:=Ag (HD2.out.on (Below.same' hb1 F));have hB1:=hB.trans (hb1.mono hB.size);clear hb1;cases hq2:decide (r.num=s.num) with
  | false =>
   dsimp only;have hq3:decide (r.den=s.den)=decide (r.den=s.den):=rfl;go_wp2
   go_ret;exact⟨_,rfl,hB1,rfl⟩
  | true =>
   dsimp only;go_wp2_with fail
   refine(vH w1 F _ _ _ _ HD1.out HD2.out byOmega byOmega).mono ?_;rintro e w2 ⟨u,rfl,hb2,rfl⟩;have hB2:=hB1.trans (hb2.mono hB1.size);dsimp only;go_wp2
   go_ret
   exact⟨_,rfl,hB2,by
    show Value.bool (decide (r.den=s.den))=Value.bool (decide (r.num=s.num)&&decide (r.den=s.den));rw[hq2]; rfl⟩
 ·have t1:(r.neg==s.neg)=false:=by simpa using hq
  rw[t1];obtain⟨W,hW,rx,ry,hB,hz⟩:=alloc2 w 83 #[.bool r.neg,.slice A1 r.num.length c1,.slice A3 r.den.length c3] 83 #[.bool s.neg,.slice A2 s.num.length c2,.slice A4 s.den.length c4];go_in;go_wp2
  go_ret;exact⟨_,rfl,by rw[← hW]; exact hB,aA⟩
def BU (l:List Raw):Prop:=l.length≤500000∧∀ r∈l,r.num.length≤500000∧r.den.length≤500000
theorem AL.at {w:World} {F:Aj} {v:Value} {l:List Raw} (h:AL w F v l) {k:Nat} {r:Raw} (hk:l[k]? = some r):∃ b o c vn vd,v = .slice (some ⟨b,o,none⟩) l.length c∧F b∧b < w.heap.size∧w.cell? ⟨b,o+k*3,none⟩=some (.bool r.neg)∧w.cell? ⟨b,o+k*3+1,none⟩=some vn∧w.cell? ⟨b,o+k*3+2,none⟩=some vd∧AB w F vn r.num∧AB w F vd r.den:=by
 obtain⟨A,c,rfl,hc,hr⟩:=h;obtain⟨b,o,rfl,hF,hb,hcell⟩:=hr (by have:=aK hk; omega);obtain⟨e0,⟨vn,e1,i1⟩,⟨vd,e2,i2⟩⟩:=hcell k r hk;exact⟨b,o,c,vn,vd,rfl,hF,hb,e0,e1,e2,i1,i2⟩
theorem zH (w:World) (F:Aj) (v1 v2:Value) (l1 l2:List Raw) (h1:AL w F v1 l1) (h2:AL w F v2 l2) (s1:BU l1) (s2:BU l2) :
  Calls Tryz.prog 51 #[v1,v2] w (Ret w fun v _=>v = .bool (decide (l1=l2))):=by
 have H1:=Ag h1;have H2:=Ag h2;have S1:=Ag s1;have S2:=Ag s2;have hb1:=s1.1;have hb2:=s2.1;obtain⟨A1,c1,rfl,hc1,_⟩:=h1;obtain⟨A2,c2,rfl,hc2,_⟩:=h2;clear s1 s2;by_cases q0:l1.length=l2.length
 case neg =>
  exact ZB
 refine zb3 ?_;intro d0 Q0;clear q0;go_in;go_wp2
 go_loopw [5] (fun i wr=>∃ k:Nat,k≤l1.length∧i = .int .i64 k∧l1.take k=l2.take k∧Below w.heap.size w wr) (fun i _=>l1.length - (intOf i).toNat)
 case atStart=>exact⟨0,byOmega,rfl,aA,Below.refl _ _⟩
 case round =>
  obtain⟨k,hk,rfl,hpre,hbel⟩:=hrel;have HP:=Ag hpre;clear hpre;by_cases hlt:k < l1.length
  ·have hk2:k < l2.length:=by have:=Q0.out;omega
   obtain⟨r1,hr1⟩:=aB hlt;obtain⟨r2,hr2⟩:=aB hk2;obtain⟨bb1,o1,cc1,vn1,vd1,e1,hF1,hlt1,x0,x1,x2,i1,i2⟩:=AL.at H1.out hr1;obtain⟨bb2,o2,cc2,vn2,vd2,e2,hF2,hlt2,y0,y1,y2,j1,j2⟩:=AL.at H2.out hr2;injection e1 with e11 e12 e13
   injection e2 with e21 e22 e23
   subst e11 e21;clear e12 e13 e22 e23;have V1:=Ag (show AA w F _ r1 from⟨vn1,vd1,rfl,i1,i2⟩);have V2:=Ag (show AA w F _ r2 from⟨vn2,vd2,rfl,j1,j2⟩);clear i1 i2 j1 j2;have L1:=Ag (S1.out.2 r1 (List.mem_of_getElem? hr1));have L2:=Ag (S2.out.2 r2 (List.mem_of_getElem? hr2));have HX:=Ag hr1;clear hr1;have HY:=Ag hr2;clear hr2;have hold:=aP hbel;by_cases he:r1=r2
   ·have hd:decide (r1=r2)=true:=by simp[he]
    have HEQ:=Ag he;clear he;go_wp2
    go_still_tail 8,aj
    change wpList _ _ _ _ _ wr.drew;go_wp2_with (go_at_call 58; (with_reducible refine(zG _ F _ _ r1 r2 (V1.out.on ?_) (V2.out.on ?_) L1.out L2.out).mono ?_); exact Below.same' hbel.drew F; exact Below.same' hbel.drew F; rintro e w' ⟨_,rfl,hb,rfl⟩)
    go_roundw
    case rel =>
     exact zca
    case measure=>simp[intOf]; omega
   ·have hd:decide (r1=r2)=false:=by simp[he]
    have HF:=Ag (show decide (l1=l2)=false by
     simp only[decide_eq_false_iff_not]; rintro rfl;have h3:=HX.out; rw[HY.out] at h3; cases h3; exact he rfl)
    clear he;go_wp2
    go_still_tail 8,aj
    change wpList _ _ _ _ _ wr.drew;go_wp2_with (go_at_call 58; (with_reducible refine(zG _ F _ _ r1 r2 (V1.out.on ?_) (V2.out.on ?_) L1.out L2.out).mono ?_); exact Below.same' hbel.drew F; exact Below.same' hbel.drew F; rintro e w' ⟨_,rfl,hb,rfl⟩)
    go_ret;exact⟨_,rfl,hbel.drew.trans (hb.mono hbel.size),by rw[HF.out]; rfl⟩
  ·go_wp2
   go_ret;refine zaX ?_;have h3:=HP.out;have h4:=Q0.out;have h5:l1=l2:=by
    exact YL
   simp[h5]
def yh (long limbs:Int) (l:List Raw):Bool:=decide (long < l.length)||l.any fun r=>decide (limbs < r.num.length)||decide (limbs < r.den.length)
def lN (m:List (List Raw)) (lists long limbs:Int):Bool:=decide (lists < m.length)||m.any (yh long limbs)
theorem Ah.at {w:World} {F:Aj} {v:Value} {m:List (List Raw)} (h:Ah w F v m) {k:Nat} {l:List Raw} (hk:m[k]? = some l):∃ b o c u,v = .slice (some ⟨b,o,none⟩) m.length c∧F b∧b < w.heap.size∧w.cell? ⟨b,o+k,none⟩=some u∧AL w F u l:=by
 exact zbb
theorem aek {α:Type} {p:α→Bool} {l:List α} {k:Nat} {x:α} (h:(l.take k).any p=false) (hx:l[k]? = some x) (hp:p x=false):(l.take (k+1)).any p=false:=by
 rw[take_snoc hx,List.any_append,h];simp[hp]
theorem aa0 (w:World) (F:Aj) (v:Value) (m:List (List Raw)) (h:Ah w F v m) (lists long limbs:Int) (h0:lists≤1000) (h1:long≤1000) :
  Calls Tryz.prog 14 #[v,.int .i64 lists,.int .i64 long,.int .i64 limbs] w fun e w'=>e = .returned (.bool (lN m lists long limbs))∧w'=w:=by
 have H:=Ag h;obtain⟨A,c,rfl,hc,_⟩:=h;by_cases q0:lists < m.length
 ·have d0:decide (lists < (m.length:Int))=true:=by simpa using q0
  have HF:=Ag (show lN m lists long limbs=true by simp[lN,q0]);go_in;exact zbD
 have d0:decide (lists < (m.length:Int))=false:=by simpa using q0
 go_in;go_wp2
 go_loopw [9] (fun i wr=>∃ k:Nat,k≤m.length∧i = .int .i64 k∧(m.take k).any (yh long limbs)=false∧wr=w) (fun i _=>m.length - (intOf i).toNat)
 case atStart=>exact⟨0,byOmega,rfl,aA,rfl⟩
 case round =>
  obtain⟨k,hk,rfl,hpre,rfl⟩:=hrel;have HP:=Ag hpre;clear hpre;by_cases hlt:k < m.length
  ·obtain⟨l,hl⟩:=aB hlt;obtain⟨b,o,c',u,e1,hF,hb,x0,hv⟩:=Ah.at H.out hl;injection e1 with e11 e12 e13
   subst e11;clear e12 e13;have HV:=Ag hv;obtain⟨A2,c2,rfl,hc2,_⟩:=hv;have HX:=Ag hl; clear hl;have LT:=Ag (show yh long limbs l=true→lN m lists long limbs=true by
    intro h;unfold lN;rw[show m.any (yh long limbs)=true from List.any_eq_true.2 ⟨l,List.mem_of_getElem? HX.out,h⟩]; simp)
   by_cases q1:long < l.length
   ·have d1:decide (long < (l.length:Int))=true:=by simpa using q1
    have HF:=Ag (LT.out (by simp[yh,q1]));exact zbD
   have d1:decide (long < (l.length:Int))=false:=by simpa using q1
   have hll:l.length≤1000:=byOmega;go_wp2
   go_loopw [10] (fun i wz=>∃ j:Nat,j≤l.length∧i = .int .i64 j∧((l.take j).any fun r=>decide (limbs < r.num.length)||decide (limbs < r.den.length))=false∧wz=wr) (fun i _=>l.length - (intOf i).toNat)
   case atStart=>exact⟨0,byOmega,rfl,aA,rfl⟩
   case round =>
    obtain⟨j,hj,rfl,hpre,rfl⟩:=hrel;have HP2:=Ag hpre;clear hpre;by_cases hlt2:j < l.length
    ·obtain⟨r,hr⟩:=aB hlt2;obtain⟨b2,o2,c3,vn,vd,e2,hF2,hb2,y0,y1,y2,i1,i2⟩:=AL.at HV.out hr;injection e2 with e21 e22 e23
     subst e21;clear e22 e23;obtain⟨A5,c5,rfl,hc5,_⟩:=i1;obtain⟨A6,c6,rfl,hc6,_⟩:=i2;have HY:=Ag hr; clear hr;have LT2:=Ag (show(decide (limbs < (r.num.length:Int))||decide (limbs < (r.den.length:Int)))=true→lN m lists long limbs=true by
      intro h;refine LT.out ?_;unfold yh;rw[show(l.any fun r=>decide (limbs < (r.num.length:Int))||decide (limbs < (r.den.length:Int)))=true from List.any_eq_true.2 ⟨r,List.mem_of_getElem? HY.out,h⟩]; simp)
     by_cases q2:limbs < r.num.length
     ·have d2:decide (limbs < (r.num.length:Int))=true:=by simpa using q2
      have HF:=Ag (LT2.out (by rw[d2]; rfl));exact zbD
     have d2:decide (limbs < (r.num.length:Int))=false:=by simpa using q2
     by_cases q3:limbs < r.den.length
     ·have d3:decide (limbs < (r.den.length:Int))=true:=by simpa using q3
      have HF:=Ag (LT2.out (by rw[d3]; simp));exact zbD
     have d3:decide (limbs < (r.den.length:Int))=false:=by simpa using q3
     go_wp2
     go_roundw
     case rel=>exact⟨j+1,byOmega,by go_num,aek HP2.out HY.out (by rw[d2,d3]; rfl),trivial⟩
     case measure=>simp[intOf]; omega
    ·go_wp2
     go_roundw
     case rel=>exact⟨k+1,byOmega,by go_num,aek HP.out HX.out (by
      have h3:=HP2.out;rw[List.take_of_length_le byOmega] at h3;unfold yh;rw[h3,d1]; rfl),trivial⟩
     case measure=>simp[intOf]; omega
  ·have HF:=Ag (show lN m lists long limbs=false by
    have h3:=HP.out;rw[List.take_of_length_le byOmega] at h3;unfold lN;rw[h3,d0]; rfl)
   exact zbD
def BJ (l:List (List Raw)):Prop:=l.length≤500000∧∀ r∈l,BU r
theorem jq (w:World) (F:Aj) (v1 v2:Value) (l1 l2:List (List Raw)) (h1:Ah w F v1 l1) (h2:Ah w F v2 l2) (s1:BJ l1) (s2:BJ l2) :
  Calls Tryz.prog 18 #[v1,v2] w (Ret w fun v _=>v = .bool (decide (l1=l2))):=by
 have H1:=Ag h1;have H2:=Ag h2;have S1:=Ag s1;have S2:=Ag s2;have hb1:=s1.1;have hb2:=s2.1;obtain⟨A1,c1,rfl,hc1,_⟩:=h1;obtain⟨A2,c2,rfl,hc2,_⟩:=h2;clear s1 s2;by_cases q0:l1.length=l2.length
 case neg =>
  exact ZB
 refine zb3 ?_;intro d0 Q0;clear q0;go_in;go_wp2
 go_loopw [5] (fun i wr=>∃ k:Nat,k≤l1.length∧i = .int .i64 k∧l1.take k=l2.take k∧Below w.heap.size w wr) (fun i _=>l1.length - (intOf i).toNat)
 case atStart=>exact⟨0,byOmega,rfl,aA,Below.refl _ _⟩
 case round =>
  obtain⟨k,hk,rfl,hpre,hbel⟩:=hrel;have HP:=Ag hpre;clear hpre;by_cases hlt:k < l1.length
  ·have hk2:k < l2.length:=by have:=Q0.out;omega
   obtain⟨r1,hr1⟩:=aB hlt;obtain⟨r2,hr2⟩:=aB hk2;obtain⟨bb1,o1,cc1,u1,e1,hF1,hlt1,x0,i1⟩:=Ah.at H1.out hr1;obtain⟨bb2,o2,cc2,u2,e2,hF2,hlt2,y0,i2⟩:=Ah.at H2.out hr2;injection e1 with e11 e12 e13
   injection e2 with e21 e22 e23
   subst e11 e21;clear e12 e13 e22 e23;have V1:=Ag i1;have V2:=Ag i2;obtain⟨A3,c3,rfl,_,_⟩:=i1;obtain⟨A4,c4,rfl,_,_⟩:=i2;have L1:=Ag (S1.out.2 r1 (List.mem_of_getElem? hr1));have L2:=Ag (S2.out.2 r2 (List.mem_of_getElem? hr2));have HX:=Ag hr1;clear hr1;have HY:=Ag hr2;clear hr2;have hold:=aP hbel;by_cases he:r1=r2
   ·have hd:decide (r1=r2)=true:=by simp[he]
    have HEQ:=Ag he;clear he;go_wp2
    go_still_tail 8,aj
    change wpList _ _ _ _ _ wr.drew;go_wp2_with (go_at_call 51; (with_reducible refine(zH _ F _ _ r1 r2 (V1.out.on ?_) (V2.out.on ?_) L1.out L2.out).mono ?_); exact Below.same' hbel.drew F; exact Below.same' hbel.drew F; rintro e w' ⟨_,rfl,hb,rfl⟩)
    go_roundw
    case rel =>
     exact zca
    case measure=>simp[intOf]; omega
   ·have hd:decide (r1=r2)=false:=by simp[he]
    have HF:=Ag (show decide (l1=l2)=false by
     simp only[decide_eq_false_iff_not]; rintro rfl;have h3:=HX.out; rw[HY.out] at h3; cases h3; exact he rfl)
    clear he;go_wp2
    go_still_tail 8,aj
    change wpList _ _ _ _ _ wr.drew;go_wp2_with (go_at_call 51; (with_reducible refine(zH _ F _ _ r1 r2 (V1.out.on ?_) (V2.out.on ?_) L1.out L2.out).mono ?_); exact Below.same' hbel.drew F; exact Below.same' hbel.drew F; rintro e w' ⟨_,rfl,hb,rfl⟩)
    go_ret;exact⟨_,rfl,hbel.drew.trans (hb.mono hbel.size),by rw[HF.out]; rfl⟩
  ·go_wp2
   go_ret;refine zaX ?_;have h3:=HP.out;have h4:=Q0.out;have h5:l1=l2:=by
    exact YL
   simp[h5]
open List renaming getElem_toArray → lq1, getElem_cons_zero → lq2, getElem_cons_succ → lq3, setIfInBounds_toArray → lq4, set_cons_zero → lq5, set_cons_succ → lq6
theorem aa1 (w:World) (v:Value) (s1 s2:Int) (h:s1 < 0):Calls Tryz.prog 116 #[v,.agg #[.int .i64 s1,.int .i64 s2]] w (Ret w fun u w'=>NmV w' (fun b=>w.heap.size≤b) u 1):=by
 have d0:decide (s1 < 0)=true:=decide_eq_true h;clear h;go_in;go_wp2_with fail
 obtain⟨W,hW,rx,hr,hB,hz⟩:=alloc2 w 89 #[.int .i64 s1,.int .i64 s2] 118 #[.bool false,.slice none 0 0,.slice none 0 0];rw[← hW];clear hW rx;refine(nC W 1 ay ay).mono ?_;rintro e wn ⟨va,rfl,hb,hu⟩;obtain⟨y,hy⟩:∃ y:Rat,y=((1:Int):Rat):=⟨_,rfl⟩;rw[← hy] at hu;have HY:=Ag (show y=1 by rw[hy]; rfl);have hu2:NmV wn (fun b=>w.heap.size+1 < b) va y:=hu.mono (fun b hb _=>by omega);have HM:=Ag hu2;obtain⟨Am,cm,Bm,dm,rfl,hn,hd⟩:=hu2.open;clear hn hd hu hu2 hy;refine Yn ?_;clear hr hz hB hb;intro hr hz hB;refine Zt ?_;intro q0 y0 q1 y1 q2 y2;go_wp2
 obtain⟨Wz,hWz,hrz,hwz,hkz⟩:=bH hr (.bool (ak y).neg) (.slice Am (ak y).num.length cm) (.slice Bm (ak y).den.length dm);refine Zh ?_;clear hWz q0 q1 q2 y0 y1 y2;intro t0 t1 t2;refine bodyPost_ret (v:=.agg #[.bool (ak y).neg,.slice Am (ak y).num.length cm,.slice Bm (ak y).den.length dm]) (by simp[results,Tryz.results116,go_sem,t0,t1,t2]) rfl ?_;exact⟨_,rfl,hwz _ _ byOmega hB,by rw[← HY.out]; exact(HM.out.on (hkz _ byOmega)).mono (fun b hb _=>by omega)⟩
theorem aa2 (w:World) (F:Aj) (bo n cap i j:Nat) (vr:Value) (row:List Rat) (x:Rat) (hc:w.cell? ⟨bo,i,none⟩=some vr) (hr:AL w F vr (row.map ak)) (hx:row[j]? = some x) (hi:i < n) :
  Calls Tryz.prog 116 #[.slice (some ⟨bo,0,none⟩) n cap,.agg #[.int .i64 (i:Int),.int .i64 (j:Int)]] w (Ret w fun u w'=>NmV w' (Old F w.heap.size) u x):=by
 have d0:decide ((i:Int) < 0)=false:=decide_eq_false byOmega;obtain⟨rb,ro,rc,vn,vd,e,hFr,hrb,y0,y1,y2,hn,hd⟩:=AL.at hr (show(row.map ak)[j]? = some (ak x) by rw[List.getElem?_map,hx]; rfl);rw[List.length_map] at e;subst e;have hjl:=aK hx;have HM:=Ag (AA.old (AA.make (r:=ak x) rfl hn hd));obtain⟨An,cn,rfl,-,-⟩:=hn;obtain⟨Ad,cd,rfl,-,-⟩:=hd;clear hr hx;go_in;go_wp2_with fail
 obtain⟨W,hW,rx,hr,hB,hz⟩:=alloc2 w 89 #[.int .i64 (i:Int),.int .i64 (j:Int)] 118 #[.bool false,.slice none 0 0,.slice none 0 0];rw[← hW];have b0:=rx.cell (i:=0) rfl;have b1:=rx.cell (i:=1) rfl;have c0:=ah hc hB;replace y0:=ah y0 hB;replace y1:=ah y1 hB;replace y2:=ah y2 hB;replace HM:=Ag (AA.below HM.out hB);clear hW rx hc;refine bJ (fun w'=>w'.cell? ⟨w.heap.size,0,none⟩=some (.int .i64 (i:Int))∧w'.cell? ⟨w.heap.size,1,none⟩=some (.int .i64 (j:Int))∧w'.cell? ⟨bo,i,none⟩=some (.slice (some ⟨rb,ro,none⟩) row.length rc)∧w'.cell? ⟨rb,ro+j*3,none⟩=some (.bool (ak x).neg)∧w'.cell? ⟨rb,ro+j*3+1,none⟩=some (.slice An (ak x).num.length cn)∧w'.cell? ⟨rb,ro+j*3+2,none⟩=some (.slice Ad (ak x).den.length cd)) 9 1 aj rfl aj ?_;have hHeld:(fun w':World=>w'.cell? ⟨w.heap.size,0,none⟩=some (.int .i64 (i:Int))∧w'.cell? ⟨w.heap.size,1,none⟩=some (.int .i64 (j:Int))∧w'.cell? ⟨bo,i,none⟩=some (.slice (some ⟨rb,ro,none⟩) row.length rc)∧w'.cell? ⟨rb,ro+j*3,none⟩=some (.bool (ak x).neg)∧w'.cell? ⟨rb,ro+j*3+1,none⟩=some (.slice An (ak x).num.length cn)∧w'.cell? ⟨rb,ro+j*3+2,none⟩=some (.slice Ad (ak x).den.length cd)) W.drew:=⟨b0,b1,c0,y0,y1,y2⟩;refine ZJ ?_;refine za3 ?_;intro hb;replace b0:=ah b0 hb;replace b1:=ah b1 hb;replace c0:=ah c0 hb;replace y0:=ah y0 hb;replace y1:=ah y1 hb;replace y2:=ah y2 hb;replace HM:=Ag (AA.below HM.out hb);refine Yn ?_;clear hr hz hB hb;intro hr hz hB;generalize W.drew=wn at *;refine tkm [0,1,2,3,4,5,6,7,8] ?_;refine ZF ?_;clear hHeld;clear b0 b1 c0 y0 y1 y2;have q0:=hr.cell (i:=0) rfl;have y0:=hr.frozen 0;have q1:=hr.cell (i:=1) rfl;have y1:=hr.frozen 1;have q2:=hr.cell (i:=2) rfl;have y2:=hr.frozen 2;go_wp2
 refine Yi ?_;go_wp2
 obtain⟨Wz,hWz,hrz,hwz,hkz⟩:=bH hr (.bool (ak x).neg) (.slice An (ak x).num.length cn) (.slice Ad (ak x).den.length cd);refine Zh ?_;clear hWz q0 q1 q2 y0 y1 y2;intro t0 t1 t2;refine bodyPost_ret (v:=.agg #[.bool (ak x).neg,.slice An (ak x).num.length cn,.slice Ad (ak x).den.length cd]) (by simp[results,Tryz.results116,go_sem,t0,t1,t2]) rfl ?_;exact⟨_,rfl,hwz _ _ byOmega hB,AA.keep HM.out (fun b hb _=>hb) (hkz _ (fun h=>by have:=h.2; omega))⟩
end Go.Proofs.YthmklhapjegfdaaGreatDoor
