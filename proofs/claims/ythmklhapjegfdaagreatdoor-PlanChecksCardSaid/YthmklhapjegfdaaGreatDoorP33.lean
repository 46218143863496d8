/- parlourkit.SameRat, SameVec. -/
import Derived.Test.YthmklhapjegfdaaGreatDoorP19
import Derived.Test.YthmklhapjegfdaaGreatDoorP32
import Derived.StillTailTactics
set_option linter.all false
set_option maxRecDepth 100000
set_option maxHeartbeats 12800000
namespace Go.Proofs.YthmklhapjegfdaaGreatDoor
open Lib renaming hid → Ae
open Go.RowKit
theorem ah0 {r s:Raw}:decide (r=s)=((r.neg==s.neg)&&decide (r.num=s.num)&&decide (r.den=s.den)):=by
 cases r with | mk n a b=>cases s with | mk n' a' b' =>
  by_cases h1:n=n' <;> by_cases h2:a=a' <;> by_cases h3:b=b' <;> simp[h1,h2,h3]
theorem yc (w:World) (F:Ah) (v1 v2:Value) (r s:Raw) (h1:AL w F v1 r) (h2:AL w F v2 s) (l1:r.num.length≤500000∧r.den.length≤500000) (l2:s.num.length≤500000∧s.den.length≤500000) :
  Calls Tryz.prog 58 #[v1,v2] w (Ret w fun v _=>v = .bool (decide (r=s))):=by
 obtain⟨n1,d1,rfl,hn1,hd1⟩:=h1;obtain⟨n2,d2,rfl,hn2,hd2⟩:=h2;have HN1:=Ae hn1; have HN2:=Ae hn2; have HD1:=Ae hd1; have HD2:=Ae hd2;obtain⟨A1,c1,rfl,_,_⟩:=hn1;obtain⟨A2,c2,rfl,_,_⟩:=hn2;obtain⟨A3,c3,rfl,_,_⟩:=hd1;obtain⟨A4,c4,rfl,_,_⟩:=hd2;rw[ah0];by_cases hq:r.neg=s.neg
 ·rw[hq];have t1:(s.neg==s.neg)=true:=ay;rw[t1];generalize s.neg=q at *;go_in
  go_wp2_with fail
  obtain⟨W,hW,rx,ry,hB,hz⟩:=alloc2 w 83 #[.bool q,.slice A1 r.num.length c1,.slice A3 r.den.length c3] 83 #[.bool q,.slice A2 s.num.length c2,.slice A4 s.den.length c4];rw[← hW];clear hW;replace HN1:=Ae (HN1.out.on (Below.same' hB F)); replace HN2:=Ae (HN2.out.on (Below.same' hB F)); replace HD1:=Ae (HD1.out.on (Below.same' hB F)); replace HD2:=Ae (HD2.out.on (Below.same' hB F));have x2:=rx.cell (i:=2) rfl;have y2:=ry.cell (i:=2) rfl;clear rx ry;refine(tN W F _ _ _ _ HN1.out HN2.out byOmega byOmega).mono ?_;rintro e w1 ⟨u,rfl,hb1,rfl⟩;replace x2:=ah x2 hb1; replace y2:=ah y2 hb1;replace HD1:=Ae (HD1.out.on (Below.same' hb1 F)); replace HD2:=Ae (HD2.out.on (Below.same' hb1 F));have hB1:=hB.trans (hb1.mono hB.size);clear hb1;cases hq2:decide (r.num=s.num) with
  | false =>
   dsimp only;have hq3:decide (r.den=s.den)=decide (r.den=s.den):=rfl;go_wp2; go_ret
   exact⟨_,rfl,hB1,rfl⟩
  | true =>
   dsimp only;go_wp2_with fail
   refine(tN w1 F _ _ _ _ HD1.out HD2.out byOmega byOmega).mono ?_;rintro e w2 ⟨u,rfl,hb2,rfl⟩;have hB2:=hB1.trans (hb2.mono hB1.size);dsimp only;go_wp2; go_ret
   exact⟨_,rfl,hB2,by
    show Value.bool (decide (r.den=s.den))=Value.bool (decide (r.num=s.num)&&decide (r.den=s.den));rw[hq2]; rfl⟩
 ·have t1:(r.neg==s.neg)=false:=by simpa using hq
  rw[t1];obtain⟨W,hW,rx,ry,hB,hz⟩:=alloc2 w 83 #[.bool r.neg,.slice A1 r.num.length c1,.slice A3 r.den.length c3] 83 #[.bool s.neg,.slice A2 s.num.length c2,.slice A4 s.den.length c4];go_in
  go_wp2
  go_ret;exact⟨_,rfl,by rw[← hW]; exact hB,ay⟩
def BG (l:List Raw):Prop:=l.length≤500000∧∀ r∈l,r.num.length≤500000∧r.den.length≤500000
theorem AB.at {w:World} {F:Ah} {v:Value} {l:List Raw} (h:AB w F v l) {k:Nat} {r:Raw} (hk:l[k]? = some r):∃ b o c vn vd,v = .slice (some ⟨b,o,none⟩) l.length c∧F b∧b < w.heap.size∧w.cell? ⟨b,o+k*3,none⟩=some (.bool r.neg)∧w.cell? ⟨b,o+k*3+1,none⟩=some vn∧w.cell? ⟨b,o+k*3+2,none⟩=some vd∧Ak w F vn r.num∧Ak w F vd r.den:=by
 obtain⟨A,c,rfl,hc,hr⟩:=h;obtain⟨b,o,rfl,hF,hb,hcell⟩:=hr (by have:=aK hk; omega);obtain⟨e0,⟨vn,e1,i1⟩,⟨vd,e2,i2⟩⟩:=hcell k r hk;exact⟨b,o,c,vn,vd,rfl,hF,hb,e0,e1,e2,i1,i2⟩
theorem yg (w:World) (F:Ah) (v1 v2:Value) (l1 l2:List Raw) (h1:AB w F v1 l1) (h2:AB w F v2 l2) (s1:BG l1) (s2:BG l2) :
  Calls Tryz.prog 51 #[v1,v2] w (Ret w fun v _=>v = .bool (decide (l1=l2))):=by
 have H1:=Ae h1; have H2:=Ae h2; have S1:=Ae s1; have S2:=Ae s2;have hb1:=s1.1; have hb2:=s2.1;obtain⟨A1,c1,rfl,hc1,_⟩:=h1;obtain⟨A2,c2,rfl,hc2,_⟩:=h2;clear s1 s2;by_cases q0:l1.length=l2.length
 case neg =>
  have d0:((l1.length:Int) != (l2.length:Int))=true:=au;have HF:=Ae (show decide (l1=l2)=false by simp only[decide_eq_false_iff_not]; rintro rfl; exact q0 rfl);go_in
  go_wp2
  go_ret;exact⟨_,rfl,Below.refl _ _,by rw[HF.out]; rfl⟩
 have d0:((l1.length:Int) != (l2.length:Int))=false:=au;have Q0:=Ae q0; clear q0;go_in
 go_wp2
 go_loopw [5] (fun i wr=>∃ k:Nat,k≤l1.length∧i = .int .i64 k∧l1.take k=l2.take k∧Below w.heap.size w wr) (fun i _=>l1.length - (intOf i).toNat)
 case atStart=>exact⟨0,byOmega,rfl,ay,Below.refl _ _⟩
 case round =>
  obtain⟨k,hk,rfl,hpre,hbel⟩:=hrel;have HP:=Ae hpre; clear hpre;by_cases hlt:k < l1.length
  ·have hk2:k < l2.length:=by have:=Q0.out; omega
   obtain⟨r1,hr1⟩:=aC hlt;obtain⟨r2,hr2⟩:=aC hk2;obtain⟨bb1,o1,cc1,vn1,vd1,e1,hF1,hlt1,x0,x1,x2,i1,i2⟩:=AB.at H1.out hr1;obtain⟨bb2,o2,cc2,vn2,vd2,e2,hF2,hlt2,y0,y1,y2,j1,j2⟩:=AB.at H2.out hr2;injection e1 with e11 e12 e13
   injection e2 with e21 e22 e23
   subst e11 e21;clear e12 e13 e22 e23;have V1:=Ae (show AL w F _ r1 from⟨vn1,vd1,rfl,i1,i2⟩);have V2:=Ae (show AL w F _ r2 from⟨vn2,vd2,rfl,j1,j2⟩);clear i1 i2 j1 j2;have L1:=Ae (S1.out.2 r1 (List.mem_of_getElem? hr1)); have L2:=Ae (S2.out.2 r2 (List.mem_of_getElem? hr2));have HX:=Ae hr1; clear hr1;have HY:=Ae hr2; clear hr2;have hold:=aN hbel;by_cases he:r1=r2
   ·have hd:decide (r1=r2)=true:=by simp[he]
    have HEQ:=Ae he; clear he;go_wp2
    go_still_tail 8,aj
    change wpList _ _ _ _ _ wr.drew;go_wp2_with (go_at_call 58; (with_reducible refine(yc _ F _ _ r1 r2 (V1.out.on ?_) (V2.out.on ?_) L1.out L2.out).mono ?_); exact Below.same' hbel.drew F; exact Below.same' hbel.drew F; rintro e w' ⟨_,rfl,hb,rfl⟩)
    go_roundw
    case rel =>
     refine⟨k+1,byOmega,by go_num,?_,hbel.drew.trans (hb.mono hbel.size)⟩;have e2:=HY.out;rw[← HEQ.out] at e2;exact gV HX.out e2 HP.out
    case measure=>simp[intOf]; omega
   ·have hd:decide (r1=r2)=false:=by simp[he]
    have HF:=Ae (show decide (l1=l2)=false by
     simp only[decide_eq_false_iff_not]; rintro rfl;have h3:=HX.out; rw[HY.out] at h3; cases h3; exact he rfl)
    clear he;go_wp2
    go_still_tail 8,aj
    change wpList _ _ _ _ _ wr.drew;go_wp2_with (go_at_call 58; (with_reducible refine(yc _ F _ _ r1 r2 (V1.out.on ?_) (V2.out.on ?_) L1.out L2.out).mono ?_); exact Below.same' hbel.drew F; exact Below.same' hbel.drew F; rintro e w' ⟨_,rfl,hb,rfl⟩)
    go_ret;exact⟨_,rfl,hbel.drew.trans (hb.mono hbel.size),by rw[HF.out]; rfl⟩
  ·go_wp2
   go_ret;refine⟨_,rfl,hbel,?_⟩;have h3:=HP.out;have h4:=Q0.out;have h5:l1=l2:=by
    rw[List.take_of_length_le byOmega,List.take_of_length_le byOmega] at h3; exact h3
   simp[h5]
def yh (long limbs:Int) (l:List Raw):Bool:=decide (long < l.length)||l.any fun r=>decide (limbs < r.num.length)||decide (limbs < r.den.length)
def qx (m:List (List Raw)) (lists long limbs:Int):Bool:=decide (lists < m.length)||m.any (yh long limbs)
theorem Ag.at {w:World} {F:Ah} {v:Value} {m:List (List Raw)} (h:Ag w F v m) {k:Nat} {l:List Raw} (hk:m[k]? = some l):∃ b o c u,v = .slice (some ⟨b,o,none⟩) m.length c∧F b∧b < w.heap.size∧w.cell? ⟨b,o+k,none⟩=some u∧AB w F u l:=by
 obtain⟨A,c,rfl,hc,hr⟩:=h;obtain⟨b,o,rfl,hF,hb,hcell⟩:=hr (by have:=aK hk; omega);obtain⟨u,e0,i⟩:=hcell k l hk;rw[Nat.mul_one] at e0;exact⟨b,o,c,u,rfl,hF,hb,e0,i⟩
theorem ac4 {α:Type} {p:α→Bool} {l:List α} {k:Nat} {x:α} (h:(l.take k).any p=false) (hx:l[k]? = some x) (hp:p x=false):(l.take (k+1)).any p=false:=by
 rw[take_snoc hx,List.any_append,h]; simp[hp]
theorem ahh (w:World) (F:Ah) (v:Value) (m:List (List Raw)) (h:Ag w F v m) (lists long limbs:Int) (h0:lists≤1000) (h1:long≤1000) :
  Calls Tryz.prog 14 #[v,.int .i64 lists,.int .i64 long,.int .i64 limbs] w fun e w'=>e = .returned (.bool (qx m lists long limbs))∧w'=w:=by
 have H:=Ae h;obtain⟨A,c,rfl,hc,_⟩:=h;by_cases q0:lists < m.length
 ·have d0:decide (lists < (m.length:Int))=true:=by simpa using q0
  have HF:=Ae (show qx m lists long limbs=true by simp[qx,q0]);go_in
  go_wp2
  go_ret;exact⟨by rw[HF.out]; rfl,rfl⟩
 have d0:decide (lists < (m.length:Int))=false:=by simpa using q0
 go_in
 go_wp2
 go_loopw [9] (fun i wr=>∃ k:Nat,k≤m.length∧i = .int .i64 k∧(m.take k).any (yh long limbs)=false∧wr=w) (fun i _=>m.length - (intOf i).toNat)
 case atStart=>exact⟨0,byOmega,rfl,ay,rfl⟩
 case round =>
  obtain⟨k,hk,rfl,hpre,rfl⟩:=hrel;have HP:=Ae hpre; clear hpre;by_cases hlt:k < m.length
  ·obtain⟨l,hl⟩:=aC hlt;obtain⟨b,o,c',u,e1,hF,hb,x0,hv⟩:=Ag.at H.out hl;injection e1 with e11 e12 e13
   subst e11;clear e12 e13;have HV:=Ae hv;obtain⟨A2,c2,rfl,hc2,_⟩:=hv;have HX:=Ae hl; clear hl;have LT:=Ae (show yh long limbs l=true→qx m lists long limbs=true by
    intro h;unfold qx;rw[show m.any (yh long limbs)=true from List.any_eq_true.2 ⟨l,List.mem_of_getElem? HX.out,h⟩]; simp)
   by_cases q1:long < l.length
   ·have d1:decide (long < (l.length:Int))=true:=by simpa using q1
    have HF:=Ae (LT.out (by simp[yh,q1]));go_wp2
    go_ret;exact⟨by rw[HF.out]; rfl,rfl⟩
   have d1:decide (long < (l.length:Int))=false:=by simpa using q1
   have hll:l.length≤1000:=byOmega;go_wp2
   go_loopw [10] (fun i wz=>∃ j:Nat,j≤l.length∧i = .int .i64 j∧((l.take j).any fun r=>decide (limbs < r.num.length)||decide (limbs < r.den.length))=false∧wz=wr) (fun i _=>l.length - (intOf i).toNat)
   case atStart=>exact⟨0,byOmega,rfl,ay,rfl⟩
   case round =>
    obtain⟨j,hj,rfl,hpre,rfl⟩:=hrel;have HP2:=Ae hpre; clear hpre;by_cases hlt2:j < l.length
    ·obtain⟨r,hr⟩:=aC hlt2;obtain⟨b2,o2,c3,vn,vd,e2,hF2,hb2,y0,y1,y2,i1,i2⟩:=AB.at HV.out hr;injection e2 with e21 e22 e23
     subst e21;clear e22 e23;obtain⟨A5,c5,rfl,hc5,_⟩:=i1;obtain⟨A6,c6,rfl,hc6,_⟩:=i2;have HY:=Ae hr; clear hr;have LT2:=Ae (show(decide (limbs < (r.num.length:Int))||decide (limbs < (r.den.length:Int)))=true→qx m lists long limbs=true by
      intro h;refine LT.out ?_;unfold yh;rw[show(l.any fun r=>decide (limbs < (r.num.length:Int))||decide (limbs < (r.den.length:Int)))=true from List.any_eq_true.2 ⟨r,List.mem_of_getElem? HY.out,h⟩]; simp)
     by_cases q2:limbs < r.num.length
     ·have d2:decide (limbs < (r.num.length:Int))=true:=by simpa using q2
      have HF:=Ae (LT2.out (by rw[d2]; rfl));go_wp2
      go_ret;exact⟨by rw[HF.out]; rfl,rfl⟩
     have d2:decide (limbs < (r.num.length:Int))=false:=by simpa using q2
     by_cases q3:limbs < r.den.length
     ·have d3:decide (limbs < (r.den.length:Int))=true:=by simpa using q3
      have HF:=Ae (LT2.out (by rw[d3]; simp));go_wp2
      go_ret;exact⟨by rw[HF.out]; rfl,rfl⟩
     have d3:decide (limbs < (r.den.length:Int))=false:=by simpa using q3
     go_wp2
     go_roundw
     case rel=>exact⟨j+1,byOmega,by go_num,ac4 HP2.out HY.out (by rw[d2,d3]; rfl),trivial⟩
     case measure=>simp[intOf]; omega
    ·go_wp2
     go_roundw
     case rel=>exact⟨k+1,byOmega,by go_num,ac4 HP.out HX.out (by
      have h3:=HP2.out;rw[List.take_of_length_le byOmega] at h3;unfold yh;rw[h3,d1]; rfl),trivial⟩
     case measure=>simp[intOf]; omega
  ·have HF:=Ae (show qx m lists long limbs=false by
    have h3:=HP.out;rw[List.take_of_length_le byOmega] at h3;unfold qx;rw[h3,d0]; rfl)
   go_wp2
   go_ret;exact⟨by rw[HF.out]; rfl,rfl⟩
def AZ (l:List (List Raw)):Prop:=l.length≤500000∧∀ r∈l,BG r
theorem lF (w:World) (F:Ah) (v1 v2:Value) (l1 l2:List (List Raw)) (h1:Ag w F v1 l1) (h2:Ag w F v2 l2) (s1:AZ l1) (s2:AZ l2) :
  Calls Tryz.prog 18 #[v1,v2] w (Ret w fun v _=>v = .bool (decide (l1=l2))):=by
 have H1:=Ae h1; have H2:=Ae h2; have S1:=Ae s1; have S2:=Ae s2;have hb1:=s1.1; have hb2:=s2.1;obtain⟨A1,c1,rfl,hc1,_⟩:=h1;obtain⟨A2,c2,rfl,hc2,_⟩:=h2;clear s1 s2;by_cases q0:l1.length=l2.length
 case neg =>
  have d0:((l1.length:Int) != (l2.length:Int))=true:=au;have HF:=Ae (show decide (l1=l2)=false by simp only[decide_eq_false_iff_not]; rintro rfl; exact q0 rfl);go_in
  go_wp2
  go_ret;exact⟨_,rfl,Below.refl _ _,by rw[HF.out]; rfl⟩
 have d0:((l1.length:Int) != (l2.length:Int))=false:=au;have Q0:=Ae q0; clear q0;go_in
 go_wp2
 go_loopw [5] (fun i wr=>∃ k:Nat,k≤l1.length∧i = .int .i64 k∧l1.take k=l2.take k∧Below w.heap.size w wr) (fun i _=>l1.length - (intOf i).toNat)
 case atStart=>exact⟨0,byOmega,rfl,ay,Below.refl _ _⟩
 case round =>
  obtain⟨k,hk,rfl,hpre,hbel⟩:=hrel;have HP:=Ae hpre; clear hpre;by_cases hlt:k < l1.length
  ·have hk2:k < l2.length:=by have:=Q0.out; omega
   obtain⟨r1,hr1⟩:=aC hlt;obtain⟨r2,hr2⟩:=aC hk2;obtain⟨bb1,o1,cc1,u1,e1,hF1,hlt1,x0,i1⟩:=Ag.at H1.out hr1;obtain⟨bb2,o2,cc2,u2,e2,hF2,hlt2,y0,i2⟩:=Ag.at H2.out hr2;injection e1 with e11 e12 e13
   injection e2 with e21 e22 e23
   subst e11 e21;clear e12 e13 e22 e23;have V1:=Ae i1;have V2:=Ae i2;obtain⟨A3,c3,rfl,_,_⟩:=i1;obtain⟨A4,c4,rfl,_,_⟩:=i2;have L1:=Ae (S1.out.2 r1 (List.mem_of_getElem? hr1)); have L2:=Ae (S2.out.2 r2 (List.mem_of_getElem? hr2));have HX:=Ae hr1; clear hr1;have HY:=Ae hr2; clear hr2;have hold:=aN hbel;by_cases he:r1=r2
   ·have hd:decide (r1=r2)=true:=by simp[he]
    have HEQ:=Ae he; clear he;go_wp2
    go_still_tail 8,aj
    change wpList _ _ _ _ _ wr.drew;go_wp2_with (go_at_call 51; (with_reducible refine(yg _ F _ _ r1 r2 (V1.out.on ?_) (V2.out.on ?_) L1.out L2.out).mono ?_); exact Below.same' hbel.drew F; exact Below.same' hbel.drew F; rintro e w' ⟨_,rfl,hb,rfl⟩)
    go_roundw
    case rel =>
     refine⟨k+1,byOmega,by go_num,?_,hbel.drew.trans (hb.mono hbel.size)⟩;have e2:=HY.out;rw[← HEQ.out] at e2;exact gV HX.out e2 HP.out
    case measure=>simp[intOf]; omega
   ·have hd:decide (r1=r2)=false:=by simp[he]
    have HF:=Ae (show decide (l1=l2)=false by
     simp only[decide_eq_false_iff_not]; rintro rfl;have h3:=HX.out; rw[HY.out] at h3; cases h3; exact he rfl)
    clear he;go_wp2
    go_still_tail 8,aj
    change wpList _ _ _ _ _ wr.drew;go_wp2_with (go_at_call 51; (with_reducible refine(yg _ F _ _ r1 r2 (V1.out.on ?_) (V2.out.on ?_) L1.out L2.out).mono ?_); exact Below.same' hbel.drew F; exact Below.same' hbel.drew F; rintro e w' ⟨_,rfl,hb,rfl⟩)
    go_ret;exact⟨_,rfl,hbel.drew.trans (hb.mono hbel.size),by rw[HF.out]; rfl⟩
  ·go_wp2
   go_ret;refine⟨_,rfl,hbel,?_⟩;have h3:=HP.out;have h4:=Q0.out;have h5:l1=l2:=by
    rw[List.take_of_length_le byOmega,List.take_of_length_le byOmega] at h3; exact h3
   simp[h5]
open List renaming getElem_toArray → lq1, getElem_cons_zero → lq2, getElem_cons_succ → lq3, setIfInBounds_toArray → lq4, set_cons_zero → lq5, set_cons_succ → lq6
theorem aem (w:World) (v:Value) (s1 s2:Int) (h:s1 < 0):Calls Tryz.prog 116 #[v,.agg #[.int .i64 s1,.int .i64 s2]] w (Ret w fun u w'=>NmV w' (fun b=>w.heap.size≤b) u 1):=by
 have d0:decide (s1 < 0)=true:=decide_eq_true h;clear h;go_in
 go_wp2_with fail
 obtain⟨W,hW,rx,hr,hB,hz⟩:=alloc2 w 89 #[.int .i64 s1,.int .i64 s2] 118 #[.bool false,.slice none 0 0,.slice none 0 0];rw[← hW];clear hW rx;refine(mV W 1 aB aB).mono ?_;rintro e wn ⟨va,rfl,hb,hu⟩;obtain⟨y,hy⟩:∃ y:Rat,y=((1:Int):Rat):=⟨_,rfl⟩;rw[← hy] at hu;have HY:=Ae (show y=1 by rw[hy]; rfl);have hu2:NmV wn (fun b=>w.heap.size+1 < b) va y:=hu.mono (fun b hb _=>by omega);have HM:=Ae hu2;obtain⟨Am,cm,Bm,dm,rfl,hn,hd⟩:=hu2.open;clear hn hd hu hu2 hy;replace hr:=hr.below hb hr.lt;replace hz:=Nat.le_trans hz hb.size;replace hB:=hB.trans (hb.mono hB.size);clear hb;dsimp only;have q0:=hr.cell (i:=0) rfl;have y0:=hr.frozen 0;have q1:=hr.cell (i:=1) rfl;have y1:=hr.frozen 1;have q2:=hr.cell (i:=2) rfl;have y2:=hr.frozen 2;go_wp2
 obtain⟨Wz,hWz,hrz,hwz,hkz⟩:=bP hr (.bool (ak y).neg) (.slice Am (ak y).num.length cm) (.slice Bm (ak y).den.length dm);rw[← hWz];clear hWz q0 q1 q2 y0 y1 y2;have t0:=hrz.cell (i:=0) rfl;have t1:=hrz.cell (i:=1) rfl;have t2:=hrz.cell (i:=2) rfl;refine bodyPost_ret (v:=.agg #[.bool (ak y).neg,.slice Am (ak y).num.length cm,.slice Bm (ak y).den.length dm]) (by simp[results,Tryz.results116,go_sem,t0,t1,t2]) rfl ?_;exact⟨_,rfl,hwz _ _ byOmega hB,by rw[← HY.out]; exact(HM.out.on (hkz _ byOmega)).mono (fun b hb _=>by omega)⟩
theorem aen (w:World) (F:Ah) (bo n cap i j:Nat) (vr:Value) (row:List Rat) (x:Rat) (hc:w.cell? ⟨bo,i,none⟩=some vr) (hr:AB w F vr (row.map ak)) (hx:row[j]? = some x) (hi:i < n) :
  Calls Tryz.prog 116 #[.slice (some ⟨bo,0,none⟩) n cap,.agg #[.int .i64 (i:Int),.int .i64 (j:Int)]] w (Ret w fun u w'=>NmV w' (Old F w.heap.size) u x):=by
 have d0:decide ((i:Int) < 0)=false:=decide_eq_false byOmega;obtain⟨rb,ro,rc,vn,vd,e,hFr,hrb,y0,y1,y2,hn,hd⟩:=AB.at hr (show(row.map ak)[j]? = some (ak x) by rw[List.getElem?_map,hx]; rfl);rw[List.length_map] at e;subst e;have hjl:=aK hx;have HM:=Ae (AL.old (AL.make (r:=ak x) rfl hn hd));obtain⟨An,cn,rfl,-,-⟩:=hn;obtain⟨Ad,cd,rfl,-,-⟩:=hd;clear hr hx;go_in
 go_wp2_with fail
 obtain⟨W,hW,rx,hr,hB,hz⟩:=alloc2 w 89 #[.int .i64 (i:Int),.int .i64 (j:Int)] 118 #[.bool false,.slice none 0 0,.slice none 0 0];rw[← hW];have b0:=rx.cell (i:=0) rfl; have b1:=rx.cell (i:=1) rfl;have c0:=ah hc hB;replace y0:=ah y0 hB; replace y1:=ah y1 hB; replace y2:=ah y2 hB;replace HM:=Ae (AL.below HM.out hB);clear hW rx hc;refine bW (fun w'=>w'.cell? ⟨w.heap.size,0,none⟩=some (.int .i64 (i:Int))∧w'.cell? ⟨w.heap.size,1,none⟩=some (.int .i64 (j:Int))∧w'.cell? ⟨bo,i,none⟩=some (.slice (some ⟨rb,ro,none⟩) row.length rc)∧w'.cell? ⟨rb,ro+j*3,none⟩=some (.bool (ak x).neg)∧w'.cell? ⟨rb,ro+j*3+1,none⟩=some (.slice An (ak x).num.length cn)∧w'.cell? ⟨rb,ro+j*3+2,none⟩=some (.slice Ad (ak x).den.length cd)) 9 1 aj rfl aj ?_;have hHeld:(fun w':World=>w'.cell? ⟨w.heap.size,0,none⟩=some (.int .i64 (i:Int))∧w'.cell? ⟨w.heap.size,1,none⟩=some (.int .i64 (j:Int))∧w'.cell? ⟨bo,i,none⟩=some (.slice (some ⟨rb,ro,none⟩) row.length rc)∧w'.cell? ⟨rb,ro+j*3,none⟩=some (.bool (ak x).neg)∧w'.cell? ⟨rb,ro+j*3+1,none⟩=some (.slice An (ak x).num.length cn)∧w'.cell? ⟨rb,ro+j*3+2,none⟩=some (.slice Ad (ak x).den.length cd)) W.drew:=⟨b0,b1,c0,y0,y1,y2⟩;simp only[List.take_succ_cons,List.take_zero];have hb:Below W.heap.size W W.drew:=aH (Below.refl _ W) 1;replace b0:=ah b0 hb;replace b1:=ah b1 hb;replace c0:=ah c0 hb;replace y0:=ah y0 hb;replace y1:=ah y1 hb;replace y2:=ah y2 hb;replace HM:=Ae (AL.below HM.out hb);replace hr:=hr.below hb hr.lt; replace hz:=Nat.le_trans hz hb.size; replace hB:=hB.trans (hb.mono hB.size);clear hb;generalize W.drew=wn at *;refine tk0 [0,1,2,3,4,5,6,7,8] ?_;iterate 9 (refine tk (v:=?_) rfl aj aj aj (fun _ _ _ h=>h) (Or.inl ⟨by rfl,?_⟩) hHeld ?_;rotate_left;(focus intro wx hSx;(try dsimp only at hSx);go_split_ands;go_simp;try with_reducible rfl);try simp only[Act.put,lq1,lq2,lq3,lq4,lq5,lq6])
 refine tk1 ?_;refine wpAnyH_done aj ?_ _;clear hHeld;show wpList _ _ _ _ _ _;clear b0 b1 c0 y0 y1 y2;have q0:=hr.cell (i:=0) rfl;have y0:=hr.frozen 0;have q1:=hr.cell (i:=1) rfl;have y1:=hr.frozen 1;have q2:=hr.cell (i:=2) rfl;have y2:=hr.frozen 2;go_wp2
 show Exit.then _ _ .normal _ _;go_wp2
 obtain⟨Wz,hWz,hrz,hwz,hkz⟩:=bP hr (.bool (ak x).neg) (.slice An (ak x).num.length cn) (.slice Ad (ak x).den.length cd);rw[← hWz];clear hWz q0 q1 q2 y0 y1 y2;have t0:=hrz.cell (i:=0) rfl;have t1:=hrz.cell (i:=1) rfl;have t2:=hrz.cell (i:=2) rfl;refine bodyPost_ret (v:=.agg #[.bool (ak x).neg,.slice An (ak x).num.length cn,.slice Ad (ak x).den.length cd]) (by simp[results,Tryz.results116,go_sem,t0,t1,t2]) rfl ?_;exact⟨_,rfl,hwz _ _ byOmega hB,AL.keep HM.out (fun b hb _=>hb) (hkz _ (fun h=>by have:=h.2; omega))⟩
end Go.Proofs.YthmklhapjegfdaaGreatDoor
