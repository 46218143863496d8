/- parlourkit.SameRat, SameVec. -/
import Derived.Test.YtnmeejofpkhlkaaGreatDoorR18
import Derived.StillTailTactics
set_option linter.all false
set_option maxRecDepth 100000
set_option maxHeartbeats 12800000
namespace Go.Proofs.YtnmeejofpkhlkaaGreatDoor
open Lib renaming hid → Ag
open Go.RowKit
theorem ajX {r s:Raw}:decide (r=s)=((r.neg==s.neg)&&decide (r.num=s.num)&&decide (r.den=s.den)):=by
 cases r with | mk n a b=>cases s with | mk n' a' b' =>
  by_cases h1:n=n' <;> by_cases h2:a=a' <;> by_cases h3:b=b' <;> simp[h1,h2,h3]
theorem pU (w:World) (F:Foot) (v1 v2:Value) (r s:Raw) (h1:Ak w F v1 r) (h2:Ak w F v2 s) (l1:r.num.length≤500000∧r.den.length≤500000) (l2:s.num.length≤500000∧s.den.length≤500000) :
  Calls Tryz.prog 15 #[v1,v2] w (Ret w fun v _=>v = .bool (decide (r=s))):=by
 obtain⟨n1,d1,rfl,hn1,hd1⟩:=h1;obtain⟨n2,d2,rfl,hn2,hd2⟩:=h2;have HN1:=Ag hn1;have HN2:=Ag hn2;have HD1:=Ag hd1;have HD2:=Ag hd2;obtain⟨A1,c1,rfl,_,_⟩:=hn1;obtain⟨A2,c2,rfl,_,_⟩:=hn2;obtain⟨A3,c3,rfl,_,_⟩:=hd1;obtain⟨A4,c4,rfl,_,_⟩:=hd2;rw[ajX];by_cases hq:r.neg=s.neg
 ·rw[hq];have t1:(s.neg==s.neg)=true:=aB;rw[t1];generalize s.neg=q at *;go_in;go_wp2_with fail
  obtain⟨W,hW,rx,ry,hB,hz⟩:=alloc2 w 42 #[.bool q,.slice A1 r.num.length c1,.slice A3 r.den.length c3] 42 #[.bool q,.slice A2 s.num.length c2,.slice A4 s.den.length c4];rw[← hW];clear hW;replace HN1:=Ag (HN1.out.on (Below.same' hB F));replace HN2:=Ag (HN2.out.on (Below.same' hB F));replace HD1:=Ag (HD1.out.on (Below.same' hB F));replace HD2:=Ag (HD2.out.on (Below.same' hB F));have x2:=rx.cell (i:=2) rfl;have y2:=ry.cell (i:=2) rfl;clear rx ry;refine(uK W F _ _ _ _ HN1.out HN2.out byOmega byOmega).mono ?_;rintro e w1 ⟨u,rfl,hb1,rfl⟩;replace x2:=ak x2 hb1;replace y2:=ak y2 hb1;replace HD1:=Ag (HD1.out.on (Below.same' hb1 F));replace HD2:=Ag (HD2.out.on (Below.same' hb1 F));have hB1:=hB.trans (hb1.mono hB.size);clear hb1;cases hq2:decide (r.num=s.num) with
  | false =>
   dsimp only;have hq3:decide (r.den=s.den)=decide (r.den=s.den):=rfl;go_wp2
   go_ret;exact⟨_,rfl,hB1,rfl⟩
  | true =>
   dsimp only;go_wp2_with fail
   refine(uK w1 F _ _ _ _ HD1.out HD2.out byOmega byOmega).mono ?_;rintro e w2 ⟨u,rfl,hb2,rfl⟩;have hB2:=hB1.trans (hb2.mono hB1.size);dsimp only;go_wp2
   go_ret
   exact⟨_,rfl,hB2,by
    show Value.bool (decide (r.den=s.den))=Value.bool (decide (r.num=s.num)&&decide (r.den=s.den));rw[hq2]; rfl⟩
 ·have t1:(r.neg==s.neg)=false:=by simpa using hq
  rw[t1];obtain⟨W,hW,rx,ry,hB,hz⟩:=alloc2 w 42 #[.bool r.neg,.slice A1 r.num.length c1,.slice A3 r.den.length c3] 42 #[.bool s.neg,.slice A2 s.num.length c2,.slice A4 s.den.length c4];go_in;go_wp2
  go_ret;exact⟨_,rfl,by rw[← hW]; exact hB,aB⟩
def BZ (l:List Raw):Prop:=l.length≤500000∧∀ r∈l,r.num.length≤500000∧r.den.length≤500000
theorem RawsAt.at {w:World} {F:Foot} {v:Value} {l:List Raw} (h:RawsAt w F v l) {k:Nat} {r:Raw} (hk:l[k]? = some r):∃ b o c vn vd,v = .slice (some ⟨b,o,none⟩) l.length c∧F b∧b < w.heap.size∧w.cell? ⟨b,o+k*3,none⟩=some (.bool r.neg)∧w.cell? ⟨b,o+k*3+1,none⟩=some vn∧w.cell? ⟨b,o+k*3+2,none⟩=some vd∧Aj w F vn r.num∧Aj w F vd r.den:=by
 obtain⟨A,c,rfl,hc,hr⟩:=h;obtain⟨b,o,rfl,hF,hb,hcell⟩:=hr (by have:=lt_of_get hk; omega);obtain⟨e0,⟨vn,e1,i1⟩,⟨vd,e2,i2⟩⟩:=hcell k r hk;exact⟨b,o,c,vn,vd,rfl,hF,hb,e0,e1,e2,i1,i2⟩
theorem yT (w:World) (F:Foot) (v1 v2:Value) (l1 l2:List Raw) (h1:RawsAt w F v1 l1) (h2:RawsAt w F v2 l2) (s1:BZ l1) (s2:BZ l2) :
  Calls Tryz.prog 19 #[v1,v2] w (Ret w fun v _=>v = .bool (decide (l1=l2))):=by
 have H1:=Ag h1;have H2:=Ag h2;have S1:=Ag s1;have S2:=Ag s2;have hb1:=s1.1;have hb2:=s2.1;obtain⟨A1,c1,rfl,hc1,_⟩:=h1;obtain⟨A2,c2,rfl,hc2,_⟩:=h2;clear s1 s2;by_cases q0:l1.length=l2.length
 case neg =>
  exact ZH
 refine zb9 ?_;intro d0 Q0;clear q0;go_in;go_wp2
 go_loopw [5] (fun i wr=>∃ k:Nat,k≤l1.length∧i = .int .i64 k∧l1.take k=l2.take k∧Below w.heap.size w wr) (fun i _=>l1.length - (intOf i).toNat)
 case atStart=>exact⟨0,byOmega,rfl,aB,Below.refl _ _⟩
 case round =>
  obtain⟨k,hk,rfl,hpre,hbel⟩:=hrel;have HP:=Ag hpre;clear hpre;by_cases hlt:k < l1.length
  ·have hk2:k < l2.length:=by have:=Q0.out;omega
   obtain⟨r1,hr1⟩:=getSome hlt;obtain⟨r2,hr2⟩:=getSome hk2;obtain⟨bb1,o1,cc1,vn1,vd1,e1,hF1,hlt1,x0,x1,x2,i1,i2⟩:=RawsAt.at H1.out hr1;obtain⟨bb2,o2,cc2,vn2,vd2,e2,hF2,hlt2,y0,y1,y2,j1,j2⟩:=RawsAt.at H2.out hr2;injection e1 with e11 e12 e13
   injection e2 with e21 e22 e23
   subst e11 e21;clear e12 e13 e22 e23;have V1:=Ag (show Ak w F _ r1 from⟨vn1,vd1,rfl,i1,i2⟩);have V2:=Ag (show Ak w F _ r2 from⟨vn2,vd2,rfl,j1,j2⟩);clear i1 i2 j1 j2;have L1:=Ag (S1.out.2 r1 (List.mem_of_getElem? hr1));have L2:=Ag (S2.out.2 r2 (List.mem_of_getElem? hr2));have HX:=Ag hr1;clear hr1;have HY:=Ag hr2;clear hr2;have hold:=aQ hbel;by_cases he:r1=r2
   ·have hd:decide (r1=r2)=true:=by simp[he]
    have HEQ:=Ag he;clear he;go_wp2
    go_still_tail 8,ah
    change wpList _ _ _ _ _ wr.drew;go_wp2_with (go_at_call 15; (with_reducible refine(pU _ F _ _ r1 r2 (V1.out.on ?_) (V2.out.on ?_) L1.out L2.out).mono ?_); exact Below.same' hbel.drew F; exact Below.same' hbel.drew F; rintro e w' ⟨_,rfl,hb,rfl⟩)
    go_roundw
    case rel =>
     exact zba
    case measure=>simp[intOf]; omega
   ·have hd:decide (r1=r2)=false:=by simp[he]
    have HF:=Ag (show decide (l1=l2)=false by
     simp only[decide_eq_false_iff_not]; rintro rfl;have h3:=HX.out; rw[HY.out] at h3; cases h3; exact he rfl)
    clear he;go_wp2
    go_still_tail 8,ah
    change wpList _ _ _ _ _ wr.drew;go_wp2_with (go_at_call 15; (with_reducible refine(pU _ F _ _ r1 r2 (V1.out.on ?_) (V2.out.on ?_) L1.out L2.out).mono ?_); exact Below.same' hbel.drew F; exact Below.same' hbel.drew F; rintro e w' ⟨_,rfl,hb,rfl⟩)
    go_ret;exact⟨_,rfl,hbel.drew.trans (hb.mono hbel.size),by rw[HF.out]; rfl⟩
  ·go_wp2
   go_ret;refine zcv ?_;have h3:=HP.out;have h4:=Q0.out;have h5:l1=l2:=by
    exact Ym
   simp[h5]
theorem RawRowsAt.at {w:World} {F:Foot} {v:Value} {m:List (List Raw)} (h:RawRowsAt w F v m) {k:Nat} {l:List Raw} (hk:m[k]? = some l):∃ b o c u,v = .slice (some ⟨b,o,none⟩) m.length c∧F b∧b < w.heap.size∧w.cell? ⟨b,o+k,none⟩=some u∧RawsAt w F u l:=by
 exact zas
def BJ (l:List (List Raw)):Prop:=l.length≤500000∧∀ r∈l,BZ r
theorem jy (w:World) (F:Foot) (v1 v2:Value) (l1 l2:List (List Raw)) (h1:RawRowsAt w F v1 l1) (h2:RawRowsAt w F v2 l2) (s1:BJ l1) (s2:BJ l2) :
  Calls Tryz.prog 24 #[v1,v2] w (Ret w fun v _=>v = .bool (decide (l1=l2))):=by
 have H1:=Ag h1;have H2:=Ag h2;have S1:=Ag s1;have S2:=Ag s2;have hb1:=s1.1;have hb2:=s2.1;obtain⟨A1,c1,rfl,hc1,_⟩:=h1;obtain⟨A2,c2,rfl,hc2,_⟩:=h2;clear s1 s2;by_cases q0:l1.length=l2.length
 case neg =>
  exact ZH
 refine zb9 ?_;intro d0 Q0;clear q0;go_in;go_wp2
 go_loopw [5] (fun i wr=>∃ k:Nat,k≤l1.length∧i = .int .i64 k∧l1.take k=l2.take k∧Below w.heap.size w wr) (fun i _=>l1.length - (intOf i).toNat)
 case atStart=>exact⟨0,byOmega,rfl,aB,Below.refl _ _⟩
 case round =>
  obtain⟨k,hk,rfl,hpre,hbel⟩:=hrel;have HP:=Ag hpre;clear hpre;by_cases hlt:k < l1.length
  ·have hk2:k < l2.length:=by have:=Q0.out;omega
   obtain⟨r1,hr1⟩:=getSome hlt;obtain⟨r2,hr2⟩:=getSome hk2;obtain⟨bb1,o1,cc1,u1,e1,hF1,hlt1,x0,i1⟩:=RawRowsAt.at H1.out hr1;obtain⟨bb2,o2,cc2,u2,e2,hF2,hlt2,y0,i2⟩:=RawRowsAt.at H2.out hr2;injection e1 with e11 e12 e13
   injection e2 with e21 e22 e23
   subst e11 e21;clear e12 e13 e22 e23;have V1:=Ag i1;have V2:=Ag i2;obtain⟨A3,c3,rfl,_,_⟩:=i1;obtain⟨A4,c4,rfl,_,_⟩:=i2;have L1:=Ag (S1.out.2 r1 (List.mem_of_getElem? hr1));have L2:=Ag (S2.out.2 r2 (List.mem_of_getElem? hr2));have HX:=Ag hr1;clear hr1;have HY:=Ag hr2;clear hr2;have hold:=aQ hbel;by_cases he:r1=r2
   ·have hd:decide (r1=r2)=true:=by simp[he]
    have HEQ:=Ag he;clear he;go_wp2
    go_still_tail 8,ah
    change wpList _ _ _ _ _ wr.drew;go_wp2_with (go_at_call 19; (with_reducible refine(yT _ F _ _ r1 r2 (V1.out.on ?_) (V2.out.on ?_) L1.out L2.out).mono ?_); exact Below.same' hbel.drew F; exact Below.same' hbel.drew F; rintro e w' ⟨_,rfl,hb,rfl⟩)
    go_roundw
    case rel =>
     exact zba
    case measure=>simp[intOf]; omega
   ·have hd:decide (r1=r2)=false:=by simp[he]
    have HF:=Ag (show decide (l1=l2)=false by
     simp only[decide_eq_false_iff_not]; rintro rfl;have h3:=HX.out; rw[HY.out] at h3; cases h3; exact he rfl)
    clear he;go_wp2
    go_still_tail 8,ah
    change wpList _ _ _ _ _ wr.drew;go_wp2_with (go_at_call 19; (with_reducible refine(yT _ F _ _ r1 r2 (V1.out.on ?_) (V2.out.on ?_) L1.out L2.out).mono ?_); exact Below.same' hbel.drew F; exact Below.same' hbel.drew F; rintro e w' ⟨_,rfl,hb,rfl⟩)
    go_ret;exact⟨_,rfl,hbel.drew.trans (hb.mono hbel.size),by rw[HF.out]; rfl⟩
  ·go_wp2
   go_ret;refine zcv ?_;have h3:=HP.out;have h4:=Q0.out;have h5:l1=l2:=by
    exact Ym
   simp[h5]
open List renaming getElem_toArray → lq1, getElem_cons_zero → lq2, getElem_cons_succ → lq3, setIfInBounds_toArray → lq4, set_cons_zero → lq5, set_cons_succ → lq6
theorem aaG (w:World) (v:Value) (s1 s2:Int) (h:s1 < 0):Calls Tryz.prog 71 #[v,.agg #[.int .i64 s1,.int .i64 s2]] w (Ret w fun u w'=>NmV w' (fun b=>w.heap.size≤b) u 1):=by
 have d0:decide (s1 < 0)=true:=decide_eq_true h;clear h;go_in;go_wp2_with fail
 obtain⟨W,hW,rx,hr,hB,hz⟩:=alloc2 w 60 #[.int .i64 s1,.int .i64 s2] 114 #[.bool false,.slice none 0 0,.slice none 0 0];rw[← hW];clear hW rx;refine(mZ W 1 ay ay).mono ?_;rintro e wn ⟨va,rfl,hb,hu⟩;obtain⟨y,hy⟩:∃ y:Rat,y=((1:Int):Rat):=⟨_,rfl⟩;rw[← hy] at hu;have HY:=Ag (show y=1 by rw[hy]; rfl);have hu2:NmV wn (fun b=>w.heap.size+1 < b) va y:=hu.mono (fun b hb _=>by omega);have HM:=Ag hu2;obtain⟨Am,cm,Bm,dm,rfl,hn,hd⟩:=hu2.open;clear hn hd hu hu2 hy;refine Yy ?_;clear hr hz hB hb;intro hr hz hB;refine Zp ?_;intro q0 y0 q1 y1 q2 y2;go_wp2
 obtain⟨Wz,hWz,hrz,hwz,hkz⟩:=bW hr (.bool (au y).neg) (.slice Am (au y).num.length cm) (.slice Bm (au y).den.length dm);refine Zj ?_;clear hWz q0 q1 q2 y0 y1 y2;intro t0 t1 t2;refine bodyPost_ret (v:=.agg #[.bool (au y).neg,.slice Am (au y).num.length cm,.slice Bm (au y).den.length dm]) (by simp[results,Tryz.results71,go_sem,t0,t1,t2]) rfl ?_;exact⟨_,rfl,hwz _ _ byOmega hB,by rw[← HY.out]; exact(HM.out.on (hkz _ byOmega)).mono (fun b hb _=>by omega)⟩
theorem aaH (w:World) (F:Foot) (bo n cap i j:Nat) (vr:Value) (row:List Rat) (x:Rat) (hc:w.cell? ⟨bo,i,none⟩=some vr) (hr:RawsAt w F vr (row.map au)) (hx:row[j]? = some x) (hi:i < n) :
  Calls Tryz.prog 71 #[.slice (some ⟨bo,0,none⟩) n cap,.agg #[.int .i64 (i:Int),.int .i64 (j:Int)]] w (Ret w fun u w'=>NmV w' (Old F w.heap.size) u x):=by
 have d0:decide ((i:Int) < 0)=false:=decide_eq_false byOmega;obtain⟨rb,ro,rc,vn,vd,e,hFr,hrb,y0,y1,y2,hn,hd⟩:=RawsAt.at hr (show(row.map au)[j]? = some (au x) by rw[List.getElem?_map,hx]; rfl);rw[List.length_map] at e;subst e;have hjl:=lt_of_get hx;have HM:=Ag (Ak.old (Ak.make (r:=au x) rfl hn hd));obtain⟨An,cn,rfl,-,-⟩:=hn;obtain⟨Ad,cd,rfl,-,-⟩:=hd;clear hr hx;go_in;go_wp2_with fail
 obtain⟨W,hW,rx,hr,hB,hz⟩:=alloc2 w 60 #[.int .i64 (i:Int),.int .i64 (j:Int)] 114 #[.bool false,.slice none 0 0,.slice none 0 0];rw[← hW];have b0:=rx.cell (i:=0) rfl;have b1:=rx.cell (i:=1) rfl;have c0:=ak hc hB;replace y0:=ak y0 hB;replace y1:=ak y1 hB;replace y2:=ak y2 hB;replace HM:=Ag (Ak.below HM.out hB);clear hW rx hc;refine aX (fun w'=>w'.cell? ⟨w.heap.size,0,none⟩=some (.int .i64 (i:Int))∧w'.cell? ⟨w.heap.size,1,none⟩=some (.int .i64 (j:Int))∧w'.cell? ⟨bo,i,none⟩=some (.slice (some ⟨rb,ro,none⟩) row.length rc)∧w'.cell? ⟨rb,ro+j*3,none⟩=some (.bool (au x).neg)∧w'.cell? ⟨rb,ro+j*3+1,none⟩=some (.slice An (au x).num.length cn)∧w'.cell? ⟨rb,ro+j*3+2,none⟩=some (.slice Ad (au x).den.length cd)) 9 1 ah rfl ah ?_;have hHeld:(fun w':World=>w'.cell? ⟨w.heap.size,0,none⟩=some (.int .i64 (i:Int))∧w'.cell? ⟨w.heap.size,1,none⟩=some (.int .i64 (j:Int))∧w'.cell? ⟨bo,i,none⟩=some (.slice (some ⟨rb,ro,none⟩) row.length rc)∧w'.cell? ⟨rb,ro+j*3,none⟩=some (.bool (au x).neg)∧w'.cell? ⟨rb,ro+j*3+1,none⟩=some (.slice An (au x).num.length cn)∧w'.cell? ⟨rb,ro+j*3+2,none⟩=some (.slice Ad (au x).den.length cd)) W.drew:=⟨b0,b1,c0,y0,y1,y2⟩;refine Zq ?_;refine zao ?_;intro hb;replace b0:=ak b0 hb;replace b1:=ak b1 hb;replace c0:=ak c0 hb;replace y0:=ak y0 hb;replace y1:=ak y1 hb;replace y2:=ak y2 hb;replace HM:=Ag (Ak.below HM.out hb);replace hr:=hr.below hb hr.lt;refine Zc ?_;clear hz hB hb;intro hz hB;generalize W.drew=wn at *;refine tkm [0,1,2,3,4,5,6,7,8] ?_;refine Zw ?_;clear hHeld;clear b0 b1 c0 y0 y1 y2;refine Zp ?_;intro q0 y0 q1 y1 q2 y2;go_wp2
 refine Yb ?_;go_wp2
 obtain⟨Wz,hWz,hrz,hwz,hkz⟩:=bW hr (.bool (au x).neg) (.slice An (au x).num.length cn) (.slice Ad (au x).den.length cd);refine Zj ?_;clear hWz q0 q1 q2 y0 y1 y2;intro t0 t1 t2;refine bodyPost_ret (v:=.agg #[.bool (au x).neg,.slice An (au x).num.length cn,.slice Ad (au x).den.length cd]) (by simp[results,Tryz.results71,go_sem,t0,t1,t2]) rfl ?_;exact⟨_,rfl,hwz _ _ byOmega hB,Ak.keep HM.out (fun b hb _=>hb) (hkz _ (fun h=>by have:=h.2; omega))⟩
end Go.Proofs.YtnmeejofpkhlkaaGreatDoor
