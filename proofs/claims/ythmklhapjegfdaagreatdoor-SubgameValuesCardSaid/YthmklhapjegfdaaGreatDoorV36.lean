/- parlourkit.SameRat, SameVec. -/
import Derived.Test.YthmklhapjegfdaaGreatDoorV22
import Derived.Test.YthmklhapjegfdaaGreatDoorV35
import Derived.StillTailTactics
set_option linter.all false
set_option maxRecDepth 100000
set_option maxHeartbeats 12800000
namespace Go.Proofs.YthmklhapjegfdaaGreatDoor
open Lib renaming hid → Ac
open Go.RowKit
theorem akG {r s:Raw}:decide (r=s)=((r.neg==s.neg)&&decide (r.num=s.num)&&decide (r.den=s.den)):=by
 cases r with | mk n a b=>cases s with | mk n' a' b' =>
  by_cases h1:n=n' <;> by_cases h2:a=a' <;> by_cases h3:b=b' <;> simp[h1,h2,h3]
theorem zx (w:World) (F:Ag) (v1 v2:Value) (r s:Raw) (h1:AL w F v1 r) (h2:AL w F v2 s) (l1:r.num.length≤500000∧r.den.length≤500000) (l2:s.num.length≤500000∧s.den.length≤500000) :
  Calls Tryz.prog 58 #[v1,v2] w (Ret w fun v _=>v = .bool (decide (r=s))):=by
 obtain⟨n1,d1,rfl,hn1,hd1⟩:=h1;obtain⟨n2,d2,rfl,hn2,hd2⟩:=h2;have HN1:=Ac hn1;have HN2:=Ac hn2;have HD1:=Ac hd1;have HD2:=Ac hd2;obtain⟨A1,c1,rfl,_,_⟩:=hn1;obtain⟨A2,c2,rfl,_,_⟩:=hn2;obtain⟨A3,c3,rfl,_,_⟩:=hd1;obtain⟨A4,c4,rfl,_,_⟩:=hd2;rw[akG];by_cases hq:r.neg=s.neg
 ·rw[hq];have t1:(s.neg==s.neg)=true:=ay;rw[t1];generalize s.neg=q at *;go_in;go_wp2_with fail
  obtain⟨W,hW,rx,ry,hB,hz⟩:=alloc2 w 83 #[.bool q,.slice A1 r.num.length c1,.slice A3 r.den.length c3] 83 #[.bool q,.slice A2 s.num.length c2,.slice A4 s.den.length c4];rw[← hW];clear hW;replace HN1:=Ac (HN1.out.on (Below.same' hB F));replace HN2:=Ac (HN2.out.on (Below.same' hB F));replace HD1:=Ac (HD1.out.on (Below.same' hB F));replace HD2:=Ac (HD2.out.on (Below.same' hB F));have x2:=rx.cell (i:=2) rfl;have y2:=ry.cell (i:=2) rfl;clear rx ry;refine(uZ W F _ _ _ _ HN1.out HN2.out byOmega byOmega).mono ?_;rintro e w1 ⟨u,rfl,hb1,rfl⟩;replace x2:=ah x2 hb1;replace y2:=ah y2 hb1;replace HD1:=Ac (HD1.out.on (Below.same' hb1 F));replace HD2:=Ac (HD2.out.on (Below.same' hb1 F));have hB1:=hB.trans (hb1.mono hB.size);clear hb1;cases hq2:decide (r.num=s.num) with
  | false =>
   dsimp only;have hq3:decide (r.den=s.den)=decide (r.den=s.den):=rfl;go_wp2
   go_ret;exact⟨_,rfl,hB1,rfl⟩
  | true =>
   dsimp only;go_wp2_with fail
   refine(uZ w1 F _ _ _ _ HD1.out HD2.out byOmega byOmega).mono ?_;rintro e w2 ⟨u,rfl,hb2,rfl⟩;have hB2:=hB1.trans (hb2.mono hB1.size);dsimp only;go_wp2
   go_ret
   exact⟨_,rfl,hB2,by
    show Value.bool (decide (r.den=s.den))=Value.bool (decide (r.num=s.num)&&decide (r.den=s.den));rw[hq2]; rfl⟩
 ·have t1:(r.neg==s.neg)=false:=by simpa using hq
  rw[t1];obtain⟨W,hW,rx,ry,hB,hz⟩:=alloc2 w 83 #[.bool r.neg,.slice A1 r.num.length c1,.slice A3 r.den.length c3] 83 #[.bool s.neg,.slice A2 s.num.length c2,.slice A4 s.den.length c4];go_in;go_wp2
  go_ret;exact⟨_,rfl,by rw[← hW]; exact hB,ay⟩
def Cc (l:List Raw):Prop:=l.length≤500000∧∀ r∈l,r.num.length≤500000∧r.den.length≤500000
theorem Az.at {w:World} {F:Ag} {v:Value} {l:List Raw} (h:Az w F v l) {k:Nat} {r:Raw} (hk:l[k]? = some r):∃ b o c vn vd,v = .slice (some ⟨b,o,none⟩) l.length c∧F b∧b < w.heap.size∧w.cell? ⟨b,o+k*3,none⟩=some (.bool r.neg)∧w.cell? ⟨b,o+k*3+1,none⟩=some vn∧w.cell? ⟨b,o+k*3+2,none⟩=some vd∧Ak w F vn r.num∧Ak w F vd r.den:=by
 obtain⟨A,c,rfl,hc,hr⟩:=h;obtain⟨b,o,rfl,hF,hb,hcell⟩:=hr (by have:=aI hk; omega);obtain⟨e0,⟨vn,e1,i1⟩,⟨vd,e2,i2⟩⟩:=hcell k r hk;exact⟨b,o,c,vn,vd,rfl,hF,hb,e0,e1,e2,i1,i2⟩
theorem tH (w:World) (F:Ag) (v1 v2:Value) (l1 l2:List Raw) (h1:Az w F v1 l1) (h2:Az w F v2 l2) (s1:Cc l1) (s2:Cc l2) :
  Calls Tryz.prog 51 #[v1,v2] w (Ret w fun v _=>v = .bool (decide (l1=l2))):=by
 have H1:=Ac h1;have H2:=Ac h2;have S1:=Ac s1;have S2:=Ac s2;have hb1:=s1.1;have hb2:=s2.1;obtain⟨A1,c1,rfl,hc1,_⟩:=h1;obtain⟨A2,c2,rfl,hc2,_⟩:=h2;clear s1 s2;by_cases q0:l1.length=l2.length
 case neg =>
  exact zan
 have d0:((l1.length:Int) != (l2.length:Int))=false:=aB;have Q0:=Ac q0;clear q0;go_in;go_wp2
 go_loopw [5] (fun i wr=>∃ k:Nat,k≤l1.length∧i = .int .i64 k∧l1.take k=l2.take k∧Below w.heap.size w wr) (fun i _=>l1.length - (intOf i).toNat)
 case atStart=>exact⟨0,byOmega,rfl,ay,Below.refl _ _⟩
 case round =>
  obtain⟨k,hk,rfl,hpre,hbel⟩:=hrel;have HP:=Ac hpre;clear hpre;by_cases hlt:k < l1.length
  ·have hk2:k < l2.length:=by have:=Q0.out;omega
   obtain⟨r1,hr1⟩:=aC hlt;obtain⟨r2,hr2⟩:=aC hk2;obtain⟨bb1,o1,cc1,vn1,vd1,e1,hF1,hlt1,x0,x1,x2,i1,i2⟩:=Az.at H1.out hr1;obtain⟨bb2,o2,cc2,vn2,vd2,e2,hF2,hlt2,y0,y1,y2,j1,j2⟩:=Az.at H2.out hr2;injection e1 with e11 e12 e13
   injection e2 with e21 e22 e23
   subst e11 e21;clear e12 e13 e22 e23;have V1:=Ac (show AL w F _ r1 from⟨vn1,vd1,rfl,i1,i2⟩);have V2:=Ac (show AL w F _ r2 from⟨vn2,vd2,rfl,j1,j2⟩);clear i1 i2 j1 j2;have L1:=Ac (S1.out.2 r1 (List.mem_of_getElem? hr1));have L2:=Ac (S2.out.2 r2 (List.mem_of_getElem? hr2));have HX:=Ac hr1;clear hr1;have HY:=Ac hr2;clear hr2;have hold:=aJ hbel;by_cases he:r1=r2
   ·have hd:decide (r1=r2)=true:=by simp[he]
    have HEQ:=Ac he;clear he;go_wp2
    go_still_tail 8,ak
    change wpList _ _ _ _ _ wr.drew;go_wp2_with (go_at_call 58; (with_reducible refine(zx _ F _ _ r1 r2 (V1.out.on ?_) (V2.out.on ?_) L1.out L2.out).mono ?_); exact Below.same' hbel.drew F; exact Below.same' hbel.drew F; rintro e w' ⟨_,rfl,hb,rfl⟩)
    go_roundw
    case rel =>
     exact zbF
    case measure=>simp[intOf]; omega
   ·have hd:decide (r1=r2)=false:=by simp[he]
    have HF:=Ac (show decide (l1=l2)=false by
     simp only[decide_eq_false_iff_not]; rintro rfl;have h3:=HX.out; rw[HY.out] at h3; cases h3; exact he rfl)
    clear he;go_wp2
    go_still_tail 8,ak
    change wpList _ _ _ _ _ wr.drew;go_wp2_with (go_at_call 58; (with_reducible refine(zx _ F _ _ r1 r2 (V1.out.on ?_) (V2.out.on ?_) L1.out L2.out).mono ?_); exact Below.same' hbel.drew F; exact Below.same' hbel.drew F; rintro e w' ⟨_,rfl,hb,rfl⟩)
    exact zbv
  ·go_wp2
   go_ret;refine⟨_,rfl,hbel,?_⟩;have h3:=HP.out;have h4:=Q0.out;have h5:l1=l2:=by
    exact YA
   simp[h5]
theorem Ae.at {w:World} {F:Ag} {v:Value} {m:List (List Raw)} (h:Ae w F v m) {k:Nat} {l:List Raw} (hk:m[k]? = some l):∃ b o c u,v = .slice (some ⟨b,o,none⟩) m.length c∧F b∧b < w.heap.size∧w.cell? ⟨b,o+k,none⟩=some u∧Az w F u l:=by
 obtain⟨A,c,rfl,hc,hr⟩:=h;obtain⟨b,o,rfl,hF,hb,hcell⟩:=hr (by have:=aI hk; omega);obtain⟨u,e0,i⟩:=hcell k l hk;rw[Nat.mul_one] at e0;exact⟨b,o,c,u,rfl,hF,hb,e0,i⟩
def CS (l:List (List Raw)):Prop:=l.length≤500000∧∀ r∈l,Cc r
theorem abI (w:World) (F:Ag) (v1 v2:Value) (l1 l2:List (List Raw)) (h1:Ae w F v1 l1) (h2:Ae w F v2 l2) (s1:CS l1) (s2:CS l2) :
  Calls Tryz.prog 18 #[v1,v2] w (Ret w fun v _=>v = .bool (decide (l1=l2))):=by
 have H1:=Ac h1;have H2:=Ac h2;have S1:=Ac s1;have S2:=Ac s2;have hb1:=s1.1;have hb2:=s2.1;obtain⟨A1,c1,rfl,hc1,_⟩:=h1;obtain⟨A2,c2,rfl,hc2,_⟩:=h2;clear s1 s2;by_cases q0:l1.length=l2.length
 case neg =>
  exact zan
 have d0:((l1.length:Int) != (l2.length:Int))=false:=aB;have Q0:=Ac q0;clear q0;go_in;go_wp2
 go_loopw [5] (fun i wr=>∃ k:Nat,k≤l1.length∧i = .int .i64 k∧l1.take k=l2.take k∧Below w.heap.size w wr) (fun i _=>l1.length - (intOf i).toNat)
 case atStart=>exact⟨0,byOmega,rfl,ay,Below.refl _ _⟩
 case round =>
  obtain⟨k,hk,rfl,hpre,hbel⟩:=hrel;have HP:=Ac hpre;clear hpre;by_cases hlt:k < l1.length
  ·have hk2:k < l2.length:=by have:=Q0.out;omega
   obtain⟨r1,hr1⟩:=aC hlt;obtain⟨r2,hr2⟩:=aC hk2;obtain⟨bb1,o1,cc1,u1,e1,hF1,hlt1,x0,i1⟩:=Ae.at H1.out hr1;obtain⟨bb2,o2,cc2,u2,e2,hF2,hlt2,y0,i2⟩:=Ae.at H2.out hr2;injection e1 with e11 e12 e13
   injection e2 with e21 e22 e23
   subst e11 e21;clear e12 e13 e22 e23;have V1:=Ac i1;have V2:=Ac i2;obtain⟨A3,c3,rfl,_,_⟩:=i1;obtain⟨A4,c4,rfl,_,_⟩:=i2;have L1:=Ac (S1.out.2 r1 (List.mem_of_getElem? hr1));have L2:=Ac (S2.out.2 r2 (List.mem_of_getElem? hr2));have HX:=Ac hr1;clear hr1;have HY:=Ac hr2;clear hr2;have hold:=aJ hbel;by_cases he:r1=r2
   ·have hd:decide (r1=r2)=true:=by simp[he]
    have HEQ:=Ac he;clear he;go_wp2
    go_still_tail 8,ak
    change wpList _ _ _ _ _ wr.drew;go_wp2_with (go_at_call 51; (with_reducible refine(tH _ F _ _ r1 r2 (V1.out.on ?_) (V2.out.on ?_) L1.out L2.out).mono ?_); exact Below.same' hbel.drew F; exact Below.same' hbel.drew F; rintro e w' ⟨_,rfl,hb,rfl⟩)
    go_roundw
    case rel =>
     exact zbF
    case measure=>simp[intOf]; omega
   ·have hd:decide (r1=r2)=false:=by simp[he]
    have HF:=Ac (show decide (l1=l2)=false by
     simp only[decide_eq_false_iff_not]; rintro rfl;have h3:=HX.out; rw[HY.out] at h3; cases h3; exact he rfl)
    clear he;go_wp2
    go_still_tail 8,ak
    change wpList _ _ _ _ _ wr.drew;go_wp2_with (go_at_call 51; (with_reducible refine(tH _ F _ _ r1 r2 (V1.out.on ?_) (V2.out.on ?_) L1.out L2.out).mono ?_); exact Below.same' hbel.drew F; exact Below.same' hbel.drew F; rintro e w' ⟨_,rfl,hb,rfl⟩)
    exact zbv
  ·go_wp2
   go_ret;refine⟨_,rfl,hbel,?_⟩;have h3:=HP.out;have h4:=Q0.out;have h5:l1=l2:=by
    exact YA
   simp[h5]
end Go.Proofs.YthmklhapjegfdaaGreatDoor
