/- Part of a claim. -/
import Derived.Test.YtnmeejofpkhlkaaGreatDoorE18
import Derived.StillTailTactics
set_option linter.all false
set_option maxRecDepth 100000
set_option maxHeartbeats 12800000
namespace Go.Proofs.YtnmeejofpkhlkaaGreatDoor
open Go.RowKit.Below renaming refl->F9
open Below renaming same'->FZ
open Go.Value renaming bool->Gj,slice->FQ
open List renaming mem_of_getElem?->FT
open Go.Proofs.Tryz renaming prog->FY
open Lib renaming hid → Ac
open Go.RowKit
theorem anj {r s:Raw}:decide (r=s)=((r.neg==s.neg)&&decide (r.num=s.num)&&decide (r.den=s.den)):=by
 cases r with | mk n a b=>cases s with | mk n' a' b' =>
  by_cases h1:n=n' <;> by_cases h2:a=a' <;> by_cases h3:b=b' <;> simp[h1,h2,h3]
theorem pX (w:World) (F:FI) (v1 v2:Value) (r s:Raw) (h1:Ah w F v1 r) (h2:Ah w F v2 s) (l1:r.num.length<=500000/\r.den.length<=500000) (l2:s.num.length<=500000/\s.den.length<=500000) :
  Calls FY 15 #[v1,v2] w (Ret w λv _=>v = Gj (decide (r=s))):=by
 obtain⟨n1,d1,rfl,hn1,hd1⟩:=h1;obtain⟨n2,d2,rfl,hn2,hd2⟩:=h2;have HN1:=Ac hn1;have HN2:=Ac hn2;have HD1:=Ac hd1;have HD2:=Ac hd2;obtain⟨A1,c1,rfl,_,_⟩:=hn1;obtain⟨A2,c2,rfl,_,_⟩:=hn2;obtain⟨A3,c3,rfl,_,_⟩:=hd1;obtain⟨A4,c4,rfl,_,_⟩:=hd2;rw[anj];by_cases hq:r.neg=s.neg
 ·rw[hq];have t1:(s.neg==s.neg)=true:=aF;rw[t1];generalize s.neg=q at *;go_in;go_wp2_with fail
  obtain⟨W,hW,rx,ry,hB,hz⟩:=alloc2 w 42 #[Gj q,FQ A1 r.num.length c1,FQ A3 r.den.length c3] 42 #[Gj q,FQ A2 s.num.length c2,FQ A4 s.den.length c4];rw[<-hW];clear hW;replace HN1:=Ac (HN1.out.on (FZ hB F));replace HN2:=Ac (HN2.out.on (FZ hB F));replace HD1:=Ac (HD1.out.on (FZ hB F));replace HD2:=Ac (HD2.out.on (FZ hB F));have x2:=rx.cell (i:=2) rfl;have y2:=ry.cell (i:=2) rfl;clear rx ry;refine(yh W F _ _ _ _ HN1.out HN2.out EN EN).mono ?_;rintro e w1 ⟨u,rfl,hb1,rfl⟩;replace x2:=ah x2 hb1;replace y2:=ah y2 hb1;replace HD1:=Ac (HD1.out.on (FZ hb1 F));replace HD2:=Ac (HD2.out.on (FZ hb1 F));have hB1:=hB.trans (hb1.mono hB.size);clear hb1;cases hq2:decide (r.num=s.num) with
  | false =>
   dsimp only;have hq3:decide (r.den=s.den)=decide (r.den=s.den):=rfl;go_wp2
   go_ret;exact⟨_,rfl,hB1,rfl⟩
  | true =>
   dsimp only;go_wp2_with fail
   refine(yh w1 F _ _ _ _ HD1.out HD2.out EN EN).mono ?_;rintro e w2 ⟨u,rfl,hb2,rfl⟩;have hB2:=hB1.trans (hb2.mono hB1.size);dsimp only;go_wp2
   go_ret
   exact⟨_,rfl,hB2,by
    show Value.bool (decide (r.den=s.den))=Value.bool (decide (r.num=s.num)&&decide (r.den=s.den));rw[hq2]; rfl⟩
 ·have t1:(r.neg==s.neg)=false:=by simpa using hq
  rw[t1];obtain⟨W,hW,rx,ry,hB,hz⟩:=alloc2 w 42 #[Gj r.neg,FQ A1 r.num.length c1,FQ A3 r.den.length c3] 42 #[Gj s.neg,FQ A2 s.num.length c2,FQ A4 s.den.length c4];go_in;go_wp2
  go_ret;exact⟨_,rfl,by rw[<-hW]; exact hB,aF⟩
def BZ (l:List Raw):Prop:=l.length<=500000/\∀ r∈l,r.num.length<=500000/\r.den.length<=500000
theorem FK.at {w:World} {F:FI} {v:Value} {l:List Raw} (h:FK w F v l) {k:Nat} {r:Raw} (hk:l[k]? = some r):∃ b o c vn vd,v = FQ (some ⟨b,o,none⟩) l.length c/\F b/\b < w.heap.size/\w.cell? ⟨b,o+k*3,none⟩=some (Gj r.neg)/\w.cell? ⟨b,o+k*3+1,none⟩=some vn/\w.cell? ⟨b,o+k*3+2,none⟩=some vd/\Ag w F vn r.num/\Ag w F vd r.den:=by
 obtain⟨A,c,rfl,hc,hr⟩:=h;obtain⟨b,o,rfl,hF,hb,hcell⟩:=hr (by have:=FD hk; omega);obtain⟨e0,⟨vn,e1,i1⟩,⟨vd,e2,i2⟩⟩:=hcell k r hk;exact⟨b,o,c,vn,vd,rfl,hF,hb,e0,e1,e2,i1,i2⟩
theorem nM (w:World) (F:FI) (v1 v2:Value) (l1 l2:List Raw) (h1:FK w F v1 l1) (h2:FK w F v2 l2) (s1:BZ l1) (s2:BZ l2) :
  Calls FY 19 #[v1,v2] w (Ret w λv _=>v = Gj (decide (l1=l2))):=by
 have H1:=Ac h1;have H2:=Ac h2;have S1:=Ac s1;have S2:=Ac s2;have hb1:=s1.1;have hb2:=s2.1;obtain⟨A1,c1,rfl,hc1,_⟩:=h1;obtain⟨A2,c2,rfl,hc2,_⟩:=h2;clear s1 s2;by_cases q0:l1.length=l2.length
 case neg =>
  exact Yo
 have d0:((l1.length:Int) != (l2.length:Int))=false:=aG;have Q0:=Ac q0;clear q0;go_in;go_wp2
 go_loopw [5] (λi wr=>∃ k:Nat,k<=l1.length/\i = .int .i64 k/\l1.take k=l2.take k/\Below w.heap.size w wr) (λi _=>l1.length - (intOf i).toNat)
 case atStart=>exact⟨0,EN,rfl,aF,F9 _ _⟩
 case round =>
  obtain⟨k,hk,rfl,hpre,hbel⟩:=hrel;have HP:=Ac hpre;clear hpre;by_cases hlt:k < l1.length
  ·have hk2:k < l2.length:=by have:=Q0.out;omega
   obtain⟨r1,hr1⟩:=FC hlt;obtain⟨r2,hr2⟩:=FC hk2;obtain⟨bb1,o1,cc1,vn1,vd1,e1,hF1,hlt1,x0,x1,x2,i1,i2⟩:=FK.at H1.out hr1;obtain⟨bb2,o2,cc2,vn2,vd2,e2,hF2,hlt2,y0,y1,y2,j1,j2⟩:=FK.at H2.out hr2;injection e1 with e11 e12 e13
   injection e2 with e21 e22 e23
   subst e11 e21;clear e12 e13 e22 e23;have V1:=Ac (show Ah w F _ r1 from⟨vn1,vd1,rfl,i1,i2⟩);have V2:=Ac (show Ah w F _ r2 from⟨vn2,vd2,rfl,j1,j2⟩);clear i1 i2 j1 j2;have L1:=Ac (S1.out.2 r1 (FT hr1));have L2:=Ac (S2.out.2 r2 (FT hr2));have HX:=Ac hr1;clear hr1;have HY:=Ac hr2;clear hr2;have hold:=aS hbel;by_cases he:r1=r2
   ·have hd:decide (r1=r2)=true:=by simp[he]
    have HEQ:=Ac he;clear he;go_wp2
    go_still_tail 8,ak
    change wpList _ _ _ _ _ wr.drew;go_wp2_with (go_at_call 15; (with_reducible refine(pX _ F _ _ r1 r2 (V1.out.on ?_) (V2.out.on ?_) L1.out L2.out).mono ?_); exact FZ hbel.drew F; exact FZ hbel.drew F; rintro e w' ⟨_,rfl,hb,rfl⟩)
    go_roundw
    case rel =>
     exact zca
    case measure=>simp[intOf]; omega
   ·have hd:decide (r1=r2)=false:=by simp[he]
    have HF:=Ac (show decide (l1=l2)=false by
     simp only[decide_eq_false_iff_not]; rintro rfl;have h3:=HX.out; rw[HY.out] at h3; cases h3; exact he rfl)
    clear he;go_wp2
    go_still_tail 8,ak
    change wpList _ _ _ _ _ wr.drew;go_wp2_with (go_at_call 15; (with_reducible refine(pX _ F _ _ r1 r2 (V1.out.on ?_) (V2.out.on ?_) L1.out L2.out).mono ?_); exact FZ hbel.drew F; exact FZ hbel.drew F; rintro e w' ⟨_,rfl,hb,rfl⟩)
    go_ret;exact⟨_,rfl,hbel.drew.trans (hb.mono hbel.size),by rw[HF.out]; rfl⟩
  ·go_wp2
   go_ret;refine zc2 ?_;have h3:=HP.out;have h4:=Q0.out;have h5:l1=l2:=by
    exact zad
   simp[h5]
def CB (l:List (Int×Raw)):Prop:=l.length<=500000/\∀ r∈l,r.2.num.length<=500000/\r.2.den.length<=500000
theorem adD (w:World) (F:FI) (v1 v2:Value) (l1 l2:List (Int×Raw)) (h1:AO w F v1 l1) (h2:AO w F v2 l2) (s1:CB l1) (s2:CB l2) :
  Calls FY 35 #[v1,v2] w (Ret w λv _=>v = Gj (decide (l1=l2))):=by
 have H1:=Ac h1;have H2:=Ac h2;have S1:=Ac s1;have S2:=Ac s2;have hb1:=s1.1;have hb2:=s2.1;obtain⟨A1,c1,rfl,hc1,_⟩:=h1;obtain⟨A2,c2,rfl,hc2,_⟩:=h2;clear s1 s2;by_cases q0:l1.length=l2.length
 case neg =>
  exact Yo
 have d0:((l1.length:Int) != (l2.length:Int))=false:=aG;have Q0:=Ac q0;clear q0;go_in;go_wp2
 go_loopw [5] (λi wr=>∃ k:Nat,k<=l1.length/\i = .int .i64 k/\l1.take k=l2.take k/\Below w.heap.size w wr) (λi _=>l1.length - (intOf i).toNat)
 case atStart=>exact⟨0,EN,rfl,aF,F9 _ _⟩
 case round =>
  obtain⟨k,hk,rfl,hpre,hbel⟩:=hrel;have HP:=Ac hpre;clear hpre;by_cases hlt:k < l1.length
  ·have hk2:k < l2.length:=by have:=Q0.out;omega
   obtain⟨r1,hr1⟩:=FC hlt;obtain⟨r2,hr2⟩:=FC hk2;obtain⟨bb1,o1,cc1,vn1,vd1,e1,hF1,hlt1,xx,x0,x1,x2,i1,i2⟩:=AO.at H1.out hr1;obtain⟨bb2,o2,cc2,vn2,vd2,e2,hF2,hlt2,yy,y0,y1,y2,j1,j2⟩:=AO.at H2.out hr2;obtain⟨n1,r1⟩:=r1;obtain⟨n2,r2⟩:=r2;dsimp only at *;injection e1 with e11 e12 e13
   injection e2 with e21 e22 e23
   subst e11 e21;clear e12 e13 e22 e23;have V1:=Ac (show Ah w F _ r1 from⟨vn1,vd1,rfl,i1,i2⟩);have V2:=Ac (show Ah w F _ r2 from⟨vn2,vd2,rfl,j1,j2⟩);clear i1 i2 j1 j2;have L1:=Ac (S1.out.2 _ (FT hr1));have L2:=Ac (S2.out.2 _ (FT hr2));have HX:=Ac hr1;clear hr1;have HY:=Ac hr2;clear hr2;have hold:=aS hbel;by_cases hn:n1=n2
   case neg =>
    have hd:(n1 != n2)=true:=by simp[hn]
    have HF:=Ac (show decide (l1=l2)=false by
     simp only[decide_eq_false_iff_not]; rintro rfl;have h3:=HX.out; rw[HY.out] at h3; cases h3; exact hn rfl)
    clear hn;exact zbM
   subst hn;have hd1:(n1 != n1)=false:=aF;by_cases he:r1=r2
   ·have hd:decide (r1=r2)=true:=by simp[he]
    have HEQ:=Ac he;clear he;go_wp2_with fail
    go_still_tail 22,ak
    change wpList _ _ _ _ _ wr.drew;go_wp2_with (go_at_call 15; (with_reducible refine(pX _ F _ _ r1 r2 (V1.out.on ?_) (V2.out.on ?_) L1.out L2.out).mono ?_); exact FZ hbel.drew F; exact FZ hbel.drew F; rintro e w' ⟨_,rfl,hb,rfl⟩)
    go_roundw
    case rel =>
     exact zca
    case measure=>simp[intOf]; omega
   ·have hd:decide (r1=r2)=false:=by simp[he]
    have HF:=Ac (show decide (l1=l2)=false by
     simp only[decide_eq_false_iff_not]; rintro rfl;have h3:=HX.out; rw[HY.out] at h3; cases h3; exact he rfl)
    clear he;go_wp2_with fail
    go_still_tail 22,ak
    change wpList _ _ _ _ _ wr.drew;go_wp2_with (go_at_call 15; (with_reducible refine(pX _ F _ _ r1 r2 (V1.out.on ?_) (V2.out.on ?_) L1.out L2.out).mono ?_); exact FZ hbel.drew F; exact FZ hbel.drew F; rintro e w' ⟨_,rfl,hb,rfl⟩)
    go_ret;exact⟨_,rfl,hbel.drew.trans (hb.mono hbel.size),by rw[HF.out]; rfl⟩
  ·go_wp2
   go_ret;refine zc2 ?_;have h3:=HP.out;have h4:=Q0.out;have h5:l1=l2:=by
    exact zad
   simp[h5]
end Go.Proofs.YtnmeejofpkhlkaaGreatDoor
