import Derived.Test.YtenaplhghbcjhaaGreatDoorQ18
import Derived.StillTailTactics
set_option linter.all false
set_option maxRecDepth 100000
set_option maxHeartbeats 0
namespace Go.Proofs.YtenaplhghbcjhaaGreatDoor
open Go.RowKit.Below renaming refl->GR
open Below renaming same'->GL
open Go.IntKind renaming i64->GU
open Go renaming Value->GN,World->GK
open Go.Value renaming bool->G7,int->GV,slice->Gw
open List renaming mem_of_getElem?->Gx,take_of_length_le->G8
open Go.Proofs.Tryz renaming prog->GI
open Go.World renaming alloc->G5
open Go.RowKit
variable {F:Gq} {l:List Raw} {k:Nat} {r:Raw}
theorem anz {s:Raw}:decide (r=s)=((r.neg==s.neg)&&decide (r.num=s.num)&&decide (r.den=s.den)):=by
 cases r with | mk n a b=>cases s with | mk n' a' b' =>
  by_cases h1:n=n' <;> by_cases h2:a=a' <;> by_cases h3:b=b' <;> simp[h1,h2,h3]
theorem tH (w:GK) (F:Gq) (v1 v2:GN) (r s:Raw) (h1:Ak w F v1 r) (h2:Ak w F v2 s) (l1:r.num.length<=500000/\r.den.length<=500000) (l2:s.num.length<=500000/\s.den.length<=500000) :
  Calls GI 16 #[v1,v2] w (Ret w λv _=>v = G7 (decide (r=s))):=by
 obtain⟨n1,d1,rfl,hn1,hd1⟩:=h1;obtain⟨n2,d2,rfl,hn2,hd2⟩:=h2;have HN1:=Ag hn1;have HN2:=Ag hn2;have HD1:=Ag hd1;have HD2:=Ag hd2;obtain⟨A1,c1,rfl,_,_⟩:=hn1;obtain⟨A2,c2,rfl,_,_⟩:=hn2;obtain⟨A3,c3,rfl,_,_⟩:=hd1;obtain⟨A4,c4,rfl,_,_⟩:=hd2;rw[anz];by_cases hq:r.neg=s.neg
 ·rw[hq];have t1:(s.neg==s.neg)=true:=aA;rw[t1];generalize s.neg=q at *;go_in;go_wp2_with fail
  obtain⟨W,hW,rx,ry,hB,hz⟩:=alloc2 w 42 #[G7 q,Gw A1 r.num.length c1,Gw A3 r.den.length c3] 42 #[G7 q,Gw A2 s.num.length c2,Gw A4 s.den.length c4];rw[<-hW];clear hW;replace HN1:=Ag (HN1.o.on (GL hB F));replace HN2:=Ag (HN2.o.on (GL hB F));replace HD1:=Ag (HD1.o.on (GL hB F));replace HD2:=Ag (HD2.o.on (GL hB F));have x2:=rx.cell (i:=2) rfl;have y2:=ry.cell (i:=2) rfl;clear rx ry;refine(y8 W F _ _ _ _ HN1.o HN2.o FI FI).mono ?_;rintro e w1 ⟨u,rfl,hb1,rfl⟩;replace x2:=ah x2 hb1;replace y2:=ah y2 hb1;replace HD1:=Ag (HD1.o.on (GL hb1 F));replace HD2:=Ag (HD2.o.on (GL hb1 F));have hB1:=hB.trans (hb1.mono hB.size);clear hb1;cases hq2:decide (r.num=s.num) with
  | false =>
   dsimp only;have hq3:decide (r.den=s.den)=decide (r.den=s.den):=rfl;go_wp2
   go_ret;exact⟨_,rfl,hB1,rfl⟩
  | true =>
   dsimp only;go_wp2_with fail
   refine(y8 w1 F _ _ _ _ HD1.o HD2.o FI FI).mono ?_;rintro e w2 ⟨u,rfl,hb2,rfl⟩;have hB2:=hB1.trans (hb2.mono hB1.size);dsimp only;go_wp2
   go_ret
   exact⟨_,rfl,hB2,by
    show Value.bool (decide (r.den=s.den))=Value.bool (decide (r.num=s.num)&&decide (r.den=s.den));rw[hq2]; rfl⟩
 ·have t1:(r.neg==s.neg)=false:=by simpa using hq
  rw[t1];obtain⟨W,hW,rx,ry,hB,hz⟩:=alloc2 w 42 #[G7 r.neg,Gw A1 r.num.length c1,Gw A3 r.den.length c3] 42 #[G7 s.neg,Gw A2 s.num.length c2,Gw A4 s.den.length c4];go_in;go_wp2
  go_ret;exact⟨_,rfl,by rw[<-hW]; exact hB,aA⟩
def Bd (l:List Raw):Prop:=l.length<=500000/\∀ r∈l,r.num.length<=500000/\r.den.length<=500000
theorem Gs.at {w:GK} {v:GN} (h:Gs w F v l) (hk:l[k]? = some r):∃ b o c vn vd,v = Gw (some ⟨b,o,none⟩) l.length c/\F b/\b < w.heap.size/\w.cell? ⟨b,o+k*3,none⟩=some (G7 r.neg)/\w.cell? ⟨b,o+k*3+1,none⟩=some vn/\w.cell? ⟨b,o+k*3+2,none⟩=some vd/\Aj w F vn r.num/\Aj w F vd r.den:=by
 obtain⟨A,c,rfl,hc,hr⟩:=h;obtain⟨b,o,rfl,hF,hb,hcell⟩:=hr (by have:=Gn hk; omega);obtain⟨e0,⟨vn,e1,i1⟩,⟨vd,e2,i2⟩⟩:=hcell k r hk;grind
theorem kG (w:GK) (F:Gq) (v1 v2:GN) (l1 l2:List Raw) (h1:Gs w F v1 l1) (h2:Gs w F v2 l2) (s1:Bd l1) (s2:Bd l2) :
  Calls GI 14 #[v1,v2] w (Ret w λv _=>v = G7 (decide (l1=l2))):=by
 have H1:=Ag h1;have H2:=Ag h2;have S1:=Ag s1;have S2:=Ag s2;have hb1:=s1.1;have hb2:=s2.1;obtain⟨A1,c1,rfl,hc1,_⟩:=h1;obtain⟨A2,c2,rfl,hc2,_⟩:=h2;clear s1 s2;by_cases q0:l1.length=l2.length
 case neg =>
  exact ZK
 refine zdK ?_;intro d0 Q0;clear q0;go_in;go_wp2
 go_loopw [5] (λi wr=>∃ k:Nat,k<=l1.length/\i = GV GU k/\l1.take k=l2.take k/\Below w.heap.size w wr) (λi _=>l1.length - (intOf i).toNat)
 case atStart=>exact⟨0,FI,rfl,aA,GR _ _⟩
 case round =>
  obtain⟨k,hk,rfl,hpre,hbel⟩:=hrel;have HP:=Ag hpre;clear hpre;by_cases hlt:k < l1.length
  ·have hk2:k < l2.length:=by have:=Q0.o;omega
   obtain⟨r1,hr1⟩:=Gl hlt;obtain⟨r2,hr2⟩:=Gl hk2;obtain⟨bb1,o1,cc1,vn1,vd1,e1,hF1,hlt1,x0,x1,x2,i1,i2⟩:=Gs.at H1.o hr1;obtain⟨bb2,o2,cc2,vn2,vd2,e2,hF2,hlt2,y0,y1,y2,j1,j2⟩:=Gs.at H2.o hr2;injection e1 with e11 e12 e13
   injection e2 with e21 e22 e23
   subst e11 e21;clear e12 e13 e22 e23;have V1:=Ag (show Ak w F _ r1 from⟨vn1,vd1,rfl,i1,i2⟩);have V2:=Ag (show Ak w F _ r2 from⟨vn2,vd2,rfl,j1,j2⟩);clear i1 i2 j1 j2;have L1:=Ag (S1.o.2 r1 (Gx hr1));have L2:=Ag (S2.o.2 r2 (Gx hr2));have HX:=Ag hr1;clear hr1;have HY:=Ag hr2;clear hr2;have hold:=aK hbel;by_cases he:r1=r2
   ·have hd:decide (r1=r2)=true:=by simp[he]
    have HEQ:=Ag he;clear he;go_wp2
    go_still_tail 8,aj
    change wpList _ _ _ _ _ wr.drew;go_wp2_with (go_at_call 16; (with_reducible refine(tH _ F _ _ r1 r2 (V1.o.on ?_) (V2.o.on ?_) L1.o L2.o).mono ?_); exact GL hbel.drew F; exact GL hbel.drew F; rintro e w' ⟨_,rfl,hb,rfl⟩)
    go_roundw
    case rel =>
     exact zcs
    case measure=>exact zMs
   ·have hd:decide (r1=r2)=false:=by simp[he]
    have HF:=Ag (show decide (l1=l2)=false by
     simp only[decide_eq_false_iff_not]; rintro rfl;have h3:=HX.o; rw[HY.o] at h3; cases h3; exact he rfl)
    clear he;go_wp2
    go_still_tail 8,aj
    change wpList _ _ _ _ _ wr.drew;go_wp2_with (go_at_call 16; (with_reducible refine(tH _ F _ _ r1 r2 (V1.o.on ?_) (V2.o.on ?_) L1.o L2.o).mono ?_); exact GL hbel.drew F; exact GL hbel.drew F; rintro e w' ⟨_,rfl,hb,rfl⟩)
    go_ret;exact⟨_,rfl,hbel.drew.trans (hb.mono hbel.size),by rw[HF.o]; rfl⟩
  ·go_wp2
   go_ret;refine zaI ?_;have h3:=HP.o;have h4:=Q0.o;have h5:l1=l2:=by
    exact zad
   simp[h5]
def aaC (long limbs:Int) (l:List Raw):Bool:=decide (long < l.length)||l.any λr=>decide (limbs < r.num.length)||decide (limbs < r.den.length)
def qp (m:List (List Raw)) (lists long limbs:Int):Bool:=decide (lists < m.length)||m.any (aaC long limbs)
theorem Gt.at {w:GK} {v:GN} {m:List (List Raw)} (h:Gt w F v m) (hk:m[k]? = some l):∃ b o c u,v = Gw (some ⟨b,o,none⟩) m.length c/\F b/\b < w.heap.size/\w.cell? ⟨b,o+k,none⟩=some u/\Gs w F u l:=by
 obtain⟨A,c,rfl,hc,hr⟩:=h;obtain⟨b,o,rfl,hF,hb,hcell⟩:=hr (by have:=Gn hk; omega);obtain⟨u,e0,i⟩:=hcell k l hk;grind
theorem agP {α:Type} {p:α->Bool} {l:List α} {x:α} (h:(l.take k).any p=false) (hx:l[k]? = some x) (hp:p x=false):(l.take (k+1)).any p=false:=by rw[Gv hx,List.any_append,h]; simp[hp]
theorem agQ (w:GK) (F:Gq) (v:GN) (m:List (List Raw)) (h:Gt w F v m) (lists long limbs:Int) (h0:lists<=1000) (h1:long<=1000) :
  Calls GI 5 #[v,GV GU lists,GV GU long,GV GU limbs] w λe w'=>e = .returned (G7 (qp m lists long limbs))/\w'=w:=by
 have H:=Ag h;obtain⟨A,c,rfl,hc,_⟩:=h;by_cases q0:lists < m.length
 ·have d0:decide (lists < (m.length:Int))=true:=by simpa using q0
  have HF:=Ag (show qp m lists long limbs=true by simp[qp,q0]);go_in;exact zbU
 have d0:decide (lists < (m.length:Int))=false:=by simpa using q0
 go_in;go_wp2
 go_loopw [9] (λi wr=>∃ k:Nat,k<=m.length/\i = GV GU k/\(m.take k).any (aaC long limbs)=false/\wr=w) (λi _=>m.length - (intOf i).toNat)
 case atStart=>exact⟨0,FI,rfl,aA,rfl⟩
 case round =>
  obtain⟨k,hk,rfl,hpre,rfl⟩:=hrel;have HP:=Ag hpre;clear hpre;by_cases hlt:k < m.length
  ·obtain⟨l,hl⟩:=Gl hlt;obtain⟨b,o,c',u,e1,hF,hb,x0,hv⟩:=Gt.at H.o hl;injection e1 with e11 e12 e13
   subst e11;clear e12 e13;have HV:=Ag hv;obtain⟨A2,c2,rfl,hc2,_⟩:=hv;have HX:=Ag hl; clear hl;have LT:=Ag (show aaC long limbs l=true->qp m lists long limbs=true by
    intro h;unfold qp;rw[show m.any (aaC long limbs)=true from List.any_eq_true.2 ⟨l,Gx HX.o,h⟩]; simp)
   by_cases q1:long < l.length
   ·have d1:decide (long < (l.length:Int))=true:=by simpa using q1
    have HF:=Ag (LT.o (by simp[aaC,q1]));exact zbU
   have d1:decide (long < (l.length:Int))=false:=by simpa using q1
   have hll:l.length<=1000:=FI;go_wp2
   go_loopw [10] (λi wz=>∃ j:Nat,j<=l.length/\i = GV GU j/\((l.take j).any λr=>decide (limbs < r.num.length)||decide (limbs < r.den.length))=false/\wz=wr) (λi _=>l.length - (intOf i).toNat)
   case atStart=>exact⟨0,FI,rfl,aA,rfl⟩
   case round =>
    obtain⟨j,hj,rfl,hpre,rfl⟩:=hrel;have HP2:=Ag hpre;clear hpre;by_cases hlt2:j < l.length
    ·obtain⟨r,hr⟩:=Gl hlt2;obtain⟨b2,o2,c3,vn,vd,e2,hF2,hb2,y0,y1,y2,i1,i2⟩:=Gs.at HV.o hr;injection e2 with e21 e22 e23
     subst e21;clear e22 e23;obtain⟨A5,c5,rfl,hc5,_⟩:=i1;obtain⟨A6,c6,rfl,hc6,_⟩:=i2;have HY:=Ag hr; clear hr;have LT2:=Ag (show(decide (limbs < (r.num.length:Int))||decide (limbs < (r.den.length:Int)))=true->qp m lists long limbs=true by
      intro h;refine LT.o ?_;unfold aaC;rw[show(l.any λr=>decide (limbs < (r.num.length:Int))||decide (limbs < (r.den.length:Int)))=true from List.any_eq_true.2 ⟨r,Gx HY.o,h⟩]; simp)
     by_cases q2:limbs < r.num.length
     ·have d2:decide (limbs < (r.num.length:Int))=true:=by simpa using q2
      have HF:=Ag (LT2.o (by rw[d2]; rfl));exact zbU
     have d2:decide (limbs < (r.num.length:Int))=false:=by simpa using q2
     by_cases q3:limbs < r.den.length
     ·have d3:decide (limbs < (r.den.length:Int))=true:=by simpa using q3
      have HF:=Ag (LT2.o (by rw[d3]; simp));exact zbU
     have d3:decide (limbs < (r.den.length:Int))=false:=by simpa using q3
     go_wp2
     go_roundw
     case rel=>exact⟨j+1,FI,by go_num,agP HP2.o HY.o (by rw[d2,d3]; rfl),trivial⟩
     case measure=>exact zMs
    ·go_wp2
     go_roundw
     case rel=>exact⟨k+1,FI,by go_num,agP HP.o HX.o (by
      have h3:=HP2.o;rw[G8 FI] at h3;unfold aaC;rw[h3,d1]; rfl),trivial⟩
     case measure=>exact zMs
  ·have HF:=Ag (show qp m lists long limbs=false by
    have h3:=HP.o;rw[G8 FI] at h3;unfold qp;rw[h3,d0]; rfl)
   exact zbU
def Ci (l:List (List Raw)):Prop:=l.length<=500000/\∀ r∈l,Bd r
theorem adW (w:GK) (F:Gq) (v1 v2:GN) (l1 l2:List (List Raw)) (h1:Gt w F v1 l1) (h2:Gt w F v2 l2) (s1:Ci l1) (s2:Ci l2) :
  Calls GI 15 #[v1,v2] w (Ret w λv _=>v = G7 (decide (l1=l2))):=by
 have H1:=Ag h1;have H2:=Ag h2;have S1:=Ag s1;have S2:=Ag s2;have hb1:=s1.1;have hb2:=s2.1;obtain⟨A1,c1,rfl,hc1,_⟩:=h1;obtain⟨A2,c2,rfl,hc2,_⟩:=h2;clear s1 s2;by_cases q0:l1.length=l2.length
 case neg =>
  exact ZK
 refine zdK ?_;intro d0 Q0;clear q0;go_in;go_wp2
 go_loopw [5] (λi wr=>∃ k:Nat,k<=l1.length/\i = GV GU k/\l1.take k=l2.take k/\Below w.heap.size w wr) (λi _=>l1.length - (intOf i).toNat)
 case atStart=>exact⟨0,FI,rfl,aA,GR _ _⟩
 case round =>
  obtain⟨k,hk,rfl,hpre,hbel⟩:=hrel;have HP:=Ag hpre;clear hpre;by_cases hlt:k < l1.length
  ·have hk2:k < l2.length:=by have:=Q0.o;omega
   obtain⟨r1,hr1⟩:=Gl hlt;obtain⟨r2,hr2⟩:=Gl hk2;obtain⟨bb1,o1,cc1,u1,e1,hF1,hlt1,x0,i1⟩:=Gt.at H1.o hr1;obtain⟨bb2,o2,cc2,u2,e2,hF2,hlt2,y0,i2⟩:=Gt.at H2.o hr2;injection e1 with e11 e12 e13
   injection e2 with e21 e22 e23
   subst e11 e21;clear e12 e13 e22 e23;have V1:=Ag i1;have V2:=Ag i2;obtain⟨A3,c3,rfl,_,_⟩:=i1;obtain⟨A4,c4,rfl,_,_⟩:=i2;have L1:=Ag (S1.o.2 r1 (Gx hr1));have L2:=Ag (S2.o.2 r2 (Gx hr2));have HX:=Ag hr1;clear hr1;have HY:=Ag hr2;clear hr2;have hold:=aK hbel;by_cases he:r1=r2
   ·have hd:decide (r1=r2)=true:=by simp[he]
    have HEQ:=Ag he;clear he;go_wp2
    go_still_tail 8,aj
    change wpList _ _ _ _ _ wr.drew;go_wp2_with (go_at_call 14; (with_reducible refine(kG _ F _ _ r1 r2 (V1.o.on ?_) (V2.o.on ?_) L1.o L2.o).mono ?_); exact GL hbel.drew F; exact GL hbel.drew F; rintro e w' ⟨_,rfl,hb,rfl⟩)
    go_roundw
    case rel =>
     exact zcs
    case measure=>exact zMs
   ·have hd:decide (r1=r2)=false:=by simp[he]
    have HF:=Ag (show decide (l1=l2)=false by
     simp only[decide_eq_false_iff_not]; rintro rfl;have h3:=HX.o; rw[HY.o] at h3; cases h3; exact he rfl)
    clear he;go_wp2
    go_still_tail 8,aj
    change wpList _ _ _ _ _ wr.drew;go_wp2_with (go_at_call 14; (with_reducible refine(kG _ F _ _ r1 r2 (V1.o.on ?_) (V2.o.on ?_) L1.o L2.o).mono ?_); exact GL hbel.drew F; exact GL hbel.drew F; rintro e w' ⟨_,rfl,hb,rfl⟩)
    go_ret;exact⟨_,rfl,hbel.drew.trans (hb.mono hbel.size),by rw[HF.o]; rfl⟩
  ·go_wp2
   go_ret;refine zaI ?_;have h3:=HP.o;have h4:=Q0.o;have h5:l1=l2:=by
    exact zad
   simp[h5]
open List renaming getElem_toArray → lq1, getElem_cons_zero → lq2, getElem_cons_succ → lq3, setIfInBounds_toArray → lq4, set_cons_zero → lq5, set_cons_succ → lq6
theorem aiu (w:GK) (v:GN) (s1 s2:Int) (h:s1 < 0):Calls GI 73 #[v,.agg #[GV GU s1,GV GU s2]] w (Ret w λu w'=>NmV w' (λb=>w.heap.size<=b) u 1):=by
 have d0:decide (s1 < 0)=true:=LK h;clear h;go_in;go_wp2_with fail
 generalize hW:G5 _ _=W;obtain⟨rx,hr,hB,hz⟩:=gW hW;clear hW rx;refine(lG W 1 au au).mono ?_;rintro e wn ⟨va,rfl,hb,hu⟩;obtain⟨y,hy⟩:∃ y:Rat,y=((1:Int):Rat):=⟨_,rfl⟩;rw[<-hy] at hu;have HY:=Ag (show y=1 by rw[hy]; rfl);have hu2:NmV wn (λb=>w.heap.size+1 < b) va y:=hu.mono (λb hb _=>by omega);have HM:=Ag hu2;obtain⟨Am,cm,Bm,dm,rfl,hn,hd⟩:=hu2.open;clear hn hd hu hu2 hy;refine Ye ?_;clear hr hz hB hb;intro hr hz hB;refine Zt ?_;intro q0 y0 q1 y1 q2 y2;go_wp2
 obtain⟨Wz,hWz,hrz,hwz,hkz⟩:=aY hr (G7 (ay y).neg) (Gw Am (ay y).num.length cm) (Gw Bm (ay y).den.length dm);refine Zg ?_;clear hWz q0 q1 q2 y0 y1 y2;intro t0 t1 t2;refine bodyPost_ret (v:=.agg #[G7 (ay y).neg,Gw Am (ay y).num.length cm,Gw Bm (ay y).den.length dm]) (by simp[results,Tryz.results73,go_sem,t0,t1,t2]) rfl ?_;exact⟨_,rfl,hwz _ _ FI hB,by rw[<-HY.o]; exact(HM.o.on (hkz _ FI)).mono (λb hb _=>by omega)⟩
theorem aiv (w:GK) (F:Gq) (bo n cap i j:Nat) (vr:GN) (row:List Rat) (x:Rat) (hc:w.cell? ⟨bo,i,none⟩=some vr) (hr:Gs w F vr (row.map ay)) (hx:row[j]? = some x) (hi:i < n) :
  Calls GI 73 #[Gw (some ⟨bo,0,none⟩) n cap,.agg #[GV GU (i:Int),GV GU (j:Int)]] w (Ret w λu w'=>NmV w' (Old F w.heap.size) u x):=by
 have d0:decide ((i:Int) < 0)=false:=LJ FI;obtain⟨rb,ro,rc,vn,vd,e,hFr,hrb,y0,y1,y2,hn,hd⟩:=Gs.at hr (show(row.map ay)[j]? = some (ay x) by rw[List.getElem?_map,hx]; rfl);rw[List.length_map] at e;subst e;have hjl:=Gn hx;have HM:=Ag (Ak.old (Ak.make (r:=ay x) rfl hn hd));obtain⟨An,cn,rfl,-,-⟩:=hn;obtain⟨Ad,cd,rfl,-,-⟩:=hd;clear hr hx;go_in;go_wp2_with fail
 generalize hW:G5 _ _=W;obtain⟨rx,hr,hB,hz⟩:=gW hW;have b0:=rx.cell (i:=0) rfl;have b1:=rx.cell (i:=1) rfl;have c0:=ah hc hB;replace y0:=ah y0 hB;replace y1:=ah y1 hB;replace y2:=ah y2 hB;replace HM:=Ag (Ak.below HM.o hB);clear hW rx hc;refine aP (λw'=>w'.cell? ⟨w.heap.size,0,none⟩=some (GV GU (i:Int))/\w'.cell? ⟨w.heap.size,1,none⟩=some (GV GU (j:Int))/\w'.cell? ⟨bo,i,none⟩=some (Gw (some ⟨rb,ro,none⟩) row.length rc)/\w'.cell? ⟨rb,ro+j*3,none⟩=some (G7 (ay x).neg)/\w'.cell? ⟨rb,ro+j*3+1,none⟩=some (Gw An (ay x).num.length cn)/\w'.cell? ⟨rb,ro+j*3+2,none⟩=some (Gw Ad (ay x).den.length cd)) 9 1 aj rfl aj ⟨b0,b1,c0,y0,y1,y2⟩ λhHeld=>?_
 refine Zo ?_;refine Yx ?_;intro hb;replace b0:=ah b0 hb;replace b1:=ah b1 hb;replace c0:=ah c0 hb;replace y0:=ah y0 hb;replace y1:=ah y1 hb;replace y2:=ah y2 hb;replace HM:=Ag (Ak.below HM.o hb);refine Ye ?_;clear hr hz hB hb;intro hr hz hB;generalize W.drew=wn at *;refine tkm [0,1,2,3,4,5,6,7,8] ?_;refine Zp ?_;clear hHeld;clear b0 b1 c0 y0 y1 y2;have q0:=hr.cell (i:=0) rfl;have y0:=hr.frozen 0;have q1:=hr.cell (i:=1) rfl;have y1:=hr.frozen 1;have q2:=hr.cell (i:=2) rfl;have y2:=hr.frozen 2;go_wp2
 refine Z4 ?_;go_wp2
 obtain⟨Wz,hWz,hrz,hwz,hkz⟩:=aY hr (G7 (ay x).neg) (Gw An (ay x).num.length cn) (Gw Ad (ay x).den.length cd);refine Zg ?_;clear hWz q0 q1 q2 y0 y1 y2;intro t0 t1 t2;refine bodyPost_ret (v:=.agg #[G7 (ay x).neg,Gw An (ay x).num.length cn,Gw Ad (ay x).den.length cd]) (by simp[results,Tryz.results73,go_sem,t0,t1,t2]) rfl ?_;exact⟨_,rfl,hwz _ _ FI hB,Ak.keep HM.o (λb hb _=>hb) (hkz _ (λh=>by have:=h.2; omega))⟩
