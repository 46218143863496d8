/- One step of a long division: long.digit. -/
import Derived.Test.YtkcheepafifjaaaGreatDoorU05
set_option linter.all false
set_option maxRecDepth 100000
set_option maxHeartbeats 12800000
namespace Go.Proofs.YtkcheepafifjaaaGreatDoor
open Lib renaming hid → Ac
open Go.RowKit
theorem adh (w:World) (bu bv:Nat) (P u S v:List Nat) (j n cu cv:Nat) (hP:P.length=j) (hu:Row w bu 115 (aO (P++u++S))) (hv:Row w bv 115 (aO v)) (hne:bv≠bu) (he:Est u v n) (hn:n≤200000) (hj:j≤200000) (hcu:n+1≤cu) (hcv:n≤cv) :
  Calls Tryz.prog 198 #[.slice (some ⟨bu,j,none⟩) (n+1) cu,.slice (some ⟨bv,0,none⟩) n cv] w (CY w bu P u S v n):=by
 have hn2:=he.n2;obtain⟨n1,hn1⟩:∃ n1,n1+1=n:=⟨n - 1,by omega⟩;obtain⟨n2,ah9⟩:∃ n2,n2+2=n:=⟨n - 2,by omega⟩;have i1:(n:Int) - 1=(n1:Int):=by omega
 have i2:(n:Int) - 2=(n2:Int):=by omega
 have l1:n1 < n:=by omega
 have l2:n2 < n:=by omega
 have ul:=he.ul;have vl:=he.vl;obtain⟨top,htop⟩:=ay (l:=v) (k:=n1) (by omega);obtain⟨v2,hv2⟩:=ay (l:=v) (k:=n2) (by omega);obtain⟨un,hun⟩:=ay (l:=u) (k:=n) (by omega);obtain⟨u1,hu1⟩:=ay (l:=u) (k:=n1) (by omega);obtain⟨u2,hu2⟩:=ay (l:=u) (k:=n2) (by omega);have ct:=hv.cell (aT htop);have cv2:=hv.cell (aT hv2);have cun:=hu.cell (aT ((iY hP (by omega)).trans hun));have cu1:=hu.cell (aT ((iY hP (by omega)).trans hu1));have cu2:=hu.cell (aT ((iY hP (by omega)).trans hu2));have topl:top < 1000000000:=he.lv.get htop;have v2l:v2 < 1000000000:=he.lv.get hv2;have unl:un < 1000000000:=he.lu.get hun;have u1l:u1 < 1000000000:=he.lu.get hu1;have u2l:u2 < 1000000000:=he.lu.get hu2;have gt:v.getD (n - 1) 0=top:=by rw[show n - 1=n1 by omega]; exact aF htop
 have gv2:v.getD (n - 2) 0=v2:=by rw[show n - 2=n2 by omega]; exact aF hv2
 have gun:u.getD n 0=un:=aF hun;have gu1:u.getD (n - 1) 0=u1:=by rw[show n - 1=n1 by omega]; exact aF hu1
 have gu2:u.getD (n - 2) 0=u2:=by rw[show n - 2=n2 by omega]; exact aF hu2
 have ahk:500000000≤top:=by have:=he.half; rw[gt] at this; unfold LB at this; omega
 have hq0:=Nat.div_add_mod (un*1000000000+u1) top;have hr0:=Nat.mod_lt (un*1000000000+u1) (show 0 < top by omega);have hqI:((un:Int)*1000000000+(u1:Int)) / (top:Int)=(((un*1000000000+u1) / top:Nat):Int):=by rw[← kF]; rfl
 have hrI:((un:Int)*1000000000+(u1:Int)) % (top:Int)=(((un*1000000000+u1) % top:Nat):Int):=by rw[← oG]; rfl
 generalize (un*1000000000+u1) / top=q0 at *;generalize (un*1000000000+u1) % top=r0 at *;have adb:u.getD n 0*LB+u.getD (n - 1) 0=q0*v.getD (n - 1) 0+r0:=by rw[gun,gu1,gt,show LB=1000000000 from rfl,← hq0,Nat.mul_comm]
 obtain⟨agj,hle0⟩:=he.first adb (by rw[gt]; exact hr0);have HE:=Ac he; have HQ0:=Ac adb; have Dq:=Ac agj;have HG:=Ac (And.intro gt (And.intro gv2 (And.intro gun (And.intro gu1 gu2))));have HU:=Ac hu; have HV:=Ac hv; have HPP:=Ac hP;have hblt:=hu.lt; have aia:=hv.lt;have HUL:=Ac ul; have HVL:=Ac vl;have HNE:=Ac hne;clear he adb agj gt gv2 gun gu1 gu2 hu hv hP ul vl hq0 htop hv2 hun hu1 hu2 hn1 ah9 hne;go_enter Tryz.func198,Tryz.ntmps198;go_wp2
 go_quiet (fail)
 go_wp2
 go_quiet (fail)
 go_wp2
 go_loopw [7,8] (fun qv rv wr=>∃ (q r z:Nat),qv = .int .u64 (q:Int)∧rv = .int .u64 (r:Int)∧u.getD n 0*LB+u.getD (n - 1) 0=q*v.getD (n - 1) 0+r∧aA u / aA v≤q∧q≤1000000002∧r < 2000000000∧wr=w.drewN z) (fun qv _ _=>(intOf qv).toNat)
 case atStart=>exact⟨q0,r0,_,by rw[hqI],by rw[hrI],HQ0.out,Dq.out,hle0,by omega,by simp only[World.drewN_drewN]; rfl⟩
 case round =>
  clear HQ0 Dq hle0 hr0 hqI hrI;obtain⟨q,r,z,rfl,rfl,hq,hge,agk,hrl,rfl⟩:=hrel;have HQ:=Ac hq; have HGE:=Ac hge;clear hq hge;have hpb:q*v2≤1000000001000000000:=by
   have:=Nat.mul_le_mul agk (show v2≤999999999 by omega);omega
  obtain⟨p,hp⟩:∃ p,p=q*v2:=⟨_,rfl⟩;have hpI:(q:Int)*(v2:Int)=(p:Int):=by rw[hp]; simp
  rw[← hp] at hpb;have HP:=Ac hp; clear hp;have hbad:qg q r v2 u2=decide (r < 1000000000∧(1000000000≤q∨r*1000000000+u2 < p)):=by unfold qg; rw[HP.out]
  have HBAD:=Ac hbad; clear hbad;go_upto_region 4 with fail
  go_cut [74] from 49 to 84 (fun b wx=>b = .bool (qg q r v2 u2)∧∃ z,wx=w.drewN z)
  case first =>
   by_cases c1:r < 1000000000
   ·by_cases c2:1000000000≤q
    ·have HB:=Ac (show qg q r v2 u2=true by rw[HBAD.out]; exact decide_eq_true ⟨c1,.inl c2⟩);have d1:decide ((r:Int) < 1000000000)=true:=decide_eq_true (by omega);have d2:decide ((1000000000:Int)≤(q:Int))=true:=decide_eq_true (by omega);go_quiet (fail)
     go_wp2_with fail
     go_meet
     exact⟨by rw[HB.out],by simp only[World.drewN_drewN]; exact⟨_,rfl⟩⟩
    ·have d1:decide ((r:Int) < 1000000000)=true:=decide_eq_true (by omega);have d2:decide ((1000000000:Int)≤(q:Int))=false:=decide_eq_false (by omega);by_cases c3:r*1000000000+u2 < p
     ·have HB:=Ac (show qg q r v2 u2=true by rw[HBAD.out]; exact decide_eq_true ⟨c1,.inr c3⟩);have d3:decide ((r:Int)*1000000000+(u2:Int) < (p:Int))=true:=decide_eq_true (by omega);go_quiet (fail)
      go_wp2_with fail
      go_meet
      exact⟨by rw[HB.out],by simp only[World.drewN_drewN]; exact⟨_,rfl⟩⟩
     ·have HB:=Ac (show qg q r v2 u2=false by rw[HBAD.out]; exact decide_eq_false (by omega));have d3:decide ((r:Int)*1000000000+(u2:Int) < (p:Int))=false:=decide_eq_false (by omega);go_quiet (fail)
      go_wp2_with fail
      go_meet
      exact⟨by rw[HB.out],by simp only[World.drewN_drewN]; exact⟨_,rfl⟩⟩
   ·have HB:=Ac (show qg q r v2 u2=false by rw[HBAD.out]; exact decide_eq_false (by omega));have d1:decide ((r:Int) < 1000000000)=false:=decide_eq_false (by omega);go_quiet (fail)
    go_wp2_with fail
    go_meet
    exact⟨by rw[HB.out],by simp only[World.drewN_drewN]; exact⟨_,rfl⟩⟩
  case rest =>
   obtain⟨rfl,z',rfl⟩:=hcut;cases hb:qg q r v2 u2
   ·have hbf:¬ (r < LB∧(LB≤q∨r*LB+u.getD (n - 2) 0 < q*v.getD (n - 2) 0)):=by
     intro h; rw[HG.out.2.2.2.2,HG.out.2.1] at h;have:=(uJ q r v2 u2).2 h;rw[hb] at this; cases this
    obtain⟨a1,a2,a3⟩:=HE.out.almost HQ.out HGE.out hbf;have hqB:q < 1000000000:=a1;have HAL:=Ac (And.intro a2 a3);clear hb hbf a1 a2 a3 HQ HGE agk hrl hpb hpI HP HBAD;have ade:w.grownBy (w.drewN z') (some bu):=uI (yN _ _) _;have adf:Row (w.drewN z') bu 115 (aO (P++u++S)):=HU.out.dN _;clear ct cv2 cun cu1 cu2;obtain⟨W0,hW0⟩:∃ W0,W0=w.drewN z':=⟨_,rfl⟩;rw[← hW0] at ade adf;go_wp2
    rw[← hW0];clear hW0;go_loopw [9,87] (fun cv i wr=>∃ (k cr:Nat) (u':List Nat),k≤n∧i = .int .i64 (k:Int)∧cv = .int .u64 (cr:Int)∧cr≤1000000000∧Cm u v q k cr u' ∧
     Row wr bu 115 (aO (P++u'++S))∧w.grownBy wr (some bu)) (fun _ i _=>n - (intOf i).toNat)
    case atStart=>exact⟨0,0,u,by omega,rfl,rfl,by omega,Cm.start HE.out.lu,adf,ade⟩
    case round =>
     clear adf ade;obtain⟨k,cr,u',hk,rfl,rfl,hcr,hms,hrow,hgr⟩:=hrel;have vU:u'.length=n+1:=by rw[hms.len,HUL.out]
     have HMS:=Ac hms; have HRW:=Ac hrow; have HGR:=Ac hgr;have hrv:=HV.out.grown hgr HNE.out;by_cases hlt:k < n
     ·obtain⟨y,hy⟩:=ay (l:=v) (k:=k) (by rw[HVL.out]; exact hlt);obtain⟨x,hx⟩:=ay (l:=u') (k:=k) (by omega);have cy:=hrv.cell (aT hy);have cx:=hrow.cell (aT ((iY HPP.out (by omega)).trans hx));have fx:=hrow.frozen (j+k);have hyl:y < 1000000000:=HE.out.lv.get hy;have hxl:x < 1000000000:=hms.limbs.get hx;have HY:=Ac (aF hy);have HX:=Ac (show u.getD k 0=x by
       have:=jT hms.rest;rw[hx] at this;exact aF this.symm)
      have hpb:=qY (x:=q) (y:=y) hqB hyl;obtain⟨p,hp⟩:∃ p,p=q*y:=⟨_,rfl⟩;have hpI:(q:Int)*(y:Int)=(p:Int):=by rw[hp]; simp
      rw[← hp] at hpb;have HP:=Ac hp;have xI:k < u'.length:=by omega
      clear hy hx hms hrow hgr hrv hp vU;by_cases hs:(x:Int) - ((p:Int)+(cr:Int)) % 1000000000 < 0
      ·obtain⟨s,hs'⟩:∃ s,s+(p+cr) % 1000000000=x+1000000000:=⟨x+1000000000 - ((p+cr) % 1000000000),by omega⟩;have HS:=Ac hs'; clear hs';go_wp2
       go_roundw
       case rel =>
        refine⟨k+1,(p+cr) / 1000000000+1,u'.set k s,by omega,by go_num,by go_num,by omega,HMS.out.step (by rw[HUL.out]; omega) ?_ (by have:=HS.out; show _ < 1000000000; omega),?_,iU HGR.out _ _⟩
        ·have:=HS.out; rw[HX.out,HY.out,← HP.out]; show _=_+1000000000*_; omega
        ·have hr:=HRW.out.set (j+k) (.int .u32 (s:Int));rw[aV,set_mid HPP.out xI] at hr;have hss:=HS.out;rw[show(s:Int)=(x:Int) - ((p:Int)+(cr:Int)) % 1000000000+1000000000 by omega] at hr;exact hr
       case measure=>simp[intOf]; omega
      ·have hdd:decide ((x:Int) - ((p:Int)+(cr:Int)) % 1000000000 < 0)=false:=decide_eq_false hs;obtain⟨s,hs'⟩:∃ s,s+(p+cr) % 1000000000=x:=⟨x - ((p+cr) % 1000000000),by omega⟩;have HS:=Ac hs'; clear hs';go_wp2
       go_roundw
       case rel =>
        refine⟨k+1,(p+cr) / 1000000000,u'.set k s,by omega,by go_num,by go_num,by omega,HMS.out.step (by rw[HUL.out]; omega) ?_ (by have:=HS.out; show _ < 1000000000; omega),?_,iU HGR.out _ _⟩
        ·have:=HS.out; rw[HX.out,HY.out,← HP.out]; show _=_+1000000000*_; omega
        ·have hr:=HRW.out.set (j+k) (.int .u32 (s:Int));rw[aV,set_mid HPP.out xI] at hr;have hss:=HS.out;rw[show(s:Int)=(x:Int) - ((p:Int)+(cr:Int)) % 1000000000 by omega] at hr;exact hr
       case measure=>simp[intOf]; omega
     ·obtain rfl:k=n:=by omega
      have hxn:u'[k]? = u[k]?:=jT hms.rest;have hun':u[k]? = some un:=by
       have h1:=HG.out.2.2.1;obtain⟨y,hy⟩:=ay (l:=u) (k:=k) (by rw[HUL.out]; omega);rw[aF hy] at h1;rw[hy,h1]
      have cx:=hrow.cell (aT ((iY HPP.out (by omega)).trans (hxn.trans hun')));have HUN:=Ac (show u.getD k 0=un from HG.out.2.2.1);have Cc:=Ac vU;clear hms hrow hgr hxn hun' vU hlt;go_upto_if 127 with fail
      go_cut [7,14,15,16,17] from 121 to 153 (fun q7 _ _ _ _ wx=>∃ u3:List Nat,q7 = .int .u64 ((aA u / aA v:Nat):Int)∧u3.length=k+1∧Limbs u3∧aA (u3.take k)=aA u % aA v∧Row wx bu 115 (aO (P++u3++S))∧w.grownBy wx (some bu))
      case first =>
       by_cases hs:un < cr
       ·have hneg:u.getD k 0 < cr:=by rw[HUN.out]; omega
        have HNG:=Ac hneg;have hq1:1≤q:=by
         rcases Nat.eq_zero_or_pos q with h0 | h0
         ·exfalso
          have he:=uD HE.out HMS.out;have hl:=nJ HMS.out.limbs (n:=k) (by rw[Cc.out]; omega);have h1:LB ^ k*(u.getD k 0+1)≤LB ^ k*cr:=Nat.mul_le_mul_left _ hneg;rw[Nat.mul_add,Nat.mul_one] at h1;rw[h0,Nat.zero_mul] at he;omega
         ·exact h0
        clear hneg;go_wp2
        go_loopw [14,132] (fun ov i wi=>∃ (m o:Nat) (u2':List Nat),m≤k∧i = .int .i64 (m:Int)∧ov = .int .u32 (o:Int)∧o≤1∧CP u' v m o u2' ∧
         Row wi bu 115 (aO (P++u2'++S))∧w.grownBy wi (some bu)) (fun _ i _=>k - (intOf i).toNat)
        case atStart=>exact⟨0,0,u',by omega,rfl,rfl,by omega,CP.start HMS.out.limbs,HRW.out,HGR.out⟩
        case round =>
         clear cx;obtain⟨m,o,u2',hm,rfl,rfl,ho,hma,hrow,hgr⟩:=hrel;have HMA:=Ac hma; have C9:=Ac hrow; have Dc:=Ac hgr;have hrv:=HV.out.grown hgr HNE.out;have xI:u2'.length=k+1:=by rw[hma.len,Cc.out]
         by_cases hmt:m < k
         ·obtain⟨y,hy⟩:=ay (l:=v) (k:=m) (by rw[HVL.out]; exact hmt);obtain⟨x,hx⟩:=ay (l:=u2') (k:=m) (by omega);have cy:=hrv.cell (aT hy);have cx:=hrow.cell (aT ((iY HPP.out (by omega)).trans hx));have fx:=hrow.frozen (j+m);have hyl:y < 1000000000:=HE.out.lv.get hy;have hxl:x < 1000000000:=hma.limbs.get hx;have HY:=Ac (aF hy);have HX:=Ac (show u'.getD m 0=x by
           have:=jT hma.rest;rw[hx] at this;exact aF this.symm)
          have hm2:m < u2'.length:=by omega
          clear hy hx hma hrow hgr hrv xI;have hs2:(∃ s,x+y+o=s+1000000000)∨x+y+o < 1000000000:=by
           by_cases h:1000000000≤x+y+o
           ·exact .inl ⟨x+y+o - 1000000000,by omega⟩
           ·exact .inr (by omega)
          rcases hs2 with⟨s,hs2⟩ | hs2
          ·have hdd:decide ((1000000000:Int)≤(x:Int)+(y:Int)+(o:Int))=true:=decide_eq_true (by omega);have hsI:(1000000000:Int)≤(x:Int)+(y:Int)+(o:Int):=by omega
           have HS:=Ac hs2; clear hs2;go_wp2
           go_roundw
           case rel =>
            refine⟨m+1,1,u2'.set m s,by omega,by go_num,rfl,by omega,HMA.out.step (by rw[Cc.out]; omega) (by have:=HS.out; rw[HX.out,HY.out]; show _+1000000000*_=_; omega) (by have:=HS.out; show _ < 1000000000; omega),?_,iU Dc.out _ _⟩;have hr:=C9.out.set (j+m) (.int .u32 (s:Int));rw[aV,set_mid HPP.out hm2] at hr;have hss:=HS.out;rw[show(s:Int)=(x:Int)+(y:Int)+(o:Int) - 1000000000 by omega] at hr;exact hr
           case measure=>simp[intOf]; omega
          ·have hdd:decide ((1000000000:Int)≤(x:Int)+(y:Int)+(o:Int))=false:=decide_eq_false (by omega);go_wp2
           go_roundw
           case rel =>
            refine⟨m+1,0,u2'.set m (x+y+o),by omega,by go_num,rfl,by omega,HMA.out.step (by rw[Cc.out]; omega) (by rw[HX.out,HY.out]; show _+1000000000*_=_; omega) (by show _ < 1000000000; omega),?_,iU Dc.out _ _⟩;have hr:=C9.out.set (j+m) (.int .u32 ((x+y+o:Nat):Int));rw[aV,set_mid HPP.out hm2] at hr;exact hr
           case measure=>simp[intOf]; omega
         ·obtain rfl:m=k:=by omega
          have HB:=Ac (aam HE.out HMS.out HAL.out.1 HAL.out.2 HNG.out hma);clear hma hrow hgr hrv;go_wp2_with fail
          go_meet
          exact⟨u2',by have:=HB.out.1; go_num,xI,HMA.out.limbs,HB.out.2,C9.out,Dc.out⟩
       ·have hdd:decide (un < cr)=false:=decide_eq_false hs;have HB:=Ac (yg HE.out HMS.out HAL.out.1 HAL.out.2 (by rw[HUN.out]; omega));go_wp2_with fail
        go_meet
        exact⟨u',by rw[← HB.out.1],Cc.out,HMS.out.limbs,HB.out.2,HRW.out,HGR.out⟩
      case rest =>
       clear cx HMS HRW HGR Cc;obtain⟨u3,rfl,adg,agl,abX,hrow3,aib⟩:=hcut;obtain⟨x,hx⟩:=ay (l:=u3) (k:=k) (by omega);have cx:=hrow3.cell (aT ((iY HPP.out (by omega)).trans hx));have fx:=hrow3.frozen (j+k);have hQlt:aA u / aA v < 1000000000:=HE.out.q_lt;have HLN:=Ac (aan adg abX);have DI:=Ac adg;have hk3:k < u3.length:=by omega
       clear hx adg abX;generalize hQ:aA u / aA v=Q at *;have HQQ:=Ac hQ; clear hQ;go_wp2
       go_ret;refine⟨by rw[HQQ.out]; rfl,⟨u3.set k 0,by rw[List.length_set,DI.out],agl.set (by decide),HLN.out,?_⟩,iU aib _ _⟩;have hr:=hrow3.set (j+k) (.int .u32 ((0:Nat):Int));rw[aV,set_mid HPP.out hk3] at hr;exact hr
   ·have hbt:=(uJ q r v2 u2).1 hb;have HT:=Ac hbt;have hrLB:r < 1000000000:=hbt.1;clear hb hbt;have hq1:1≤q:=by
     have h:=HT.out.2;rcases Nat.eq_zero_or_pos q with h0 | h0
     ·subst h0; rcases h with h | h
      ·exact absurd h (by decide)
      ·simp at h
     ·exact h0
    go_wp2
    go_roundw
    case rel =>
     refine⟨q - 1,r+top,z',?_,?_,?_,?_,by omega,by omega,rfl⟩
     ·go_num
     ·go_num
     ·rw[HQ.out,HG.out.1];obtain⟨q',rfl⟩:∃ q',q=q'+1:=⟨q - 1,by omega⟩;rw[Nat.add_sub_cancel,Nat.add_mul,Nat.one_mul]; omega
     ·have:=HE.out.aal HQ.out (HT.out.2.imp id fun h=>by rw[HG.out.2.2.2.2,HG.out.2.1]; exact h);omega
    case measure=>simp[intOf]; omega
end Go.Proofs.YtkcheepafifjaaaGreatDoor
