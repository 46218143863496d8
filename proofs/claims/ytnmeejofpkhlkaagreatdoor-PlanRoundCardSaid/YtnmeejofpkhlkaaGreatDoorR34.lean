/- parlourlaw16: sameSeqs, rat. -/
import Derived.BigQuiet
import Derived.Laws.StructEq
import Derived.Test.YtnmeejofpkhlkaaGreatDoorR33
set_option linter.all false
set_option maxRecDepth 100000
set_option maxHeartbeats 12800000
namespace Go.Proofs.YtnmeejofpkhlkaaGreatDoor
open Lib renaming hid → Ag
open Go.RowKit
theorem vS (w:World) (a b c d:Int):(Op.equalIn 10000 60 (.agg #[.int .i64 a,.int .i64 b]) (.agg #[.int .i64 c,.int .i64 d])).run Tryz.prog w = .ok ((a==c)&&(b==d)) w:=by
 have h:∀ dd:Nat,(Op.equalIn (dd+2) 60 (.agg #[.int .i64 a,.int .i64 b]) (.agg #[.int .i64 c,.int .i64 d])).run Tryz.prog w = .ok ((a==c)&&(b==d)) w:=by
  intro dd;rw[run_equalIn_struct w (dd+1) _ _ _ ah ah];simp only[Program.fieldsOf,Tryz.underlying60];simp[Op.eqFields,part,go_sem];by_cases h1:a=c <;> by_cases h2:b=d <;> simp[h1,h2]
 exact h 9998
theorem adb (w:World) (F:Foot) (v1 v2:Value) (l1 l2:List (Int×Int)) (h1:AB w F v1 l1) (h2:AB w F v2 l2) (hb1:l1.length≤1000000) :
  Calls Tryz.prog 113 #[v1,v2] w (Ret w fun v _=>v = .bool (decide (l1=l2))):=by
 have H1:=Ag h1;have H2:=Ag h2;obtain⟨A1,c1,rfl,hc1,hx1⟩:=h1;obtain⟨A2,c2,rfl,hc2,hx2⟩:=h2;have HX1:=Ag hx1;have HX2:=Ag hx2;clear hx1 hx2;by_cases q0:l1.length=l2.length
 case neg =>
  exact ZH
 refine zb9 ?_;intro d0 Q0;clear q0;go_in;go_wp2
 go_loopw [5] (fun i wr=>∃ k:Nat,k≤l1.length∧i = .int .i64 k∧l1.take k=l2.take k∧Below w.heap.size w wr) (fun i _=>l1.length - (intOf i).toNat)
 case atStart=>exact⟨0,byOmega,rfl,aB,Below.refl _ _⟩
 case round =>
  obtain⟨k,hk,rfl,hpre,hbel⟩:=hrel;have HP:=Ag hpre;clear hpre;by_cases hlt:k < l1.length
  ·have hk2:k < l2.length:=by have:=Q0.out;omega
   obtain⟨⟨xp,xa⟩,hr1⟩:=getSome hlt;obtain⟨⟨yp,ya⟩,hr2⟩:=getSome hk2;obtain⟨b1,o1,rfl,_,_,ai7⟩:=HX1.out byOmega;obtain⟨b2,o2,rfl,_,_,ai8⟩:=HX2.out byOmega;obtain⟨x0,x1⟩:=ai7 k _ hr1;obtain⟨y0,y1⟩:=ai8 k _ hr2;replace x0:=ak x0 hbel;replace x1:=ak x1 hbel;replace y0:=ak y0 hbel;replace y1:=ak y1 hbel;dsimp only at x0 x1 y0 y1;have HR1:=Ag hr1;have HR2:=Ag hr2;clear ai7 ai8 hr1 hr2;by_cases he:xp=yp∧xa=ya
   ·obtain⟨rfl,rfl⟩:=he;have heq:=fun w=>vS w xp xa xp xa
    go_wp2
    go_quiet (fail)
    go_wp2
    go_roundw
    case rel=>exact⟨k+1,byOmega,by go_num,by rw[take_snoc HR1.out,take_snoc HR2.out,HP.out],aI hbel _⟩
    case measure=>simp[intOf]; omega
   ·have HF:=Ag (show decide (l1=l2)=false by
     simp only[decide_eq_false_iff_not]; rintro rfl; have h3:=HR1.out; rw[HR2.out] at h3; cases h3; exact he ⟨rfl,rfl⟩)
    by_cases h1:xp=yp
    ·subst h1;have hne:(xa==ya)=false:=by simp;exact fun h2=>he ⟨rfl,h2⟩
     clear he;have heq:=fun w=>vS w xp xa xp ya
     exact YX
    ·have hne:(xp==yp)=false:=by simp[h1]
     clear he h1;have heq:=fun w=>vS w xp xa yp ya
     exact YX
  ·go_wp2
   go_ret;refine zcv ?_;have h3:=HP.out;have h4:=Q0.out;have h5:l1=l2:=by
    exact Ym
   simp[h5]
theorem fP (w:World) (a:Int) (b:Nat) (h1:-1000000000000≤a) (h2:a≤1000000000000) (h3:b≤1000000000000) (hb0:b≠0) :
  Calls Tryz.prog 25 #[.int .i64 a,.int .i64 (b:Int)] w (Ret w fun v w'=>RtV w' (fun b=>w.heap.size≤b) v (mkRat a b)):=by
 have HR:=Ag (fun w=>xX w a b h1 h2 h3 hb0);generalize mkRat a b=x at *;go_in;go_wp2_with fail
 refine Yt ?_;intro W hr hB hz;refine(HR.out _).mono ?_;rintro e wn ⟨vm,rfl,hb,hu⟩;have hu2:RtV wn (fun b=>w.heap.size+1≤b) vm x:=hu.mono (fun b hb _=>by omega);have HM:=Ag hu2;obtain⟨Am,cm,Bm,dm,rfl,hn,hd⟩:=hu2.open;clear hn hd hu hu2;refine Yy ?_;clear hr hz hB hb;intro hr hz hB;refine Zp ?_;intro q0 y0 q1 y1 q2 y2;go_wp2
 obtain⟨Wz,hWz,hrz,hwz,hkz⟩:=bW hr (.bool (aG x).neg) (.slice Am (aG x).num.length cm) (.slice Bm (aG x).den.length dm);refine Zj ?_;clear hWz q0 q1 q2 y0 y1 y2;intro t0 t1 t2;refine bodyPost_ret (v:=.agg #[.bool (aG x).neg,.slice Am (aG x).num.length cm,.slice Bm (aG x).den.length dm]) (by simp[results,Tryz.results25,go_sem,t0,t1,t2]) rfl ?_;exact zb5
end Go.Proofs.YtnmeejofpkhlkaaGreatDoor
