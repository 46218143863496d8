/- Part of a claim. -/
import Derived.Test.YtnmeejofpkhlkaaGreatDoorE28
import Derived.ChangeKeysEq
set_option linter.all false
set_option maxRecDepth 100000
set_option maxHeartbeats 12800000
namespace Go.Proofs.YtnmeejofpkhlkaaGreatDoor
open Go.IntKind renaming i64->F5
open Go.Value renaming int->F6
open Go.Proofs.Tryz renaming prog->FY
open Lib renaming hid → Ac
open Go.RowKit
theorem wR (w:World) (a b c d:Int):(Op.equalIn 10000 141 (.agg #[F6 F5 a,F6 F5 b]) (.agg #[F6 F5 c,F6 F5 d])).run FY w = .ok ((a==c)&&(b==d)) w:=by
 have h:∀ dd:Nat,(Op.equalIn (dd+2) 141 (.agg #[F6 F5 a,F6 F5 b]) (.agg #[F6 F5 c,F6 F5 d])).run FY w = .ok ((a==c)&&(b==d)) w:=by
  intro dd;obtain⟨i0,hi,_⟩:=info_parts Tryz.infoInt;rw[run_equalIn_array w (dd+1) _ _ Tryz.underlying141 hi];have e:Tryz.prog.cellsOf 3=1:=ak;rw[e];have h:List.range 2 = [0,1]:=rfl;rw[h];simp[Op.eqItems,go_sem];by_cases h1:a=c <;> by_cases h2:b=d <;> simp[h1,h2]
 exact h 9998
theorem amg (w:World) (F:FI) (v1 v2:Value) (l1 l2:List (Int×Int)) (h1:AL w F v1 l1) (h2:AL w F v2 l2) (hb1:l1.length<=1000000) :
  Calls FY 167 #[v1,v2] w (Ret w λv _=>v = .bool (decide (l1=l2))):=by
 have H1:=Ac h1;have H2:=Ac h2;obtain⟨A1,c1,rfl,hc1,hx1⟩:=h1;obtain⟨A2,c2,rfl,hc2,hx2⟩:=h2;have HX1:=Ac hx1;have HX2:=Ac hx2;clear hx1 hx2;by_cases q0:l1.length=l2.length
 case neg =>
  exact Yo
 have d0:((l1.length:Int) != (l2.length:Int))=false:=aG;have Q0:=Ac q0;clear q0;go_in;go_wp2
 go_loopw [5] (λi wr=>∃ k:Nat,k<=l1.length/\i = F6 F5 k/\l1.take k=l2.take k/\Below w.heap.size w wr) (λi _=>l1.length - (intOf i).toNat)
 case atStart=>exact⟨0,EN,rfl,aF,Below.refl _ _⟩
 case round =>
  obtain⟨k,hk,rfl,hpre,hbel⟩:=hrel;have HP:=Ac hpre;clear hpre;by_cases hlt:k < l1.length
  ·have hk2:k < l2.length:=by have:=Q0.out;omega
   obtain⟨⟨xp,xa⟩,hr1⟩:=FC hlt;obtain⟨⟨yp,ya⟩,hr2⟩:=FC hk2;obtain⟨b1,o1,rfl,_,_,hcl1⟩:=HX1.out EN;obtain⟨b2,o2,rfl,_,_,aip⟩:=HX2.out EN;obtain⟨x0,x1⟩:=hcl1 k _ hr1;obtain⟨y0,y1⟩:=aip k _ hr2;replace x0:=ah x0 hbel;replace x1:=ah x1 hbel;replace y0:=ah y0 hbel;replace y1:=ah y1 hbel;dsimp only at x0 x1 y0 y1;have HR1:=Ac hr1;have HR2:=Ac hr2;clear hcl1 aip hr1 hr2;by_cases he:xp=yp/\xa=ya
   ·obtain⟨rfl,rfl⟩:=he;have heq:=λw=>wR w xp xa xp xa
    go_wp2
    go_quiet (fail)
    go_wp2
    go_roundw
    case rel=>exact⟨k+1,EN,by go_num,by rw[FP HR1.out,FP HR2.out,HP.out],aI hbel _⟩
    case measure=>simp[intOf]; omega
   ·have HF:=Ac (show decide (l1=l2)=false by
     simp only[decide_eq_false_iff_not]; rintro rfl; have h3:=HR1.out; rw[HR2.out] at h3; cases h3; exact he ⟨rfl,rfl⟩)
    by_cases h1:xp=yp
    ·subst h1;have hne:(xa==ya)=false:=by simp;exact λh2=>he ⟨rfl,h2⟩
     clear he;have heq:=λw=>wR w xp xa xp ya
     exact zbM
    ·have hne:(xp==yp)=false:=by simp[h1]
     clear he h1;have heq:=λw=>wR w xp xa yp ya
     exact zbM
  ·go_wp2
   go_ret;refine zc2 ?_;have h3:=HP.out;have h4:=Q0.out;have h5:l1=l2:=by
    exact zad
   simp[h5]
end Go.Proofs.YtnmeejofpkhlkaaGreatDoor
