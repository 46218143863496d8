import Derived.Test.YtenaplhghbcjhaaGreatDoorQ29
import Derived.ChangeKeysEq
set_option linter.all false
set_option maxRecDepth 100000
set_option maxHeartbeats 0
namespace Go.Proofs.YtenaplhghbcjhaaGreatDoor
open Go.IntKind renaming i64->GU
open Go.Value renaming int->GV
open Go.Proofs.Tryz renaming prog->GI
open Go.RowKit
theorem nC (w:World) (a b c d:Int):(Op.equalIn 10000 92 (.agg #[GV GU a,GV GU b]) (.agg #[GV GU c,GV GU d])).run GI w = .ok ((a==c)&&(b==d)) w:=by
 have h:∀ dd:Nat,(Op.equalIn (dd+2) 92 (.agg #[GV GU a,GV GU b]) (.agg #[GV GU c,GV GU d])).run GI w = .ok ((a==c)&&(b==d)) w:=by
  intro dd;obtain⟨i0,hi,_⟩:=info_parts Tryz.infoInt;rw[run_equalIn_array w (dd+1) _ _ Tryz.underlying92 hi];have e:Tryz.prog.cellsOf 3=1:=aj;rw[e];have h:List.range 2 = [0,1]:=rfl;rw[h];simp[Op.eqItems,go_sem];by_cases h1:a=c <;> by_cases h2:b=d <;> simp[h1,h2]
 exact h 9998
theorem amd (w:World) (F:Gq) (v1 v2:Value) (l1 l2:List (Int×Int)) (h1:AA w F v1 l1) (h2:AA w F v2 l2) (hb1:l1.length<=1000000) :
  Calls GI 161 #[v1,v2] w (Ret w λv _=>v = .bool (decide (l1=l2))):=by
 have H1:=Ag h1;have H2:=Ag h2;obtain⟨A1,c1,rfl,hc1,hx1⟩:=h1;obtain⟨A2,c2,rfl,hc2,hx2⟩:=h2;have HX1:=Ag hx1;have HX2:=Ag hx2;clear hx1 hx2;by_cases q0:l1.length=l2.length
 case neg =>
  exact ZK
 refine zdK ?_;intro d0 Q0;clear q0;go_in;go_wp2
 go_loopw [5] (λi wr=>∃ k:Nat,k<=l1.length/\i = GV GU k/\l1.take k=l2.take k/\Below w.heap.size w wr) (λi _=>l1.length - (intOf i).toNat)
 case atStart=>exact⟨0,FI,rfl,aA,Below.refl _ _⟩
 case round =>
  obtain⟨k,hk,rfl,hpre,hbel⟩:=hrel;have HP:=Ag hpre;clear hpre;by_cases hlt:k < l1.length
  ·have hk2:k < l2.length:=by have:=Q0.o;omega
   obtain⟨⟨xp,xa⟩,hr1⟩:=Gl hlt;obtain⟨⟨yp,ya⟩,hr2⟩:=Gl hk2;obtain⟨b1,o1,rfl,_,_,ame⟩:=HX1.o FI;obtain⟨b2,o2,rfl,_,_,afx⟩:=HX2.o FI;obtain⟨x0,x1⟩:=ame k _ hr1;obtain⟨y0,y1⟩:=afx k _ hr2;replace x0:=ah x0 hbel;replace x1:=ah x1 hbel;replace y0:=ah y0 hbel;replace y1:=ah y1 hbel;dsimp only at x0 x1 y0 y1;have HR1:=Ag hr1;have HR2:=Ag hr2;clear ame afx hr1 hr2;by_cases he:xp=yp/\xa=ya
   ·obtain⟨rfl,rfl⟩:=he;have heq:=λw=>nC w xp xa xp xa
    go_wp2
    go_quiet (fail)
    go_wp2
    go_roundw
    case rel=>exact⟨k+1,FI,by go_num,by rw[Gv HR1.o,Gv HR2.o,HP.o],aG hbel _⟩
    case measure=>exact zMs
   ·have HF:=Ag (show decide (l1=l2)=false by
     simp only[decide_eq_false_iff_not]; rintro rfl; have h3:=HR1.o; rw[HR2.o] at h3; cases h3; exact he ⟨rfl,rfl⟩)
    by_cases h1:xp=yp
    ·subst h1;have hne:(xa==ya)=false:=by simp;exact λh2=>he ⟨rfl,h2⟩
     clear he;have heq:=λw=>nC w xp xa xp ya
     go_wp2
     go_quiet (fail)
     exact zbV
    ·have hne:(xp==yp)=false:=by simp[h1]
     clear he h1;have heq:=λw=>nC w xp xa yp ya
     go_wp2
     go_quiet (fail)
     exact zbV
  ·go_wp2
   go_ret;refine zaI ?_;have h3:=HP.o;have h4:=Q0.o;have h5:l1=l2:=by
    exact zad
   simp[h5]
