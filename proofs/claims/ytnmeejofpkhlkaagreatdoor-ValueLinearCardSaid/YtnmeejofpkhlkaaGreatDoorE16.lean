/- Part of a claim. -/
import Derived.Test.YtnmeejofpkhlkaaGreatDoorRows
import Derived.Test.YtnmeejofpkhlkaaGreatDoorE15
import Derived.OpenShut
import Derived.ChangeVars
set_option linter.all false
namespace Go.Proofs.YtnmeejofpkhlkaaGreatDoor
open List renaming getElem?_eq_getElem->GX,getElem?_map->Gi
open Option.some renaming inj->KJ
open Go.ChangeShapes Go.WideShapes Go.RowKit
theorem Tryz.tabName:Tryz.prog.globalNamed "math/bits.deBruijn64tab" = some 0:=ak
theorem Tryz.tabType:(Tryz.prog.globals[0]?).map (·.type)=some 255:=ak
theorem Tryz.tabUnder:Tryz.prog.underlying 255=some (.array 64 5):=ak
theorem Tryz.tabCells:Tryz.prog.cellsOf 5=1:=ak
theorem alI:(Rows.laid_math_bits_deBruijn64tab:DataW Unit) = .agg (Lib.deBruijn64tab.map λx:Nat=>.lit (.int .u8 (x:Int))):=by rfl
theorem alJ {H:Type} {enc:TypeId×Value->H} {P:Program} {w:World} {base:Nat} {sp:Nat->Bool} {held:Bool} {fuel:Nat} {t:TypeId} {k:IntKind} {cs:List Value} {y:DataW H×List MemPlace}
  (ht:P.underlying t=some (.int k)) (h:DataW.trod enc P w base sp held fuel t cs=some y):∃ n,cs = [.int k n]/\y.1 = .lit (.int k n):=by
 obtain⟨n,h1,h2,_⟩:=DataW.trod_int ht h;exact⟨n,h1,by rw[h2]⟩
theorem agh {W:World} (h:laidMet Tryz.prog [("math/bits.deBruijn64tab",Rows.laid_math_bits_deBruijn64tab)] W):Bd W:=by
 obtain⟨ps,⟨g,t,cs,fuel,p,q,hg,ht,hvar,hd,_,_⟩,_⟩:=h;obtain rfl:=KJ (Tryz.tabName.symm.trans hg);obtain rfl:=KJ (Tryz.tabType.symm.trans ht);obtain⟨xs,m,_,hx,hlen,hxl,hat⟩:=DataW.trod_array Tryz.tabUnder hd;intro j hj;have hj64:j < 64:=hj;have h1:=hat j hj64;rw[Tryz.tabCells] at h1;obtain⟨y,hy⟩:∃ y,xs[j]? = some y:=⟨_,GX EN⟩;rw[hy] at h1;obtain⟨n,hn,hyn⟩:=alJ (k:=.u8) ak h1;rw[alI] at hx;injection hx with hx1 _
 injection hx1 with hx2
 have h2:(xs.map (·.1))[j]? = some (.lit (.int .u8 ((Lib.deBruijn64tab.getD j 0:Nat):Int))):=by
  rw[<-hx2,Gi,List.getD_eq_getElem?_getD];rw[GX hj];rfl
 rw[Gi,hy] at h2;have h3:y.1 = .lit (.int .u8 ((Lib.deBruijn64tab.getD j 0:Nat):Int)):=by simpa using h2
 rw[hyn] at h3;injection h3 with h4
 injection h4 with _ h5
 have hc:cs[j]? = some (.int .u8 n):=by
  have:=congrArg (λl=>l[0]?) hn;simpa [List.getElem?_take,List.getElem?_drop] using this
 have h6:=World.var?_cell Tryz.tabName hvar j;rw[h6,hc,h5]
end Go.Proofs.YtnmeejofpkhlkaaGreatDoor
