/- What the row's one listed variable reads as: the table of math/bits. -/
import Derived.Test.YtnmeejofpkhlkaaGreatDoorRows
import Derived.Test.YtnmeejofpkhlkaaGreatDoorR15
import Derived.OpenShut
import Derived.ChangeVars
set_option linter.all false
namespace Go.Proofs.YtnmeejofpkhlkaaGreatDoor
open Go.ChangeShapes Go.WideShapes Go.RowKit
theorem Tryz.tabName:Tryz.prog.globalNamed "math/bits.deBruijn64tab" = some 0:=ah
theorem Tryz.tabType:(Tryz.prog.globals[0]?).map (·.type)=some 255:=ah
theorem Tryz.tabUnder:Tryz.prog.underlying 255=some (.array 64 5):=ah
theorem Tryz.tabCells:Tryz.prog.cellsOf 5=1:=ah
theorem aiw:(Rows.laid_math_bits_deBruijn64tab:DataW Unit) = .agg (Lib.deBruijn64tab.map fun x:Nat=>.lit (.int .u8 (x:Int))):=by rfl
theorem aix {H:Type} {enc:TypeId×Value→H} {P:Program} {w:World} {base:Nat} {sp:Nat→Bool} {held:Bool} {fuel:Nat} {t:TypeId} {k:IntKind} {cs:List Value} {y:DataW H×List MemPlace}
  (ht:P.underlying t=some (.int k)) (h:DataW.trod enc P w base sp held fuel t cs=some y):∃ n,cs = [.int k n]∧y.1 = .lit (.int k n):=by
 obtain⟨n,h1,h2,_⟩:=DataW.trod_int ht h;exact⟨n,h1,by rw[h2]⟩
theorem adT {W:World} (h:laidMet Tryz.prog [("math/bits.deBruijn64tab",Rows.laid_math_bits_deBruijn64tab)] W):Bz W:=by
 obtain⟨ps,⟨g,t,cs,fuel,p,q,hg,ht,hvar,hd,_,_⟩,_⟩:=h;obtain rfl:=Option.some.inj (Tryz.tabName.symm.trans hg);obtain rfl:=Option.some.inj (Tryz.tabType.symm.trans ht);obtain⟨xs,m,_,hx,hlen,hxl,hat⟩:=DataW.trod_array Tryz.tabUnder hd;intro j hj;have hj64:j < 64:=hj;have h1:=hat j hj64;rw[Tryz.tabCells] at h1;obtain⟨y,hy⟩:∃ y,xs[j]? = some y:=⟨_,List.getElem?_eq_getElem byOmega⟩;rw[hy] at h1;obtain⟨n,hn,hyn⟩:=aix (k:=.u8) ah h1;rw[aiw] at hx;injection hx with hx1 _
 injection hx1 with hx2
 have h2:(xs.map (·.1))[j]? = some (.lit (.int .u8 ((Lib.deBruijn64tab.getD j 0:Nat):Int))):=by
  rw[← hx2,List.getElem?_map,List.getD_eq_getElem?_getD];rw[List.getElem?_eq_getElem hj];rfl
 rw[List.getElem?_map,hy] at h2;have h3:y.1 = .lit (.int .u8 ((Lib.deBruijn64tab.getD j 0:Nat):Int)):=by simpa using h2
 rw[hyn] at h3;injection h3 with h4
 injection h4 with _ h5
 have hc:cs[j]? = some (.int .u8 n):=by
  have:=congrArg (fun l=>l[0]?) hn;simpa [List.getElem?_take,List.getElem?_drop] using this
 have h6:=World.var?_cell Tryz.tabName hvar j;rw[h6,hc,h5]
end Go.Proofs.YtnmeejofpkhlkaaGreatDoor
