/- parlourlaw26.rats; the numbers of the chapter's strategies. -/
import Derived.Test.YthmklhapjegfdaaGreatDoorV38
import Derived.Sort.CutIn
import Derived.RangeFuncNested
import Derived.RangeFuncBound
import Derived.RangeFuncCalls
import Derived.RangeFuncLeaves
import Derived.RangeFuncWrites
import Derived.Shelf.Abstract
import Derived.Shelf.RegionOpen
import Derived.WalkKit
import Derived.OwnWalkIn
import Derived.TacticsInMore
import Derived.LoopNIn
import Derived.LoopIn
import Derived.OrdersIn
import Derived.Deep.Cut
import Derived.Test.YthmklhapjegfdaaGreatDoorV37
set_option linter.all false
set_option maxRecDepth 100000
set_option maxHeartbeats 12800000
namespace Go.Proofs.YthmklhapjegfdaaGreatDoor
open Lib renaming hid → Ac
open Go.RowKit
theorem akM:aG (mkRat 0 1)=⟨false,[],[1]⟩:=by
 have h:=pY false 0 1 aA;rw[show Nat.gcd 0 1=1 by decide,Nat.div_one,Nat.div_one,jl,bM] at h;exact h
theorem akN:aG (mkRat 1 1)=⟨false,[1],[1]⟩:=by
 have h:=pY false 1 1 aA;rw[show Nat.gcd 1 1=1 by decide,Nat.div_one,jl] at h;exact h
def tN (x:Int):Raw:=if x=0 then ⟨false,[],[1]⟩ else ⟨false,[1],[1]⟩
theorem ajR {l:List Int} (h:∀ x∈l,x=0∨x=1):(l.map fun x=>mkRat x 1).map aG=l.map tN:=by
 rw[List.map_map];refine List.map_congr_left fun x hx=>?_
 rcases h x hx with rfl | rfl
 ·exact akM
 ·exact akN
theorem agH (w:World) (F:Ag) (v:Value) (l:List Int) (b:Nat) (hv:Ah w F v l) (hl:l.length≤1000) (hx:∀ x∈l,-1000000000000≤x∧x≤1000000000000) (h3:b≤1000000000000) (hb0:b≠0) :
  Calls Tryz.prog 41 #[.int .i64 (b:Int),v] w (Ret w fun v w'=>Bo w' (fun b=>w.heap.size≤b) v (l.map fun x=>mkRat x b)):=by
 have HV:=Ac hv;obtain⟨A,c,rfl,hc,hr⟩:=hv;have HR:=Ac hr;have HX:=Ac hx;clear hr hx;go_in;go_wp2
 go_loopw [5,6] (fun u i wr=>∃ (k:Nat) (L:List RV),k≤l.length∧i = .int .i64 (k:Int)∧L.length=k∧L.map RV.r=((l.take k).map fun x=>aG (mkRat x b))∧Ba wr w.heap.size 83 (fun b=>w.heap.size≤b) u L∧Below w.heap.size w wr) (fun _ i _=>l.length - (intOf i).toNat)
 case atStart=>exact⟨0,[],byOmega,rfl,rfl,rfl,Ba.nil _ _ _ _,Below.refl _ _⟩
 case round =>
  obtain⟨k,L,hk,rfl,hLl,hLr,hown,hbel⟩:=hrel;have HO:=Ac hown;have HL:=Ac hLr;have HLL:=Ac hLl;clear hown hLr hLl;by_cases hlt:k < l.length
  ·obtain⟨bb,o,rfl,_,hb',hcell⟩:=HR.out byOmega;obtain⟨x,hxk⟩:=aC hlt;have e1:=hcell k x hxk;unfold iE at e1;rw[Nat.mul_one] at e1;have hxb:=HX.out x (List.mem_of_getElem? hxk);have HXK:=Ac hxk;have hold:=aJ hbel;clear hcell hxk;have hz:=hbel.size;go_wp2_with fail
   refine(yF wr x b hxb.1 hxb.2 h3 hb0).mono ?_;rintro e w2 ⟨vm,rfl,hb2,hu⟩;obtain⟨q,hq,rfl,hqf⟩:=AL.rv hu;have fZ:=hbel.trans (hb2.mono hbel.size);have HO2:=Ac (HO.out.below hb2);have HF:=Ac (show q.fine w2 (Apart (fun b=>w.heap.size≤b) u5) from hqf.keep (fun b hb _=>⟨byOmega,fun e=>by have:=(HO.out.row.lt b e).2; omega⟩) (Same.refl _ _));have HQ:=Ac hq;clear hqf hu hq hb2 hold hbel;dsimp only[RV.cells];go_wp2_with (at_builtin; refine pR (F:=fun b=>w.heap.size≤b) rfl _ _ 64 83 Tryz.underlying64 Tryz.infoRat rfl w.heap.size (Nat.le_refl _) u5 L rfl q (by have:=HLL.out; omega) rfl HO2.out HF.out fZ ?_; intro g cap w' hown' bW hlt'; have HO':=Ac hown'; clear hown')
   go_roundw
   case rel=>exact⟨k+1,L ++ [q],byOmega,by go_num,by rw[List.length_append,HLL.out]; rfl,by rw[List.map_append,HL.out,take_snoc HXK.out,List.map_append,List.map_cons,List.map_nil,HQ.out]; rfl,HO'.out,bW⟩
   case measure=>simp[intOf]; omega
  ·go_wp2
   go_ret;refine zac ?_;intro h5;rw[List.map_map];exact h5
theorem jv (w:World) (F:Ag) (v:Value) (l:List Int) (hv:Ah w F v l) (hl:l.length≤1000) (hx:∀ x∈l,x=0∨x=1) :
  Calls Tryz.prog 41 #[.int .i64 1,v] w (Ret w fun v w'=>Az w' (fun b=>w.heap.size≤b) v (l.map tN)):=by
 refine(agH w F v l 1 hv hl (fun x h=>by have:=hx x h; omega) aA aA).mono ?_;rintro e w' ⟨u,rfl,hb,hu⟩;refine⟨u,rfl,hb,?_⟩;unfold Bo at hu;rw[ajR hx] at hu;exact hu
def mK:List (List Raw):=[[1,0].map tN,[1,0].map tN,[1,0,0].map tN]
def oK:List (List Raw):=[[0,1].map tN,[0,1].map tN,[0,0,1].map tN]
def rK:List (List Raw):=[[1,0].map tN,[0,1].map tN,[0,0,1].map tN]
theorem amc:rP eU [2] mK oK=0:=by decide +kernel
theorem alQ:uF eU [2] mK oK=rK:=by decide +kernel
def K01 (m:List (List Raw)):Prop:=m.length≤3∧∀ l∈m,l.length≤3∧∀ r∈l,r=⟨false,[],[1]⟩∨r=⟨false,[1],[1]⟩
instance (m:List (List Raw)):Decidable (K01 m):=by unfold K01; infer_instance
theorem ajS:K01 mK:=aA
theorem ajT:K01 oK:=aA
theorem akZ:K01 rK:=aA
theorem K01.limbs {m:List (List Raw)} (h:K01 m):CP m:=fun l hl r hr=>by
 rcases (h.2 l hl).2 r hr with rfl | rfl <;> decide
theorem K01.fine {m:List (List Raw)} (h:K01 m):BI m:=fun l hl=>⟨by have:=(h.2 l hl).1; omega,fun r hr=>by
 rcases (h.2 l hl).2 r hr with rfl | rfl <;> exact⟨by unfold U32; decide,aA,aA⟩⟩
theorem K01.short {m:List (List Raw)} (h:K01 m):CS m:=⟨by have:=h.1; omega,fun l hl=>⟨by have:=(h.2 l hl).1; omega,fun r hr=>by
 rcases (h.2 l hl).2 r hr with rfl | rfl <;> decide⟩⟩
theorem K01.len {m:List (List Raw)} (h:K01 m):m.length≤1000∧∀ l∈m,l.length≤1000:=⟨by have:=h.1; omega,fun l hl=>by have:=(h.2 l hl).1; omega⟩
section
variable {C:MC} {V:List View} {cr:List Nat} {g:Gm}
theorem BD.small (h:BD C V cr g) (hp4:g.au≤4) (hm:C.most≤100):Small g:=by
 have h1:=h.most;have h2:=h.many;have key:∀ n∈g.nodes,n.next.length≤100∧n.weights.length≤100∧n.pay.length≤100:=fun n hn=>by
  rcases h.node hn with⟨_,_,_,e4,e5,e6,_⟩ | ⟨l,seen,_,_,m3,m4,m5⟩
  ·rw[e4,e5];have:=h.au;exact⟨ay,ay,byOmega⟩
  ·rw[m4];rcases m5 with⟨_,_,_,_,a4,_⟩ | ⟨_,_,_,a3,_⟩
   ·exact⟨byOmega,byOmega,ay⟩
   ·rw[a3];exact⟨byOmega,ay,ay⟩
 exact⟨byOmega,byOmega,fun n hn=>(key n hn).1,fun n hn=>(key n hn).2.1,fun n hn=>(key n hn).2.2⟩
theorem BD.actions (h:BD C V cr g):∀ i∈g.infos,1≤i.actions∧i.actions≤3:=by
 intro i hi;obtain⟨x,hx⟩:=List.getElem?_of_mem hi;obtain⟨c,hc⟩:=aC (l:=cr) (k:=x) (by rw[h.len]; exact aI hx);obtain⟨n,n1,n2,n3⟩:=(h.km.has x c hc).resolve_right ay;rcases h.node (List.mem_of_getElem? n1) with he | ⟨l,seen,_,m2,m3,_,m5⟩
 ·have:=he.1;omega
 ·rcases m5 with⟨_,a1,_⟩ | ⟨_,_,_,_,y,a4,a5,_⟩
  ·omega
  ·have:y=x:=byOmega;subst this;rw[hx] at a5;cases a5;dsimp only;omega
end
structure Dk (g:Gm) (au:Int) (zero:Bool) (most:Int):Prop where
 form:bF g=0
 small:Small g
 acts:∀ i∈g.infos,1≤i.actions∧i.actions≤10
 hpl:g.au=au
 hmo:(g.nodes.length:Int)≤most
 hz:zero=true→au=2→∀ n∈g.nodes,n.kind=3→∃ x,n.pay = [x,-x]
theorem afc (L:List Int) {au most:Int} (zero:Bool) (hp1:1≤au) (hp4:au≤4) (hm1:1≤most) (hm:most≤100):Dk (aa1 L au most zero) au zero most:=by
 obtain⟨C,V,cr,h,hz,hmo⟩:=ajL L zero hp1 hm1;have hpl:(aa1 L au most zero).au=au:=rfl;refine⟨h.form (by rw[hpl]; exact hp1) (by rw[hpl]; exact hp4) byOmega,h.small (by rw[hpl]; exact hp4) byOmega,fun i hi=>?_,hpl,by have:=h.most; omega,fun z0 p2 n hn hk=>?_⟩
 ·have:=h.actions i hi;omega
 ·rcases h.node hn with he | ⟨l,seen,_,_,_,_,m5⟩
  ·exact he.2.2.2.2.2.2.2 (by rw[hz]; exact z0) (by rw[h.au,hpl]; exact p2)
  ·rcases m5 with⟨_,a1,_⟩ | ⟨_,a1,_⟩ <;> omega
structure BU (g:Gm) (m:List (List Rat)):Prop where
 rows:Bv g m
 acz:gU g (m.map (List.map aG))=0
 fit:Fit g m
 fine:BI (m.map (List.map aG))
 len:m.length≤100000
theorem akO (x:Rat):U32 (aG x):=⟨fun y hy=>by have:=aS x.num.natAbs y hy; unfold LB at this; omega,fun y hy=>by have:=aS x.den y hy; unfold LB at this; omega⟩
theorem Bv.facts {g:Gm} {m:List (List Rat)} (hf:bF g=0) (hs:Small g) (hr:Bv g m):BU g m:=by
 have hl4:=hr.limbs;refine⟨hr,hr.acz hf,hr.fit hf,fun l hl=>?_,by have:=hr.1; have:=hs.infos; omega⟩;obtain⟨l',hl',rfl⟩:=List.mem_map.1 hl;obtain⟨k,hk⟩:=List.getElem?_of_mem hl';obtain⟨i,hi⟩:=aC (l:=g.infos) (k:=k) (by have:=aI hk; have:=hr.1; omega);have h1:=(hr.2 k i l' hi hk).1;have h2:=wo hf i (List.mem_of_getElem? hi);refine⟨by rw[List.length_map]; omega,fun r hr'=>?_⟩;have h4:=hl4 _ hl r hr';obtain⟨x,_,rfl⟩:=List.mem_map.1 hr';exact⟨akO x,byOmega,byOmega⟩
theorem adA (L:List Int) (a:Nat) {g:Gm} {au:Int} {zero:Bool} {most:Int} (h:Dk g au zero most):BU g (adv L a g):=(afb L a h.acts).facts h.form h.small
theorem BH.wr {K:Ag} {w w':World} (h:BH w) (hw:Wrote K w w') (hK:¬ K 0):BH w':=fun j hj=>bY (h j hj) hw hK
end Go.Proofs.YthmklhapjegfdaaGreatDoor
