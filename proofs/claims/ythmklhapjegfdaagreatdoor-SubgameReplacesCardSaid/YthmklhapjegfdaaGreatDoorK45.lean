/- parlourlaw17.large; what the laws of this package have in common. -/
import Derived.Test.YthmklhapjegfdaaGreatDoorK43
import Derived.Test.YthmklhapjegfdaaGreatDoorK44
set_option linter.all false
set_option maxRecDepth 100000
set_option maxHeartbeats 12800000
namespace Go.Proofs.YthmklhapjegfdaaGreatDoor
open Lib renaming hid → Ac
open Go.RowKit
theorem zY {g:Gm} {nodes sets:Int} (h:kU g nodes sets=false) (hn:nodes≤100) (hs:sets≤100):Small g:=by
 unfold kU at h;simp only[Bool.or_eq_false_iff,decide_eq_false_iff_not,List.any_eq_false] at h;obtain⟨⟨h1,h2⟩,h3⟩:=h;have h4:∀ n∈g.nodes,n.next.length≤100∧n.weights.length≤100∧n.pay.length≤100:=by
  intro n hn';have:=h3 n hn';unfold oz at this;simp at this;omega
 exact⟨by omega,by omega,fun n hn=>(h4 n hn).1,fun n hn=>(h4 n hn).2.1,fun n hn=>(h4 n hn).2.2⟩
theorem Aw.none (w:World) (F:Ag):Aw w F (.slice none 0 0) []:=Aw.nil w F
theorem agd:BJ []:=⟨by decide,fun r h=>by cases h⟩
theorem tq {m:List (List Raw)} (h:nV m 30 20 4=false):m.length≤30∧(∀ l∈m,l.length≤20)∧BI m:=by
 unfold nV at h;rw[Bool.or_eq_false_iff] at h;have h1:=h.1;have h2:=List.any_eq_false.1 h.2;have h3:∀ l∈m,l.length≤20∧∀ r∈l,r.num.length≤4∧r.den.length≤4:=by
  intro l hl;have h4:=h2 l hl;unfold wZ at h4;rw[Bool.not_eq_true,Bool.or_eq_false_iff] at h4;have h5:=List.any_eq_false.1 h4.2;refine⟨by have:=h4.1; simp at this; omega,fun r hr=>?_⟩;have h6:=h5 r hr;simp at h6; omega
 exact⟨by simp at h1; omega,fun l hl=>(h3 l hl).1,fun l hl=>(h3 l hl).2⟩
theorem yj {m:List (List Raw)} (h:∀ l∈m,l.length≤20) (h4:BI m) (hU:∀ l∈m,∀ r∈l,U32 r):Bh m :=
 fun l hl=>⟨by have:=h l hl; omega,fun r hr=>⟨hU l hl r hr,by have:=h4 l hl r hr; omega,by have:=h4 l hl r hr; omega⟩⟩
theorem ah9:ay (mkRat 0 1)=⟨false,[],[1]⟩:=by
 have h:=nX false 0 1 (by decide);rw[show Nat.gcd 0 1=1 by decide,Nat.div_one,Nat.div_one,ig,aY] at h;exact h
theorem aia:ay (mkRat 1 1)=⟨false,[1],[1]⟩:=by
 have h:=nX false 1 1 (by decide);rw[show Nat.gcd 1 1=1 by decide,Nat.div_one,ig] at h;exact h
def rF (x:Int):Raw:=if x=0 then ⟨false,[],[1]⟩ else ⟨false,[1],[1]⟩
theorem aht {l:List Int} (h:∀ x∈l,x=0∨x=1):(l.map fun x=>mkRat x 1).map ay=l.map rF:=by
 rw[List.map_map];refine List.map_congr_left fun x hx=>?_
 rcases h x hx with rfl | rfl
 ·exact ah9
 ·exact aia
theorem aeI (w:World) (F:Ag) (v:Value) (l:List Int) (b:Nat) (hv:Ak w F v l) (hl:l.length≤1000) (hx:∀ x∈l,-1000000000000≤x∧x≤1000000000000) (h3:b≤1000000000000) (hb0:b≠0) :
  Calls Tryz.prog 41 #[.int .i64 (b:Int),v] w (Ret w fun v w'=>BD w' (fun b=>w.heap.size≤b) v (l.map fun x=>mkRat x b)):=by
 have HV:=Ac hv;obtain⟨A,c,rfl,hc,hr⟩:=hv;have HR:=Ac hr; have HX:=Ac hx;clear hr hx;go_enter Tryz.func41,Tryz.ntmps41;go_wp2
 go_loopw [5,6] (fun u i wr=>∃ (k:Nat) (L:List RV),k≤l.length∧i = .int .i64 (k:Int)∧L.length=k∧L.map RV.r=((l.take k).map fun x=>ay (mkRat x b))∧Bc wr w.heap.size 83 (fun b=>w.heap.size≤b) u L∧Below w.heap.size w wr) (fun _ i _=>l.length - (intOf i).toNat)
 case atStart=>exact⟨0,[],by omega,rfl,rfl,rfl,Bc.nil _ _ _ _,Below.refl _ _⟩
 case round =>
  obtain⟨k,L,hk,rfl,hLl,hLr,hown,hbel⟩:=hrel;have HO:=Ac hown; have HL:=Ac hLr;have HLL:=Ac hLl;clear hown hLr hLl;by_cases hlt:k < l.length
  ·obtain⟨bb,o,rfl,_,hb',hcell⟩:=HR.out (by omega);obtain⟨x,hxk⟩:=ak hlt;have e1:=hcell k x hxk;unfold fF at e1;rw[Nat.mul_one] at e1;have hxb:=HX.out x (List.mem_of_getElem? hxk);have HXK:=Ac hxk;have hold:=aA hbel;clear hcell hxk;have hz:=hbel.size;go_wp2_with fail
   refine(afJ wr x b hxb.1 hxb.2 h3 hb0).mono ?_;rintro e w2 ⟨vm,rfl,hb2,hu⟩;obtain⟨q,hq,rfl,hqf⟩:=AB.rv hu;have dJ:=hbel.trans (hb2.mono hbel.size);have HO2:=Ac (HO.out.below hb2);have HF:=Ac (show q.fine w2 (Apart (fun b=>w.heap.size≤b) u5) from hqf.keep (fun b hb _=>⟨by omega,fun e=>by have:=(HO.out.row.lt b e).2; omega⟩) (Same.refl _ _));have HQ:=Ac hq;clear hqf hu hq hb2 hold hbel;dsimp only[RV.cells];go_wp2_with (at_builtin; refine wM (F:=fun b=>w.heap.size≤b) rfl _ _ 64 83 Tryz.underlying64 Tryz.infoRat rfl w.heap.size (Nat.le_refl _) u5 L rfl q (by have:=HLL.out; omega) rfl HO2.out HF.out dJ ?_; intro g cap w' hown' dB hlt'; have HO':=Ac hown'; clear hown')
   go_roundw
   case rel=>exact⟨k+1,L ++ [q],by omega,by go_num,by rw[List.length_append,HLL.out]; rfl,by rw[List.map_append,HL.out,take_snoc HXK.out,List.map_append,List.map_cons,List.map_nil,HQ.out]; rfl,HO'.out,dB⟩
   case measure=>simp[intOf]; omega
  ·go_wp2
   go_ret;refine⟨_,rfl,hbel,?_⟩;have h5:=HO.out.abv (G:=fun b=>w.heap.size≤b) (fun b hb=>hb) (fun b hb=>hb);rw[HL.out,List.take_of_length_le (by omega)] at h5;unfold BD;rw[List.map_map];exact h5
theorem iF (w:World) (F:Ag) (v:Value) (l:List Int) (hv:Ak w F v l) (hl:l.length≤1000) (hx:∀ x∈l,x=0∨x=1) :
  Calls Tryz.prog 41 #[.int .i64 1,v] w (Ret w fun v w'=>Aw w' (fun b=>w.heap.size≤b) v (l.map rF)):=by
 refine(aeI w F v l 1 hv hl (fun x h=>by have:=hx x h; omega) (by decide) (by decide)).mono ?_;rintro e w' ⟨u,rfl,hb,hu⟩;refine⟨u,rfl,hb,?_⟩;unfold BD at hu;rw[aht hx] at hu;exact hu
def mK:List (List Raw):=[[1,0].map rF,[1,0].map rF,[1,0,0].map rF]
def oK:List (List Raw):=[[0,1].map rF,[0,1].map rF,[0,0,1].map rF]
def rK:List (List Raw):=[[1,0].map rF,[0,1].map rF,[0,0,1].map rF]
theorem ajk:kN dH [2] mK oK=0:=by decide +kernel
theorem ai2:kJ dH [2] mK oK=rK:=by decide +kernel
def K01 (m:List (List Raw)):Prop:=m.length≤3∧∀ l∈m,l.length≤3∧∀ r∈l,r=⟨false,[],[1]⟩∨r=⟨false,[1],[1]⟩
instance (m:List (List Raw)):Decidable (K01 m):=by unfold K01; infer_instance
theorem ahu:K01 mK:=by decide
theorem ahv:K01 oK:=by decide
theorem ait:K01 rK:=by decide
theorem K01.limbs {m:List (List Raw)} (h:K01 m):BI m:=fun l hl r hr=>by
 rcases (h.2 l hl).2 r hr with rfl | rfl <;> decide
theorem K01.fine {m:List (List Raw)} (h:K01 m):Bh m:=fun l hl=>⟨by have:=(h.2 l hl).1; omega,fun r hr=>by
 rcases (h.2 l hl).2 r hr with rfl | rfl <;> exact⟨by unfold U32; decide,by decide,by decide⟩⟩
theorem K01.short {m:List (List Raw)} (h:K01 m):BM m:=⟨by have:=h.1; omega,fun l hl=>⟨by have:=(h.2 l hl).1; omega,fun r hr=>by
 rcases (h.2 l hl).2 r hr with rfl | rfl <;> decide⟩⟩
theorem K01.len {m:List (List Raw)} (h:K01 m):m.length≤1000∧∀ l∈m,l.length≤1000:=⟨by have:=h.1; omega,fun l hl=>by have:=(h.2 l hl).1; omega⟩
end Go.Proofs.YthmklhapjegfdaaGreatDoor
