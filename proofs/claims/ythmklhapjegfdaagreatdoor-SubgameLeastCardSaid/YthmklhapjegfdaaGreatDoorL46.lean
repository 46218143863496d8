/- parlourlaw17.large; what the laws of this package have in common. -/
import Derived.Test.YthmklhapjegfdaaGreatDoorL44
import Derived.Test.YthmklhapjegfdaaGreatDoorL45
import Derived.Test.YthmklhapjegfdaaGreatDoorL36
set_option linter.all false
set_option maxRecDepth 100000
set_option maxHeartbeats 12800000
namespace Go.Proofs.YthmklhapjegfdaaGreatDoor
open Lib renaming hid → Aa
open Go.RowKit
theorem Aj.none (w:World) (F:Ac):Aj w F (.slice none 0 0) []:=Aj.nil w F
theorem aji:aK (mkRat 0 1)=⟨false,[],[1]⟩:=by
 have h:=oI false 0 1 (by decide);rw[show Nat.gcd 0 1=1 by decide,Nat.div_one,Nat.div_one,jQ,aY] at h;exact h
theorem ajj:aK (mkRat 1 1)=⟨false,[1],[1]⟩:=by
 have h:=oI false 1 1 (by decide);rw[show Nat.gcd 1 1=1 by decide,Nat.div_one,jQ] at h;exact h
def rZ (x:Int):Raw:=if x=0 then ⟨false,[],[1]⟩ else ⟨false,[1],[1]⟩
theorem ait {l:List Int} (h:∀ x∈l,x=0∨x=1):(l.map fun x=>mkRat x 1).map aK=l.map rZ:=by
 rw[List.map_map];refine List.map_congr_left fun x hx=>?_
 rcases h x hx with rfl | rfl
 ·exact aji
 ·exact ajj
theorem afB (w:World) (F:Ac) (v:Value) (l:List Int) (b:Nat) (hv:Ae w F v l) (hl:l.length≤1000) (hx:∀ x∈l,-1000000000000≤x∧x≤1000000000000) (h3:b≤1000000000000) (hb0:b≠0) :
  Calls Tryz.prog 41 #[.int .i64 (b:Int),v] w (Ret w fun v w'=>BF w' (fun b=>w.heap.size≤b) v (l.map fun x=>mkRat x b)):=by
 have HV:=Aa hv;obtain⟨A,c,rfl,hc,hr⟩:=hv;have HR:=Aa hr; have HX:=Aa hx;clear hr hx;go_enter Tryz.func41,Tryz.ntmps41;go_wp2
 go_loopw [5,6] (fun u i wr=>∃ (k:Nat) (L:List RV),k≤l.length∧i = .int .i64 (k:Int)∧L.length=k∧L.map RV.r=((l.take k).map fun x=>aK (mkRat x b))∧Ba wr w.heap.size 83 (fun b=>w.heap.size≤b) u L∧Below w.heap.size w wr) (fun _ i _=>l.length - (intOf i).toNat)
 case atStart=>exact⟨0,[],by omega,rfl,rfl,rfl,Ba.nil _ _ _ _,Below.refl _ _⟩
 case round =>
  obtain⟨k,L,hk,rfl,hLl,hLr,hown,hbel⟩:=hrel;have HO:=Aa hown; have HL:=Aa hLr;have HLL:=Aa hLl;clear hown hLr hLl;by_cases hlt:k < l.length
  ·obtain⟨bb,o,rfl,_,hb',hcell⟩:=HR.out (by omega);obtain⟨x,hxk⟩:=au hlt;have e1:=hcell k x hxk;unfold iH at e1;rw[Nat.mul_one] at e1;have hxb:=HX.out x (List.mem_of_getElem? hxk);have HXK:=Aa hxk;have hold:=aA hbel;clear hcell hxk;have hz:=hbel.size;go_wp2_with fail
   refine(agA wr x b hxb.1 hxb.2 h3 hb0).mono ?_;rintro e w2 ⟨vm,rfl,hb2,hu⟩;obtain⟨q,hq,rfl,hqf⟩:=AQ.rv hu;have dR:=hbel.trans (hb2.mono hbel.size);have HO2:=Aa (HO.out.below hb2);have HF:=Aa (show q.fine w2 (Apart (fun b=>w.heap.size≤b) u5) from hqf.keep (fun b hb _=>⟨by omega,fun e=>by have:=(HO.out.row.lt b e).2; omega⟩) (Same.refl _ _));have HQ:=Aa hq;clear hqf hu hq hb2 hold hbel;dsimp only[RV.cells];go_wp2_with (at_builtin; refine yc (F:=fun b=>w.heap.size≤b) rfl _ _ 64 83 Tryz.underlying64 Tryz.infoRat rfl w.heap.size (Nat.le_refl _) u5 L rfl q (by have:=HLL.out; omega) rfl HO2.out HF.out dR ?_; intro g cap w' hown' jy hlt'; have HO':=Aa hown'; clear hown')
   go_roundw
   case rel=>exact⟨k+1,L ++ [q],by omega,by go_num,by rw[List.length_append,HLL.out]; rfl,by rw[List.map_append,HL.out,take_snoc HXK.out,List.map_append,List.map_cons,List.map_nil,HQ.out]; rfl,HO'.out,jy⟩
   case measure=>simp[intOf]; omega
  ·go_wp2
   go_ret;refine⟨_,rfl,hbel,?_⟩;have h5:=HO.out.adg (G:=fun b=>w.heap.size≤b) (fun b hb=>hb) (fun b hb=>hb);rw[HL.out,List.take_of_length_le (by omega)] at h5;unfold BF;rw[List.map_map];exact h5
theorem jf (w:World) (F:Ac) (v:Value) (l:List Int) (hv:Ae w F v l) (hl:l.length≤1000) (hx:∀ x∈l,x=0∨x=1) :
  Calls Tryz.prog 41 #[.int .i64 1,v] w (Ret w fun v w'=>Aj w' (fun b=>w.heap.size≤b) v (l.map rZ)):=by
 refine(afB w F v l 1 hv hl (fun x h=>by have:=hx x h; omega) (by decide) (by decide)).mono ?_;rintro e w' ⟨u,rfl,hb,hu⟩;refine⟨u,rfl,hb,?_⟩;unfold BF at hu;rw[ait hx] at hu;exact hu
def mK:List (List Raw):=[[1,0].map rZ,[1,0].map rZ,[1,0,0].map rZ]
def oK:List (List Raw):=[[0,1].map rZ,[0,1].map rZ,[0,0,1].map rZ]
def rK:List (List Raw):=[[1,0].map rZ,[0,1].map rZ,[0,0,1].map rZ]
theorem akE:qN dG [2] mK oK=0:=by decide +kernel
theorem akj:sU dG [2] mK oK=rK:=by decide +kernel
def K01 (m:List (List Raw)):Prop:=m.length≤3∧∀ l∈m,l.length≤3∧∀ r∈l,r=⟨false,[],[1]⟩∨r=⟨false,[1],[1]⟩
instance (m:List (List Raw)):Decidable (K01 m):=by unfold K01; infer_instance
theorem aiu:K01 mK:=by decide
theorem aiv:K01 oK:=by decide
theorem ajv:K01 rK:=by decide
theorem K01.limbs {m:List (List Raw)} (h:K01 m):CB m:=fun l hl r hr=>by
 rcases (h.2 l hl).2 r hr with rfl | rfl <;> decide
theorem K01.fine {m:List (List Raw)} (h:K01 m):BJ m:=fun l hl=>⟨by have:=(h.2 l hl).1; omega,fun r hr=>by
 rcases (h.2 l hl).2 r hr with rfl | rfl <;> exact⟨by unfold U32; decide,by decide,by decide⟩⟩
theorem K01.short {m:List (List Raw)} (h:K01 m):Ci m:=⟨by have:=h.1; omega,fun l hl=>⟨by have:=(h.2 l hl).1; omega,fun r hr=>by
 rcases (h.2 l hl).2 r hr with rfl | rfl <;> decide⟩⟩
theorem K01.len {m:List (List Raw)} (h:K01 m):m.length≤1000∧∀ l∈m,l.length≤1000:=⟨by have:=h.1; omega,fun l hl=>by have:=(h.2 l hl).1; omega⟩
section
variable {C:MC} {V:List View} {cr:List Nat} {g:Gm}
theorem Bj.small (h:Bj C V cr g) (hp4:g.aj≤4) (hm:C.most≤100):Small g:=by
 have h1:=h.most;have h2:=h.many;have key:∀ n∈g.nodes,n.next.length≤100∧n.weights.length≤100∧n.pay.length≤100:=fun n hn=>by
  rcases h.node hn with⟨_,_,_,e4,e5,e6,_⟩ | ⟨l,seen,_,_,m3,m4,m5⟩
  ·rw[e4,e5];have:=h.aj;exact⟨by simp,by simp,by omega⟩
  ·rw[m4];rcases m5 with⟨_,_,_,_,a4,_⟩ | ⟨_,_,_,a3,_⟩
   ·exact⟨by omega,by omega,by simp⟩
   ·rw[a3]; exact⟨by omega,by simp,by simp⟩
 exact⟨by omega,by omega,fun n hn=>(key n hn).1,fun n hn=>(key n hn).2.1,fun n hn=>(key n hn).2.2⟩
theorem Bj.actions (h:Bj C V cr g):∀ i∈g.infos,1≤i.actions∧i.actions≤3:=by
 intro i hi;obtain⟨x,hx⟩:=List.getElem?_of_mem hi;obtain⟨c,hc⟩:=au (l:=cr) (k:=x) (by rw[h.len]; exact aB hx);obtain⟨n,n1,n2,n3⟩:=(h.km.has x c hc).resolve_right (by simp);rcases h.node (List.mem_of_getElem? n1) with he | ⟨l,seen,_,m2,m3,_,m5⟩
 ·have:=he.1; omega
 ·rcases m5 with⟨_,a1,_⟩ | ⟨_,_,_,_,y,a4,a5,_⟩
  ·omega
  ·have:y=x:=by omega
   subst this;rw[hx] at a5; cases a5;dsimp only;omega
end
structure Dc (g:Gm) (aj:Int) (zero:Bool) (most:Int):Prop where
 form:bg g=0
 small:Small g
 acts:∀ i∈g.infos,1≤i.actions∧i.actions≤10
 hpl:g.aj=aj
 hmo:(g.nodes.length:Int)≤most
 hz:zero=true→aj=2→∀ n∈g.nodes,n.kind=3→∃ x,n.pay = [x,-x]
theorem aed (L:List Int) {aj most:Int} (zero:Bool) (hp1:1≤aj) (hp4:aj≤4) (hm1:1≤most) (hm:most≤100):Dc (aaF L aj most zero) aj zero most:=by
 obtain⟨C,V,cr,h,hz,hmo⟩:=aia L zero hp1 hm1;have hpl:(aaF L aj most zero).aj=aj:=rfl;refine⟨h.form (by rw[hpl]; exact hp1) (by rw[hpl]; exact hp4) (by omega),h.small (by rw[hpl]; exact hp4) (by omega),fun i hi=>?_,hpl,by have:=h.most; omega,fun z0 p2 n hn hk=>?_⟩
 ·have:=h.actions i hi; omega
 ·rcases h.node hn with he | ⟨l,seen,_,_,_,_,m5⟩
  ·exact he.2.2.2.2.2.2.2 (by rw[hz]; exact z0) (by rw[h.aj,hpl]; exact p2)
  ·rcases m5 with⟨_,a1,_⟩ | ⟨_,a1,_⟩ <;> omega
structure BX (g:Gm) (m:List (List Rat)):Prop where
 rows:BM g m
 ais:fF g (m.map (List.map aK))=0
 fit:Fit g m
 fine:BJ (m.map (List.map aK))
 len:m.length≤100000
theorem ajk (x:Rat):U32 (aK x):=⟨fun y hy=>by have:=aO x.num.natAbs y hy; unfold LB at this; omega,fun y hy=>by have:=aO x.den y hy; unfold LB at this; omega⟩
theorem BM.facts {g:Gm} {m:List (List Rat)} (hf:bg g=0) (hs:Small g) (hr:BM g m):BX g m:=by
 have hl4:=hr.limbs;refine⟨hr,hr.ais hf,hr.fit hf,fun l hl=>?_,by have:=hr.1; have:=hs.infos; omega⟩;obtain⟨l',hl',rfl⟩:=List.mem_map.1 hl;obtain⟨k,hk⟩:=List.getElem?_of_mem hl';obtain⟨i,hi⟩:=au (l:=g.infos) (k:=k) (by have:=aB hk; have:=hr.1; omega);have h1:=(hr.2 k i l' hi hk).1;have h2:=aaC hf i (List.mem_of_getElem? hi);refine⟨by rw[List.length_map]; omega,fun r hr'=>?_⟩;have h4:=hl4 _ hl r hr';obtain⟨x,_,rfl⟩:=List.mem_map.1 hr';exact⟨ajk x,by omega,by omega⟩
theorem BX.zero {g:Gm} {m:List (List Rat)} (h:BX g m) {most:Int} (hg:Dc g 2 true most):∃ a:Rat,kN g m 0 = [a,-a]∧ahR (kN g m 0)=0∧fitsV (kN g m 0) = [aK a,aK (-a)]∧rl a≤1024∧rl (-a)≤1024:=by
 obtain⟨a,ha⟩:=h.fit.anti hg.hpl (hg.hz rfl rfl) _ 0 (Nat.le_refl _) h.fit.good.pos;have hr:=h.fit.ajP h.fit.good.pos;have hn:=hg.small.nodes;rw[ha] at hr;have h1:=hr a (by simp); have h2:=hr (-a) (by simp);have he:ahR (kN g m 0)=0:=aje fun x hx=>by rw[ha] at hx; have:=hr x hx; omega
 exact⟨a,ha,he,by unfold fitsV; rw[he,if_neg (by simp),ha]; rfl,by omega,by omega⟩
theorem Bq.wr {K:Ac} {w w':World} (h:Bq w) (hw:Wrote K w w') (hK:¬ K 0):Bq w':=fun j hj=>bZ (h j hj) hw hK
end Go.Proofs.YthmklhapjegfdaaGreatDoor
