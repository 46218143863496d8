/- The example's game and strategy: what it is worth. -/
import Derived.Sort.CutIn
import Derived.Test.YtnmeejofpkhlkaaGreatDoorR25
import Derived.Test.YtnmeejofpkhlkaaGreatDoorR21
import Derived.Test.YtnmeejofpkhlkaaGreatDoorR28
set_option linter.all false
set_option maxRecDepth 100000
set_option maxHeartbeats 12800000
namespace Go.Proofs.YtnmeejofpkhlkaaGreatDoor
open Lib renaming hid → Ag
open Go.RowKit
def ab1:List (List Raw):=[[⟨false,[1],[2]⟩,⟨false,[1],[2]⟩],[⟨false,[1],[2]⟩,⟨false,[1],[2]⟩],[⟨false,[1],[3]⟩,⟨false,[1],[3]⟩,⟨false,[1],[3]⟩]]
theorem ai1:aG (mkRat 1 2)=⟨false,[1],[2]⟩:=by
 have h:=pO false 1 2 ay;rw[show Nat.gcd 1 2=1 by decide,Nat.div_one,Nat.div_one,iZ,kV (n:=2) ay ay] at h;exact h
theorem ahy:aG (mkRat 1 3)=⟨false,[1],[3]⟩:=by
 have h:=pO false 1 3 ay;rw[show Nat.gcd 1 3=1 by decide,Nat.div_one,Nat.div_one,iZ,kV (n:=3) ay ay] at h;exact h
theorem uq:sG.map (List.map aG)=ab1:=by
 unfold sG ab1;simp only[List.map_cons,List.map_nil,ai1,ahy]
theorem afW:dM bg ab1=0:=by decide +kernel
theorem afX:BO ab1:=by
 intro l hl r hr;unfold ab1 at hl;simp only[List.mem_cons,List.not_mem_nil,or_false] at hl;rcases hl with rfl | rfl | rfl <;> (simp only[List.mem_cons,List.not_mem_nil,or_false] at hr; rcases hr with rfl | rfl | rfl <;> decide)
theorem aem:∀ {a b:List (List Rat)},a.map (List.map aG)=b.map (List.map aG)→a=b
 | [],[],_=>rfl
 | [],_ :: _,h=>by cases h
 | _ :: _,[],h=>by cases h
 | x :: a,y :: b,h=>by
  rw[List.map_cons,List.map_cons,List.cons.injEq] at h;rw[aal h.1,aem h.2]
theorem vI {x:Rat} (h:rl x≤1024):iT (aG x)=0:=by
 have h1:=aad (n:=x.num.natAbs) (Nat.le_trans (gJ x) h);have h2:=aad (n:=x.den) (Nat.le_trans (gK x) h);have h3:(dig x.den).length≠0:=fun e=>ae1 x (List.eq_nil_of_length_eq_zero e)
 have h4:gQ (aG x).num (aG x).den=0:=by
  unfold gQ;rw[lX,abG,h1,h2,if_neg aB,if_neg aB,if_neg h3]
 unfold iT;rw[h4,if_neg aB,if_neg];rw[lX,abG,aW,aW,iH,xM];rintro(⟨e1,e2⟩ | e)
 ·have h0:x.num.natAbs=0:=vW.1 e1;have hz:x.num=0:=byOmega;unfold dF at e2;rw[hz] at e2;exact absurd e2 ay
 ·exact e rfl
theorem agD {x:Rat} (h:0≤x):dF x=false:=by
 unfold dF;have:=Rat.num_nonneg.2 h;simp;omega
theorem ahz {x:Rat} (h:rl x≤1024) (h0:0≤x) (h1:x≤1):fG (aG x)=0:=by
 unfold fG;rw[vI h,if_neg aB,if_neg];rintro(e | e)
 ·rw[xM,agD h0] at e;cases e
 ·rw[oJ,acn] at e;exact absurd h1 (Rat.not_le.2 e)
theorem sQ:∀ {l:List Int},(∀ e∈l,e=0)→iO l=0
 | [],_=>rfl
 | e :: l,h=>by
  unfold iO;rw[if_neg (by simpa using h e List.mem_cons_self)];exact sQ fun x hx=>h x (List.mem_cons_of_mem _ hx)
def Dh (a:Int) (l:List Rat):Prop:=(l.length:Int)=a∧jD l=1∧∀ x∈l,rl x≤4∧0≤x∧x≤1
theorem aj2 {a:Int} {l:List Rat} (h:Dh a l):nR a (l.map aG)=0:=by
 obtain⟨h1,h2,h3⟩:=h;have h4:mJ (l.map aG)=0:=by
  unfold mJ;refine sQ fun e he=>?_
  obtain⟨r,hr,rfl⟩:=List.mem_map.1 he;obtain⟨x,hx,rfl⟩:=List.mem_map.1 hr;have:=h3 x hx;exact ahz byOmega this.2.1 this.2.2
 unfold nR;rw[List.length_map,if_neg (by simpa using h1),h4,if_neg aB,aam,h2,(qm 1 1).2 rfl,if_neg aB]
def Bc (g:Gm) (m:List (List Rat)):Prop:=m.length=g.infos.length∧∀ (k:Nat) (i:Inf) (l:List Rat),g.infos[k]? = some i→m[k]? = some l→Dh i.actions l
theorem Bc.yZ {g:Gm} {m:List (List Rat)} (hf:bP g=0) (h:Bc g m):dM g (m.map (List.map aG))=0:=by
 unfold dM;rw[if_neg (by simpa using hf)];unfold lD;rw[if_neg (by simp[h.1])];refine sQ fun e he=>?_
 obtain⟨k,hk⟩:=List.getElem?_of_mem he;rw[List.getElem?_zipWith,List.getElem?_map,List.getElem?_map] at hk;cases hi:g.infos[k]? with
 | none=>rw[hi] at hk; simp at hk
 | some i =>
  cases hl:m[k]? with
  | none=>rw[hi,hl] at hk; simp at hk
  | some l =>
   rw[hi,hl] at hk;simp at hk;rw[← hk];exact aj2 (h.2 k i l hi hl)
theorem Bc.limbs {g:Gm} {m:List (List Rat)} (h:Bc g m):BO (m.map (List.map aG)):=by
 intro l hl r hr;obtain⟨l',hl',rfl⟩:=List.mem_map.1 hl;obtain⟨x,hx,rfl⟩:=List.mem_map.1 hr;obtain⟨k,hk⟩:=List.getElem?_of_mem hl';obtain⟨i,hi⟩:=getSome (l:=g.infos) (k:=k) (by have:=lt_of_get hk; have:=h.1; omega);have:=((h.2 k i l' hi hk).2.2 x hx).1;exact⟨Nat.le_trans (gJ x) this,Nat.le_trans (gK x) this⟩
theorem Bc.fit {g:Gm} {m:List (List Rat)} (hf:bP g=0) (h:Bc g m):Fit g m:=by
 obtain⟨m',e,hfit,_⟩:=acQ (h.yZ hf) h.limbs;rw[aem e];exact hfit
def dY (L:List Int) (a:Nat):Nat→List Int×Nat
 | 0=>([],a)
 | k+1=>let r:=dY L a k; (r.1 ++ [dw L r.2 4],cZ L r.2)
theorem jL (L:List Int) (a:Nat):∀ k,(dY L a k).1.length=k
 | 0=>rfl
 | k+1=>by unfold dY; simp[jL L a k]
theorem vJ (L:List Int) (a:Nat):∀ k,∀ x∈(dY L a k).1,0≤x∧x≤3
 | 0,x,h=>by cases h
 | k+1,x,h=>by
  unfold dY at h;simp only at h;rcases List.mem_append.1 h with h | h
  ·exact vJ L a k x h
  ·rw[List.mem_singleton.1 h];have:=iw L (dY L a k).2 (n:=4) ay;omega
def fB (l:List Int):List Rat:=if qo l=0 then l.map fun _=>mkRat 1 l.length else l.map fun x=>mkRat x (qo l).toNat
theorem yt (l:List Int):(fB l).length=l.length:=by unfold fB; split <;> simp
theorem ab2 {a b:Int} {s:Nat} (hs:s≠0):mkRat a s+mkRat b s=mkRat (a+b) s:=by
 rw[Rat.mkRat_add_mkRat _ _ hs hs,show a*(s:Int)+b*(s:Int)=(a+b)*(s:Int) by rw[Int.add_mul],Rat.mkRat_mul_right hs]
theorem sum_mk {s:Nat} (hs:s≠0):∀ (l:List Int) (a:Int),(l.map fun x=>mkRat x s).foldl (· + ·) (mkRat a s)=mkRat (l.foldl (· + ·) a) s
 | [],a=>rfl
 | x :: l,a=>by
  rw[List.map_cons,List.foldl_cons,List.foldl_cons,ab2 hs];exact sum_mk hs l (a+x)
theorem mkRat_self {s:Nat} (hs:s≠0):mkRat (s:Int) s=1:=by
 have:=Rat.mkRat_mul_right (n:=1) (d:=1) hs;rw[Int.one_mul,Nat.one_mul] at this;exact this
theorem agE {s:Nat} (hs:s≠0) {l:List Int} (h:qo l=s):jD (l.map fun x=>mkRat x s)=1:=by
 unfold jD;have e:(0:Rat)=mkRat 0 s:=(Rat.zero_mkRat s).symm;rw[e,sum_mk hs];have e2:l.foldl (· + ·) 0=qo l:=rfl;rw[e2,h,mkRat_self hs]
theorem aaO {x:Int} {s:Nat} (hs:s≠0) (h:0≤x):0≤mkRat x s:=Rat.num_nonneg.1 (by have:=(iW x hs).2.2; omega)
theorem aen {x:Int} {s:Nat} (hs:s≠0) (h:x≤s):mkRat x s≤1:=by
 have e:=ab2 (a:=x) (b:=s - x) hs;rw[show x+((s:Int) - x)=s by omega,mkRat_self hs] at e;have h2:0≤mkRat (s - x) s:=aaO hs byOmega;rw[← e];have:=Rat.add_le_add_left (c:=mkRat x s) |>.2 h2
 rwa [Rat.add_zero] at this
theorem aeo {x:Int} {s:Nat} (hs:s≠0) (h0:0≤x) (hx:x≤1000) (hs2:s≤1000000):rl (mkRat x s)≤4:=by
 refine zY hs ?_ ?_
 ·have:(dig x.natAbs).length≤1:=aS (by unfold LB; omega);omega
 ·have:(dig s).length≤1:=aS (by unfold LB; omega);omega
theorem zH:∀ (l:List Int) (a:Int),(∀ x∈l,0≤x)→a≤l.foldl (· + ·) a∧∀ x∈l,a+x≤l.foldl (· + ·) a
 | [],a,_=>⟨Int.le_refl _,fun _ h=>by cases h⟩
 | y :: l,a,h=>by
  have hy:=h y List.mem_cons_self;obtain⟨h1,h2⟩:=zH l (a+y) (fun x hx=>h x (List.mem_cons_of_mem _ hx));rw[List.foldl_cons];refine⟨byOmega,fun x hx=>?_⟩;rcases List.mem_cons.1 hx with rfl | hx
  ·exact h1
  ·have:=h2 x hx; omega
theorem acT:∀ (l:List Int) (a:Int),(∀ x∈l,x≤1000)→l.foldl (· + ·) a≤a+1000*l.length
 | [],a,_=>by simp
 | y :: l,a,h=>by
  have hy:=h y List.mem_cons_self;have h1:=acT l (a+y) (fun x hx=>h x (List.mem_cons_of_mem _ hx));rw[List.foldl_cons,List.length_cons];omega
theorem ab3:∀ (l:List Int) (a:Int),(l.map fun _=>(1:Int)).foldl (· + ·) a=a+l.length
 | [],a=>by simp
 | y :: l,a=>by
  rw[List.map_cons,List.foldl_cons,ab3 l (a+1),List.length_cons];omega
theorem acU {l:List Int} (hne:l≠[]) (hlen:l.length≤1000) (h:∀ x∈l,0≤x∧x≤1000):Dh l.length (fB l):=by
 have hpos:=List.length_pos_iff.2 hne;refine⟨by rw[yt],?_,?_⟩
 ·unfold fB;split
  ·have e:(l.map fun _=>mkRat 1 l.length)=(l.map fun _=>(1:Int)).map fun x=>mkRat x l.length:=by rw[List.map_map];rfl
   rw[e];refine agE byOmega ?_;have:=ab3 l 0;unfold qo;omega
  ·rename_i h0
   have:=(zH l 0 (fun x hx=>(h x hx).1)).1;have e2:l.foldl (· + ·) 0=qo l:=rfl;exact agE byOmega byOmega
 ·intro x hx;unfold fB at hx;split at hx
  ·obtain⟨_,_,rfl⟩:=List.mem_map.1 hx;exact⟨aeo byOmega ay ay byOmega,aaO byOmega ay,aen byOmega byOmega⟩
  ·rename_i h0
   obtain⟨y,hy,rfl⟩:=List.mem_map.1 hx;have h1:=zH l 0 (fun x hx=>(h x hx).1);have h2:=acT l 0 (fun x hx=>(h x hx).2);have e2:l.foldl (· + ·) 0=qo l:=rfl;have h3:=h1.2 y hy;have hyb:=h y hy;rw[e2] at h1 h2 h3;exact⟨aeo byOmega hyb.1 hyb.2 byOmega,aaO byOmega hyb.1,aen byOmega byOmega⟩
def gX (L:List Int) (a:Nat) (I:List Inf):Nat→List (List Rat)×Nat
 | 0=>([],a)
 | k+1=>let r:=gX L a I k; let d:=dY L r.2 (I.getD k default).actions.toNat; (r.1 ++ [fB d.1],d.2)
theorem jM (L:List Int) (a:Nat) (I:List Inf):∀ k,(gX L a I k).1.length=k
 | 0=>rfl
 | k+1=>by unfold gX; simp[jM L a I k]
theorem y8 (L:List Int) (a:Nat) {I:List Inf} (hI:∀ i∈I,1≤i.actions∧i.actions≤10):∀ k,k≤I.length→∀ (j:Nat) (i:Inf) (l:List Rat),I[j]? = some i→(gX L a I k).1[j]? = some l→Dh i.actions l
 | 0,_,j,i,l,_,h=>by simp[gX] at h
 | k+1,hk,j,i,l,hi,h=>by
  unfold gX at h;simp only at h;by_cases hj:j < k
  ·rw[List.getElem?_append_left (by rw[jM]; exact hj)] at h;exact y8 L a hI k byOmega j i l hi h
  ·rw[List.getElem?_append_right (by rw[jM]; omega),jM] at h;have e:j=k:=by have:=lt_of_get h; simp at this; omega
   subst e;rw[Nat.sub_self] at h;simp at h;subst h;have hin:=hI i (List.mem_of_getElem? hi);rw[hi,Option.getD_some];have hl:=jL L (gX L a I j).2 i.actions.toNat;have hx:=vJ L (gX L a I j).2 i.actions.toNat;generalize (dY L (gX L a I j).2 i.actions.toNat).1=d at *;have:=acU (l:=d) (fun e=>by subst e; simp at hl; omega) byOmega fun x h=>by have:=hx x h; omega
   rw[show i.actions=(d.length:Int) by omega];exact this
def acV (L:List Int) (a:Nat) (g:Gm):List (List Rat):=(gX L a g.infos g.infos.length).1
theorem aep (L:List Int) (a:Nat) {g:Gm} (hI:∀ i∈g.infos,1≤i.actions∧i.actions≤10):Bc g (acV L a g) :=
 ⟨jM _ _ _ _,fun k i l hi hl=>y8 L a hI _ (Nat.le_refl _) k i l hi hl⟩
theorem ai2 {xs:List Rat} (h:∀ x∈xs,rl x≤1024) (hl:xs.length≤1000):BZ (xs.map aG):=by
 refine⟨by rw[List.length_map]; omega,fun r hr=>?_⟩;obtain⟨x,hx,rfl⟩:=List.mem_map.1 hr;have:=h x hx;unfold rl at this;show(dig x.num.natAbs).length≤500000∧(dig x.den).length≤500000;omega
theorem ahA:BG (sG.map (List.map aG)):=by
 rw[uq];intro l hl;unfold ab1 at hl;simp only[List.mem_cons,List.not_mem_nil,or_false] at hl;rcases hl with rfl | rfl | rfl
 all_goals
  refine⟨ay,fun r hr=>?_⟩;simp only[List.mem_cons,List.not_mem_nil,or_false] at hr;rcases hr with rfl | rfl | rfl
 all_goals exact⟨by unfold U32; decide,ay,ay⟩
theorem fE:Small bg:=⟨ay,ay,ay,ay,ay⟩
theorem acW {l:List Int} (h:∀ x∈l,0≤x∧x≤1000):0≤qo l∧qo l≤1000*l.length:=by
 have h1:=zH l 0 (fun x hx=>(h x hx).1);have h2:=acT l 0 (fun x hx=>(h x hx).2);have e:l.foldl (· + ·) 0=qo l:=rfl;omega
theorem acX (w:World) (F:Foot) (v:Value) (l:List Int) (hv:AA w F v l) (hl:l.length≤1000) (hx:∀ x∈l,0≤x∧x≤1000) :
  Calls Tryz.prog 38 #[v] w (Ret w fun u w'=>CX w' (fun b=>w.heap.size≤b) u (fB l)):=by
 have HV:=Ag hv;have HX:=Ag hx;obtain⟨A,c,rfl,hc,hr⟩:=hv;have HR:=Ag hr;clear hr hx;obtain⟨S,hS⟩:∃ S:Nat,qo l=(S:Int):=⟨(qo l).toNat,by have:=(acW HX.out).1; omega⟩;have HS:=Ag hS;have hSb:S≤1000000:=by have:=(acW HX.out).2;omega
 clear hS;go_in;go_wp2
 go_loopw [3,4] (fun u i wr=>∃ (k:Nat) (s:Int),k≤l.length∧i = .int .i64 (k:Int)∧u = .int .i64 s∧Hid (s=qo (l.take k))∧w=wr) (fun _ i _=>l.length - (intOf i).toNat)
 case atStart=>exact⟨0,0,byOmega,rfl,rfl,Ag rfl,rfl⟩
 case round =>
  obtain⟨k,s,hk,rfl,rfl,HSU,rfl⟩:=hrel;by_cases hlt:k < l.length
  ·obtain⟨bb,o,rfl,_,hb',hcell⟩:=HR.out byOmega;obtain⟨x,hxk⟩:=getSome hlt;have e1:=hcell k x hxk;unfold o7 at e1;rw[Nat.mul_one] at e1;have hxb:=HX.out x (List.mem_of_getElem? hxk);have hsb:0≤s∧s≤1000000:=by
    have:=acW (l:=l.take k) (fun x hx=>HX.out x (List.mem_of_mem_take hx));rw[HSU.out];simp at this ⊢;omega
   have HXK:=Ag (show s+x=qo (l.take (k+1)) by rw[HSU.out,take_snoc hxk,agY]);have hwx:IntKind.i64.wrap (s+x)=s+x:=IntWalk.i64_in _ byOmega;clear hcell hxk;go_wp2
   go_roundw
   case rel=>exact⟨k+1,s+x,byOmega,by go_num,rfl,HXK,trivial⟩
   case measure=>simp[intOf]; omega
  ·have hsum:s=(S:Int):=by have:=HSU.out;rw[List.take_of_length_le byOmega,HS.out] at this;exact this
   subst hsum;clear HSU;by_cases h0:S=0
   ·subst h0;have HW:=Ag (show fB l=l.map fun _=>mkRat 1 l.length from if_pos HS.out);clear HS;go_wp2
    go_loopw [5,6] (fun u i wr=>∃ (k:Nat) (L:List RV),k≤l.length∧i = .int .i64 (k:Int)∧L.length=k∧L.map RV.r=((l.take k).map fun _=>aG (mkRat 1 l.length))∧Bf wr w.heap.size 42 (fun b=>w.heap.size≤b) u L∧Below w.heap.size w wr) (fun _ i _=>l.length - (intOf i).toNat)
    case atStart=>exact⟨0,[],byOmega,rfl,rfl,rfl,Bf.nil _ _ _ _,Below.refl _ _⟩
    case round =>
     obtain⟨k,L,hk,rfl,hLl,hLr,hown,hbel⟩:=hrel;have HO:=Ag hown;have HL:=Ag hLr;have HLL:=Ag hLl;clear hown hLr hLl;by_cases hlt:k < l.length
     ·obtain⟨x,hxk⟩:=getSome hlt;have HXK:=Ag hxk;clear hxk;have hz:=hbel.size;go_wp2_with fail
      refine(xX wr 1 l.length ay ay byOmega byOmega).mono ?_;rintro e w2 ⟨vm,rfl,hb2,hu⟩;obtain⟨q,hq,rfl,hqf⟩:=Ak.rv hu;have oL:=hbel.trans (hb2.mono hbel.size);have HO2:=Ag (HO.out.below hb2);have HF:=Ag (show q.fine w2 (Apart (fun b=>w.heap.size≤b) u5) from hqf.keep (fun b hb _=>⟨byOmega,fun e=>by have:=(HO.out.row.lt b e).2; omega⟩) (Same.refl _ _));have HQ:=Ag hq;clear hqf hu hq hb2 hbel;dsimp only[RV.cells];go_wp2_with (at_builtin; refine su (F:=fun b=>w.heap.size≤b) rfl _ _ 38 42 Tryz.underlying38 Tryz.infoRatT rfl w.heap.size (Nat.le_refl _) u5 L rfl q (by have:=HLL.out; omega) rfl HO2.out HF.out oL ?_; intro g cap w' hown' fQ hlt'; have HO':=Ag hown'; clear hown')
      go_roundw
      case rel=>(repeat apply Exists.intro); refine⟨⟨k+1,L ++ [q],byOmega,by go_num,by rw[List.length_append,HLL.out]; rfl,by rw[List.map_append,HL.out,take_snoc HXK.out,List.map_append,List.map_cons,List.map_nil,HQ.out]; rfl,HO'.out,fQ⟩,rfl⟩
      case measure=>simp[intOf]; omega
     ·exact zad
   ·have h0':=h0;have HW:=Ag (show fB l=l.map fun x=>mkRat x S by unfold fB; rw[if_neg (by rw[HS.out]; omega),HS.out]; rfl);have t0:((S:Int)==0)=false:=aF;clear HS;go_wp2
    go_loopw [5,6] (fun u i wr=>∃ (k:Nat) (L:List RV),k≤l.length∧i = .int .i64 (k:Int)∧L.length=k∧L.map RV.r=((l.take k).map fun x=>aG (mkRat x S))∧Bf wr w.heap.size 42 (fun b=>w.heap.size≤b) u L∧Below w.heap.size w wr) (fun _ i _=>l.length - (intOf i).toNat)
    case atStart=>exact⟨0,[],byOmega,rfl,rfl,rfl,Bf.nil _ _ _ _,Below.refl _ _⟩
    case round =>
     obtain⟨k,L,hk,rfl,hLl,hLr,hown,hbel⟩:=hrel;have HO:=Ag hown;have HL:=Ag hLr;have HLL:=Ag hLl;clear hown hLr hLl;by_cases hlt:k < l.length
     ·obtain⟨x,hxk⟩:=getSome hlt;have HXK:=Ag hxk;obtain⟨bb,o,rfl,_,hb',hcell⟩:=HR.out byOmega;have e1:=hcell k x hxk;unfold o7 at e1;rw[Nat.mul_one] at e1;have hxb:=HX.out x (List.mem_of_getElem? hxk);have hold:=aQ hbel;clear hcell;clear hxk;have hz:=hbel.size;go_wp2_with fail
      refine(xX wr x S byOmega byOmega byOmega byOmega).mono ?_;rintro e w2 ⟨vm,rfl,hb2,hu⟩;obtain⟨q,hq,rfl,hqf⟩:=Ak.rv hu;have oL:=hbel.trans (hb2.mono hbel.size);have HO2:=Ag (HO.out.below hb2);have HF:=Ag (show q.fine w2 (Apart (fun b=>w.heap.size≤b) u5) from hqf.keep (fun b hb _=>⟨byOmega,fun e=>by have:=(HO.out.row.lt b e).2; omega⟩) (Same.refl _ _));have HQ:=Ag hq;clear hqf hu hq hb2 hbel hold;dsimp only[RV.cells];go_wp2_with (at_builtin; refine su (F:=fun b=>w.heap.size≤b) rfl _ _ 38 42 Tryz.underlying38 Tryz.infoRatT rfl w.heap.size (Nat.le_refl _) u5 L rfl q (by have:=HLL.out; omega) rfl HO2.out HF.out oL ?_; intro g cap w' hown' fQ hlt'; have HO':=Ag hown'; clear hown')
      go_roundw
      case rel=>exact⟨k+1,L ++ [q],byOmega,by go_num,by rw[List.length_append,HLL.out]; rfl,by rw[List.map_append,HL.out,take_snoc HXK.out,List.map_append,List.map_cons,List.map_nil,HQ.out]; rfl,HO'.out,fQ⟩
      case measure=>simp[intOf]; omega
     ·exact zad
theorem Tryz.infoRowsK:(Tryz.prog.info? 38).map (fun i=>(i.zero,i.size,i.bytes))=some (some (.slice none 0 0),yP.n,24):=ah
def ji (L:List Int) (a n k:Nat):List Int:=(dY L a k).1++List.replicate (n - k) 0
theorem acY (L:List Int) (a:Nat) {n k:Nat} (hk:k < n):(ji L a n k).set k (dw L (dY L a k).2 4)=ji L a n (k+1):=by
 unfold ji;have hl:=jL L a k;rw[List.set_append_right _ _ byOmega,hl,Nat.sub_self,show n - k=(n - (k+1))+1 by omega,List.replicate_succ,List.set_cons_zero];rw[show dY L a (k+1)=((dY L a k).1 ++ [dw L (dY L a k).2 4],cZ L (dY L a k).2) from rfl];simp
theorem abm (L:List Int) (a n:Nat):ji L a n n=(dY L a n).1:=by unfold ji; simp
theorem acZ (L:List Int) (a:Nat) {n k:Nat} (hk:k≤n):(ji L a n k).length=n:=by unfold ji; simp[jL]; omega
theorem aaP (w:World) (F:Foot) (db:Nat) (A:Option Addr) (c:Nat) (L:List Int) (a0:Nat) (vg:Value) (g:Gm) (hr:Row w db 34 [.slice A L.length c,.int .i64 (a0:Int)]) (hL:AA w F (.slice A L.length c) L) (hF:¬ F db) (hl:L.length≤9223372036854775807)
  (hg:AO w F vg g) (hI:∀ i∈g.infos,1≤i.actions∧i.actions≤10) (hn:g.infos.length≤1000) :
  Calls Tryz.prog 8 #[.pointer (some ⟨db,0,none⟩),vg] w fun e w'=>∃ u LL,e = .returned u∧OwnSl yP w' (w.heap.size+1) 38 (fun b=>w.heap.size≤b) u LL∧LL.map Prod.snd=(acV L a0 g).map (List.map aG)∧Wrote (fun b=>b=db) w w':=by
 have HI:=Ag hI;have HL:=Ag (hL.keep (G:=fun b=>F b∧b < w.heap.size) (fun b hb hl=>⟨hb,hl⟩) (Same.refl _ _));have hF1:¬ (F db∧db < w.heap.size):=fun e=>hF e.1
 obtain⟨vn,vi,rfl,⟨An,cn,rfl,hcn,_⟩,gU⟩:=hg;have HIN:=Ag (Bh.keep gU (G:=fun b=>F b∧b < w.heap.size) (fun b hb hl=>⟨hb,hl⟩) (Same.refl _ _));obtain⟨Ai,ci,rfl,hci,_⟩:=gU;have HR:=Ag hr;have hdl:=hr.lt;have HDL:=Ag hdl;clear hL hI hr;go_in
 go_upto_region 1 with(fail)
 obtain⟨W,hW,rx,hB,hz'⟩:=aO w 27 #[.int .i64 g.aA,.slice An g.nodes.length cn,.slice Ai g.infos.length ci];rw[← hW];have hz:W.heap.size=w.heap.size+1:=hz'.symm;have HR1:=Ag (HR.out.below hB HR.out.lt);have HW1:=Ag (Below.wrote hB (fun b=>b=db));have RX:=Ag rx;clear hW rx hB hz';go_wp2
 go_loopw [5,6] (fun u i wr=>∃ (k:Nat) (LL:List (Value×List Raw)),k≤g.infos.length∧i = .int .i64 (k:Int)∧Hid (LL.length=k∧LL.map Prod.snd=(gX L a0 g.infos k).1.map (List.map aG))∧OwnSl yP wr (w.heap.size+1) 38 (fun b=>w.heap.size≤b) u LL∧Row wr db 34 [.slice A L.length c,.int .i64 ((gX L a0 g.infos k).2:Int)]∧Hid (Wrote (fun b=>b=db) w wr)∧Row wr w.heap.size 27 [.int .i64 g.aA,.slice An g.nodes.length cn,.slice Ai g.infos.length ci]∧w.heap.size+1≤wr.heap.size) (fun _ i _=>g.infos.length - (intOf i).toNat)
 case atStart=>exact⟨0,[],byOmega,rfl,Ag ⟨rfl,rfl⟩,OwnSl.nil _ _ _ _ _,HR1.out,HW1,RX.out,byOmega⟩
 case round =>
  clear RX HW1 HR1;obtain⟨k,LL,hk,rfl,HLL,hown,hdr,HW,rx,hz1⟩:=hrel;obtain⟨w0,hw0⟩:∃ w0:World,w0=wr:=⟨_,rfl⟩;have HO:=Ag hown;have HD:=Ag hdr;have x2:=rx.cell (i:=2) rfl;have RX:=Ag rx;clear hown hdr rx;by_cases hlt:k < g.infos.length
  ·have t0:decide (k < g.infos.length)=true:=decide_eq_true hlt;obtain⟨inf,hik⟩:=getSome hlt;have hia:=HI.out inf (List.mem_of_getElem? hik);obtain⟨n,hn1⟩:∃ n:Nat,inf.actions=(n:Int):=⟨inf.actions.toNat,byOmega⟩;obtain⟨Ai',ci',he,_,hcell⟩:=HIN.out.on (HW.out.same fun b hb e=>hF (e▸hb.1));simp only[Value.slice.injEq] at he;obtain⟨rfl,_,rfl⟩:=he;obtain⟨bi,oi,rfl,_,_,hcell⟩:=hcell byOmega;have e1:=(hcell k inf hik).c1;rw[hn1] at e1;have HIK:=Ag hik;have HN1:=Ag hn1;have hnb:1≤n∧n≤10:=byOmega;clear hcell hik hn1 hia;go_wp2_with (at_make; refine dQ _ rfl _ _ 22 rfl 3 (.int .i64 0) 8 Tryz.underlying22 Tryz.infoInt rfl n rfl rfl byOmega byOmega ?_; intro w1 hb1 hz2 hrow1)
   obtain⟨lb,hlb⟩:=named wr.heap.size;rw[← hlb] at hrow1 hz2 ⊢;have hdlb:db≠lb:=by have:=HW.out.size;omega
   have HO0:=Ag (HO.out.widen (G:=fun b=>w.heap.size≤b∧b < lb) (fun b hb hl=>⟨hb,byOmega⟩)); have HOL:=Ag (show ∀ b,u5.ownBlock=some b→w.heap.size+1≤b∧b < lb from fun b e=>by have:=HO.out.row.lt b e; omega);have HO1:=Ag (HO0.out.below hb1); have HD1:=Ag (HD.out.below hb1 HD.out.lt); have HW1:=Ag (HW.out.trans (Below.wrote hb1 _)); have RX1:=Ag (RX.out.below hb1 RX.out.lt);have AZ:=Ag (show Row w1 lb 3 ((ji L (gX L a0 g.infos k).2 n 0).map (Value.int .i64)) by unfold ji dY; simpa using hrow1);obtain⟨at0,ael⟩:=named ((gX L a0 g.infos k).2);rw[← ael] at HD1 AZ;have HSK:=Ag (show gX L a0 g.infos (k+1)=((gX L a0 g.infos k).1 ++ [fB (dY L at0 n).1],(dY L at0 n).2) by
    show((gX L a0 g.infos k).1 ++ [fB (dY L (gX L a0 g.infos k).2 (g.infos.getD k default).actions.toNat).1],(dY L (gX L a0 g.infos k).2 (g.infos.getD k default).actions.toNat).2)=_;rw[List.getD_eq_getElem?_getD,HIK.out,Option.getD_some,HN1.out,Int.toNat_natCast,← ael])
   have hlbg:w.heap.size+1≤lb∧lb < w1.heap.size:=byOmega;have hlbw:∀ b,b < wr.heap.size→b < lb:=fun b h=>by omega
   have HLBW:=Ag hlbw;clear hlbw hlb hz2 hz ael hb1 hrow1 HO HD HW RX x2 e1 hw0;go_loopw [8] (fun i wr=>∃ j:Nat,j≤n∧i = .int .i64 (j:Int)∧Row wr lb 3 ((ji L at0 n j).map (Value.int .i64))∧Row wr db 34 [.slice A L.length c,.int .i64 ((dY L at0 j).2:Int)]∧Hid (Wrote (fun b=>b=db∨b=lb) w1 wr)∧w1.heap.size≤wr.heap.size) (fun i _=>n - (intOf i).toNat)
   case atStart=>exact⟨0,byOmega,rfl,AZ.out,HD1.out,Ag (Wrote.refl _ _),Nat.le_refl _⟩
   case round =>
    clear AZ;obtain⟨j,hj,rfl,hrow,hdr,HWJ,hz3⟩:=hrel;have AZ:=Ag hrow;by_cases hjt:j < n
    ·have t1:decide ((j:Int) < (n:Int))=true:=decide_eq_true byOmega;have hjl:=acZ L at0 hj;have HJS:=Ag (acY L at0 hjt);have HNX:=Ag (show(dY L at0 (j+1)).2=cZ L (dY L at0 j).2 from rfl);obtain⟨aj,haj⟩:=named ((dY L at0 j).2);rw[← haj] at HJS HNX hdr;clear hrow haj;have HLJ:=Ag (HL.out.on ((HW1.out.same fun b hb e=>hF (e▸hb.1)).trans (HWJ.out.same fun b hb e=>e.elim (fun e=>hF (e▸hb.1)) fun e=>by have:=hb.2; omega)));have HDR:=Ag hdr;clear hdr;go_wp2_with (go_at_call 36; (with_reducible refine(next_any wr _ db A c L aj 4 HDR.out HLJ.out hF1 ay ay hl).mono ?_); rintro e w2 ⟨rfl,hr2,hw2⟩; have HR2:=Ag hr2; have CQ:=Ag (AZ.out.wrote hw2 (fun e=>hdlb e.symm)); have HWJ2:=Ag (HWJ.out.step hw2 fun i _ e=>.inl e); have hz4:=Nat.le_trans hz3 hw2.size; clear hr2 hw2; have ff:=CQ.out.frozen j; obtain⟨vq,y0⟩:∃ v,w2.cell? ⟨lb,j,none⟩=some v:=⟨_,CQ.out.cell (i:=j) (v:=.int .i64 ((ji L at0 n j).getD j 0)) (by rw[List.getElem?_map,List.getD_eq_getElem?_getD,List.getElem?_eq_getElem byOmega]; rfl)⟩)
     obtain⟨w3,hw3⟩:=named (w2.setCell ⟨lb,j,none⟩ (.int .i64 (dw L aj 4)));rw[← hw3];have HR3:=Ag (HR2.out.wrote (K:=fun b=>b=lb) (hw3▸Wrote.setCell (K:=fun b=>b=lb) (p:=⟨lb,j,none⟩) (Wrote.refl _ _) (.inl rfl) _) (fun e=>hdlb e));have EW:=Ag (show Row w3 lb 3 ((ji L at0 n (j+1)).map (Value.int .i64)) by rw[hw3,← HJS.out,List.map_set]; exact CQ.out.set j _);have HWJ3:=Ag (show Wrote (fun b=>b=db∨b=lb) w1 w3 from hw3▸HWJ2.out.setCell (p:=⟨lb,j,none⟩) (.inl (.inr rfl)) _);have hz5:w1.heap.size≤w3.heap.size:=HWJ3.out.size;clear hw3 ff y0 CQ HWJ2 HR2 AZ HDR HLJ HWJ;go_roundw
     case rel=>exact⟨j+1,byOmega,by go_num,EW.out,by rw[HNX.out]; exact HR3.out,HWJ3,hz5⟩
     case measure=>simp[intOf]; omega
    ·have hje:j=n:=byOmega;subst hje;have t1:decide ((j:Int) < (j:Int))=false:=decide_eq_false byOmega;clear hrow;obtain⟨rl,hrl⟩:=named ((dY L at0 j).1);have hrll:rl.length=j:=by rw[hrl];exact jL L at0 j
     have HRL:=Ag (show ∀ x∈rl,0≤x∧x≤1000 from fun x hx=>by rw[hrl] at hx; have:=vJ L at0 j x hx; omega);have HIT:=Ag (show AA wr (fun b=>b=lb) (.slice (some ⟨lb,0,none⟩) rl.length j) rl from by
      have h:=AZ.out;rw[abm,← hrl] at h;have h2:=h.xY (F:=fun b=>b=lb) rfl;rw[hrll] at h2 ⊢;exact h2)
     have HRH:=Ag hrl;rw[hrll] at HIT;have HO2:=Ag ((HO1.out.wrote HWJ.out fun b hb e=>by
      have h1:w.heap.size≤b∧b < lb:=hb.elim id fun e=>by have:=HOL.out b e;omega
      rcases e with e | e <;> omega).widen (G:=fun b=>w.heap.size≤b) fun b hb _=>hb.1)
     have HDR:=Ag hdr;have HWT:=Ag (HW1.out.step HWJ.out fun i hi e=>e.elim id fun e=>by omega);have RX2:=Ag (RX1.out.wrote HWJ.out fun e=>by rcases e with e | e <;> omega);have hllb:LL.length≤1000000:=by rw[HLL.out.1];omega
     clear hdr hrl AZ HO1 HO0 HWJ HW1 RX1 HD1;go_wp2_with (first | (go_at_call 38; (with_reducible refine(acX wr _ _ rl HIT.out byOmega HRL.out).mono ?_); rintro e w4 ⟨u,rfl,hb4,hu⟩; have hu':=hu; obtain⟨Aw,cw,rfl,_⟩:=hu; rw[List.length_map] at hu' ⊢; have HU:=Ag hu'; clear hu'; have HO4:=Ag (HO2.out.below hb4); have HD4:=Ag (HDR.out.below hb4 HDR.out.lt); have HW4:=Ag (HWT.out.trans (Below.wrote hb4 _)); have RX4:=Ag (RX2.out.below hb4 RX2.out.lt); have hz6:=Nat.le_trans hz3 hb4.size; have hz7:wr.heap.size≤w4.heap.size:=hb4.size; clear hb4) | (at_builtin; go_loud (refine jJ (K:=yP) (F:=fun b=>w.heap.size≤b) (w:=w4) (W:=w4) rfl _ _ 30 38 24 _ Tryz.underlying30 Tryz.infoRowsK rfl ay rfl (w.heap.size+1) byOmega u5 LL rfl (.slice Aw (fB rl).length cw,(fB rl).map aG) _ rfl hllb rfl HO4.out (RawsAt.keep HU.out (fun b hb _=>⟨byOmega,fun e=>by have:=HOL.out b e; omega⟩) (Same.refl _ _)) ?_; intro g2 cap2 wq hown hwq hat zy; have HO5:=Ag hown; have HD5:=Ag (HD4.out.wrote hwq fun e=>by have:=HOL.out _ e; have:=HDL.out; omega); have HW5:=Ag (HW4.out.step hwq fun i hi e=>by have:=HOL.out _ e; omega); have RX5:=Ag (RX4.out.wrote hwq fun e=>by have:=HOL.out _ e; omega); have hz8:=Nat.le_trans hz6 hwq.size; clear hown hwq hat zy)))
     go_roundw
     case rel=>exact⟨k+1,LL ++ [(.slice Aw (fB rl).length cw,(fB rl).map aG)],byOmega,by go_num,Ag ⟨by rw[List.length_append,HLL.out.1]; rfl,by rw[HSK.out,List.map_append,HLL.out.2,List.map_append,HRH.out]; rfl⟩,HO5.out,by rw[HSK.out]; exact HD5.out,HW5,RX5.out,byOmega⟩
     case measure=>simp[intOf]; omega
  ·have hke:k=g.infos.length:=byOmega;subst hke;have t0:decide (g.infos.length < g.infos.length)=false:=decide_eq_false byOmega;go_wp2
   go_ret;exact⟨_,_,rfl,HO.out,HLL.out.2,HW.out⟩
theorem aaQ (w:World) (F:Foot) (db:Nat) (A:Option Addr) (c:Nat) (L:List Int) (a0:Nat) (vg:Value) (g:Gm) (hr:Row w db 34 [.slice A L.length c,.int .i64 (a0:Int)]) (hL:AA w F (.slice A L.length c) L) (hF:¬ F db) (hl:L.length≤9223372036854775807)
  (hg:AO w F vg g) (hI:∀ i∈g.infos,1≤i.actions∧i.actions≤10) (hn:g.infos.length≤1000) :
  Calls Tryz.prog 8 #[.pointer (some ⟨db,0,none⟩),vg] w fun e w'=>∃ u,e = .returned u∧RawRowsAt w' (fun b=>w.heap.size≤b) u ((acV L a0 g).map (List.map aG))∧Wrote (fun b=>b=db) w w':=by
 refine(aaP w F db A c L a0 vg g hr hL hF hl hg hI hn).mono ?_;rintro e w' ⟨u,LL,rfl,ho,hl,hw⟩;have h:=ho.rows (G:=fun b=>w.heap.size≤b) (fun b hb=>hb) (fun b hb=>by omega);rw[hl] at h;exact⟨_,rfl,h,hw⟩
end Go.Proofs.YtnmeejofpkhlkaaGreatDoor
