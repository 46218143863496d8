/- The example's game and strategy: what it is worth. -/
import Derived.Sort.CutIn
import Derived.RangeFuncNested
import Derived.RangeFuncBound
import Derived.RangeFuncCalls
import Derived.RangeFuncLeaves
import Derived.RangeFuncWrites
import Derived.Shelf.Abstract
import Derived.Shelf.RegionOpen
import Derived.WalkKit
import Derived.OwnWalkIn
import Derived.TacticsInMore
import Derived.LoopNIn
import Derived.LoopIn
import Derived.OrdersIn
import Derived.Test.YthmklhapjegfdaaGreatDoorV26
import Derived.Test.YthmklhapjegfdaaGreatDoorV36
set_option linter.all false
set_option maxRecDepth 100000
set_option maxHeartbeats 12800000
namespace Go.Proofs.YthmklhapjegfdaaGreatDoor
open Lib renaming hid → Ac
open Go.RowKit
theorem ae8:∀ {a b:List (List Rat)},a.map (List.map aG)=b.map (List.map aG)→a=b
 | [],[],_=>rfl
 | [],_ :: _,h=>by cases h
 | _ :: _,[],h=>by cases h
 | x :: a,y :: b,h=>by
  rw[List.map_cons,List.map_cons,List.cons.injEq] at h;rw[aat h.1,ae8 h.2]
theorem agG {x:Rat} (h:rl x≤1024):eY (aG x)=0:=by
 have h1:=aak (n:=x.num.natAbs) (Nat.le_trans (jK x) h);have h2:=aak (n:=x.den) (Nat.le_trans (jS x) h);have h3:(dig x.den).length≠0:=fun e=>afk x (List.eq_nil_of_length_eq_zero e)
 have h4:dM (aG x).num (aG x).den=0:=by
  unfold dM;rw[um,abW,h1,h2,if_neg ay,if_neg ay,if_neg h3]
 unfold eY;rw[h4,if_neg ay,if_neg];rw[um,abW,aZ,aZ,pG,jH];rintro(⟨e1,e2⟩ | e)
 ·have h0:x.num.natAbs=0:=wO.1 e1;have hz:x.num=0:=byOmega;unfold dV at e2;rw[hz] at e2;exact absurd e2 aA
 ·exact e rfl
theorem akK {x:Rat} (h:0≤x):dV x=false:=by
 unfold dV;have:=Rat.num_nonneg.2 h;simp;omega
theorem aiu {x:Rat} (h:rl x≤1024) (h0:0≤x) (h1:x≤1):gy (aG x)=0:=by
 unfold gy;rw[agG h,if_neg ay,if_neg];rintro(e | e)
 ·rw[jH,akK h0] at e;cases e
 ·rw[wW,acJ] at e;exact absurd h1 (Rat.not_le.2 e)
theorem tK:∀ {l:List Int},(∀ e∈l,e=0)→iG l=0
 | [],_=>rfl
 | e :: l,h=>by
  unfold iG;rw[if_neg (by simpa using h e List.mem_cons_self)];exact tK fun x hx=>h x (List.mem_cons_of_mem _ hx)
def Dq (a:Int) (l:List Rat):Prop:=(l.length:Int)=a∧o8 l=1∧∀ x∈l,rl x≤4∧0≤x∧x≤1
theorem akL {a:Int} {l:List Rat} (h:Dq a l):lJ a (l.map aG)=0:=by
 obtain⟨h1,h2,h3⟩:=h;have h4:lS (l.map aG)=0:=by
  unfold lS;refine tK fun e he=>?_
  obtain⟨r,hr,rfl⟩:=List.mem_map.1 he;obtain⟨x,hx,rfl⟩:=List.mem_map.1 hr;have:=h3 x hx;exact aiu byOmega this.2.1 this.2.2
 unfold lJ;rw[List.length_map,if_neg (by simpa using h1),h4,if_neg ay,aau,h2,(uI 1 1).2 rfl,if_neg ay]
def Bv (g:Gm) (m:List (List Rat)):Prop:=m.length=g.infos.length∧∀ (k:Nat) (i:Inf) (l:List Rat),g.infos[k]? = some i→m[k]? = some l→Dq i.actions l
theorem Bv.acz {g:Gm} {m:List (List Rat)} (hf:bF g=0) (h:Bv g m):gU g (m.map (List.map aG))=0:=by
 unfold gU;rw[if_neg (by simpa using hf)];unfold nG;rw[if_neg (by simp[h.1])];refine tK fun e he=>?_
 obtain⟨k,hk⟩:=List.getElem?_of_mem he;rw[List.getElem?_zipWith,List.getElem?_map,List.getElem?_map] at hk;cases hi:g.infos[k]? with
 | none=>rw[hi] at hk; simp at hk
 | some i =>
  cases hl:m[k]? with
  | none=>rw[hi,hl] at hk; simp at hk
  | some l =>
   rw[hi,hl] at hk;simp at hk;rw[← hk];exact akL (h.2 k i l hi hl)
theorem Bv.limbs {g:Gm} {m:List (List Rat)} (h:Bv g m):CP (m.map (List.map aG)):=by
 intro l hl r hr;obtain⟨l',hl',rfl⟩:=List.mem_map.1 hl;obtain⟨x,hx,rfl⟩:=List.mem_map.1 hr;obtain⟨k,hk⟩:=List.getElem?_of_mem hl';obtain⟨i,hi⟩:=aC (l:=g.infos) (k:=k) (by have:=aI hk; have:=h.1; omega);have:=((h.2 k i l' hi hk).2.2 x hx).1;exact⟨Nat.le_trans (jK x) this,Nat.le_trans (jS x) this⟩
theorem Bv.fit {g:Gm} {m:List (List Rat)} (hf:bF g=0) (h:Bv g m):Fit g m:=by
 obtain⟨m',e,hfit,_⟩:=aga (h.acz hf) h.limbs;rw[ae8 e];exact hfit
def fC (L:List Int) (a:Nat):Nat→List Int×Nat
 | 0=>([],a)
 | k+1=>let r:=fC L a k; (r.1 ++ [eX L r.2 4],dP L r.2)
theorem jY (L:List Int) (a:Nat):∀ k,(fC L a k).1.length=k
 | 0=>rfl
 | k+1=>by unfold fC; simp[jY L a k]
theorem wL (L:List Int) (a:Nat):∀ k,∀ x∈(fC L a k).1,0≤x∧x≤3
 | 0,x,h=>by cases h
 | k+1,x,h=>by
  unfold fC at h;simp only at h;rcases List.mem_append.1 h with h | h
  ·exact wL L a k x h
  ·rw[List.mem_singleton.1 h];have:=iO L (fC L a k).2 (n:=4) aA;omega
def fP (l:List Int):List Rat:=if lU l=0 then l.map fun _=>mkRat 1 l.length else l.map fun x=>mkRat x (lU l).toNat
theorem yR (l:List Int):(fP l).length=l.length:=by unfold fP; split <;> simp
theorem acA {a b:Int} {s:Nat} (hs:s≠0):mkRat a s+mkRat b s=mkRat (a+b) s:=by
 rw[Rat.mkRat_add_mkRat _ _ hs hs,show a*(s:Int)+b*(s:Int)=(a+b)*(s:Int) by rw[Int.add_mul],Rat.mkRat_mul_right hs]
theorem sum_mk {s:Nat} (hs:s≠0):∀ (l:List Int) (a:Int),(l.map fun x=>mkRat x s).foldl (· + ·) (mkRat a s)=mkRat (l.foldl (· + ·) a) s
 | [],a=>rfl
 | x :: l,a=>by
  rw[List.map_cons,List.foldl_cons,List.foldl_cons,acA hs];exact sum_mk hs l (a+x)
theorem mkRat_self {s:Nat} (hs:s≠0):mkRat (s:Int) s=1:=by
 have:=Rat.mkRat_mul_right (n:=1) (d:=1) hs;rw[Int.one_mul,Nat.one_mul] at this;exact this
theorem ag9 {s:Nat} (hs:s≠0) {l:List Int} (h:lU l=s):o8 (l.map fun x=>mkRat x s)=1:=by
 unfold o8;have e:(0:Rat)=mkRat 0 s:=(Rat.zero_mkRat s).symm;rw[e,sum_mk hs];have e2:l.foldl (· + ·) 0=lU l:=rfl;rw[e2,h,mkRat_self hs]
theorem abj {x:Int} {s:Nat} (hs:s≠0) (h:0≤x):0≤mkRat x s:=Rat.num_nonneg.1 (by have:=(jR x hs).2.2; omega)
theorem ae9 {x:Int} {s:Nat} (hs:s≠0) (h:x≤s):mkRat x s≤1:=by
 have e:=acA (a:=x) (b:=s - x) hs;rw[show x+((s:Int) - x)=s by omega,mkRat_self hs] at e;have h2:0≤mkRat (s - x) s:=abj hs byOmega;rw[← e];have:=Rat.add_le_add_left (c:=mkRat x s) |>.2 h2
 rwa [Rat.add_zero] at this
theorem afa {x:Int} {s:Nat} (hs:s≠0) (h0:0≤x) (hx:x≤1000) (hs2:s≤1000000):rl (mkRat x s)≤4:=by
 refine aiH hs ?_ ?_
 ·have:(dig x.natAbs).length≤1:=bg (by unfold LB; omega);omega
 ·have:(dig s).length≤1:=bg (by unfold LB; omega);omega
theorem zY:∀ (l:List Int) (a:Int),(∀ x∈l,0≤x)→a≤l.foldl (· + ·) a∧∀ x∈l,a+x≤l.foldl (· + ·) a
 | [],a,_=>⟨Int.le_refl _,fun _ h=>by cases h⟩
 | y :: l,a,h=>by
  have hy:=h y List.mem_cons_self;obtain⟨h1,h2⟩:=zY l (a+y) (fun x hx=>h x (List.mem_cons_of_mem _ hx));rw[List.foldl_cons];refine⟨byOmega,fun x hx=>?_⟩;rcases List.mem_cons.1 hx with rfl | hx
  ·exact h1
  ·have:=h2 x hx; omega
theorem adt:∀ (l:List Int) (a:Int),(∀ x∈l,x≤1000)→l.foldl (· + ·) a≤a+1000*l.length
 | [],a,_=>by simp
 | y :: l,a,h=>by
  have hy:=h y List.mem_cons_self;have h1:=adt l (a+y) (fun x hx=>h x (List.mem_cons_of_mem _ hx));rw[List.foldl_cons,List.length_cons];omega
theorem acB:∀ (l:List Int) (a:Int),(l.map fun _=>(1:Int)).foldl (· + ·) a=a+l.length
 | [],a=>by simp
 | y :: l,a=>by
  rw[List.map_cons,List.foldl_cons,acB l (a+1),List.length_cons];omega
theorem adu {l:List Int} (hne:l≠[]) (hlen:l.length≤1000) (h:∀ x∈l,0≤x∧x≤1000):Dq l.length (fP l):=by
 have hpos:=List.length_pos_iff.2 hne;refine⟨by rw[yR],?_,?_⟩
 ·unfold fP;split
  ·have e:(l.map fun _=>mkRat 1 l.length)=(l.map fun _=>(1:Int)).map fun x=>mkRat x l.length:=by rw[List.map_map];rfl
   rw[e];refine ag9 byOmega ?_;have:=acB l 0;unfold lU;omega
  ·rename_i h0
   have:=(zY l 0 (fun x hx=>(h x hx).1)).1;have e2:l.foldl (· + ·) 0=lU l:=rfl;exact ag9 byOmega byOmega
 ·intro x hx;unfold fP at hx;split at hx
  ·obtain⟨_,_,rfl⟩:=List.mem_map.1 hx;exact⟨afa byOmega aA aA byOmega,abj byOmega aA,ae9 byOmega byOmega⟩
  ·rename_i h0
   obtain⟨y,hy,rfl⟩:=List.mem_map.1 hx;have h1:=zY l 0 (fun x hx=>(h x hx).1);have h2:=adt l 0 (fun x hx=>(h x hx).2);have e2:l.foldl (· + ·) 0=lU l:=rfl;have h3:=h1.2 y hy;have hyb:=h y hy;rw[e2] at h1 h2 h3;exact⟨afa byOmega hyb.1 hyb.2 byOmega,abj byOmega hyb.1,ae9 byOmega byOmega⟩
def iw (L:List Int) (a:Nat) (I:List Inf):Nat→List (List Rat)×Nat
 | 0=>([],a)
 | k+1=>let r:=iw L a I k; let d:=fC L r.2 (I.getD k default).actions.toNat; (r.1 ++ [fP d.1],d.2)
theorem jZ (L:List Int) (a:Nat) (I:List Inf):∀ k,(iw L a I k).1.length=k
 | 0=>rfl
 | k+1=>by unfold iw; simp[jZ L a I k]
theorem zC (L:List Int) (a:Nat) {I:List Inf} (hI:∀ i∈I,1≤i.actions∧i.actions≤10):∀ k,k≤I.length→∀ (j:Nat) (i:Inf) (l:List Rat),I[j]? = some i→(iw L a I k).1[j]? = some l→Dq i.actions l
 | 0,_,j,i,l,_,h=>by simp[iw] at h
 | k+1,hk,j,i,l,hi,h=>by
  unfold iw at h;simp only at h;by_cases hj:j < k
  ·rw[List.getElem?_append_left (by rw[jZ]; exact hj)] at h;exact zC L a hI k byOmega j i l hi h
  ·rw[List.getElem?_append_right (by rw[jZ]; omega),jZ] at h;have e:j=k:=by have:=aI h; simp at this; omega
   subst e;rw[Nat.sub_self] at h;simp at h;subst h;have hin:=hI i (List.mem_of_getElem? hi);rw[hi,Option.getD_some];have hl:=jY L (iw L a I j).2 i.actions.toNat;have hx:=wL L (iw L a I j).2 i.actions.toNat;generalize (fC L (iw L a I j).2 i.actions.toNat).1=d at *;have:=adu (l:=d) (fun e=>by subst e; simp at hl; omega) byOmega fun x h=>by have:=hx x h; omega
   rw[show i.actions=(d.length:Int) by omega];exact this
def adv (L:List Int) (a:Nat) (g:Gm):List (List Rat):=(iw L a g.infos g.infos.length).1
theorem afb (L:List Int) (a:Nat) {g:Gm} (hI:∀ i∈g.infos,1≤i.actions∧i.actions≤10):Bv g (adv L a g) :=
 ⟨jZ _ _ _ _,fun k i l hi hl=>zC L a hI _ (Nat.le_refl _) k i l hi hl⟩
theorem adw {l:List Int} (h:∀ x∈l,0≤x∧x≤1000):0≤lU l∧lU l≤1000*l.length:=by
 have h1:=zY l 0 (fun x hx=>(h x hx).1);have h2:=adt l 0 (fun x hx=>(h x hx).2);have e:l.foldl (· + ·) 0=lU l:=rfl;omega
theorem adx (w:World) (F:Ag) (v:Value) (l:List Int) (hv:Ah w F v l) (hl:l.length≤1000) (hx:∀ x∈l,0≤x∧x≤1000) :
  Calls Tryz.prog 93 #[v] w (Ret w fun u w'=>Bo w' (fun b=>w.heap.size≤b) u (fP l)):=by
 have HV:=Ac hv;have HX:=Ac hx;obtain⟨A,c,rfl,hc,hr⟩:=hv;have HR:=Ac hr;clear hr hx;obtain⟨S,hS⟩:∃ S:Nat,lU l=(S:Int):=⟨(lU l).toNat,by have:=(adw HX.out).1; omega⟩;have HS:=Ac hS;have hSb:S≤1000000:=by have:=(adw HX.out).2;omega
 clear hS;go_in;go_wp2
 go_loopw [3,4] (fun u i wr=>∃ (k:Nat) (s:Int),k≤l.length∧i = .int .i64 (k:Int)∧u = .int .i64 s∧Hid (s=lU (l.take k))∧w=wr) (fun _ i _=>l.length - (intOf i).toNat)
 case atStart=>exact⟨0,0,byOmega,rfl,rfl,Ac rfl,rfl⟩
 case round =>
  obtain⟨k,s,hk,rfl,rfl,HSU,rfl⟩:=hrel;by_cases hlt:k < l.length
  ·obtain⟨bb,o,rfl,_,hb',hcell⟩:=HR.out byOmega;obtain⟨x,hxk⟩:=aC hlt;have e1:=hcell k x hxk;unfold iE at e1;rw[Nat.mul_one] at e1;have hxb:=HX.out x (List.mem_of_getElem? hxk);have hsb:0≤s∧s≤1000000:=by
    have:=adw (l:=l.take k) (fun x hx=>HX.out x (List.mem_of_mem_take hx));rw[HSU.out];simp at this ⊢;omega
   have HXK:=Ac (show s+x=lU (l.take (k+1)) by rw[HSU.out,take_snoc hxk,abZ]);have hwx:IntKind.i64.wrap (s+x)=s+x:=IntWalk.i64_in _ byOmega;clear hcell hxk;go_wp2
   go_roundw
   case rel=>exact⟨k+1,s+x,byOmega,by go_num,rfl,HXK,trivial⟩
   case measure=>simp[intOf]; omega
  ·have hsum:s=(S:Int):=by have:=HSU.out;rw[List.take_of_length_le byOmega,HS.out] at this;exact this
   subst hsum;clear HSU;by_cases h0:S=0
   ·subst h0;have HW:=Ac (show fP l=l.map fun _=>mkRat 1 l.length from if_pos HS.out);clear HS;go_wp2
    go_loopw [5,6] (fun u i wr=>∃ (k:Nat) (L:List RV),k≤l.length∧i = .int .i64 (k:Int)∧L.length=k∧L.map RV.r=((l.take k).map fun _=>aG (mkRat 1 l.length))∧Ba wr w.heap.size 83 (fun b=>w.heap.size≤b) u L∧Below w.heap.size w wr) (fun _ i _=>l.length - (intOf i).toNat)
    case atStart=>exact⟨0,[],byOmega,rfl,rfl,rfl,Ba.nil _ _ _ _,Below.refl _ _⟩
    case round =>
     obtain⟨k,L,hk,rfl,hLl,hLr,hown,hbel⟩:=hrel;have HO:=Ac hown;have HL:=Ac hLr;have HLL:=Ac hLl;clear hown hLr hLl;by_cases hlt:k < l.length
     ·obtain⟨x,hxk⟩:=aC hlt;have HXK:=Ac hxk;clear hxk;have hz:=hbel.size;go_wp2_with fail
      refine(yF wr 1 l.length aA aA byOmega byOmega).mono ?_;rintro e w2 ⟨vm,rfl,hb2,hu⟩;obtain⟨q,hq,rfl,hqf⟩:=AL.rv hu;have fZ:=hbel.trans (hb2.mono hbel.size);have HO2:=Ac (HO.out.below hb2);have HF:=Ac (show q.fine w2 (Apart (fun b=>w.heap.size≤b) u5) from hqf.keep (fun b hb _=>⟨byOmega,fun e=>by have:=(HO.out.row.lt b e).2; omega⟩) (Same.refl _ _));have HQ:=Ac hq;clear hqf hu hq hb2 hbel;dsimp only[RV.cells];go_wp2_with (at_builtin; refine pR (F:=fun b=>w.heap.size≤b) rfl _ _ 64 83 Tryz.underlying64 Tryz.infoRatT rfl w.heap.size (Nat.le_refl _) u5 L rfl q (by have:=HLL.out; omega) rfl HO2.out HF.out fZ ?_; intro g cap w' hown' bW hlt'; have HO':=Ac hown'; clear hown')
      go_roundw
      case rel=>(repeat apply Exists.intro); refine⟨⟨k+1,L ++ [q],byOmega,by go_num,by rw[List.length_append,HLL.out]; rfl,by rw[List.map_append,HL.out,take_snoc HXK.out,List.map_append,List.map_cons,List.map_nil,HQ.out]; rfl,HO'.out,bW⟩,rfl⟩
      case measure=>simp[intOf]; omega
     ·go_wp2
      go_ret;refine zac ?_;intro h5;rw[HW.out,List.map_map];exact h5
   ·have h0':=h0;have HW:=Ac (show fP l=l.map fun x=>mkRat x S by unfold fP; rw[if_neg (by rw[HS.out]; omega),HS.out]; rfl);have t0:((S:Int)==0)=false:=aB;clear HS;go_wp2
    go_loopw [5,6] (fun u i wr=>∃ (k:Nat) (L:List RV),k≤l.length∧i = .int .i64 (k:Int)∧L.length=k∧L.map RV.r=((l.take k).map fun x=>aG (mkRat x S))∧Ba wr w.heap.size 83 (fun b=>w.heap.size≤b) u L∧Below w.heap.size w wr) (fun _ i _=>l.length - (intOf i).toNat)
    case atStart=>exact⟨0,[],byOmega,rfl,rfl,rfl,Ba.nil _ _ _ _,Below.refl _ _⟩
    case round =>
     obtain⟨k,L,hk,rfl,hLl,hLr,hown,hbel⟩:=hrel;have HO:=Ac hown;have HL:=Ac hLr;have HLL:=Ac hLl;clear hown hLr hLl;by_cases hlt:k < l.length
     ·obtain⟨x,hxk⟩:=aC hlt;have HXK:=Ac hxk;obtain⟨bb,o,rfl,_,hb',hcell⟩:=HR.out byOmega;have e1:=hcell k x hxk;unfold iE at e1;rw[Nat.mul_one] at e1;have hxb:=HX.out x (List.mem_of_getElem? hxk);have hold:=aJ hbel;clear hcell;clear hxk;have hz:=hbel.size;go_wp2_with fail
      refine(yF wr x S byOmega byOmega byOmega byOmega).mono ?_;rintro e w2 ⟨vm,rfl,hb2,hu⟩;obtain⟨q,hq,rfl,hqf⟩:=AL.rv hu;have fZ:=hbel.trans (hb2.mono hbel.size);have HO2:=Ac (HO.out.below hb2);have HF:=Ac (show q.fine w2 (Apart (fun b=>w.heap.size≤b) u5) from hqf.keep (fun b hb _=>⟨byOmega,fun e=>by have:=(HO.out.row.lt b e).2; omega⟩) (Same.refl _ _));have HQ:=Ac hq;clear hqf hu hq hb2 hbel hold;dsimp only[RV.cells];go_wp2_with (at_builtin; refine pR (F:=fun b=>w.heap.size≤b) rfl _ _ 64 83 Tryz.underlying64 Tryz.infoRatT rfl w.heap.size (Nat.le_refl _) u5 L rfl q (by have:=HLL.out; omega) rfl HO2.out HF.out fZ ?_; intro g cap w' hown' bW hlt'; have HO':=Ac hown'; clear hown')
      go_roundw
      case rel=>exact⟨k+1,L ++ [q],byOmega,by go_num,by rw[List.length_append,HLL.out]; rfl,by rw[List.map_append,HL.out,take_snoc HXK.out,List.map_append,List.map_cons,List.map_nil,HQ.out]; rfl,HO'.out,bW⟩
      case measure=>simp[intOf]; omega
     ·go_wp2
      go_ret;refine zac ?_;intro h5;rw[HW.out,List.map_map];exact h5
theorem Tryz.infoRowsK:(Tryz.prog.info? 64).map (fun i=>(i.zero,i.size,i.bytes))=some (some (.slice none 0 0),y8.n,24):=ak
def jC (L:List Int) (a n k:Nat):List Int:=(fC L a k).1++List.replicate (n - k) 0
theorem ady (L:List Int) (a:Nat) {n k:Nat} (hk:k < n):(jC L a n k).set k (eX L (fC L a k).2 4)=jC L a n (k+1):=by
 unfold jC;have hl:=jY L a k;rw[List.set_append_right _ _ byOmega,hl,Nat.sub_self,show n - k=(n - (k+1))+1 by omega,List.replicate_succ,List.set_cons_zero];rw[show fC L a (k+1)=((fC L a k).1 ++ [eX L (fC L a k).2 4],dP L (fC L a k).2) from rfl];simp
theorem abK (L:List Int) (a n:Nat):jC L a n n=(fC L a n).1:=by unfold jC; simp
theorem adz (L:List Int) (a:Nat) {n k:Nat} (hk:k≤n):(jC L a n k).length=n:=by unfold jC; simp[jY]; omega
theorem abk (w:World) (F:Ag) (db:Nat) (A:Option Addr) (c:Nat) (L:List Int) (a0:Nat) (vg:Value) (g:Gm) (hr:Row w db 75 [.slice A L.length c,.int .i64 (a0:Int)]) (hL:Ah w F (.slice A L.length c) L) (hF:¬ F db) (hl:L.length≤9223372036854775807)
  (hg:AB w F vg g) (hI:∀ i∈g.infos,1≤i.actions∧i.actions≤10) (hn:g.infos.length≤1000) :
  Calls Tryz.prog 47 #[.pointer (some ⟨db,0,none⟩),vg] w fun e w'=>∃ u,e = .returned u∧Ae w' (fun b=>w.heap.size≤b) u ((adv L a0 g).map (List.map aG))∧Wrote (fun b=>b=db) w w':=by
 have HI:=Ac hI;have HL:=Ac (hL.keep (G:=fun b=>F b∧b < w.heap.size) (fun b hb hl=>⟨hb,hl⟩) (Same.refl _ _));have hF1:¬ (F db∧db < w.heap.size):=fun e=>hF e.1
 obtain⟨vn,vi,rfl,⟨An,cn,rfl,hcn,_⟩,mG⟩:=hg;have HIN:=Ac (A8.keep mG (G:=fun b=>F b∧b < w.heap.size) (fun b hb hl=>⟨hb,hl⟩) (Same.refl _ _));obtain⟨Ai,ci,rfl,hci,_⟩:=mG;have HR:=Ac hr;have hdl:=hr.lt;have HDL:=Ac hdl;clear hL hI hr;go_in
 go_upto_region 1 with(fail)
 obtain⟨W,hW,rx,hB,hz'⟩:=aP w 25 #[.int .i64 g.au,.slice An g.nodes.length cn,.slice Ai g.infos.length ci];rw[← hW];have hz:W.heap.size=w.heap.size+1:=hz'.symm;have HR1:=Ac (HR.out.below hB HR.out.lt);have HW1:=Ac (Below.wrote hB (fun b=>b=db));have RX:=Ac rx;clear hW rx hB hz';go_wp2
 go_loopw [5,6] (fun u i wr=>∃ (k:Nat) (LL:List (Value×List Raw)),k≤g.infos.length∧i = .int .i64 (k:Int)∧Hid (LL.length=k∧LL.map Prod.snd=(iw L a0 g.infos k).1.map (List.map aG))∧AA y8 wr (w.heap.size+1) 64 (fun b=>w.heap.size≤b) u LL∧Row wr db 75 [.slice A L.length c,.int .i64 ((iw L a0 g.infos k).2:Int)]∧Hid (Wrote (fun b=>b=db) w wr)∧Row wr w.heap.size 25 [.int .i64 g.au,.slice An g.nodes.length cn,.slice Ai g.infos.length ci]∧w.heap.size+1≤wr.heap.size) (fun _ i _=>g.infos.length - (intOf i).toNat)
 case atStart=>exact⟨0,[],byOmega,rfl,Ac ⟨rfl,rfl⟩,AA.nil _ _ _ _ _,HR1.out,HW1,RX.out,byOmega⟩
 case round =>
  clear RX HW1 HR1;obtain⟨k,LL,hk,rfl,HLL,hown,hdr,HW,rx,hz1⟩:=hrel;obtain⟨w0,hw0⟩:∃ w0:World,w0=wr:=⟨_,rfl⟩;have HO:=Ac hown;have HD:=Ac hdr;have x2:=rx.cell (i:=2) rfl;have RX:=Ac rx;clear hown hdr rx;by_cases hlt:k < g.infos.length
  ·have t0:decide (k < g.infos.length)=true:=decide_eq_true hlt;obtain⟨inf,hik⟩:=aC hlt;have hia:=HI.out inf (List.mem_of_getElem? hik);obtain⟨n,hn1⟩:∃ n:Nat,inf.actions=(n:Int):=⟨inf.actions.toNat,byOmega⟩;obtain⟨Ai',ci',he,_,hcell⟩:=HIN.out.on (HW.out.same fun b hb e=>hF (e▸hb.1));simp only[Value.slice.injEq] at he;obtain⟨rfl,_,rfl⟩:=he;obtain⟨bi,oi,rfl,_,_,hcell⟩:=hcell byOmega;have e1:=(hcell k inf hik).c1;rw[hn1] at e1;have HIK:=Ac hik;have HN1:=Ac hn1;have hnb:1≤n∧n≤10:=byOmega;clear hcell hik hn1 hia;go_wp2_with (at_make; refine gG _ rfl _ _ 26 rfl 3 (.int .i64 0) 8 Tryz.underlying26 Tryz.infoInt rfl n rfl rfl byOmega byOmega ?_; intro w1 hb1 hz2 hrow1)
   obtain⟨lb,hlb⟩:=named wr.heap.size;rw[← hlb] at hrow1 hz2 ⊢;have hdlb:db≠lb:=by have:=HW.out.size;omega
   have HO0:=Ac (HO.out.widen (G:=fun b=>w.heap.size≤b∧b < lb) (fun b hb hl=>⟨hb,byOmega⟩)); have HOL:=Ac (show ∀ b,u5.ownBlock=some b→w.heap.size+1≤b∧b < lb from fun b e=>by have:=HO.out.row.lt b e; omega);have HO1:=Ac (HO0.out.below hb1); have HD1:=Ac (HD.out.below hb1 HD.out.lt); have HW1:=Ac (HW.out.trans (Below.wrote hb1 _)); have RX1:=Ac (RX.out.below hb1 RX.out.lt);have BJ:=Ac (show Row w1 lb 3 ((jC L (iw L a0 g.infos k).2 n 0).map (Value.int .i64)) by unfold jC fC; simpa using hrow1);obtain⟨at0,ae7⟩:=named ((iw L a0 g.infos k).2);rw[← ae7] at HD1 BJ;have HSK:=Ac (show iw L a0 g.infos (k+1)=((iw L a0 g.infos k).1 ++ [fP (fC L at0 n).1],(fC L at0 n).2) by
    show((iw L a0 g.infos k).1 ++ [fP (fC L (iw L a0 g.infos k).2 (g.infos.getD k default).actions.toNat).1],(fC L (iw L a0 g.infos k).2 (g.infos.getD k default).actions.toNat).2)=_;rw[List.getD_eq_getElem?_getD,HIK.out,Option.getD_some,HN1.out,Int.toNat_natCast,← ae7])
   have hlbg:w.heap.size+1≤lb∧lb < w1.heap.size:=byOmega;have hlbw:∀ b,b < wr.heap.size→b < lb:=fun b h=>by omega
   have HLBW:=Ac hlbw;clear hlbw hlb hz2 hz ae7 hb1 hrow1 HO HD HW RX x2 e1 hw0;go_loopw [8] (fun i wr=>∃ j:Nat,j≤n∧i = .int .i64 (j:Int)∧Row wr lb 3 ((jC L at0 n j).map (Value.int .i64))∧Row wr db 75 [.slice A L.length c,.int .i64 ((fC L at0 j).2:Int)]∧Hid (Wrote (fun b=>b=db∨b=lb) w1 wr)∧w1.heap.size≤wr.heap.size) (fun i _=>n - (intOf i).toNat)
   case atStart=>exact⟨0,byOmega,rfl,BJ.out,HD1.out,Ac (Wrote.refl _ _),Nat.le_refl _⟩
   case round =>
    clear BJ;obtain⟨j,hj,rfl,hrow,hdr,HWJ,hz3⟩:=hrel;have BJ:=Ac hrow;by_cases hjt:j < n
    ·have t1:decide ((j:Int) < (n:Int))=true:=decide_eq_true byOmega;have hjl:=adz L at0 hj;have HJS:=Ac (ady L at0 hjt);have HNX:=Ac (show(fC L at0 (j+1)).2=dP L (fC L at0 j).2 from rfl);obtain⟨aj,haj⟩:=named ((fC L at0 j).2);rw[← haj] at HJS HNX hdr;clear hrow haj;have HLJ:=Ac (HL.out.on ((HW1.out.same fun b hb e=>hF (e▸hb.1)).trans (HWJ.out.same fun b hb e=>e.elim (fun e=>hF (e▸hb.1)) fun e=>by have:=hb.2; omega)));have HDR:=Ac hdr;clear hdr;go_wp2_with (go_at_call 90; (with_reducible refine(next_any wr _ db A c L aj 4 HDR.out HLJ.out hF1 aA aA hl).mono ?_); rintro e w2 ⟨rfl,hr2,hw2⟩; have HR2:=Ac hr2; have Dj:=Ac (BJ.out.wrote hw2 (fun e=>hdlb e.symm)); have HWJ2:=Ac (HWJ.out.step hw2 fun i _ e=>.inl e); have hz4:=Nat.le_trans hz3 hw2.size; clear hr2 hw2; have ff:=Dj.out.frozen j; obtain⟨vq,y0⟩:∃ v,w2.cell? ⟨lb,j,none⟩=some v:=⟨_,Dj.out.cell (i:=j) (v:=.int .i64 ((jC L at0 n j).getD j 0)) (by rw[List.getElem?_map,List.getD_eq_getElem?_getD,List.getElem?_eq_getElem byOmega]; rfl)⟩)
     obtain⟨w3,hw3⟩:=named (w2.setCell ⟨lb,j,none⟩ (.int .i64 (eX L aj 4)));rw[← hw3];have HR3:=Ac (HR2.out.wrote (K:=fun b=>b=lb) (hw3▸Wrote.setCell (K:=fun b=>b=lb) (p:=⟨lb,j,none⟩) (Wrote.refl _ _) (.inl rfl) _) (fun e=>hdlb e));have EK:=Ac (show Row w3 lb 3 ((jC L at0 n (j+1)).map (Value.int .i64)) by rw[hw3,← HJS.out,List.map_set]; exact Dj.out.set j _);have HWJ3:=Ac (show Wrote (fun b=>b=db∨b=lb) w1 w3 from hw3▸HWJ2.out.setCell (p:=⟨lb,j,none⟩) (.inl (.inr rfl)) _);have hz5:w1.heap.size≤w3.heap.size:=HWJ3.out.size;clear hw3 ff y0 Dj HWJ2 HR2 BJ HDR HLJ HWJ;go_roundw
     case rel=>exact⟨j+1,byOmega,by go_num,EK.out,by rw[HNX.out]; exact HR3.out,HWJ3,hz5⟩
     case measure=>simp[intOf]; omega
    ·have hje:j=n:=byOmega;subst hje;have t1:decide ((j:Int) < (j:Int))=false:=decide_eq_false byOmega;clear hrow;obtain⟨rl,hrl⟩:=named ((fC L at0 j).1);have hrll:rl.length=j:=by rw[hrl];exact jY L at0 j
     have HRL:=Ac (show ∀ x∈rl,0≤x∧x≤1000 from fun x hx=>by rw[hrl] at hx; have:=wL L at0 j x hx; omega);have HIT:=Ac (show Ah wr (fun b=>b=lb) (.slice (some ⟨lb,0,none⟩) rl.length j) rl from by
      have h:=BJ.out;rw[abK,← hrl] at h;have h2:=h.iL (F:=fun b=>b=lb) rfl;rw[hrll] at h2 ⊢;exact h2)
     have HRH:=Ac hrl;rw[hrll] at HIT;have HO2:=Ac ((HO1.out.wrote HWJ.out fun b hb e=>by
      have h1:w.heap.size≤b∧b < lb:=hb.elim id fun e=>by have:=HOL.out b e;omega
      rcases e with e | e <;> omega).widen (G:=fun b=>w.heap.size≤b) fun b hb _=>hb.1)
     have HDR:=Ac hdr;have HWT:=Ac (HW1.out.step HWJ.out fun i hi e=>e.elim id fun e=>by omega);have RX2:=Ac (RX1.out.wrote HWJ.out fun e=>by rcases e with e | e <;> omega);have hllb:LL.length≤1000000:=by rw[HLL.out.1];omega
     clear hdr hrl BJ HO1 HO0 HWJ HW1 RX1 HD1;go_wp2_with (first | (go_at_call 93; (with_reducible refine(adx wr _ _ rl HIT.out byOmega HRL.out).mono ?_); rintro e w4 ⟨u,rfl,hb4,hu⟩; have hu':=hu; obtain⟨Aw,cw,rfl,_⟩:=hu; rw[List.length_map] at hu' ⊢; have HU:=Ac hu'; clear hu'; have HO4:=Ac (HO2.out.below hb4); have HD4:=Ac (HDR.out.below hb4 HDR.out.lt); have HW4:=Ac (HWT.out.trans (Below.wrote hb4 _)); have RX4:=Ac (RX2.out.below hb4 RX2.out.lt); have hz6:=Nat.le_trans hz3 hb4.size; have hz7:wr.heap.size≤w4.heap.size:=hb4.size; clear hb4) | (at_builtin; go_loud (refine jW (K:=y8) (F:=fun b=>w.heap.size≤b) (w:=w4) (W:=w4) rfl _ _ 28 64 24 _ Tryz.underlying28 Tryz.infoRowsK rfl aA rfl (w.heap.size+1) byOmega u5 LL rfl (.slice Aw (fP rl).length cw,(fP rl).map aG) _ rfl hllb rfl HO4.out (Az.keep HU.out (fun b hb _=>⟨byOmega,fun e=>by have:=HOL.out b e; omega⟩) (Same.refl _ _)) ?_; intro g2 cap2 wq hown hwq hat hlt5; have HO5:=Ac hown; have HD5:=Ac (HD4.out.wrote hwq fun e=>by have:=HOL.out _ e; have:=HDL.out; omega); have HW5:=Ac (HW4.out.step hwq fun i hi e=>by have:=HOL.out _ e; omega); have RX5:=Ac (RX4.out.wrote hwq fun e=>by have:=HOL.out _ e; omega); have hz8:=Nat.le_trans hz6 hwq.size; clear hown hwq hat hlt5)))
     go_roundw
     case rel=>exact⟨k+1,LL ++ [(.slice Aw (fP rl).length cw,(fP rl).map aG)],byOmega,by go_num,Ac ⟨by rw[List.length_append,HLL.out.1]; rfl,by rw[HSK.out,List.map_append,HLL.out.2,List.map_append,HRH.out]; rfl⟩,HO5.out,by rw[HSK.out]; exact HD5.out,HW5,RX5.out,byOmega⟩
     case measure=>simp[intOf]; omega
  ·have hke:k=g.infos.length:=byOmega;subst hke;have t0:decide (g.infos.length < g.infos.length)=false:=decide_eq_false byOmega;go_wp2
   go_ret;have h:=HO.out.rows (G:=fun b=>w.heap.size≤b) (fun b hb=>hb) (fun b hb=>by omega);rw[HLL.out.2] at h;exact⟨_,rfl,h,HW.out⟩
end Go.Proofs.YthmklhapjegfdaaGreatDoor
