/- The example's game and strategy: what it is worth. -/
import Derived.Test.YtkcheepafifjaaaGreatDoorF36
import Derived.Test.YtkcheepafifjaaaGreatDoorF22
set_option linter.all false
set_option maxRecDepth 100000
set_option maxHeartbeats 12800000
namespace Go.Proofs.YtkcheepafifjaaaGreatDoor
open Lib renaming hid → Ac
open Go.RowKit
def abI:List (List Raw):=[[⟨false,[1],[2]⟩,⟨false,[1],[2]⟩],[⟨false,[1],[2]⟩,⟨false,[1],[2]⟩],[⟨false,[1],[3]⟩,⟨false,[1],[3]⟩,⟨false,[1],[3]⟩]]
theorem ah2:ay (mkRat 1 2)=⟨false,[1],[2]⟩:=by
 have h:=lD false 1 2 (by decide);rw[show Nat.gcd 1 2=1 by decide,Nat.div_one,Nat.div_one,iD,lQ (n:=2) (by decide) (by decide)] at h;exact h
theorem agM:ay (mkRat 1 3)=⟨false,[1],[3]⟩:=by
 have h:=lD false 1 3 (by decide);rw[show Nat.gcd 1 3=1 by decide,Nat.div_one,Nat.div_one,iD,lQ (n:=3) (by decide) (by decide)] at h;exact h
theorem mQ:lF.map (List.map ay)=abI:=by
 unfold lF abI;simp only[List.map_cons,List.map_nil,ah2,agM]
theorem mV:jl bG abI=0:=by decide +kernel
theorem ae9:Dk abI:=by
 intro l hl r hr;unfold abI at hl;simp only[List.mem_cons,List.not_mem_nil,or_false] at hl;rcases hl with rfl | rfl | rfl <;> (simp only[List.mem_cons,List.not_mem_nil,or_false] at hr; rcases hr with rfl | rfl | rfl <;> decide)
theorem wQ:∀ {a b:List (List Rat)},a.map (List.map ay)=b.map (List.map ay)→a=b
 | [],[],_=>rfl
 | [],_ :: _,h=>by cases h
 | _ :: _,[],h=>by cases h
 | x :: a,y :: b,h=>by
  rw[List.map_cons,List.map_cons,List.cons.injEq] at h;rw[zS h.1,wQ h.2]
theorem nH:Fit bG lF:=by
 obtain⟨m,h,hf,_⟩:=ae2 mV ae9;have e:m=lF:=wQ (by rw[← h,mQ]);rw[← e]; exact hf
theorem vK:bW bG lF 0 = [5,-5].map fun x=>mkRat x 6:=by decide +kernel
theorem vM:bJ aX bG lF = [12,6,6,3,3,1,1,1].map fun x=>mkRat x 12:=by decide +kernel
theorem afa {x:Rat} (h:rl x≤1024):jh (ay x)=0:=by
 have h1:=zK (n:=x.num.natAbs) (Nat.le_trans (gV x) h);have h2:=zK (n:=x.den) (Nat.le_trans (gW x) h);have h3:(dig x.den).length≠0:=fun e=>ael x (List.eq_nil_of_length_eq_zero e)
 have h4:gy (ay x).num (ay x).den=0:=by
  unfold gy;rw[tV,xu,h1,h2,if_neg (by simp),if_neg (by simp),if_neg h3]
 unfold jh;rw[h4,if_neg (by simp),if_neg];rw[tV,xu,aP,aP,iZ,jX];rintro(⟨e1,e2⟩ | e)
 ·have h0:x.num.natAbs=0:=vU.1 e1;have hz:x.num=0:=by omega
  unfold dI at e2;rw[hz] at e2;exact absurd e2 (by decide)
 ·exact e rfl
theorem aiX {x:Rat} (h:0≤x):dI x=false:=by
 unfold dI;have:=Rat.num_nonneg.2 h;simp; omega
theorem agN {x:Rat} (h:rl x≤1024) (h0:0≤x) (h1:x≤1):iO (ay x)=0:=by
 unfold iO;rw[afa h,if_neg (by simp),if_neg];rintro(e | e)
 ·rw[jX,aiX h0] at e; cases e
 ·rw[zT,abY] at e;exact absurd h1 (Rat.not_le.2 e)
theorem sW:∀ {l:List Int},(∀ e∈l,e=0)→iM l=0
 | [],_=>rfl
 | e :: l,h=>by
  unfold iM;rw[if_neg (by simpa using h e List.mem_cons_self)];exact sW fun x hx=>h x (List.mem_cons_of_mem _ hx)
def Dz (a:Int) (l:List Rat):Prop:=(l.length:Int)=a∧jY l=1∧∀ x∈l,rl x≤4∧0≤x∧x≤1
theorem aiY {a:Int} {l:List Rat} (h:Dz a l):nV a (l.map ay)=0:=by
 obtain⟨h1,h2,h3⟩:=h;have h4:mX (l.map ay)=0:=by
  unfold mX;refine sW fun e he=>?_
  obtain⟨r,hr,rfl⟩:=List.mem_map.1 he;obtain⟨x,hx,rfl⟩:=List.mem_map.1 hr;have:=h3 x hx;exact agN (by omega) this.2.1 this.2.2
 unfold nV;rw[List.length_map,if_neg (by simpa using h1),h4,if_neg (by simp),zU,h2,(uq 1 1).2 rfl,if_neg (by simp)]
def BU (g:Gm) (m:List (List Rat)):Prop:=m.length=g.infos.length∧∀ (k:Nat) (i:Inf) (l:List Rat),g.infos[k]? = some i→m[k]? = some l→Dz i.actions l
theorem BU.wR {g:Gm} {m:List (List Rat)} (hf:jG g=0) (h:BU g m):jl g (m.map (List.map ay))=0:=by
 unfold jl;rw[if_neg (by simpa using hf)];unfold qy;rw[if_neg (by simp[h.1])];refine sW fun e he=>?_
 obtain⟨k,hk⟩:=List.getElem?_of_mem he;rw[List.getElem?_zipWith,List.getElem?_map,List.getElem?_map] at hk;cases hi:g.infos[k]? with
 | none=>rw[hi] at hk; simp at hk
 | some i =>
  cases hl:m[k]? with
  | none=>rw[hi,hl] at hk; simp at hk
  | some l =>
   rw[hi,hl] at hk;simp at hk;rw[← hk];exact aiY (h.2 k i l hi hl)
theorem BU.limbs {g:Gm} {m:List (List Rat)} (h:BU g m):Dk (m.map (List.map ay)):=by
 intro l hl r hr;obtain⟨l',hl',rfl⟩:=List.mem_map.1 hl;obtain⟨x,hx,rfl⟩:=List.mem_map.1 hr;obtain⟨k,hk⟩:=List.getElem?_of_mem hl';obtain⟨i,hi⟩:=aB (l:=g.infos) (k:=k) (by have:=aF hk; have:=h.1; omega);have:=((h.2 k i l' hi hk).2.2 x hx).1;exact⟨Nat.le_trans (gV x) this,Nat.le_trans (gW x) this⟩
theorem BU.fit {g:Gm} {m:List (List Rat)} (hf:jG g=0) (h:BU g m):Fit g m:=by
 obtain⟨m',e,hfit,_⟩:=ae2 (h.wR hf) h.limbs;rw[wQ e]; exact hfit
def dX (L:List Int) (a:Nat):Nat→List Int×Nat
 | 0=>([],a)
 | k+1=>let r:=dX L a k; (r.1 ++ [dP L r.2 4],dh L r.2)
theorem jS (L:List Int) (a:Nat):∀ k,(dX L a k).1.length=k
 | 0=>rfl
 | k+1=>by unfold dX; simp[jS L a k]
theorem vN (L:List Int) (a:Nat):∀ k,∀ x∈(dX L a k).1,0≤x∧x≤3
 | 0,x,h=>by cases h
 | k+1,x,h=>by
  unfold dX at h;simp only at h;rcases List.mem_append.1 h with h | h
  ·exact vN L a k x h
  ·rw[List.mem_singleton.1 h];have:=iK L (dX L a k).2 (n:=4) (by decide);omega
def eY (l:List Int):List Rat:=if lK l=0 then l.map fun _=>mkRat 1 l.length else l.map fun x=>mkRat x (lK l).toNat
theorem yc (l:List Int):(eY l).length=l.length:=by unfold eY; split <;> simp
theorem abJ {a b:Int} {s:Nat} (hs:s≠0):mkRat a s+mkRat b s=mkRat (a+b) s:=by
 rw[Rat.mkRat_add_mkRat _ _ hs hs,show a*(s:Int)+b*(s:Int)=(a+b)*(s:Int) by rw[Int.add_mul],Rat.mkRat_mul_right hs]
theorem sum_mk {s:Nat} (hs:s≠0):∀ (l:List Int) (a:Int),(l.map fun x=>mkRat x s).foldl (· + ·) (mkRat a s)=mkRat (l.foldl (· + ·) a) s
 | [],a=>rfl
 | x :: l,a=>by
  rw[List.map_cons,List.foldl_cons,List.foldl_cons,abJ hs];exact sum_mk hs l (a+x)
theorem mkRat_self {s:Nat} (hs:s≠0):mkRat (s:Int) s=1:=by
 have:=Rat.mkRat_mul_right (n:=1) (d:=1) hs;rw[Int.one_mul,Nat.one_mul] at this;exact this
theorem acH {s:Nat} (hs:s≠0) {l:List Int} (h:lK l=s):jY (l.map fun x=>mkRat x s)=1:=by
 unfold jY;have e:(0:Rat)=mkRat 0 s:=(Rat.zero_mkRat s).symm;rw[e,sum_mk hs];have e2:l.foldl (· + ·) 0=lK l:=rfl;rw[e2,h,mkRat_self hs]
theorem aaF {x:Int} {s:Nat} (hs:s≠0) (h:0≤x):0≤mkRat x s:=Rat.num_nonneg.1 (by have:=(iY x hs).2.2; omega)
theorem adU {x:Int} {s:Nat} (hs:s≠0) (h:x≤s):mkRat x s≤1:=by
 have e:=abJ (a:=x) (b:=s - x) hs;rw[show x+((s:Int) - x)=s by omega,mkRat_self hs] at e;have h2:0≤mkRat (s - x) s:=aaF hs (by omega);rw[← e];have:=Rat.add_le_add_left (c:=mkRat x s) |>.2 h2
 rwa [Rat.add_zero] at this
theorem adV {x:Int} {s:Nat} (hs:s≠0) (h0:0≤x) (hx:x≤1000) (hs2:s≤1000000):rl (mkRat x s)≤4:=by
 refine ahc hs ?_ ?_
 ·have:(dig x.natAbs).length≤1:=aS (by unfold LB; omega);omega
 ·have:(dig s).length≤1:=aS (by unfold LB; omega);omega
theorem zn:∀ (l:List Int) (a:Int),(∀ x∈l,0≤x)→a≤l.foldl (· + ·) a∧∀ x∈l,a+x≤l.foldl (· + ·) a
 | [],a,_=>⟨Int.le_refl _,fun _ h=>by cases h⟩
 | y :: l,a,h=>by
  have hy:=h y List.mem_cons_self;obtain⟨h1,h2⟩:=zn l (a+y) (fun x hx=>h x (List.mem_cons_of_mem _ hx));rw[List.foldl_cons];refine⟨by omega,fun x hx=>?_⟩;rcases List.mem_cons.1 hx with rfl | hx
  ·exact h1
  ·have:=h2 x hx; omega
theorem acI:∀ (l:List Int) (a:Int),(∀ x∈l,x≤1000)→l.foldl (· + ·) a≤a+1000*l.length
 | [],a,_=>by simp
 | y :: l,a,h=>by
  have hy:=h y List.mem_cons_self;have h1:=acI l (a+y) (fun x hx=>h x (List.mem_cons_of_mem _ hx));rw[List.foldl_cons,List.length_cons];omega
theorem abK:∀ (l:List Int) (a:Int),(l.map fun _=>(1:Int)).foldl (· + ·) a=a+l.length
 | [],a=>by simp
 | y :: l,a=>by
  rw[List.map_cons,List.foldl_cons,abK l (a+1),List.length_cons];omega
theorem acJ {l:List Int} (hne:l≠[]) (hlen:l.length≤1000) (h:∀ x∈l,0≤x∧x≤1000):Dz l.length (eY l):=by
 have hpos:=List.length_pos_iff.2 hne;refine⟨by rw[yc],?_,?_⟩
 ·unfold eY;split
  ·have e:(l.map fun _=>mkRat 1 l.length)=(l.map fun _=>(1:Int)).map fun x=>mkRat x l.length:=by rw[List.map_map]; rfl
   rw[e];refine acH (by omega) ?_;have:=abK l 0;unfold lK; omega
  ·rename_i h0
   have:=(zn l 0 (fun x hx=>(h x hx).1)).1;have e2:l.foldl (· + ·) 0=lK l:=rfl;exact acH (by omega) (by omega)
 ·intro x hx;unfold eY at hx;split at hx
  ·obtain⟨_,_,rfl⟩:=List.mem_map.1 hx;exact⟨adV (by omega) (by decide) (by decide) (by omega),aaF (by omega) (by decide),adU (by omega) (by omega)⟩
  ·rename_i h0
   obtain⟨y,hy,rfl⟩:=List.mem_map.1 hx;have h1:=zn l 0 (fun x hx=>(h x hx).1);have h2:=acI l 0 (fun x hx=>(h x hx).2);have e2:l.foldl (· + ·) 0=lK l:=rfl;have h3:=h1.2 y hy;have hyb:=h y hy;rw[e2] at h1 h2 h3;exact⟨adV (by omega) hyb.1 hyb.2 (by omega),aaF (by omega) hyb.1,adU (by omega) (by omega)⟩
def gJ (L:List Int) (a:Nat) (I:List Inf):Nat→List (List Rat)×Nat
 | 0=>([],a)
 | k+1=>let r:=gJ L a I k; let d:=dX L r.2 (I.getD k default).actions.toNat; (r.1 ++ [eY d.1],d.2)
theorem jT (L:List Int) (a:Nat) (I:List Inf):∀ k,(gJ L a I k).1.length=k
 | 0=>rfl
 | k+1=>by unfold gJ; simp[jT L a I k]
theorem yU (L:List Int) (a:Nat) {I:List Inf} (hI:∀ i∈I,1≤i.actions∧i.actions≤10):∀ k,k≤I.length→∀ (j:Nat) (i:Inf) (l:List Rat),I[j]? = some i→(gJ L a I k).1[j]? = some l→Dz i.actions l
 | 0,_,j,i,l,_,h=>by simp[gJ] at h
 | k+1,hk,j,i,l,hi,h=>by
  unfold gJ at h;simp only at h;by_cases hj:j < k
  ·rw[List.getElem?_append_left (by rw[jT]; exact hj)] at h;exact yU L a hI k (by omega) j i l hi h
  ·rw[List.getElem?_append_right (by rw[jT]; omega),jT] at h;have e:j=k:=by have:=aF h; simp at this; omega
   subst e;rw[Nat.sub_self] at h;simp at h;subst h;have hin:=hI i (List.mem_of_getElem? hi);rw[hi,Option.getD_some];have hl:=jS L (gJ L a I j).2 i.actions.toNat;have hx:=vN L (gJ L a I j).2 i.actions.toNat;generalize (dX L (gJ L a I j).2 i.actions.toNat).1=d at *;have:=acJ (l:=d) (fun e=>by subst e; simp at hl; omega) (by omega) fun x h=>by have:=hx x h; omega
   rw[show i.actions=(d.length:Int) by omega];exact this
def acK (L:List Int) (a:Nat) (g:Gm):List (List Rat):=(gJ L a g.infos g.infos.length).1
theorem adW (L:List Int) (a:Nat) {g:Gm} (hI:∀ i∈g.infos,1≤i.actions∧i.actions≤10):BU g (acK L a g) :=
 ⟨jT _ _ _ _,fun k i l hi hl=>yU L a hI _ (Nat.le_refl _) k i l hi hl⟩
theorem kF {xs:List Rat} (h:∀ x∈xs,rl x≤1024):qE xs=0:=by
 unfold qE;rw[if_neg];simp only[List.any_eq_true,not_exists,not_and,decide_eq_true_eq];intro x hx;have:=h x hx; omega
theorem jq {xs:List Rat} (h:∀ x∈xs,rl x≤1024) (hl:xs.length≤1000):CS (xs.map ay):=by
 refine⟨by rw[List.length_map]; omega,fun r hr=>?_⟩;obtain⟨x,hx,rfl⟩:=List.mem_map.1 hr;have:=h x hx;unfold rl at this;show(dig x.num.natAbs).length≤500000∧(dig x.den).length≤500000;omega
theorem qI:Bd (lF.map (List.map ay)):=by
 rw[mQ];intro l hl;unfold abI at hl;simp only[List.mem_cons,List.not_mem_nil,or_false] at hl;rcases hl with rfl | rfl | rfl
 all_goals
  refine⟨by decide,fun r hr=>?_⟩;simp only[List.mem_cons,List.not_mem_nil,or_false] at hr;rcases hr with rfl | rfl | rfl
 all_goals exact⟨by unfold U32; decide,by decide,by decide⟩
theorem jU:Small bG:=⟨by decide,by decide,by decide,by decide,by decide⟩
theorem wS:∀ x∈[5,-5].map (fun x:Int=>mkRat x 6),rl x≤1024:=by
 rw[← vK];intro x hx;have h:=nH.xQ (i:=0) (by decide) x hx;have e:bG.nodes.length=8:=rfl;omega
theorem wU:∀ x∈[12,6,6,3,3,1,1,1].map (fun x:Int=>mkRat x 12),rl x≤1024:=by
 rw[← vM];intro x hx;have h:=iW nH lH x hx;have e:bG.nodes.length=8:=rfl;omega
theorem adX (w:World) (F:Ag) (vg vm:Value) (hg:AX w F vg bG) (hm:AV w F vm lF) (hT:AZ w) :
  Calls Tryz.prog 22 #[vg,vm] w (Ret w fun u w'=>∃ t,u = .tuple #[t,.int .i64 0]∧BF w' (Ext F w.heap.size) t ([5,-5].map fun x=>mkRat x 6)):=by
 refine(x9 w F vg vm bG lF hg jU hm hT (by decide) qI (by rw[mQ]; exact mV) nH).mono ?_;rintro e w' ⟨u,rfl,hb,t,rfl,ht⟩;rw[vK] at ht;rw[vK,kF wS];refine⟨_,rfl,hb,t,rfl,?_⟩;unfold fitsV at ht;rw[kF wS] at ht;exact ht
theorem adY (w:World) (F:Ag) (vg vm:Value) (hg:AX w F vg bG) (hm:AV w F vm lF) (hT:AZ w) :
  Calls Tryz.prog 11 #[vg,vm] w (Ret w fun u w'=>∃ t,u = .tuple #[t,.int .i64 0]∧BF w' (Ext F w.heap.size) t ([12,6,6,3,3,1,1,1].map fun x=>mkRat x 12)):=by
 refine(abH w F vg vm bG lF hg jU hm hT (by decide) qI (by rw[mQ]; exact mV) nH).mono ?_;rintro e w' ⟨u,rfl,hb,t,rfl,ht⟩;rw[vM] at ht;rw[vM,kF wU];refine⟨_,rfl,hb,t,rfl,?_⟩;unfold fitsV at ht;rw[kF wU] at ht;exact ht
theorem adZ (w:World) (hT:AZ w):Calls Tryz.prog 10 #[] w (Ret w fun v _=>v = .bool true):=by
 have HT:=Ac hT;clear hT;go_enter Tryz.func10,Tryz.ntmps10;have hB:=Below.refl w.heap.size w;go_wp2_with fail
 refine(uS w).mono ?_;rintro e w1 ⟨vg1,rfl,hb,hu⟩;replace HT:=Ac (HT.out.on hb);replace hB:=hB.trans (hb.mono hB.size);have hz1:=hB.size;have G1:=Ac (hu.keep (G:=(fun b=>w.heap.size≤b)) (fun b hb _=>by omega) (Same.refl _ _));clear hu;clear hb;dsimp only;go_wp2_with fail
 refine(sJ w1).mono ?_;rintro e w2 ⟨vm2,rfl,hb,hu⟩;replace G1:=Ac (G1.out.on (Below.same' hb _));replace HT:=Ac (HT.out.on hb);replace hB:=hB.trans (hb.mono hB.size);have hz2:=hB.size;have M2:=Ac (Az.keep (G:=(fun b=>w.heap.size≤b)) hu (fun b hb _=>by omega) (Same.refl _ _));clear hu;clear hb;dsimp only;go_wp2_with fail
 refine(adX w2 (fun b=>w.heap.size≤b) _ _ G1.out M2.out HT.out).mono ?_;rintro e w3 ⟨u,rfl,hb,t3,rfl,hu⟩;replace G1:=Ac (G1.out.on (Below.same' hb _));replace M2:=Ac (Az.on M2.out (Below.same' hb _));replace HT:=Ac (HT.out.on hb);replace hB:=hB.trans (hb.mono hB.size);have hz3:=hB.size;have R3:=Ac (Ah.keep (G:=(fun b=>w.heap.size≤b)) hu (fun b hb _=>hb.elim id fun h=>by omega) (Same.refl _ _));clear hu G1 M2;clear hb;dsimp only;go_wp2_with fail
 refine(uS w3).mono ?_;rintro e w4 ⟨vg4,rfl,hb,hu⟩;replace R3:=Ac (Ah.on R3.out (Below.same' hb _));replace HT:=Ac (HT.out.on hb);replace hB:=hB.trans (hb.mono hB.size);have hz4:=hB.size;have G4:=Ac (hu.keep (G:=(fun b=>w.heap.size≤b)) (fun b hb _=>by omega) (Same.refl _ _));clear hu;clear hb;dsimp only;go_wp2_with fail
 refine(sJ w4).mono ?_;rintro e w5 ⟨vm5,rfl,hb,hu⟩;replace R3:=Ac (Ah.on R3.out (Below.same' hb _));replace G4:=Ac (G4.out.on (Below.same' hb _));replace HT:=Ac (HT.out.on hb);replace hB:=hB.trans (hb.mono hB.size);have hz5:=hB.size;have M5:=Ac (Az.keep (G:=(fun b=>w.heap.size≤b)) hu (fun b hb _=>by omega) (Same.refl _ _));clear hu;clear hb;dsimp only;go_wp2_with fail
 refine(adY w5 (fun b=>w.heap.size≤b) _ _ G4.out M5.out HT.out).mono ?_;rintro e w6 ⟨u,rfl,hb,t6,rfl,hu⟩;replace R3:=Ac (Ah.on R3.out (Below.same' hb _));replace G4:=Ac (G4.out.on (Below.same' hb _));replace M5:=Ac (Az.on M5.out (Below.same' hb _));replace HT:=Ac (HT.out.on hb);replace hB:=hB.trans (hb.mono hB.size);have hz6:=hB.size;have R6:=Ac (Ah.keep (G:=(fun b=>w.heap.size≤b)) hu (fun b hb _=>hb.elim id fun h=>by omega) (Same.refl _ _));clear hu G4 M5;clear hb;dsimp only;have rr:=R3.out; have r6:=R6.out;obtain⟨Aa,ca,rfl,_,_⟩:=rr;obtain⟨Ab,cb,rfl,_,_⟩:=r6;go_wp2_with fail
 obtain⟨wa7,hwa,hr,hb,hz'⟩:=aH w6 3 #[.int .i64 5,.int .i64 (-5)];rw[← hwa];have hi:=Row.nM (l:=[5,-5]) (F:=fun _=>True) hr trivial;clear hwa hr hz';replace R3:=Ac (Ah.on R3.out (Below.same' hb _));replace R6:=Ac (Ah.on R6.out (Below.same' hb _));replace hB:=hB.trans (hb.mono hB.size);have hza7:=hB.size;clear hb;refine(fK wa7 _ _ [5,-5] 6 hi (by decide) (by decide) (by decide) (by decide)).mono ?_;rintro e wb7 ⟨v7,rfl,hb,hu⟩;replace R3:=Ac (Ah.on R3.out (Below.same' hb _));replace R6:=Ac (Ah.on R6.out (Below.same' hb _));replace hB:=hB.trans (hb.mono hB.size);have hzb7:=hB.size;have HU7:=Ac (Ah.keep (G:=(fun b=>w.heap.size≤b)) hu (fun b hb _=>by omega) (Same.refl _ _));clear hu hb hi;dsimp only;go_wp2_with fail
 refine(lC wb7 (fun b=>w.heap.size≤b) _ _ _ _ R3.out HU7.out (jq wS (by decide)) (jq wS (by decide))).mono ?_;rintro e wc7 ⟨u,rfl,hb,rfl⟩;rw[decide_eq_true rfl];replace R3:=Ac (Ah.on R3.out (Below.same' hb _));replace R6:=Ac (Ah.on R6.out (Below.same' hb _));replace hB:=hB.trans (hb.mono hB.size);have hzc7:=hB.size;clear hb HU7;dsimp only;go_wp2_with fail
 obtain⟨wa8,hwa,hr,hb,hz'⟩:=aH wc7 3 #[.int .i64 12,.int .i64 6,.int .i64 6,.int .i64 3,.int .i64 3,.int .i64 1,.int .i64 1,.int .i64 1];rw[← hwa];have hi:=Row.nM (l:=[12,6,6,3,3,1,1,1]) (F:=fun _=>True) hr trivial;clear hwa hr hz';replace R3:=Ac (Ah.on R3.out (Below.same' hb _));replace R6:=Ac (Ah.on R6.out (Below.same' hb _));replace hB:=hB.trans (hb.mono hB.size);have hza8:=hB.size;clear hb;refine(fK wa8 _ _ [12,6,6,3,3,1,1,1] 12 hi (by decide) (by decide) (by decide) (by decide)).mono ?_;rintro e wb8 ⟨v8,rfl,hb,hu⟩;replace R3:=Ac (Ah.on R3.out (Below.same' hb _));replace R6:=Ac (Ah.on R6.out (Below.same' hb _));replace hB:=hB.trans (hb.mono hB.size);have hzb8:=hB.size;have HU8:=Ac (Ah.keep (G:=(fun b=>w.heap.size≤b)) hu (fun b hb _=>by omega) (Same.refl _ _));clear hu hb hi;dsimp only;go_wp2_with fail
 refine(lC wb8 (fun b=>w.heap.size≤b) _ _ _ _ R6.out HU8.out (jq wU (by decide)) (jq wU (by decide))).mono ?_;rintro e wc8 ⟨u,rfl,hb,rfl⟩;rw[decide_eq_true rfl];replace R3:=Ac (Ah.on R3.out (Below.same' hb _));replace R6:=Ac (Ah.on R6.out (Below.same' hb _));replace hB:=hB.trans (hb.mono hB.size);have hzc8:=hB.size;clear hb HU8;dsimp only;go_wp2; go_ret
 exact⟨_,rfl,hB,rfl⟩
theorem acL {l:List Int} (h:∀ x∈l,0≤x∧x≤1000):0≤lK l∧lK l≤1000*l.length:=by
 have h1:=zn l 0 (fun x hx=>(h x hx).1);have h2:=acI l 0 (fun x hx=>(h x hx).2);have e:l.foldl (· + ·) 0=lK l:=rfl;omega
theorem acM (w:World) (F:Ag) (v:Value) (l:List Int) (hv:AA w F v l) (hl:l.length≤1000) (hx:∀ x∈l,0≤x∧x≤1000) :
  Calls Tryz.prog 67 #[v] w (Ret w fun u w'=>BF w' (fun b=>w.heap.size≤b) u (eY l)):=by
 have HV:=Ac hv; have HX:=Ac hx;obtain⟨A,c,rfl,hc,hr⟩:=hv;have HR:=Ac hr;clear hr hx;obtain⟨S,hS⟩:∃ S:Nat,lK l=(S:Int):=⟨(lK l).toNat,by have:=(acL HX.out).1; omega⟩;have HS:=Ac hS;have hSb:S≤1000000:=by have:=(acL HX.out).2; omega
 clear hS;go_enter Tryz.func67,Tryz.ntmps67;go_wp2
 go_loopw [3,4] (fun u i wr=>∃ (k:Nat) (s:Int),k≤l.length∧i = .int .i64 (k:Int)∧u = .int .i64 s∧Hid (s=lK (l.take k))∧w=wr) (fun _ i _=>l.length - (intOf i).toNat)
 case atStart=>exact⟨0,0,by omega,rfl,rfl,Ac rfl,rfl⟩
 case round =>
  obtain⟨k,s,hk,rfl,rfl,HSU,rfl⟩:=hrel;by_cases hlt:k < l.length
  ·obtain⟨bb,o,rfl,_,hb',hcell⟩:=HR.out (by omega);obtain⟨x,hxk⟩:=aB hlt;have e1:=hcell k x hxk;unfold lY at e1;rw[Nat.mul_one] at e1;have hxb:=HX.out x (List.mem_of_getElem? hxk);have hsb:0≤s∧s≤1000000:=by
    have:=acL (l:=l.take k) (fun x hx=>HX.out x (List.mem_of_mem_take hx));rw[HSU.out];simp at this ⊢; omega
   have HXK:=Ac (show s+x=lK (l.take (k+1)) by rw[HSU.out,take_snoc hxk,abx]);have hwx:IntKind.i64.wrap (s+x)=s+x:=IntWalk.i64_in _ (by omega);clear hcell hxk;go_wp2
   go_roundw
   case rel=>exact⟨k+1,s+x,by omega,by go_num,rfl,HXK,trivial⟩
   case measure=>simp[intOf]; omega
  ·have hsum:s=(S:Int):=by have:=HSU.out; rw[List.take_of_length_le (by omega),HS.out] at this; exact this
   subst hsum;clear HSU;by_cases h0:S=0
   ·subst h0;have HW:=Ac (show eY l=l.map fun _=>mkRat 1 l.length from if_pos HS.out);clear HS;go_wp2
    go_loopw [5,6] (fun u i wr=>∃ (k:Nat) (L:List RV),k≤l.length∧i = .int .i64 (k:Int)∧L.length=k∧L.map RV.r=((l.take k).map fun _=>ay (mkRat 1 l.length))∧AY wr w.heap.size 53 (fun b=>w.heap.size≤b) u L∧Below w.heap.size w wr) (fun _ i _=>l.length - (intOf i).toNat)
    case atStart=>exact⟨0,[],by omega,rfl,rfl,rfl,AY.nil _ _ _ _,Below.refl _ _⟩
    case round =>
     obtain⟨k,L,hk,rfl,hLl,hLr,hown,hbel⟩:=hrel;have HO:=Ac hown; have HL:=Ac hLr;have HLL:=Ac hLl;clear hown hLr hLl;by_cases hlt:k < l.length
     ·obtain⟨x,hxk⟩:=aB hlt;have HXK:=Ac hxk;clear hxk;have hz:=hbel.size;go_wp2_with fail
      refine(xM wr 1 l.length (by decide) (by decide) (by omega) (by omega)).mono ?_;rintro e w2 ⟨vm,rfl,hb2,hu⟩;obtain⟨q,hq,rfl,hqf⟩:=AL.rv hu;have jL:=hbel.trans (hb2.mono hbel.size);have HO2:=Ac (HO.out.below hb2);have HF:=Ac (show q.fine w2 (Apart (fun b=>w.heap.size≤b) u5) from hqf.keep (fun b hb _=>⟨by omega,fun e=>by have:=(HO.out.row.lt b e).2; omega⟩) (Same.refl _ _));have HQ:=Ac hq;clear hqf hu hq hb2 hbel;dsimp only[RV.cells];go_wp2_with (at_builtin; refine nC (F:=fun b=>w.heap.size≤b) rfl _ _ 30 53 Tryz.underlying30 Tryz.infoRatT rfl w.heap.size (Nat.le_refl _) u5 L rfl q (by have:=HLL.out; omega) rfl HO2.out HF.out jL ?_; intro g cap w' hown' dD hlt'; have HO':=Ac hown'; clear hown')
      go_roundw
      case rel=>(repeat apply Exists.intro); refine⟨⟨k+1,L ++ [q],by omega,by go_num,by rw[List.length_append,HLL.out]; rfl,by rw[List.map_append,HL.out,take_snoc HXK.out,List.map_append,List.map_cons,List.map_nil,HQ.out]; rfl,HO'.out,dD⟩,rfl⟩
      case measure=>simp[intOf]; omega
     ·go_wp2
      go_ret;refine⟨_,rfl,hbel,?_⟩;have h5:=HO.out.sG (G:=fun b=>w.heap.size≤b) (fun b hb=>hb) (fun b hb=>hb);rw[HL.out,List.take_of_length_le (by omega)] at h5;unfold BF;rw[HW.out,List.map_map];exact h5
   ·have h0':=h0;have HW:=Ac (show eY l=l.map fun x=>mkRat x S by unfold eY; rw[if_neg (by rw[HS.out]; omega),HS.out]; rfl);have t0:((S:Int)==0)=false:=by simp; omega
    clear HS;go_wp2
    go_loopw [5,6] (fun u i wr=>∃ (k:Nat) (L:List RV),k≤l.length∧i = .int .i64 (k:Int)∧L.length=k∧L.map RV.r=((l.take k).map fun x=>ay (mkRat x S))∧AY wr w.heap.size 53 (fun b=>w.heap.size≤b) u L∧Below w.heap.size w wr) (fun _ i _=>l.length - (intOf i).toNat)
    case atStart=>exact⟨0,[],by omega,rfl,rfl,rfl,AY.nil _ _ _ _,Below.refl _ _⟩
    case round =>
     obtain⟨k,L,hk,rfl,hLl,hLr,hown,hbel⟩:=hrel;have HO:=Ac hown; have HL:=Ac hLr;have HLL:=Ac hLl;clear hown hLr hLl;by_cases hlt:k < l.length
     ·obtain⟨x,hxk⟩:=aB hlt;have HXK:=Ac hxk;obtain⟨bb,o,rfl,_,hb',hcell⟩:=HR.out (by omega);have e1:=hcell k x hxk;unfold lY at e1;rw[Nat.mul_one] at e1;have hxb:=HX.out x (List.mem_of_getElem? hxk);have hold:=aO hbel;clear hcell;clear hxk;have hz:=hbel.size;go_wp2_with fail
      refine(xM wr x S (by omega) (by omega) (by omega) (by omega)).mono ?_;rintro e w2 ⟨vm,rfl,hb2,hu⟩;obtain⟨q,hq,rfl,hqf⟩:=AL.rv hu;have jL:=hbel.trans (hb2.mono hbel.size);have HO2:=Ac (HO.out.below hb2);have HF:=Ac (show q.fine w2 (Apart (fun b=>w.heap.size≤b) u5) from hqf.keep (fun b hb _=>⟨by omega,fun e=>by have:=(HO.out.row.lt b e).2; omega⟩) (Same.refl _ _));have HQ:=Ac hq;clear hqf hu hq hb2 hbel hold;dsimp only[RV.cells];go_wp2_with (at_builtin; refine nC (F:=fun b=>w.heap.size≤b) rfl _ _ 30 53 Tryz.underlying30 Tryz.infoRatT rfl w.heap.size (Nat.le_refl _) u5 L rfl q (by have:=HLL.out; omega) rfl HO2.out HF.out jL ?_; intro g cap w' hown' dD hlt'; have HO':=Ac hown'; clear hown')
      go_roundw
      case rel=>exact⟨k+1,L ++ [q],by omega,by go_num,by rw[List.length_append,HLL.out]; rfl,by rw[List.map_append,HL.out,take_snoc HXK.out,List.map_append,List.map_cons,List.map_nil,HQ.out]; rfl,HO'.out,dD⟩
      case measure=>simp[intOf]; omega
     ·go_wp2
      go_ret;refine⟨_,rfl,hbel,?_⟩;have h5:=HO.out.sG (G:=fun b=>w.heap.size≤b) (fun b hb=>hb) (fun b hb=>hb);rw[HL.out,List.take_of_length_le (by omega)] at h5;unfold BF;rw[HW.out,List.map_map];exact h5
end Go.Proofs.YtkcheepafifjaaaGreatDoor
