/- Part of a claim. -/
import Derived.Test.YtnmeejofpkhlkaaGreatDoorE35
import Derived.Test.YtnmeejofpkhlkaaGreatDoorE24
set_option linter.all false
set_option maxRecDepth 100000
set_option maxHeartbeats 12800000
namespace Go.Proofs.YtnmeejofpkhlkaaGreatDoor
open Go.RowKit.Below renaming refl->F9
open Below renaming same'->FZ,wrote->Iq
open FK renaming keep->IB,on->Ju
open Go.IntKind renaming i64->F5
open Go renaming Value->F7,World->FW
open Go.Value renaming bool->Gj,int->F6,slice->FQ
open List renaming foldl_cons->Iw,getD_eq_getElem?_getD->FU,getElem?_map->Gi,getElem?_of_mem->Gz,length_append->Gn,length_cons->LG,length_map->FX,map->GK,map_append->GL,map_cons->Hr,map_nil->Jp,mem_cons->Il,mem_cons_of_mem->GI,mem_cons_self->I9,mem_of_getElem?->FT,not_mem_nil->Ho
open Nat renaming div_one->JK,gcd->Gv,le_refl->FV,le_trans->Gf,mul_one->Gp,sub_self->Ih
open Option renaming getD_some->Ht
open Same renaming refl->Gh
open Go.Proofs.Tryz renaming prog->FY
open Wrote renaming refl->H6
open Lib renaming hid → Ac
open Go.RowKit
variable {a:Int} {m:List (List Rat)} {l:List Int} {rs xs:List Rat} {k n s:Nat} {r x:Rat}
def aeu:List (List Raw):=[[⟨false,[1],[2]⟩,⟨false,[1],[2]⟩],[⟨false,[1],[2]⟩,⟨false,[1],[2]⟩],[⟨false,[1],[3]⟩,⟨false,[1],[3]⟩,⟨false,[1],[3]⟩]]
theorem amw:au (mkRat 1 2)=⟨false,[1],[2]⟩:=by
 have h:=nJ false 1 2 aA;rw[show Gv 1 2=1 by decide,JK,JK,iL,kQ (n:=2) aA aA] at h;exact h
theorem akN:au (mkRat 1 3)=⟨false,[1],[3]⟩:=by
 have h:=nJ false 1 3 aA;rw[show Gv 1 3=1 by decide,JK,JK,iL,kQ (n:=3) aA aA] at h;exact h
theorem oV:nK.map (GK au)=aeu:=by
 unfold nK aeu;simp only[Hr,Jp,amw,akN]
theorem oW:fH bZ aeu=0:=by decide +kernel
theorem aiN:Cm aeu:=by
 intro l hl r hr;unfold aeu at hl;simp only[Il,Ho,or_false] at hl;rcases hl with rfl | rfl | rfl <;> (simp only[Il,Ho,or_false] at hr; rcases hr with rfl | rfl | rfl <;> decide)
theorem aal:∀ {a b:List (List Rat)},a.map (GK au)=b.map (GK au)->a=b
 | [],[],_=>rfl
 | [],_ :: _,h=>by cases h
 | _ :: _,[],h=>by cases h
 | x :: a,y :: b,h=>by
  rw[Hr,Hr,List.cons.injEq] at h;rw[aci h.1,aal h.2]
theorem qj:Fit bZ nK:=by
 obtain⟨m,h,hf,_⟩:=acK oW aiN;have e:m=nK:=aal (by rw[<-h,oV]);rw[<-e];exact hf
theorem zi:dG bZ nK 0 = [5,-5].map λx=>mkRat x 6:=by decide +kernel
theorem zk:jX bH bZ nK = [12,6,6,3,3,1,1,1].map λx=>mkRat x 12:=by decide +kernel
theorem ac6 (h:rl x<=1024):fM (au x)=0:=by
 have h1:=ab7 (n:=x.num.natAbs) (Gf (gy x) h);have h2:=ab7 (n:=x.den) (Gf (gB x) h);have h3:(dig x.den).length≠0:=λe=>ahk x (List.eq_nil_of_length_eq_zero e)
 have h4:eF (au x).num (au x).den=0:=by
  unfold eF;rw[oL,adV,h1,h2,L6 aF,L6 aF,L6 h3]
 unfold fM;rw[h4,L6 aF,L6];rw[oL,adV,aX,aX,jQ,jJ];rintro(⟨e1,e2⟩ | e)
 ·have h0:x.num.natAbs=0:=zC.1 e1;have hz:x.num=0:=EN;unfold dI at e2;rw[hz] at e2;exact absurd e2 aA
 ·exact e rfl
theorem afw (h:0<=x):dI x=false:=by
 unfold dI;have:=Rat.num_nonneg.2 h;simp;omega
theorem aev (h:rl x<=1024) (h0:0<=x) (h1:x<=1):fC (au x)=0:=by
 unfold fC;rw[ac6 h,L6 aF,L6];rintro(e | e)
 ·rw[jJ,afw h0] at e;cases e
 ·rw[qX,aeK] at e;exact absurd h1 (Rat.not_le.2 e)
theorem wW:∀ {l:List Int},(∀ e∈l,e=0)->iW l=0
 | [],_=>rfl
 | e :: l,h=>by
  unfold iW;rw[L6 (by simpa using h e I9)];exact wW λx hx=>h x (GI _ hx)
def Dk (a:Int) (l:List Rat):Prop:=(l.length:Int)=a/\fO l=1/\∀ x∈l,rl x<=4/\0<=x/\x<=1
theorem anu {l:List Rat} (h:Dk a l):nS a (l.map au)=0:=by
 obtain⟨h1,h2,h3⟩:=h;have h4:nY (l.map au)=0:=by
  unfold nY;refine wW λe he=>?_
  obtain⟨r,hr,rfl⟩:=List.mem_map.1 he;obtain⟨x,hx,rfl⟩:=List.mem_map.1 hr;have:=h3 x hx;exact aev EN this.2.1 this.2.2
 unfold nS;rw[FX,L6 (by simpa using h1),h4,L6 aF,acj,h2,(sW 1 1).2 rfl,L6 aF]
def AP (g:Gm) (m:List (List Rat)):Prop:=m.length=g.Fh.length/\∀ (k:Nat) (i:Inf) (l:List Rat),g.Fh[k]? = some i->m[k]? = some l->Dk i.actions l
theorem AP.nP {g:Gm} (hf:bF g=0) (h:AP g m):fH g (m.map (GK au))=0:=by
 unfold fH;rw[L6 (by simpa using hf)];unfold kS;rw[L6 (by simp[h.1])];refine wW λe he=>?_
 obtain⟨k,hk⟩:=Gz he;rw[List.getElem?_zipWith,Gi,Gi] at hk;cases hi:g.Fh[k]? with
 | none=>rw[hi] at hk; simp at hk
 | some i =>
  cases hl:m[k]? with
  | none=>rw[hi,hl] at hk; simp at hk
  | some l =>
   rw[hi,hl] at hk;simp at hk;rw[<-hk];exact anu (h.2 k i l hi hl)
theorem AP.limbs {g:Gm} (h:AP g m):Cm (m.map (GK au)):=by
 intro l hl r hr;obtain⟨l',hl',rfl⟩:=List.mem_map.1 hl;obtain⟨x,hx,rfl⟩:=List.mem_map.1 hr;obtain⟨k,hk⟩:=Gz hl';obtain⟨i,hi⟩:=FC (l:=g.Fh) (k:=k) (by have:=FD hk; have:=h.1; omega);have:=((h.2 k i l' hi hk).2.2 x hx).1;exact⟨Gf (gy x) this,Gf (gB x) this⟩
theorem AP.fit {g:Gm} (hf:bF g=0) (h:AP g m):Fit g m:=by
 obtain⟨m',e,hfit,_⟩:=acK (h.nP hf) h.limbs;rw[aal e];exact hfit
def fJ (L:List Int) (a:Nat):Nat->List Int×Nat
 | 0=>([],a)
 | k+1=>let r:=fJ L a k; (r.1 ++ [dY L r.2 4],dR L r.2)
theorem jM (L:List Int) (a:Nat):∀ k,(fJ L a k).1.length=k
 | 0=>rfl
 | k+1=>by unfold fJ; simp[jM L a k]
theorem vF (L:List Int) (a:Nat):∀ k,∀ x∈(fJ L a k).1,0<=x/\x<=3
 | 0,x,h=>by cases h
 | k+1,x,h=>by
  unfold fJ at h;simp only at h;rcases List.mem_append.1 h with h | h
  ·exact vF L a k x h
  ·rw[List.mem_singleton.1 h];have:=jc L (fJ L a k).2 (n:=4) aA;omega
def fP (l:List Int):List Rat:=if oq l=0 then l.map λ_=>mkRat 1 l.length else l.map λx=>mkRat x (oq l).toNat
theorem aaY (l:List Int):(fP l).length=l.length:=by unfold fP; split <;> simp
theorem aew {b:Int} (hs:s≠0):mkRat a s+mkRat b s=mkRat (a+b) s:=by
 rw[Rat.mkRat_add_mkRat _ _ hs hs,show a*(s:Int)+b*(s:Int)=(a+b)*(s:Int) by rw[Int.add_mul],Rat.mkRat_mul_right hs]
theorem sum_mk {s:Nat} (hs:s≠0):∀ (l:List Int) (a:Int),(l.map λx=>mkRat x s).foldl (· + ·) (mkRat a s)=mkRat (l.foldl (· + ·) a) s
 | [],a=>rfl
 | x :: l,a=>by
  rw[Hr,Iw,Iw,aew hs];exact sum_mk hs l (a+x)
theorem mkRat_self (hs:s≠0):mkRat (s:Int) s=1:=by
 have:=Rat.mkRat_mul_right (n:=1) (d:=1) hs;rw[Int.one_mul,Nat.one_mul] at this;exact this
theorem aju (hs:s≠0) (h:oq l=s):fO (l.map λx=>mkRat x s)=1:=by
 unfold fO;have e:(0:Rat)=mkRat 0 s:=(Rat.zero_mkRat s).symm;rw[e,sum_mk hs];have e2:l.foldl (· + ·) 0=oq l:=rfl;rw[e2,h,mkRat_self hs]
theorem aam {x:Int} (hs:s≠0) (h:0<=x):0<=mkRat x s:=Rat.num_nonneg.1 (by have:=(jl x hs).2.2; omega)
theorem ac7 {x:Int} (hs:s≠0) (h:x<=s):mkRat x s<=1:=by
 have e:=aew (a:=x) (b:=s - x) hs;rw[show x+((s:Int) - x)=s by omega,mkRat_self hs] at e;have h2:0<=mkRat (s - x) s:=aam hs EN;rw[<-e];have:=Rat.add_le_add_left (c:=mkRat x s) |>.2 h2
 rwa [Rat.add_zero] at this
theorem ag1 {x:Int} (hs:s≠0) (h0:0<=x) (hx:x<=1000) (hs2:s<=1000000):rl (mkRat x s)<=4:=by
 refine alc hs ?_ ?_
 ·have:(dig x.natAbs).length<=1:=aV (by unfold LB; omega);omega
 ·have:(dig s).length<=1:=aV (by unfold LB; omega);omega
theorem abV:∀ (l:List Int) (a:Int),(∀ x∈l,0<=x)->a<=l.foldl (· + ·) a/\∀ x∈l,a+x<=l.foldl (· + ·) a
 | [],a,_=>⟨Int.le_refl _,λ_ h=>by cases h⟩
 | y :: l,a,h=>by
  have hy:=h y I9;obtain⟨h1,h2⟩:=abV l (a+y) (λx hx=>h x (GI _ hx));rw[Iw];refine⟨EN,λx hx=>?_⟩;rcases List.mem_cons.1 hx with rfl | hx
  ·exact h1
  ·have:=h2 x hx; omega
theorem afx:∀ (l:List Int) (a:Int),(∀ x∈l,x<=1000)->l.foldl (· + ·) a<=a+1000*l.length
 | [],a,_=>by simp
 | y :: l,a,h=>by
  have hy:=h y I9;have h1:=afx l (a+y) (λx hx=>h x (GI _ hx));rw[Iw,LG];omega
theorem aex:∀ (l:List Int) (a:Int),(l.map λ_=>(1:Int)).foldl (· + ·) a=a+l.length
 | [],a=>by simp
 | y :: l,a=>by
  rw[Hr,Iw,aex l (a+1),LG];omega
theorem afy (hne:l≠[]) (hlen:l.length<=1000) (h:∀ x∈l,0<=x/\x<=1000):Dk l.length (fP l):=by
 have hpos:=List.length_pos_iff.2 hne;refine⟨by rw[aaY],?_,?_⟩
 ·unfold fP;split
  ·have e:(l.map λ_=>mkRat 1 l.length)=(l.map λ_=>(1:Int)).map λx=>mkRat x l.length:=by rw[List.map_map];rfl
   rw[e];refine aju EN ?_;have:=aex l 0;unfold oq;omega
  ·rename_i h0
   have:=(abV l 0 (λx hx=>(h x hx).1)).1;have e2:l.foldl (· + ·) 0=oq l:=rfl;exact aju EN EN
 ·intro x hx;unfold fP at hx;split at hx
  ·obtain⟨_,_,rfl⟩:=List.mem_map.1 hx;exact⟨ag1 EN aA aA EN,aam EN aA,ac7 EN EN⟩
  ·rename_i h0
   obtain⟨y,hy,rfl⟩:=List.mem_map.1 hx;have h1:=abV l 0 (λx hx=>(h x hx).1);have h2:=afx l 0 (λx hx=>(h x hx).2);have e2:l.foldl (· + ·) 0=oq l:=rfl;have h3:=h1.2 y hy;have hyb:=h y hy;rw[e2] at h1 h2 h3;exact⟨ag1 EN hyb.1 hyb.2 EN,aam EN hyb.1,ac7 EN EN⟩
def ig (L:List Int) (a:Nat) (I:List Inf):Nat->List (List Rat)×Nat
 | 0=>([],a)
 | k+1=>let r:=ig L a I k; let d:=fJ L r.2 (I.getD k default).actions.toNat; (r.1 ++ [fP d.1],d.2)
theorem lC (L:List Int) (a:Nat) (I:List Inf):∀ k,(ig L a I k).1.length=k
 | 0=>rfl
 | k+1=>by unfold ig; simp[lC L a I k]
theorem abw (L:List Int) (a:Nat) {I:List Inf} (hI:∀ i∈I,1<=i.actions/\i.actions<=10):∀ k,k<=I.length->∀ (j:Nat) (i:Inf) (l:List Rat),I[j]? = some i->(ig L a I k).1[j]? = some l->Dk i.actions l
 | 0,_,j,i,l,_,h=>by simp[ig] at h
 | k+1,hk,j,i,l,hi,h=>by
  unfold ig at h;simp only at h;by_cases hj:j < k
  ·rw[List.getElem?_append_left (by rw[lC]; exact hj)] at h;exact abw L a hI k EN j i l hi h
  ·rw[List.getElem?_append_right (by rw[lC]; omega),lC] at h;have e:j=k:=by have:=FD h; simp at this; omega
   subst e;rw[Ih] at h;simp at h;subst h;have hin:=hI i (FT hi);rw[hi,Ht];have hl:=jM L (ig L a I j).2 i.actions.toNat;have hx:=vF L (ig L a I j).2 i.actions.toNat;generalize (fJ L (ig L a I j).2 i.actions.toNat).1=d at *;have:=afy (l:=d) (λe=>by subst e; simp at hl; omega) EN λx h=>by have:=hx x h; omega
   rw[show i.actions=(d.length:Int) by omega];exact this
def ac8 (L:List Int) (a:Nat) (g:Gm):List (List Rat):=(ig L a g.Fh g.Fh.length).1
theorem abx (L:List Int) (a:Nat) {g:Gm} (hI:∀ i∈g.Fh,1<=i.actions/\i.actions<=10):AP g (ac8 L a g) :=
 ⟨lC _ _ _ _,λk i l hi hl=>abw L a hI _ (FV _) k i l hi hl⟩
theorem oh (h:∀ x∈xs,rl x<=1024):kJ xs=0:=by
 unfold kJ;rw[L6];simp only[List.any_eq_true,not_exists,not_and,decide_eq_true_eq];intro x hx;have:=h x hx;omega
theorem lX (h:∀ x∈xs,rl x<=1024) (hl:xs.length<=1000):BZ (xs.map au):=by
 refine⟨by rw[FX]; omega,λr hr=>?_⟩;obtain⟨x,hx,rfl⟩:=List.mem_map.1 hr;have:=h x hx;unfold rl at this;show(dig x.num.natAbs).length<=500000/\(dig x.den).length<=500000;omega
theorem uj:AX (nK.map (GK au)):=by
 rw[oV];intro l hl;unfold aeu at hl;simp only[Il,Ho,or_false] at hl;rcases hl with rfl | rfl | rfl
 all_goals
  refine⟨aA,λr hr=>?_⟩;simp only[Il,Ho,or_false] at hr;rcases hr with rfl | rfl | rfl
 all_goals exact⟨by unfold U32; decide,aA,aA⟩
theorem lD:Small bZ:=⟨aA,aA,aA,aA,aA⟩
theorem aan:∀ x∈[5,-5].map (λx:Int=>mkRat x 6),rl x<=1024:=by
 rw[<-zi];intro x hx;have h:=qj.acw (i:=0) aA x hx;have e:bZ.Fg.length=8:=rfl;omega
theorem aao:∀ x∈[12,6,6,3,3,1,1,1].map (λx:Int=>mkRat x 12),rl x<=1024:=by
 rw[<-zk];intro x hx;have h:=oU qj uh x hx;have e:bZ.Fg.length=8:=rfl;omega
theorem ag2 (w:FW) (F:FI) (vg vm:F7) (hg:AA w F vg bZ) (hm:Ak w F vm nK) (hT:Bd w) :
  Calls FY 12 #[vg,vm] w (Ret w λu w'=>∃ t,u = .tuple #[t,F6 F5 0]/\BD w' (Ext F w.heap.size) t ([5,-5].map λx=>mkRat x 6)):=by
 refine(qV w F vg vm bZ nK hg lD hm hT aA uj (by rw[oV]; exact oW) qj).mono ?_;rintro e w' ⟨u,rfl,hb,t,rfl,ht⟩;rw[zi] at ht;rw[zi,oh aan];refine⟨_,rfl,hb,t,rfl,?_⟩;unfold fitsV at ht;rw[oh aan] at ht;exact ht
theorem ag3 (w:FW) (F:FI) (vg vm:F7) (hg:AA w F vg bZ) (hm:Ak w F vm nK) (hT:Bd w) :
  Calls FY 87 #[vg,vm] w (Ret w λu w'=>∃ t,u = .tuple #[t,F6 F5 0]/\BD w' (Ext F w.heap.size) t ([12,6,6,3,3,1,1,1].map λx=>mkRat x 12)):=by
 refine(akM w F vg vm bZ nK hg lD hm hT aA uj (by rw[oV]; exact oW) qj).mono ?_;rintro e w' ⟨u,rfl,hb,t,rfl,ht⟩;rw[zk] at ht;rw[zk,oh aao];refine⟨_,rfl,hb,t,rfl,?_⟩;unfold fitsV at ht;rw[oh aao] at ht;exact ht
theorem ag4 (w:FW) (hT:Bd w):Calls FY 34 #[] w (Ret w λv _=>v = Gj true):=by
 have HT:=Ac hT;clear hT;go_in;have hB:=F9 w.heap.size w;go_wp2_with fail
 refine(yJ w).mono ?_;rintro e w1 ⟨vg1,rfl,hb,hu⟩;refine Zm ?_;clear HT hB;intro HT hB;have hz1:=hB.size;have G1:=Ac (hu.keep (G:=(λb=>w.heap.size<=b)) (λb hb _=>by omega) (Gh _ _));clear hu;clear hb;dsimp only;go_wp2_with fail
 refine(wI w1).mono ?_;rintro e w2 ⟨vm2,rfl,hb,hu⟩;replace G1:=Ac (G1.out.on (FZ hb _));refine Zm ?_;clear HT hB;intro HT hB;have hz2:=hB.size;have M2:=Ac (FM.keep (G:=(λb=>w.heap.size<=b)) hu (λb hb _=>by omega) (Gh _ _));clear hu;clear hb;dsimp only;go_wp2_with fail
 refine(ag2 w2 (λb=>w.heap.size<=b) _ _ G1.out M2.out HT.out).mono ?_;rintro e w3 ⟨u,rfl,hb,t3,rfl,hu⟩;replace G1:=Ac (G1.out.on (FZ hb _));replace M2:=Ac (FM.on M2.out (FZ hb _));refine Zm ?_;clear HT hB;intro HT hB;have hz3:=hB.size;have R3:=Ac (IB (G:=(λb=>w.heap.size<=b)) hu (λb hb _=>hb.elim id λh=>by omega) (Gh _ _));clear hu G1 M2;clear hb;dsimp only;go_wp2_with fail
 refine(yJ w3).mono ?_;rintro e w4 ⟨vg4,rfl,hb,hu⟩;replace R3:=Ac (Ju R3.out (FZ hb _));refine Zm ?_;clear HT hB;intro HT hB;have hz4:=hB.size;have G4:=Ac (hu.keep (G:=(λb=>w.heap.size<=b)) (λb hb _=>by omega) (Gh _ _));clear hu;clear hb;dsimp only;go_wp2_with fail
 refine(wI w4).mono ?_;rintro e w5 ⟨vm5,rfl,hb,hu⟩;replace R3:=Ac (Ju R3.out (FZ hb _));replace G4:=Ac (G4.out.on (FZ hb _));refine Zm ?_;clear HT hB;intro HT hB;have hz5:=hB.size;have M5:=Ac (FM.keep (G:=(λb=>w.heap.size<=b)) hu (λb hb _=>by omega) (Gh _ _));clear hu;clear hb;dsimp only;go_wp2_with fail
 refine(ag3 w5 (λb=>w.heap.size<=b) _ _ G4.out M5.out HT.out).mono ?_;rintro e w6 ⟨u,rfl,hb,t6,rfl,hu⟩;replace R3:=Ac (Ju R3.out (FZ hb _));replace G4:=Ac (G4.out.on (FZ hb _));replace M5:=Ac (FM.on M5.out (FZ hb _));refine Zm ?_;clear HT hB;intro HT hB;have hz6:=hB.size;have R6:=Ac (IB (G:=(λb=>w.heap.size<=b)) hu (λb hb _=>hb.elim id λh=>by omega) (Gh _ _));clear hu G4 M5;clear hb;dsimp only;have rr:=R3.out;have r6:=R6.out;obtain⟨Aa,ca,rfl,_,_⟩:=rr;obtain⟨Ab,cb,rfl,_,_⟩:=r6;go_wp2_with fail
 obtain⟨wa7,hwa,hr,hb,hz'⟩:=aJ w6 3 #[F6 F5 5,F6 F5 (-5)];rw[<-hwa];have hi:=Row.qB (l:=[5,-5]) (F:=λ_=>True) hr trivial;clear hwa hr hz';refine Yp ?_;clear R3 R6 hB;intro R3 R6 hB;have hza7:=hB.size;clear hb;refine(iy wa7 _ _ [5,-5] 6 hi aA aA aA aA).mono ?_;rintro e wb7 ⟨v7,rfl,hb,hu⟩;refine Yp ?_;clear R3 R6 hB;intro R3 R6 hB;have hzb7:=hB.size;have HU7:=Ac (IB (G:=(λb=>w.heap.size<=b)) hu (λb hb _=>by omega) (Gh _ _));clear hu hb hi;dsimp only;go_wp2_with fail
 refine(nM wb7 (λb=>w.heap.size<=b) _ _ _ _ R3.out HU7.out (lX aan aA) (lX aan aA)).mono ?_;rintro e wc7 ⟨u,rfl,hb,rfl⟩;rw[Mc rfl];refine Yp ?_;clear R3 R6 hB;intro R3 R6 hB;have hzc7:=hB.size;clear hb HU7;dsimp only;go_wp2_with fail
 obtain⟨wa8,hwa,hr,hb,hz'⟩:=aJ wc7 3 #[F6 F5 12,F6 F5 6,F6 F5 6,F6 F5 3,F6 F5 3,F6 F5 1,F6 F5 1,F6 F5 1];rw[<-hwa];have hi:=Row.qB (l:=[12,6,6,3,3,1,1,1]) (F:=λ_=>True) hr trivial;clear hwa hr hz';refine Yp ?_;clear R3 R6 hB;intro R3 R6 hB;have hza8:=hB.size;clear hb;refine(iy wa8 _ _ [12,6,6,3,3,1,1,1] 12 hi aA aA aA aA).mono ?_;rintro e wb8 ⟨v8,rfl,hb,hu⟩;refine Yp ?_;clear R3 R6 hB;intro R3 R6 hB;have hzb8:=hB.size;have HU8:=Ac (IB (G:=(λb=>w.heap.size<=b)) hu (λb hb _=>by omega) (Gh _ _));clear hu hb hi;dsimp only;go_wp2_with fail
 refine(nM wb8 (λb=>w.heap.size<=b) _ _ _ _ R6.out HU8.out (lX aao aA) (lX aao aA)).mono ?_;rintro e wc8 ⟨u,rfl,hb,rfl⟩;rw[Mc rfl];refine Yp ?_;clear R3 R6 hB;intro R3 R6 hB;have hzc8:=hB.size;clear hb HU8;dsimp only;go_wp2
 go_ret;exact⟨_,rfl,hB,rfl⟩
theorem afz (h:∀ x∈l,0<=x/\x<=1000):0<=oq l/\oq l<=1000*l.length:=by
 have h1:=abV l 0 (λx hx=>(h x hx).1);have h2:=afx l 0 (λx hx=>(h x hx).2);have e:l.foldl (· + ·) 0=oq l:=rfl;omega
theorem afA (w:FW) (F:FI) (v:F7) (l:List Int) (hv:Aj w F v l) (hl:l.length<=1000) (hx:∀ x∈l,0<=x/\x<=1000) :
  Calls FY 38 #[v] w (Ret w λu w'=>BD w' (λb=>w.heap.size<=b) u (fP l)):=by
 have HV:=Ac hv;have HX:=Ac hx;obtain⟨A,c,rfl,hc,hr⟩:=hv;have HR:=Ac hr;clear hr hx;obtain⟨S,hS⟩:∃ S:Nat,oq l=(S:Int):=⟨(oq l).toNat,by have:=(afz HX.out).1; omega⟩;have HS:=Ac hS;have hSb:S<=1000000:=by have:=(afz HX.out).2;omega
 clear hS;go_in;go_wp2
 go_loopw [3,4] (λu i wr=>∃ (k:Nat) (s:Int),k<=l.length/\i = F6 F5 (k:Int)/\u = F6 F5 s/\Hid (s=oq (l.take k))/\w=wr) (λ_ i _=>l.length - (intOf i).toNat)
 case atStart=>exact⟨0,0,EN,rfl,rfl,Ac rfl,rfl⟩
 case round =>
  obtain⟨k,s,hk,rfl,rfl,HSU,rfl⟩:=hrel;by_cases hlt:k < l.length
  ·obtain⟨bb,o,rfl,_,hb',hcell⟩:=HR.out EN;obtain⟨x,hxk⟩:=FC hlt;have e1:=hcell k x hxk;unfold jP at e1;rw[Gp] at e1;have hxb:=HX.out x (FT hxk);have hsb:0<=s/\s<=1000000:=by
    have:=afz (l:=l.take k) (λx hx=>HX.out x (List.mem_of_mem_take hx));rw[HSU.out];simp at this ⊢;omega
   have HXK:=Ac (show s+x=oq (l.take (k+1)) by rw[HSU.out,FP hxk,adX]);have hwx:IntKind.i64.wrap (s+x)=s+x:=IntWalk.i64_in _ EN;clear hcell hxk;go_wp2
   go_roundw
   case rel=>exact⟨k+1,s+x,EN,by go_num,rfl,HXK,trivial⟩
   case measure=>simp[intOf]; omega
  ·have hsum:s=(S:Int):=by have:=HSU.out;rw[List.take_of_length_le EN,HS.out] at this;exact this
   subst hsum;clear HSU;by_cases h0:S=0
   ·subst h0;have HW:=Ac (show fP l=l.map λ_=>mkRat 1 l.length from L8 HS.out);clear HS;go_wp2
    go_loopw [5,6] (λu i wr=>∃ (k:Nat) (L:List RV),k<=l.length/\i = F6 F5 (k:Int)/\L.length=k/\L.map RV.r=((l.take k).map λ_=>au (mkRat 1 l.length))/\Bc wr w.heap.size 42 (λb=>w.heap.size<=b) u L/\Below w.heap.size w wr) (λ_ i _=>l.length - (intOf i).toNat)
    case atStart=>exact⟨0,[],EN,rfl,rfl,rfl,Bc.nil _ _ _ _,F9 _ _⟩
    case round =>
     obtain⟨k,L,hk,rfl,hLl,hLr,hown,hbel⟩:=hrel;have HO:=Ac hown;have HL:=Ac hLr;have HLL:=Ac hLl;clear hown hLr hLl;by_cases hlt:k < l.length
     ·obtain⟨x,hxk⟩:=FC hlt;have HXK:=Ac hxk;clear hxk;have hz:=hbel.size;go_wp2_with fail
      refine(aaJ wr 1 l.length aA aA EN EN).mono ?_;rintro e w2 ⟨vm,rfl,hb2,hu⟩;obtain⟨q,hq,rfl,hqf⟩:=Ah.rv hu;refine zc9 ?_;intro jo HO2;have HF:=Ac (show q.fine w2 (Apart (λb=>w.heap.size<=b) u5) from hqf.keep (λb hb _=>⟨EN,λe=>by have:=(HO.out.row.lt b e).2; omega⟩) (Gh _ _));have HQ:=Ac hq;clear hqf hu hq hb2 hbel;dsimp only[RV.cells];go_wp2_with (at_builtin; refine rY (F:=λb=>w.heap.size<=b) rfl _ _ 38 42 Tryz.underlying38 Tryz.infoRatT rfl w.heap.size (FV _) u5 L rfl q (by have:=HLL.out; omega) rfl HO2.out HF.out jo ?_; intro g cap w' hown' aZ hlt'; have HO':=Ac hown'; clear hown')
      go_roundw
      case rel=>(repeat apply Exists.intro); refine⟨⟨k+1,L ++ [q],EN,by go_num,by rw[Gn,HLL.out]; rfl,by rw[GL,HL.out,FP HXK.out,GL,Hr,Jp,HQ.out]; rfl,HO'.out,aZ⟩,rfl⟩
      case measure=>simp[intOf]; omega
     ·go_wp2
      go_ret;refine zay ?_;intro h5;rw[HW.out,List.map_map];exact h5
   ·have h0':=h0;have HW:=Ac (show fP l=l.map λx=>mkRat x S by unfold fP; rw[L6 (by rw[HS.out]; omega),HS.out]; rfl);have t0:((S:Int)==0)=false:=aG;clear HS;go_wp2
    go_loopw [5,6] (λu i wr=>∃ (k:Nat) (L:List RV),k<=l.length/\i = F6 F5 (k:Int)/\L.length=k/\L.map RV.r=((l.take k).map λx=>au (mkRat x S))/\Bc wr w.heap.size 42 (λb=>w.heap.size<=b) u L/\Below w.heap.size w wr) (λ_ i _=>l.length - (intOf i).toNat)
    case atStart=>exact⟨0,[],EN,rfl,rfl,rfl,Bc.nil _ _ _ _,F9 _ _⟩
    case round =>
     obtain⟨k,L,hk,rfl,hLl,hLr,hown,hbel⟩:=hrel;have HO:=Ac hown;have HL:=Ac hLr;have HLL:=Ac hLl;clear hown hLr hLl;by_cases hlt:k < l.length
     ·obtain⟨x,hxk⟩:=FC hlt;have HXK:=Ac hxk;obtain⟨bb,o,rfl,_,hb',hcell⟩:=HR.out EN;have e1:=hcell k x hxk;unfold jP at e1;rw[Gp] at e1;have hxb:=HX.out x (FT hxk);have hold:=aS hbel;clear hcell;clear hxk;have hz:=hbel.size;go_wp2_with fail
      refine(aaJ wr x S EN EN EN EN).mono ?_;rintro e w2 ⟨vm,rfl,hb2,hu⟩;obtain⟨q,hq,rfl,hqf⟩:=Ah.rv hu;refine zc9 ?_;intro jo HO2;have HF:=Ac (show q.fine w2 (Apart (λb=>w.heap.size<=b) u5) from hqf.keep (λb hb _=>⟨EN,λe=>by have:=(HO.out.row.lt b e).2; omega⟩) (Gh _ _));have HQ:=Ac hq;clear hqf hu hq hb2 hbel hold;dsimp only[RV.cells];go_wp2_with (at_builtin; refine rY (F:=λb=>w.heap.size<=b) rfl _ _ 38 42 Tryz.underlying38 Tryz.infoRatT rfl w.heap.size (FV _) u5 L rfl q (by have:=HLL.out; omega) rfl HO2.out HF.out jo ?_; intro g cap w' hown' aZ hlt'; have HO':=Ac hown'; clear hown')
      go_roundw
      case rel=>exact⟨k+1,L ++ [q],EN,by go_num,by rw[Gn,HLL.out]; rfl,by rw[GL,HL.out,FP HXK.out,GL,Hr,Jp,HQ.out]; rfl,HO'.out,aZ⟩
      case measure=>simp[intOf]; omega
     ·go_wp2
      go_ret;refine zay ?_;intro h5;rw[HW.out,List.map_map];exact h5
theorem Tryz.infoRowsK:(Tryz.prog.info? 38).map (λi=>(i.zero,i.size,i.bytes))=some (some (FQ none 0 0),lV.n,24):=ak
def jZ (L:List Int) (a n k:Nat):List Int:=(fJ L a k).1++List.replicate (n - k) 0
theorem afB (L:List Int) (a:Nat) (hk:k < n):(jZ L a n k).set k (dY L (fJ L a k).2 4)=jZ L a n (k+1):=by
 unfold jZ;have hl:=jM L a k;rw[List.set_append_right _ _ EN,hl,Ih,show n - k=(n - (k+1))+1 by omega,List.replicate_succ,List.set_cons_zero];rw[show fJ L a (k+1)=((fJ L a k).1 ++ [dY L (fJ L a k).2 4],dR L (fJ L a k).2) from rfl];simp
theorem adI (L:List Int) (a n:Nat):jZ L a n n=(fJ L a n).1:=by unfold jZ; simp
theorem afC (L:List Int) (a:Nat) (hk:k<=n):(jZ L a n k).length=n:=by unfold jZ; simp[jM]; omega
theorem jO (w:FW) (F:FI) (db:Nat) (A:Option Addr) (c:Nat) (L:List Int) (a0:Nat) (vg:F7) (g:Gm) (hr:Row w db 34 [FQ A L.length c,F6 F5 (a0:Int)]) (hL:Aj w F (FQ A L.length c) L) (hF:¬ F db) (hl:L.length<=9223372036854775807)
  (hg:AA w F vg g) (hI:∀ i∈g.Fh,1<=i.actions/\i.actions<=10) (hn:g.Fh.length<=1000) :
  Calls FY 8 #[.pointer (some ⟨db,0,none⟩),vg] w λe w'=>∃ u LL,e = .returned u/\OwnSl lV w' (w.heap.size+1) 38 (λb=>w.heap.size<=b) u LL/\LL.map Prod.snd=(ac8 L a0 g).map (GK au)/\Wrote (λb=>b=db) w w':=by
 have HI:=Ac hI;have HL:=Ac (hL.keep (G:=λb=>F b/\b < w.heap.size) (λb hb hl=>⟨hb,hl⟩) (Gh _ _));have hF1:¬ (F db/\db < w.heap.size):=λe=>hF e.1
 obtain⟨vn,vi,rfl,⟨An,cn,rfl,hcn,_⟩,gU⟩:=hg;have HIN:=Ac (Bv.keep gU (G:=λb=>F b/\b < w.heap.size) (λb hb hl=>⟨hb,hl⟩) (Gh _ _));obtain⟨Ai,ci,rfl,hci,_⟩:=gU;have HR:=Ac hr;have hdl:=hr.lt;have HDL:=Ac hdl;clear hL hI hr;go_in
 go_upto_region 1 with(fail)
 obtain⟨W,hW,rx,hB,hz'⟩:=aJ w 27 #[F6 F5 g.ay,FQ An g.Fg.length cn,FQ Ai g.Fh.length ci];rw[<-hW];have hz:W.heap.size=w.heap.size+1:=hz'.symm;have HR1:=Ac (HR.out.below hB HR.out.lt);have HW1:=Ac (Iq hB (λb=>b=db));have RX:=Ac rx;clear hW rx hB hz';go_wp2
 go_loopw [5,6] (λu i wr=>∃ (k:Nat) (LL:List (F7×List Raw)),k<=g.Fh.length/\i = F6 F5 (k:Int)/\Hid (LL.length=k/\LL.map Prod.snd=(ig L a0 g.Fh k).1.map (GK au))/\OwnSl lV wr (w.heap.size+1) 38 (λb=>w.heap.size<=b) u LL/\Row wr db 34 [FQ A L.length c,F6 F5 ((ig L a0 g.Fh k).2:Int)]/\Hid (Wrote (λb=>b=db) w wr)/\Row wr w.heap.size 27 [F6 F5 g.ay,FQ An g.Fg.length cn,FQ Ai g.Fh.length ci]/\w.heap.size+1<=wr.heap.size) (λ_ i _=>g.Fh.length - (intOf i).toNat)
 case atStart=>exact⟨0,[],EN,rfl,Ac ⟨rfl,rfl⟩,OwnSl.nil _ _ _ _ _,HR1.out,HW1,RX.out,EN⟩
 case round =>
  clear RX HW1 HR1;obtain⟨k,LL,hk,rfl,HLL,hown,hdr,HW,rx,hz1⟩:=hrel;obtain⟨w0,hw0⟩:∃ w0:FW,w0=wr:=⟨_,rfl⟩;have HO:=Ac hown;have HD:=Ac hdr;have x2:=rx.cell (i:=2) rfl;have RX:=Ac rx;clear hown hdr rx;by_cases hlt:k < g.Fh.length
  ·have t0:decide (k < g.Fh.length)=true:=Mc hlt;obtain⟨inf,hik⟩:=FC hlt;have hia:=HI.out inf (FT hik);obtain⟨n,hn1⟩:∃ n:Nat,inf.actions=(n:Int):=⟨inf.actions.toNat,EN⟩;obtain⟨Ai',ci',he,_,hcell⟩:=HIN.out.on (HW.out.same λb hb e=>hF (e▸hb.1));simp only[Value.slice.injEq] at he;obtain⟨rfl,_,rfl⟩:=he;obtain⟨bi,oi,rfl,_,_,hcell⟩:=hcell EN;have e1:=(hcell k inf hik).c1;rw[hn1] at e1;have HIK:=Ac hik;have HN1:=Ac hn1;have hnb:1<=n/\n<=10:=EN;clear hcell hik hn1 hia;go_wp2_with (at_make; refine gX _ rfl _ _ 22 rfl 3 (F6 F5 0) 8 Tryz.underlying22 Tryz.infoInt rfl n rfl rfl EN EN ?_; intro w1 hb1 hz2 hrow1)
   obtain⟨lb,hlb⟩:=FH wr.heap.size;rw[<-hlb] at hrow1 hz2 ⊢;have hdlb:db≠lb:=by have:=HW.out.size;omega
   have HO0:=Ac (HO.out.widen (G:=λb=>w.heap.size<=b/\b < lb) (λb hb hl=>⟨hb,EN⟩)); have HOL:=Ac (show ∀ b,u5.ownBlock=some b->w.heap.size+1<=b/\b < lb from λb e=>by have:=HO.out.row.lt b e; omega);have HO1:=Ac (HO0.out.below hb1); have HD1:=Ac (HD.out.below hb1 HD.out.lt); have HW1:=Ac (HW.out.trans (Iq hb1 _)); have RX1:=Ac (RX.out.below hb1 RX.out.lt);have AZ:=Ac (show Row w1 lb 3 ((jZ L (ig L a0 g.Fh k).2 n 0).map (Value.int .i64)) by unfold jZ fJ; simpa using hrow1);obtain⟨at0,agT⟩:=FH ((ig L a0 g.Fh k).2);rw[<-agT] at HD1 AZ;have HSK:=Ac (show ig L a0 g.Fh (k+1)=((ig L a0 g.Fh k).1 ++ [fP (fJ L at0 n).1],(fJ L at0 n).2) by
    show((ig L a0 g.Fh k).1 ++ [fP (fJ L (ig L a0 g.Fh k).2 (g.Fh.getD k default).actions.toNat).1],(fJ L (ig L a0 g.Fh k).2 (g.Fh.getD k default).actions.toNat).2)=_;rw[FU,HIK.out,Ht,HN1.out,Int.toNat_natCast,<-agT])
   have hlbg:w.heap.size+1<=lb/\lb < w1.heap.size:=EN;have hlbw:∀ b,b < wr.heap.size->b < lb:=λb h=>by omega
   have HLBW:=Ac hlbw;clear hlbw hlb hz2 hz agT hb1 hrow1 HO HD HW RX x2 e1 hw0;go_loopw [8] (λi wr=>∃ j:Nat,j<=n/\i = F6 F5 (j:Int)/\Row wr lb 3 ((jZ L at0 n j).map (Value.int .i64))/\Row wr db 34 [FQ A L.length c,F6 F5 ((fJ L at0 j).2:Int)]/\Hid (Wrote (λb=>b=db\/b=lb) w1 wr)/\w1.heap.size<=wr.heap.size) (λi _=>n - (intOf i).toNat)
   case atStart=>exact⟨0,EN,rfl,AZ.out,HD1.out,Ac (H6 _ _),FV _⟩
   case round =>
    clear AZ;obtain⟨j,hj,rfl,hrow,hdr,HWJ,hz3⟩:=hrel;have AZ:=Ac hrow;by_cases hjt:j < n
    ·have t1:decide ((j:Int) < (n:Int))=true:=Mc EN;have hjl:=afC L at0 hj;have HJS:=Ac (afB L at0 hjt);have HNX:=Ac (show(fJ L at0 (j+1)).2=dR L (fJ L at0 j).2 from rfl);obtain⟨aj,haj⟩:=FH ((fJ L at0 j).2);rw[<-haj] at HJS HNX hdr;clear hrow haj;have HLJ:=Ac (HL.out.on ((HW1.out.same λb hb e=>hF (e▸hb.1)).trans (HWJ.out.same λb hb e=>e.elim (λe=>hF (e▸hb.1)) λe=>by have:=hb.2; omega)));have HDR:=Ac hdr;clear hdr;go_wp2_with (go_at_call 36; (with_reducible refine(next_any wr _ db A c L aj 4 HDR.out HLJ.out hF1 aA aA hl).mono ?_); rintro e w2 ⟨rfl,hr2,hw2⟩; have HR2:=Ac hr2; have Dj:=Ac (AZ.out.wrote hw2 (λe=>hdlb e.symm)); have HWJ2:=Ac (HWJ.out.step hw2 λi _ e=>.inl e); have hz4:=Gf hz3 hw2.size; clear hr2 hw2; have ff:=Dj.out.frozen j; obtain⟨vq,y0⟩:∃ v,w2.cell? ⟨lb,j,none⟩=some v:=⟨_,Dj.out.cell (i:=j) (v:=F6 F5 ((jZ L at0 n j).getD j 0)) (by rw[Gi,FU,List.getElem?_eq_getElem EN]; rfl)⟩)
     obtain⟨w3,hw3⟩:=FH (w2.setCell ⟨lb,j,none⟩ (F6 F5 (dY L aj 4)));rw[<-hw3];have HR3:=Ac (HR2.out.wrote (K:=λb=>b=lb) (hw3▸Wrote.setCell (K:=λb=>b=lb) (p:=⟨lb,j,none⟩) (H6 _ _) (.inl rfl) _) (λe=>hdlb e));have Fv:=Ac (show Row w3 lb 3 ((jZ L at0 n (j+1)).map (Value.int .i64)) by rw[hw3,<-HJS.out,List.map_set]; exact Dj.out.set j _);have HWJ3:=Ac (show Wrote (λb=>b=db\/b=lb) w1 w3 from hw3▸HWJ2.out.setCell (p:=⟨lb,j,none⟩) (.inl (.inr rfl)) _);have hz5:w1.heap.size<=w3.heap.size:=HWJ3.out.size;clear hw3 ff y0 Dj HWJ2 HR2 AZ HDR HLJ HWJ;go_roundw
     case rel=>exact⟨j+1,EN,by go_num,Fv.out,by rw[HNX.out]; exact HR3.out,HWJ3,hz5⟩
     case measure=>simp[intOf]; omega
    ·have hje:j=n:=EN;subst hje;have t1:decide ((j:Int) < (j:Int))=false:=L9 EN;clear hrow;obtain⟨rl,hrl⟩:=FH ((fJ L at0 j).1);have hrll:rl.length=j:=by rw[hrl];exact jM L at0 j
     have HRL:=Ac (show ∀ x∈rl,0<=x/\x<=1000 from λx hx=>by rw[hrl] at hx; have:=vF L at0 j x hx; omega);have HIT:=Ac (show Aj wr (λb=>b=lb) (FQ (some ⟨lb,0,none⟩) rl.length j) rl from by
      have h:=AZ.out;rw[adI,<-hrl] at h;have h2:=h.qB (F:=λb=>b=lb) rfl;rw[hrll] at h2 ⊢;exact h2)
     have HRH:=Ac hrl;rw[hrll] at HIT;have HO2:=Ac ((HO1.out.wrote HWJ.out λb hb e=>by
      have h1:w.heap.size<=b/\b < lb:=hb.elim id λe=>by have:=HOL.out b e;omega
      rcases e with e | e <;> omega).widen (G:=λb=>w.heap.size<=b) λb hb _=>hb.1)
     have HDR:=Ac hdr;have HWT:=Ac (HW1.out.step HWJ.out λi hi e=>e.elim id λe=>by omega);have RX2:=Ac (RX1.out.wrote HWJ.out λe=>by rcases e with e | e <;> omega);have hllb:LL.length<=1000000:=by rw[HLL.out.1];omega
     clear hdr hrl AZ HO1 HO0 HWJ HW1 RX1 HD1;go_wp2_with (first | (go_at_call 38; (with_reducible refine(afA wr _ _ rl HIT.out EN HRL.out).mono ?_); rintro e w4 ⟨u,rfl,hb4,hu⟩; have hu':=hu; obtain⟨Aw,cw,rfl,_⟩:=hu; rw[FX] at hu' ⊢; have HU:=Ac hu'; clear hu'; have HO4:=Ac (HO2.out.below hb4); have HD4:=Ac (HDR.out.below hb4 HDR.out.lt); have HW4:=Ac (HWT.out.trans (Iq hb4 _)); have RX4:=Ac (RX2.out.below hb4 RX2.out.lt); have hz6:=Gf hz3 hb4.size; have hz7:wr.heap.size<=w4.heap.size:=hb4.size; clear hb4) | (at_builtin; go_loud (refine kY (K:=lV) (F:=λb=>w.heap.size<=b) (w:=w4) (W:=w4) rfl _ _ 30 38 24 _ Tryz.underlying30 Tryz.infoRowsK rfl aA rfl (w.heap.size+1) EN u5 LL rfl (FQ Aw (fP rl).length cw,(fP rl).map au) _ rfl hllb rfl HO4.out (IB HU.out (λb hb _=>⟨EN,λe=>by have:=HOL.out b e; omega⟩) (Gh _ _)) ?_; intro g2 cap2 wq hown hwq hat aiI; have HO5:=Ac hown; have HD5:=Ac (HD4.out.wrote hwq λe=>by have:=HOL.out _ e; have:=HDL.out; omega); have HW5:=Ac (HW4.out.step hwq λi hi e=>by have:=HOL.out _ e; omega); have RX5:=Ac (RX4.out.wrote hwq λe=>by have:=HOL.out _ e; omega); have hz8:=Gf hz6 hwq.size; clear hown hwq hat aiI)))
     go_roundw
     case rel=>exact⟨k+1,LL ++ [(FQ Aw (fP rl).length cw,(fP rl).map au)],EN,by go_num,Ac ⟨by rw[Gn,HLL.out.1]; rfl,by rw[HSK.out,GL,HLL.out.2,GL,HRH.out]; rfl⟩,HO5.out,by rw[HSK.out]; exact HD5.out,HW5,RX5.out,EN⟩
     case measure=>simp[intOf]; omega
  ·have hke:k=g.Fh.length:=EN;subst hke;have t0:decide (g.Fh.length < g.Fh.length)=false:=L9 EN;go_wp2
   go_ret;exact⟨_,_,rfl,HO.out,HLL.out.2,HW.out⟩
def yC (g:Gm) (rs:List Rat) (k:Nat):Bool:=match g.Fg[k]?,rs[k]? with
 | some n,some r=>(n.kind==3) && !(decide (r=0))
 | _,_=>false
def jI (g:Gm) (rs:List Rat):Nat->List (Int×Rat)
 | 0=>[]
 | k+1=>jI g rs k++(if yC g rs k then [((k:Int),rs.getD k 0)] else [])
def aoy (l:List (Int×Rat)):List (Int×Raw):=l.map λx=>(x.1,au x.2)
def aby (g:Gm) (rs:List Rat):Int:=if (jI g rs g.Fg.length).any (λx=>decide (1024 < rl x.2)) then 5 else 0
def ag5 (g:Gm) (rs:List Rat):List (Int×Raw):=if aby g rs≠0 then [] else aoy (jI g rs g.Fg.length)
theorem abz {g:Gm} (h:yC g rs k=false):jI g rs (k+1)=jI g rs k:=by
 rw[jI,h];simp
theorem zl {g:Gm} (hr:rs[k]? = some r) (h:yC g rs k=true):jI g rs (k+1)=jI g rs k ++ [((k:Int),r)]:=by
 rw[jI,h,FU,hr];rfl
theorem ag6 {g:Gm} {x:Int×Rat} (h:x∈jI g rs k):∀ j,k<=j->x∈jI g rs j:=by
 intro j hj;induction j with
 | zero =>
  have:k=0:=EN;subst this;exact h
 | succ j ih =>
  by_cases e:k=j+1
  ·subst e;exact h
  ·rw[jI];exact List.mem_append_left _ (ih EN)
theorem amx {g:Gm} (hk:k < g.Fg.length) (hr:rs[k]? = some r) (h:yC g rs k=true) (ho:iE r=5):aby g rs=5:=by
 have hlt:1024 < rl r:=by
  unfold iE at ho;split at ho
  ·assumption
  ·simp at ho
 unfold aby;rw[L8 (List.any_eq_true.2 ⟨((k:Int),r),ag6 (k:=k+1) (by rw[zl hr h]; simp) _ hk,Mc hlt⟩)]
theorem akO {g:Gm} (h:(jI g rs k).any (λx=>decide (1024 < rl x.2))=false) (hk:g.Fg.length=k):aby g rs=0:=by
 unfold aby;rw[hk,h];rfl
theorem anv {g:Gm} {n:Nd} (hn:g.Fg[k]? = some n) (h:n.kind≠3):yC g rs k=false:=by
 unfold yC;rw[hn];cases rs[k]? with
 | none=>rfl
 | some r=>simp[h]
theorem akP {g:Gm} (h:rs[k]? = some 0):yC g rs k=false:=by
 unfold yC;cases g.Fg[k]? with
 | none=>rfl
 | some n=>rw[h]; simp
theorem amy {g:Gm} {n:Nd} (hn:g.Fg[k]? = some n) (hr:rs[k]? = some r) (h:n.kind=3) (h0:r≠0):yC g rs k=true:=by
 unfold yC;rw[hn,hr];simp[h,h0]
theorem amz {l:List (Int×Rat)} {x:Int×Rat} (h:l.any (λx=>decide (1024 < rl x.2))=false) (hx:¬ 1024 < rl x.2):(l ++ [x]).any (λx=>decide (1024 < rl x.2))=false:=by
 rw[List.any_append,h];simp[hx]
def Ei (F:FI) (B:Nat) (e:Int) (l:List (Int×Raw)) (u:F7) (w':FW):Prop:=∃ t,u = .tuple #[t,F6 F5 e]/\AO w' (Ext F B) t l
theorem Tryz.infoLine:(Tryz.prog.info? 73).map (λi=>(i.zero,i.size,i.bytes))=some (some (.agg #[F6 F5 0,Gj false,FQ none 0 0,FQ none 0 0]),aaD.n,64):=ak
theorem akQ (w:FW) (F:FI) (vg vm:F7) (g:Gm) (m:List (List Rat)) (hg:AA w F vg g) (hsm:Small g) (hm:Ak w F vm m) (hT:Bd w) (hlm:m.length<=100000) (hb:AX (m.map (GK au))) (h0:fH g (m.map (GK au))=0) (hf:Fit g m) :
  Calls FY 33 #[vg,vm] w (Ret w (Ei F w.heap.size (aby g (jX bH g m)) (ag5 g (jX bH g m)))):=by
 refine zbj ?_;intro HG HM HS HT HBB HE0;have hn100:=hsm.Fg;obtain⟨vn,vi,rfl,⟨A,c,rfl,hc,hN⟩,⟨Ai,ci,rfl,hci,_⟩⟩:=hg;have HFT:=Ac hf;have hpos:0 < g.Fg.length:=hf.good.pos;obtain⟨b,q,rfl,hFb,hbl,hcell⟩:=hN hpos;have HC:=Ac hcell;clear hm hsm hT hb hf h0 hN hcell;have HRL:=Ac (oU (cnt:=bH) HFT.out uh);obtain⟨rs,hrs⟩:=FH (jX bH g m);have HRS:=Ac hrs;rw[<-hrs] at HRL ⊢;have hvl:g.Fg.length<=rs.length:=by rw[hrs];simp
 have hvl2:rs.length<=g.Fg.length:=by rw[hrs];simp
 clear hrs;go_in;go_wp2_with fail
 refine zb8 ?_;intro W hW rx hB hz;refine Yi ?_;clear hW HG HM HT;intro hz2 HG HM HT;intro x0 x1 x2;clear rx;go_wp2_with fail
 refine YZ ?_;rintro e w1 ⟨u,rfl,hb1,bp,up,place,vn',vi',vu',vp',rfl,hpl',zh⟩;replace x1:=ah x1 hb1;refine zbJ ?_;intro hB1 hz3 HP Dq;clear hpl' zh hb1 hB x0 x2;dsimp only;go_wp2_with fail
 refine zbz ?_;rintro e w2 ⟨u,rfl,hb2,⟨b2,rfl⟩,hu⟩;rw[show(List.range g.Fg.length).map (dD bH g.Fg m)=rs from HRS.out.symm] at hu;replace x1:=ah x1 hb2;have hB2:=hB1.trans (hb2.mono hB1.size);have hz4:=hb2.size;have HU:=Ac hu;clear hu hb2 hB1;dsimp only;go_wp2_with fail
 go_loopw [8,25] (λacc i wr=>∃ (k:Nat) (L:List (Int×RV)),k<=g.Fg.length/\i = F6 F5 (k:Int)/\L.length<=k/\L.map (λq=>(q.1,q.2.r))=aoy (jI g rs k)/\(jI g rs k).any (λx=>decide (1024 < rl x.2))=false/\OwnSl aaD wr w2.heap.size 73 (λb=>w2.heap.size<=b) acc L/\Below w2.heap.size w2 wr) (λ_ i _=>g.Fg.length - (intOf i).toNat)
 case atStart=>exact⟨0,[],EN,rfl,FV _,rfl,rfl,OwnSl.nil _ _ _ _ _,F9 _ _⟩
 case round =>
  obtain⟨k,L,hk,rfl,hLl,hLr,hany,hown,hbel⟩:=hrel;have HO:=Ac hown;have HL:=Ac hLr;have HA:=Ac hany;clear hown hLr hany;by_cases hlt:k < g.Fg.length
  ·obtain⟨r,hr⟩:=FC (l:=rs) (k:=k) EN;obtain⟨n,hni⟩:=FC hlt;obtain⟨bb,o,cc,vn3,vd3,e1,hF1,hlt1,r0,r1,r2,i1,i2⟩:=FK.at (r:=aB r) HU.out (by rw[Gi,hr]; rfl);injection e1 with e11 e12 e13
   injection e11 with e11
   injection e11 with e14 e15
   subst e14 e15;clear e12 e13;rw[Nat.zero_add] at r0 r1 r2;have hfin:(⟨aB r,vn3,vd3⟩:RV).fine wr (Ext (Ext F W.heap.size) w1.heap.size):=RV.fine.keep ⟨i1,i2⟩ (λ_ h _=>h) (FZ hbel _);obtain⟨An,cn,rfl,_,_⟩:=i1;obtain⟨Ad,cd,rfl,_,_⟩:=i2;have hne:=HC.out k n hni;have n0:=hne.c0;have n1:=hne.c1;have n2:=hne.c2;obtain⟨v3,n3,h3⟩:=hne.c3;obtain⟨v4,n4,h4⟩:=hne.c4;obtain⟨v5,n5,h5⟩:=hne.c5;have hB3:=hB2.trans (hbel.mono hB2.size);have HNV:=Ac ((show Bf w F _ n from⟨v3,v4,v5,rfl,h3,h4,h5⟩).on (FZ hB3 F));obtain⟨A3,c3,rfl,_,_⟩:=h3;obtain⟨A4,c4,rfl,_,_⟩:=h4;obtain⟨A5,c5,rfl,_,_⟩:=h5;replace n0:=ah n0 hB3;replace n1:=ah n1 hB3;replace n2:=ah n2 hB3;replace n3:=ah n3 hB3;replace n4:=ah n4 hB3;replace n5:=ah n5 hB3;have y1:=ah x1 hbel;replace r0:=ah r0 hbel;replace r1:=ah r1 hbel;replace r2:=ah r2 hbel;have hR:=HRL.out r (FT hr);have HK:=Ac hr;have HX:=Ac hni;have hz:=hbel.size;have HF3:=Ac hfin;clear hr hni hne hfin x1;go_upto_region 8 with(fail)
   obtain⟨W3,hW3,rb,hb3,hz5⟩:=aJ wr 114 #[Gj (aB r).neg,FQ An (aB r).num.length cn,FQ Ad (aB r).den.length cd];rw[<-hW3];clear hW3 r0 r1 r2;have fQ:=hbel.trans (hb3.mono hbel.size);replace HNV:=Ac (HNV.out.on (FZ hb3 F));replace HF3:=Ac (HF3.out.below hb3);replace HO:=Ac (HO.out.below hb3);replace n0:=ah n0 hb3;replace n1:=ah n1 hb3;replace n2:=ah n2 hb3;replace n3:=ah n3 hb3;replace n4:=ah n4 hb3;replace n5:=ah n5 hb3;replace y1:=ah y1 hb3;have r0:=rb.cell (i:=0) rfl;have r1:=rb.cell (i:=1) rfl;have r2:=rb.cell (i:=2) rfl;clear rb hbel hB3 hb3;by_cases hk3:n.kind=3
   case neg =>
    have HI:=Ac (show bH n=true by unfold bH; simpa using hk3);have HKP:=Ac (abz (rs:=rs) (anv HX.out hk3));clear hk3;go_wp2_with fail
    refine(uf W3 F _ n HNV.out).mono ?_;rintro e w4 ⟨u,rfl,hb4,rfl⟩;rw[HI.out];replace HO:=Ac (HO.out.below hb4);replace fQ:=fQ.trans (hb4.mono fQ.size);clear hb4 r0 r1 r2 y1 n0 n1 n2 n3 n4 n5 HNV HF3 HI;dsimp only;go_wp2_with fail
    go_roundw
    case rel=>exact⟨k+1,L,EN,by go_num,EN,by rw[HKP.out]; exact HL.out,by rw[HKP.out]; exact HA.out,HO.out,fQ⟩
    case measure=>simp[intOf]; omega
   have HI:=Ac (show bH n=false by unfold bH; simp[hk3]);have HK3:=Ac hk3;clear hk3;go_wp2_with fail
   refine(uf W3 F _ n HNV.out).mono ?_;rintro e w4 ⟨u,rfl,hb4,rfl⟩;rw[HI.out];replace HO:=Ac (HO.out.below hb4);replace HF3:=Ac (HF3.out.below hb4);replace r0:=ah r0 hb4;replace r1:=ah r1 hb4;replace r2:=ah r2 hb4;replace fQ:=fQ.trans (hb4.mono fQ.size);clear hb4 y1 n0 n1 n2 n3 n4 n5 HNV HI;dsimp only;go_wp2_with fail
   refine(iU w4 _ _ r (Ah.make (r:=aB r) rfl HF3.out.1 HF3.out.2)).mono ?_;rintro e w5 ⟨u,rfl,hb5,rfl⟩;replace HO:=Ac (HO.out.below hb5);replace HF3:=Ac (HF3.out.below hb5);replace r0:=ah r0 hb5;replace r1:=ah r1 hb5;replace r2:=ah r2 hb5;replace fQ:=fQ.trans (hb5.mono fQ.size);clear hb5;by_cases hr0:r=0
   case pos =>
    have HKP:=Ac (abz (g:=g) (rs:=rs) (k:=k) (akP (by rw[<-hr0]; exact HK.out)));rw[Mc hr0];clear r0 r1 r2 HF3 hr0;dsimp only;go_wp2_with fail
    go_roundw
    case rel=>exact⟨k+1,L,EN,by go_num,EN,by rw[HKP.out]; exact HL.out,by rw[HKP.out]; exact HA.out,HO.out,fQ⟩
    case measure=>simp[intOf]; omega
   rw[L9 hr0];have HKB:=Ac (amy HX.out HK.out HK3.out hr0);obtain⟨oe,hoe⟩:=FH (iE r);have hcs:oe=0\/oe=5:=by rw[hoe];exact aje
   have HOE:=Ac hoe;obtain⟨ro,hro⟩:=FH (bV r);have HRO:=Ac hro;clear hoe hro hr0;dsimp only;go_wp2_with fail
   refine(agq w5 _ _ r (Ah.make (r:=aB r) rfl HF3.out.1 HF3.out.2) EN).mono ?_;rintro e w6 ⟨u,rfl,hb6,t,rfl,ht⟩;rw[<-HOE.out];rw[<-HRO.out] at ht;have hz6:=fQ.size;have HUB:=Ac HO.out.row.lt;replace HO:=Ac (HO.out.below hb6);have amA:=fQ.trans (hb6.mono fQ.size);have ht2:=Ah.mono (G:=Apart (λb=>w2.heap.size<=b) u8) ht (λb hb _=>⟨EN,λe=>by have:=(HUB.out b e).2; omega⟩);obtain⟨vn6,vd6,rfl,f1,f2⟩:=ht2;have HQ:=Ac (show aaD.fine w6 (Apart (λb=>w2.heap.size<=b) u8) ((k:Int),⟨ro,vn6,vd6⟩) from⟨f1,f2⟩);obtain⟨A6,c6,rfl,_,_⟩:=f1;obtain⟨A7,c7,rfl,_,_⟩:=f2;clear ht r0 r1 r2 HF3 fQ hb6;dsimp only;go_upto_region 10 with(fail)
   obtain⟨W7,hW7,rb,hb7,hz7⟩:=aJ w6 42 #[Gj ro.neg,FQ A6 ro.num.length c6,FQ A7 ro.den.length c7];rw[<-hW7];clear hW7;have anN:=amA.trans (hb7.mono amA.size);replace HO:=Ac (HO.out.below hb7);replace HQ:=Ac (aaD.keep HQ.out (λ_ h _=>h) (FZ hb7 _));have r0:=rb.cell (i:=0) rfl;have r1:=rb.cell (i:=1) rfl;have r2:=rb.cell (i:=2) rfl;clear rb amA hb7;rcases hcs with rfl | rfl
   ·have hno:¬ 1024 < rl r:=λh=>by have:=HOE.out;unfold iE at this;rw[L8 h] at this;simp at this
    have HRE:=Ac (show ro=au r by rw[HRO.out]; unfold bV; rw[L6 hno]);have HNO:=Ac hno;clear hno;go_wp2_with (at_builtin; refine iH (K:=aaD) (F:=λb=>w2.heap.size<=b) rfl _ _ 68 73 64 _ Tryz.underlying68 Tryz.infoLine rfl aA rfl w2.heap.size (FV _) u8 L rfl ((k:Int),⟨ro,FQ A6 ro.num.length c6,FQ A7 ro.den.length c7⟩) _ rfl EN rfl HO.out HQ.out anN ?_; intro g' cap w' hown' aZ hlt' _; have HO':=Ac hown')
    go_roundw
    case rel =>
     refine⟨k+1,L ++ [((k:Int),⟨ro,FQ A6 ro.num.length c6,FQ A7 ro.den.length c7⟩)],EN,by go_num,by rw[Gn]; simp; omega,?_,?_,HO'.out,aZ⟩
     ·rw[zl HK.out HKB.out,GL,HL.out];unfold aoy;rw[GL,Hr,Jp,Hr,Jp,HRE.out]
     ·rw[zl HK.out HKB.out];exact amz HA.out HNO.out
    case measure=>simp[intOf]; omega
   ·have HEV:=Ac (amx hlt HK.out HKB.out HOE.out.symm);clear HOE HRO r0 r1 r2;go_wp2
    go_ret2;refine⟨_,rfl,hB2.trans (anN.mono EN),_,by rw[HEV.out]; rfl,?_⟩;unfold ag5;rw[HEV.out,L8 aA];exact AO.nil _ _
  ·have HEV:=Ac (akO HA.out EN);go_wp2
   go_ret2;refine⟨_,rfl,hB2.trans (hbel.mono EN),_,by rw[HEV.out]; rfl,?_⟩;unfold ag5;rw[HEV.out,L6 aA];have h5:=HO.out.lines (G:=Ext F w.heap.size) (λb hb=>.inr EN) (λb hb=>.inr EN);rw[HL.out,show k=g.Fg.length by omega] at h5;exact h5
def sU:List (List Rat):=[[0,1].map λx=>mkRat x 1,[0,1].map λx=>mkRat x 1,[0,0,1].map λx=>mkRat x 1]
def aey:List (List Raw):=[[⟨false,[],[1]⟩,⟨false,[1],[1]⟩],[⟨false,[],[1]⟩,⟨false,[1],[1]⟩],[⟨false,[],[1]⟩,⟨false,[],[1]⟩,⟨false,[1],[1]⟩]]
theorem anw:au (mkRat 0 1)=⟨false,[],[1]⟩:=by
 have h:=nJ false 0 1 aA;rw[show Gv 0 1=1 by decide,JK,JK,iL,bD] at h;exact h
theorem aez:au (mkRat 1 1)=⟨false,[1],[1]⟩:=by
 have h:=nJ false 1 1 aA;rw[show Gv 1 1=1 by decide,JK,iL] at h;exact h
theorem xO:sU.map (GK au)=aey:=by
 unfold sU aey;simp only[Hr,Jp,anw,aez]
theorem zn:fH bZ aey=0:=by decide +kernel
theorem aiO:Cm aey:=by
 intro l hl r hr;unfold aey at hl;simp only[Il,Ho,or_false] at hl;rcases hl with rfl | rfl | rfl <;> (simp only[Il,Ho,or_false] at hr; rcases hr with rfl | rfl | rfl <;> decide)
theorem aeA:AX (sU.map (GK au)):=by
 rw[xO];intro l hl;unfold aey at hl;simp only[Il,Ho,or_false] at hl;rcases hl with rfl | rfl | rfl
 all_goals
  refine⟨aA,λr hr=>?_⟩;simp only[Il,Ho,or_false] at hr;rcases hr with rfl | rfl | rfl
 all_goals exact⟨by unfold U32; decide,aA,aA⟩
theorem ac9:Fit bZ sU:=by
 obtain⟨m,h,hf,_⟩:=acK zn aiO;have e:m=sU:=aal (by rw[<-h,xO]);rw[<-e];exact hf
theorem zo:dG bZ sU 0 = [3,-3].map λx=>mkRat x 1:=by decide +kernel
theorem ada:jI bZ (jX bH bZ sU) 8 = [(7,mkRat 1 1)]:=by decide +kernel
theorem adb:jX (ownB 0) bZ nK = [6,3,3,3,3,1,1,1].map λx=>mkRat x 6:=by decide +kernel
theorem wX:jX (jW 0) bZ nK = [2,2,2,1,1,1,1,1].map λx=>mkRat x 2:=by decide +kernel
theorem aaZ:bZ.Fg.length=8:=rfl
theorem afD:∀ x∈[6,3,3,3,3,1,1,1].map (λx:Int=>mkRat x 6),rl x<=1024:=by
 rw[<-adb];intro x hx;have h:=oU qj (afv 0) x hx;have e:=aaZ;omega
theorem xP:∀ x∈[2,2,2,1,1,1,1,1].map (λx:Int=>mkRat x 2),rl x<=1024:=by
 rw[<-wX];intro x hx;have h:=oU qj (y9 0) x hx;have e:=aaZ;omega
theorem abW:∀ x∈[3,-3].map (λx:Int=>mkRat x 1),rl x<=1024:=by
 rw[<-zo];intro x hx;have h:=ac9.acw (i:=0) aA x hx;have e:=aaZ;omega
theorem ade:aby bZ (jX bH bZ sU)=0:=by
 unfold aby;rw[show bZ.Fg.length=8 from rfl,ada];have:rl (mkRat 1 1)<=1024:=by unfold rl;decide +kernel
 simp;omega
theorem aiP:ag5 bZ (jX bH bZ sU) = [(7,au (mkRat 1 1))]:=by
 unfold ag5;rw[ade,L6 aA,show bZ.Fg.length=8 from rfl,ada];rfl
theorem akR (w:FW) (F:FI) (vg vm:F7) (hg:AA w F vg bZ) (hm:Ak w F vm nK) (hT:Bd w) :
  Calls FY 29 #[vg,vm,F6 F5 0] w (Ret w λu w'=>∃ t,u = .tuple #[t,F6 F5 0]/\BD w' (Ext F w.heap.size) t ([6,3,3,3,3,1,1,1].map λx=>mkRat x 6)):=by
 refine(ant w F vg vm bZ nK 0 hg lD hm hT aA uj (by rw[oV]; exact oW) qj aA aA).mono ?_;rintro e w' ⟨u,rfl,hb,t,rfl,ht⟩;rw[adb] at ht;rw[adb,oh afD];refine⟨_,rfl,hb,t,rfl,?_⟩;unfold fitsV at ht;rw[oh afD] at ht;exact ht
theorem afE (w:FW) (F:FI) (vg vm:F7) (hg:AA w F vg bZ) (hm:Ak w F vm nK) (hT:Bd w) :
  Calls FY 31 #[vg,vm,F6 F5 0] w (Ret w λu w'=>∃ t,u = .tuple #[t,F6 F5 0]/\BD w' (Ext F w.heap.size) t ([2,2,2,1,1,1,1,1].map λx=>mkRat x 2)):=by
 refine(aiM w F vg vm bZ nK 0 hg lD hm hT aA uj (by rw[oV]; exact oW) qj aA aA).mono ?_;rintro e w' ⟨u,rfl,hb,t,rfl,ht⟩;rw[wX] at ht;rw[wX,oh xP];refine⟨_,rfl,hb,t,rfl,?_⟩;unfold fitsV at ht;rw[oh xP] at ht;exact ht
theorem aiQ (w:FW) (F:FI) (vg vm:F7) (hg:AA w F vg bZ) (hm:Ak w F vm sU) (hT:Bd w) :
  Calls FY 12 #[vg,vm] w (Ret w λu w'=>∃ t,u = .tuple #[t,F6 F5 0]/\BD w' (Ext F w.heap.size) t ([3,-3].map λx=>mkRat x 1)):=by
 refine(qV w F vg vm bZ sU hg lD hm hT aA aeA (by rw[xO]; exact zn) ac9).mono ?_;rintro e w' ⟨u,rfl,hb,t,rfl,ht⟩;rw[zo] at ht;rw[zo,oh abW];refine⟨_,rfl,hb,t,rfl,?_⟩;unfold fitsV at ht;rw[oh abW] at ht;exact ht
theorem aiR (w:FW) (F:FI) (vg vm:F7) (hg:AA w F vg bZ) (hm:Ak w F vm sU) (hT:Bd w) :
  Calls FY 33 #[vg,vm] w (Ret w λu w'=>∃ t,u = .tuple #[t,F6 F5 0]/\AO w' (Ext F w.heap.size) t [(7,au (mkRat 1 1))]):=by
 refine(akQ w F vg vm bZ sU hg lD hm hT aA aeA (by rw[xO]; exact zn) ac9).mono ?_;rintro e w' ⟨u,rfl,hb,t,rfl,ht⟩;rw[aiP] at ht;rw[ade];exact⟨_,rfl,hb,t,rfl,ht⟩
theorem anx (w:FW) (F:FI) (vg vm:F7) (hg:AA w F vg bZ) (hm:Ak w F vm nK) (hT:Bd w) :
  Calls FY 29 #[vg,vm,F6 F5 2] w (Ret w λu _=>u = .tuple #[FQ none 0 0,F6 F5 2]) :=
 amv w F vg vm bZ nK 2 hg lD hm hT aA uj (by rw[oV]; exact oW) (.inr aA)
open List renaming getElem_toArray → lq1, getElem_cons_zero → lq2, getElem_cons_succ → lq3, setIfInBounds_toArray → lq4, set_cons_zero → lq5, set_cons_succ → lq6
theorem aoz {w:FW} {F:FI} {b:Nat} {n:Int} {q:RV} (h:Row w b 73 [F6 F5 n,Gj q.r.neg,q.vn,q.vd]) (hF:F b) (hq:q.fine w F):AO w F (FQ (some ⟨b,0,none⟩) 1 1) [(n,q.r)]:=by
 refine⟨_,_,rfl,FV _,λ_=>⟨b,0,rfl,hF,h.lt,λk x hk=>?_⟩⟩;match k,hk with
 | 0,hk=>cases hk; exact⟨h.cell (i:=0) rfl,h.cell (i:=1) rfl,⟨_,h.cell (i:=2) rfl,hq.1⟩,⟨_,h.cell (i:=3) rfl,hq.2⟩⟩
theorem aeB:CB [(7,au (mkRat 1 1))]:=by
 refine⟨aA,λr hr=>?_⟩;rw[List.mem_singleton.1 hr,aez];decide
theorem akS (w:FW) (hT:Bd w):Calls FY 6 #[] w (Ret w λv _=>v = Gj true):=by
 have HT:=Ac hT;clear hT;go_in;have hB:=F9 w.heap.size w;go_wp2_with fail
 refine(yJ w).mono ?_;rintro e wg ⟨vg,rfl,hb,hu⟩;refine Zm ?_;clear HT hB;intro HT hB;have HG:=Ac (hu.keep (G:=(λ_=>True)) (λ_ _ _=>trivial) (Gh _ _));obtain⟨vn,vi,rfl,⟨A,c,rfl,_,_⟩,⟨Ai,ci,rfl,_,_⟩⟩:=hu;clear hb;dsimp only;go_upto_region 2 with(fail)
 obtain⟨Wb,hWb,rx,hb,hz⟩:=aJ wg 27 #[F6 F5 bZ.ay,FQ A bZ.Fg.length c,FQ Ai bZ.Fh.length ci];rw[<-hWb];clear hWb;obtain⟨gb,hgb⟩:=FH wg.heap.size;rw[<-hgb] at rx ⊢;replace HG:=Ac (HG.out.on (FZ hb _));refine Zm ?_;clear HT hB;intro HT hB;refine Zd ?_;intro x0 x1 x2;clear rx hb hz hgb;refine Yz ?_;intro hHeld;have hb:Below Wb.heap.size Wb Wb.drew:=aI (F9 _ Wb) 1;refine Zg ?_;clear x0 x1 x2 HG;intro x0 x1 x2 HG;refine Zm ?_;clear HT hB;intro HT hB;clear hb;generalize Wb.drew=wd1 at *;refine tkm [0] ?_;refine tk2 1 ak rfl λK hK=>?_
 go_simp;refine(wI wd1).mono ?_;rintro e we1 ⟨vm,rfl,hb,hu⟩;refine Zg ?_;clear x0 x1 x2 HG;intro x0 x1 x2 HG;refine Zm ?_;clear HT hB;intro HT hB;refine zbm ?_;intro HM;obtain⟨Am,cm,rfl,_,_⟩:=hu;refine zdP ?_;clear hb hHeld hK K;intro hHeld;refine tk2 2 ak rfl λK hK=>?_
 go_simp;refine(akR we1 (λ_=>True) _ _ HG.out HM.out HT.out).mono ?_;rintro e wf1 ⟨u,rfl,hb,t,rfl,hu⟩;refine Zg ?_;clear x0 x1 x2 HG;intro x0 x1 x2 HG;refine Zm ?_;clear HT hB;intro HT hB;have RO:=Ac (IB (G:=(λ_=>True)) hu (λ_ _ _=>trivial) (Gh _ _));obtain⟨ARO,cRO,rfl,_,_⟩:=hu;refine zdP ?_;clear hb hHeld hK K;intro hHeld;refine tkm [3,4,5,6,7] ?_;refine Yf ?_;clear hHeld HM;go_wp2_with fail
 refine Yz ?_;intro hHeld;have hb:Below wf1.heap.size wf1 wf1.drew:=aI (F9 _ wf1) 1;refine zcd ?_;clear x0 x1 x2 HG RO;intro x0 x1 x2 HG RO;refine Zm ?_;clear HT hB;intro HT hB;clear hb;generalize wf1.drew=wd2 at *;refine tkm [0] ?_;refine tk2 1 ak rfl λK hK=>?_
 go_simp;refine(wI wd2).mono ?_;rintro e we2 ⟨vm,rfl,hb,hu⟩;refine zcd ?_;clear x0 x1 x2 HG RO;intro x0 x1 x2 HG RO;refine Zm ?_;clear HT hB;intro HT hB;refine zbm ?_;intro HM;obtain⟨Am,cm,rfl,_,_⟩:=hu;refine zdP ?_;clear hb hHeld hK K;intro hHeld;refine tk2 2 ak rfl λK hK=>?_
 go_simp;refine(afE we2 (λ_=>True) _ _ HG.out HM.out HT.out).mono ?_;rintro e wf2 ⟨u,rfl,hb,t,rfl,hu⟩;refine zcd ?_;clear x0 x1 x2 HG RO;intro x0 x1 x2 HG RO;refine Zm ?_;clear HT hB;intro HT hB;have RT:=Ac (IB (G:=(λ_=>True)) hu (λ_ _ _=>trivial) (Gh _ _));obtain⟨ART,cRT,rfl,_,_⟩:=hu;refine zdP ?_;clear hb hHeld hK K;intro hHeld;refine tkm [3,4,5,6,7] ?_;refine Yf ?_;clear hHeld HM;go_wp2_with fail
 obtain⟨wa3,hwa,hr,hb,hz'⟩:=aJ wf2 3 #[F6 F5 6,F6 F5 3,F6 F5 3,F6 F5 3,F6 F5 3,F6 F5 1,F6 F5 1,F6 F5 1];rw[<-hwa];have hi:=Row.qB (l:=[6,3,3,3,3,1,1,1]) (F:=λ_=>True) hr trivial;clear hwa hr hz';refine zcd ?_;clear x0 x1 x2 HG RO;intro x0 x1 x2 HG RO;refine zbs ?_;clear RT HT hB;intro RT HT hB;clear hb;refine(iy wa3 _ _ [6,3,3,3,3,1,1,1] 6 hi aA aA aA aA).mono ?_;rintro e wb3 ⟨v3,rfl,hb,hu⟩;refine zcd ?_;clear x0 x1 x2 HG RO;intro x0 x1 x2 HG RO;refine zbs ?_;clear RT HT hB;intro RT HT hB;have HU3:=Ac (IB (G:=(λ_=>True)) hu (λ_ _ _=>trivial) (Gh _ _));clear hu hb hi;dsimp only;go_wp2_with fail
 refine(nM wb3 (λ_=>True) _ _ _ _ RO.out HU3.out (lX afD aA) (lX afD aA)).mono ?_;rintro e wc3 ⟨u,rfl,hb,rfl⟩;rw[Mc rfl];refine zcd ?_;clear x0 x1 x2 HG RO;intro x0 x1 x2 HG RO;refine zbs ?_;clear RT HT hB;intro RT HT hB;clear hb HU3;dsimp only;go_wp2_with fail
 obtain⟨wa4,hwa,hr,hb,hz'⟩:=aJ wc3 3 #[F6 F5 2,F6 F5 2,F6 F5 2,F6 F5 1,F6 F5 1,F6 F5 1,F6 F5 1,F6 F5 1];rw[<-hwa];have hi:=Row.qB (l:=[2,2,2,1,1,1,1,1]) (F:=λ_=>True) hr trivial;clear hwa hr hz';refine Zg ?_;clear x0 x1 x2 HG;intro x0 x1 x2 HG;refine zbs ?_;clear RT HT hB;intro RT HT hB;clear hb;refine(iy wa4 _ _ [2,2,2,1,1,1,1,1] 2 hi aA aA aA aA).mono ?_;rintro e wb4 ⟨v4,rfl,hb,hu⟩;refine Zg ?_;clear x0 x1 x2 HG;intro x0 x1 x2 HG;refine zbs ?_;clear RT HT hB;intro RT HT hB;have HU4:=Ac (IB (G:=(λ_=>True)) hu (λ_ _ _=>trivial) (Gh _ _));clear hu hb hi;dsimp only;go_wp2_with fail
 refine(nM wb4 (λ_=>True) _ _ _ _ RT.out HU4.out (lX xP aA) (lX xP aA)).mono ?_;rintro e wc4 ⟨u,rfl,hb,rfl⟩;rw[Mc rfl];refine Zg ?_;clear x0 x1 x2 HG;intro x0 x1 x2 HG;refine zbs ?_;clear RT HT hB;intro RT HT hB;clear hb HU4;dsimp only;go_wp2_with fail
 obtain⟨wa5,hwa,hr,hb,hz'⟩:=aJ wc4 3 #[F6 F5 0,F6 F5 1];rw[<-hwa];have hi:=Row.qB (l:=[0,1]) (F:=λ_=>True) hr trivial;clear hwa hr hz';refine Zg ?_;clear x0 x1 x2 HG;intro x0 x1 x2 HG;refine Zm ?_;clear HT hB;intro HT hB;clear hb;refine(iy wa5 _ _ [0,1] 1 hi aA aA aA aA).mono ?_;rintro e wb5 ⟨v5,rfl,hb,hu⟩;refine Zg ?_;clear x0 x1 x2 HG;intro x0 x1 x2 HG;refine Zm ?_;clear HT hB;intro HT hB;have HU5:=Ac (IB (G:=(λ_=>True)) hu (λ_ _ _=>trivial) (Gh _ _));clear hu hb hi;dsimp only;go_wp2_with fail
 obtain⟨wa6,hwa,hr,hb,hz'⟩:=aJ wb5 3 #[F6 F5 0,F6 F5 1];rw[<-hwa];have hi:=Row.qB (l:=[0,1]) (F:=λ_=>True) hr trivial;clear hwa hr hz';refine zdT ?_;clear x0 x1 x2 HG HU5;intro x0 x1 x2 HG HU5;refine Zm ?_;clear HT hB;intro HT hB;clear hb;refine(iy wa6 _ _ [0,1] 1 hi aA aA aA aA).mono ?_;rintro e wb6 ⟨v6,rfl,hb,hu⟩;refine zdT ?_;clear x0 x1 x2 HG HU5;intro x0 x1 x2 HG HU5;refine Zm ?_;clear HT hB;intro HT hB;have HU6:=Ac (IB (G:=(λ_=>True)) hu (λ_ _ _=>trivial) (Gh _ _));clear hu hb hi;dsimp only;go_wp2_with fail
 obtain⟨wa7,hwa,hr,hb,hz'⟩:=aJ wb6 3 #[F6 F5 0,F6 F5 0,F6 F5 1];rw[<-hwa];have hi:=Row.qB (l:=[0,0,1]) (F:=λ_=>True) hr trivial;clear hwa hr hz';refine zdT ?_;clear x0 x1 x2 HG HU5;intro x0 x1 x2 HG HU5;replace HU6:=Ac (Ju HU6.out (FZ hb _));refine Zm ?_;clear HT hB;intro HT hB;clear hb;refine(iy wa7 _ _ [0,0,1] 1 hi aA aA aA aA).mono ?_;rintro e wb7 ⟨v7,rfl,hb,hu⟩;refine zdT ?_;clear x0 x1 x2 HG HU5;intro x0 x1 x2 HG HU5;replace HU6:=Ac (Ju HU6.out (FZ hb _));refine Zm ?_;clear HT hB;intro HT hB;have HU7:=Ac (IB (G:=(λ_=>True)) hu (λ_ _ _=>trivial) (Gh _ _));clear hu hb hi;dsimp only;have c5:=HU5.out;have c6:=HU6.out;have c7:=HU7.out;obtain⟨A5,d5,rfl,_,_⟩:=c5;obtain⟨A6,d6,rfl,_,_⟩:=c6;obtain⟨A7,d7,rfl,_,_⟩:=c7;go_upto_region 6 with(fail)
 obtain⟨wp,hwp,hr,hb,hz'⟩:=aJ wb7 38 #[FQ A5 2 d5,FQ A6 2 d6,FQ A7 3 d7];rw[<-hwp];clear hwp;refine zdT ?_;clear x0 x1 x2 HG HU5;intro x0 x1 x2 HG HU5;replace HU6:=Ac (Ju HU6.out (FZ hb _));replace HU7:=Ac (Ju HU7.out (FZ hb _));refine Zm ?_;clear HT hB;intro HT hB;have HP:=Ac (show Ak wp (λ_=>True) (FQ (some ⟨wb7.heap.size,0,none⟩) 3 3) sU from anM hr trivial HU5.out HU6.out HU7.out);clear hr hb hz' HU5 HU6 HU7;go_wp2_with fail
 refine(aiQ wp (λ_=>True) _ _ HG.out HP.out HT.out).mono ?_;rintro e wv ⟨u,rfl,hb,t,rfl,hu⟩;refine Zg ?_;clear x0 x1 x2 HG;intro x0 x1 x2 HG;refine zdK ?_;clear HP;intro HP;refine Zm ?_;clear HT hB;intro HT hB;have RW:=Ac (IB (G:=(λ_=>True)) hu (λ_ _ _=>trivial) (Gh _ _));obtain⟨ARW,cRW,rfl,_,_⟩:=hu;clear hb;dsimp only;go_wp2_with fail
 refine(aiR wv (λ_=>True) _ _ HG.out HP.out HT.out).mono ?_;rintro e wl ⟨u,rfl,hb,t,rfl,hu⟩;refine Zg ?_;clear x0 x1 x2 HG;intro x0 x1 x2 HG;refine zdK ?_;clear HP;intro HP;replace RW:=Ac (Ju RW.out (FZ hb _));refine Zm ?_;clear HT hB;intro HT hB;have RL:=Ac (AO.keep (G:=(λ_=>True)) hu (λ_ _ _=>trivial) (Gh _ _));obtain⟨ARL,cRL,rfl,_,_⟩:=hu;clear hb;dsimp only;go_wp2_with fail
 refine Yz ?_;intro hHeld;have hb:Below wl.heap.size wl wl.drew:=aI (F9 _ wl) 1;refine ZH ?_;clear x0 x1 x2 HG HP RW RL HT hB;intro x0 x1 x2 HG HP RW RL HT hB;clear hb;generalize wl.drew=wd3 at *;refine tkm [0] ?_;refine tk2 1 ak rfl λK hK=>?_
 go_simp;refine(wI wd3).mono ?_;rintro e we3 ⟨vm,rfl,hb,hu⟩;refine ZH ?_;clear x0 x1 x2 HG HP RW RL HT hB;intro x0 x1 x2 HG HP RW RL HT hB;refine zbm ?_;intro HM;obtain⟨Am,cm,rfl,_,_⟩:=hu;refine zdP ?_;clear hb hHeld hK K;intro hHeld;refine tk2 2 ak rfl λK hK=>?_
 go_simp;refine(anx we3 (λ_=>True) _ _ HG.out HM.out HT.out).mono ?_;rintro e wf3 ⟨u,rfl,hb,rfl⟩;refine ZH ?_;clear x0 x1 x2 HG HP RW RL HT hB;intro x0 x1 x2 HG HP RW RL HT hB;refine zdP ?_;clear hb hHeld hK K;intro hHeld;refine tkm [3,4,5,6,7] ?_;refine Yf ?_;clear hHeld HM;go_wp2_with fail
 refine(ag4 wf3 HT.out).mono ?_;rintro e wk ⟨u,rfl,hb,rfl⟩;refine ZH ?_;clear x0 x1 x2 HG HP RW RL HT hB;intro x0 x1 x2 HG HP RW RL HT hB;clear hb;dsimp only;go_wp2_with fail
 obtain⟨wa8,hwa,hr,hb,hz'⟩:=aJ wk 3 #[F6 F5 3,F6 F5 (-3)];rw[<-hwa];have hi:=Row.qB (l:=[3,-3]) (F:=λ_=>True) hr trivial;clear hwa hr hz';refine ZH ?_;clear x0 x1 x2 HG HP RW RL HT hB;intro x0 x1 x2 HG HP RW RL HT hB;clear hb;refine(iy wa8 _ _ [3,-3] 1 hi aA aA aA aA).mono ?_;rintro e wb8 ⟨v8,rfl,hb,hu⟩;refine ZH ?_;clear x0 x1 x2 HG HP RW RL HT hB;intro x0 x1 x2 HG HP RW RL HT hB;have HU8:=Ac (IB (G:=(λ_=>True)) hu (λ_ _ _=>trivial) (Gh _ _));clear hu hb hi;dsimp only;go_wp2_with fail
 refine(nM wb8 (λ_=>True) _ _ _ _ RW.out HU8.out (lX abW aA) (lX abW aA)).mono ?_;rintro e wc8 ⟨u,rfl,hb,rfl⟩;rw[Mc rfl];refine ZH ?_;clear x0 x1 x2 HG HP RW RL HT hB;intro x0 x1 x2 HG HP RW RL HT hB;clear hb HU8;dsimp only;go_wp2_with fail
 refine(uQ wc8 1 1 aA aA aA aA).mono ?_;rintro e wr1 ⟨vr,rfl,hb,hu⟩;refine Zg ?_;clear x0 x1 x2 HG;intro x0 x1 x2 HG;refine zdK ?_;clear HP;intro HP;replace RL:=Ac (AO.on RL.out (FZ hb _));refine Zm ?_;clear HT hB;intro HT hB;obtain⟨q,hq,rfl,hqf⟩:=Ah.rv hu;have HQ:=Ac (RV.fine.keep hqf (G:=(λ_=>True)) (λ_ _ _=>trivial) (Gh _ _));have HQR:=Ac hq;obtain⟨qr,qn,qd⟩:=q;have h1:=hqf.1;have h2:=hqf.2;dsimp only at h1 h2 hq;obtain⟨An,cn,rfl,_,_⟩:=h1;obtain⟨Ad,cd,rfl,_,_⟩:=h2;clear hqf hu hq;clear hb;dsimp only;dsimp only[RV.cells];go_wp2_with fail
 obtain⟨ws,hws,hr,hb,hz'⟩:=aJ wr1 73 #[F6 F5 7,Gj qr.neg,FQ An qr.num.length cn,FQ Ad qr.den.length cd];rw[<-hws];clear hws;refine Zg ?_;clear x0 x1 x2 HG;intro x0 x1 x2 HG;refine zdK ?_;clear HP;intro HP;replace RL:=Ac (AO.on RL.out (FZ hb _));refine Zm ?_;clear HT hB;intro HT hB;have HLN:=Ac (show AO ws (λ_=>True) (FQ (some ⟨wr1.heap.size,0,none⟩) 1 1) [(7,au (mkRat 1 1))] from by have h:=aoz (q:=⟨qr,FQ An qr.num.length cn,FQ Ad qr.den.length cd⟩) hr (F:=λ_=>True) trivial (RV.fine.below HQ.out hb); rw[<-HQR.out]; exact h);clear hr hb hz' HQ HQR;refine(adD ws (λ_=>True) _ _ _ _ RL.out HLN.out aeB aeB).mono ?_;rintro e wz ⟨u,rfl,hb,rfl⟩;exact zdw
end Go.Proofs.YtnmeejofpkhlkaaGreatDoor
