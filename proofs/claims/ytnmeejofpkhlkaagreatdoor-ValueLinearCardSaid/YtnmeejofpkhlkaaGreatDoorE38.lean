/- Part of a claim. -/
import Derived.Test.YtnmeejofpkhlkaaGreatDoorE37
import Derived.Sort.CutIn
import Derived.Test.YtnmeejofpkhlkaaGreatDoorE33
set_option linter.all false
set_option maxRecDepth 100000
set_option maxHeartbeats 12800000
namespace Go.Proofs.YtnmeejofpkhlkaaGreatDoor
open Ah renaming below->Hw,keep->JR,make->JL
open Array.mk renaming injEq->Js
open Go.RowKit.Below renaming refl->F9
open Below renaming same'->FZ
open FK renaming keep->IB,on->Ju
open FM renaming keep->JA,on->Ll
open Go.IntKind renaming i64->F5
open Go renaming Value->F7,World->FW
open Go.Value renaming bool->Gj,int->F6,slice->FQ
open Int renaming emod_lt_of_pos->KA,emod_nonneg->LD,natAbs_mul->JF,toNat_natCast->Gu
open Go.IntWalk renaming i64_in->GH
open List renaming all_eq_true->Jc,append_nil->Hz,foldl_cons->Iw,getD_eq_getElem?_getD->FU,getElem?_append_left->Hg,getElem?_append_right->Gx,getElem?_eq_getElem->GX,getElem?_eq_none->G9,getElem?_map->Gi,getElem?_of_mem->Gz,getElem?_zipWith->IG,length->LW,length_cons->LG,length_map->FX,length_replicate->Lm,length_zipWith->IY,map->GK,map_congr_left->Jo,mem_cons_of_mem->GI,mem_of_getElem?->FT,replicate->F8,reverse_nil->Ky,reverse_singleton->JE,take_of_length_le->Gl,zipWith->IW
open List.cons renaming injEq->Jd
open Nat renaming div_le_self->JJ,le_refl->FV,le_trans->Gf,lt_irrefl->LJ,lt_of_le_of_lt->JD,lt_of_lt_of_le->GZ,mul_comm->Gy,mul_le_mul->IX,mul_ne_zero->Jk,mul_one->Gp,pos_of_ne_zero->Jz,strongRecOn->LK,zero_le->GR
open Option renaming getD_some->Ht
open Option.some renaming inj->KJ,injEq->Hu
open Rat renaming add_assoc->Jf,add_zero->Je,div_def->JW,mul_add->JX,mul_assoc->G6,mul_comm->Ig,mul_nonneg->KZ,mul_one->La,one_mul->Kr,zero_mul->J9
open Same renaming refl->Gh
open Go.Proofs.Tryz renaming prog->FY
open Go.World renaming block_lt_of_cell?->Gg
open Wrote renaming refl->H6
open Lib renaming hid → Ac
open Go.RowKit
variable {aC ay level most pl:Int} {ss:List (List (List Int))} {seen:List (List Int)} {M m p q x y:List (List Rat)} {cs:List Int} {l:List Rat} {a b i k:Nat} {t:Rat}
def VD (V:List View):Prop:=∀ (x y:Nat) (v w:View),V[x]? = some v->V[y]? = some w->v.aC=w.aC->v.level=w.level->v.seen=w.seen->x=y
theorem VD.sub {V W:List View} (h:VD V) (hW:∀ (x:Nat) (v:View),W[x]? = some v->V[x]? = some v):VD W:=λx y v w hx hy=>h x y v w (hW x v hx) (hW y w hy)
theorem VD.push {V:List View} {q:View} (h:VD V) (hq:V.find? (fD q.aC q.level q.seen)=none):VD (V ++ [q]):=by
 have hno:∀ v∈V,¬ (v.aC=q.aC/\v.level=q.level/\v.seen=q.seen):=λv hv he=>by
  have:=List.find?_eq_none.1 hq v hv;apply this;unfold fD;simp[he.1,he.2.1,he.2.2]
 have cut:∀ (x:Nat) (v:View),(V ++ [q])[x]? = some v->V[x]? = some v\/(x=V.length/\v=q):=λx v hx=>by
  by_cases hl:x < V.length
  ·rw[Hg hl] at hx;exact .inl hx
  ·rw[Gx EN] at hx;have e:x - V.length < 1:=FD hx;have e2:x - V.length=0:=EN;rw[e2] at hx;exact .inr ⟨EN,by simpa using hx.symm⟩
 intro x y v w hx hy h1 h2 h3;rcases cut x v hx with a1 | ⟨a1,a2⟩ <;> rcases cut y w hy with b1 | ⟨b1,b2⟩
 ·exact h x y v w a1 b1 h1 h2 h3
 ·exact absurd (by rw[<-b2]; exact⟨h1,h2,h3⟩) (hno v (FT a1))
 ·exact absurd (by rw[<-a2]; exact⟨h1.symm,h2.symm,h3.symm⟩) (hno w (FT b1))
 ·omega
section
variable {C:MC}
theorem amB {seen:List Int} {s:MS} (h:VD s.views):VD (kM C aC level seen s).2.views:=by
 unfold kM;cases hf:s.views.find? (fD aC level seen) with
 | some v=>exact h
 | none=>exact VD.push (q:=⟨aC,level,seen,_⟩) h hf
theorem amC {info:Int} {s:MS} (h:VD s.views):VD (lQ info aC s).views:=by
 unfold lQ;split
 ·exact h
 split
 ·exact h
 refine h.sub λx v hx=>?_
 have hx:s.views.dropLast[x]? = some v:=hx;rw[List.dropLast_eq_take,List.getElem?_take] at hx;split at hx
 ·exact hx
 ·cases hx
theorem amD {p:Place} {s:MS} (h:VD s.views):VD (nN C p level seen s).2.2.views:=by
 unfold nN;split
 ·exact h
 ·exact amB h
theorem afG {s:MS} (h:VD s.views):VD (pY C i s).views:=by
 obtain⟨a,n,e⟩:=aeg C i s;rw[e];exact h
theorem ajv {rec:List (List Int)->MS->Nat×MS} {p:Place} {seen:List (List Int)} (hrec:∀ sn s,VD s.views->VD (rec sn s).2.views):∀ (k:Nat) (s:MS),VD s.views->VD (dZ C rec p seen k s).s.views
 | 0,s,h=>h
 | k+1,s,h=>by
  have ih:=ajv (p:=p) (seen:=seen) hrec k s h;have e:(dZ C rec p seen (k+1) s).s=(rec (iK p k seen) (if p.aC < 0 then ((dZ C rec p seen k s).weights ++ [1+((dZ C rec p seen k s).s.draw C 3).1],((dZ C rec p seen k s).s.draw C 3).2) else ((dZ C rec p seen k s).weights,(dZ C rec p seen k s).s)).2).2:=rfl;rw[e];refine hrec _ _ ?_;split
  ·exact ih
  ·exact ih
theorem ag8:∀ (f level:Nat) (seen:List (List Int)) (s:MS),VD s.views->VD (bW C f level seen s).2.views
 | 0,_,_,s,h=>h
 | f+1,level,seen,s,h=>by
  unfold bW;simp only;split
  ·exact afG h
  split
  ·exact afG (s:=(MS.draw C { s with pending:=s.pending - 1,Fg:=s.Fg ++ [kN] } 8).2) h
  have ho:=amD (C:=C) (p:=C.levels.getD level default) (level:=(level:Int)) (seen:=seen) (s:=(MS.draw C { s with pending:=s.pending - 1,Fg:=s.Fg ++ [kN] } 8).2) h;split
  ·exact afG (amC ho)
  ·exact ajv (C:=C) (λsn t ht=>ag8 f (level+1) sn t ht) _ _ ho
end
def ag9 (C:MC) (V:List View) (pl:Nat) (s:List Int):Nat->List (Int×Int)
 | 0=>[]
 | l+1=>ag9 C V pl s l++(if (C.levels.getD l default).aC=(pl:Int) then [(((V.find? (fD pl (l:Int) (s.take l))).map View.info).getD 0,s.getD l 0)] else [])
theorem aha {C:MC} {V:List View} {pl:Nat} {s t:List Int}:∀ {l:Nat},l<=s.length->ag9 C V pl (s++t) l=ag9 C V pl s l
 | 0,_=>rfl
 | l+1,h=>by
  have e:(s++t).getD l 0=s.getD l 0:=by rw[FU,Hg EN,<-FU]
  rw[ag9,ag9,aha EN,List.take_append_of_le_length EN,e]
theorem akW {V:List View} (hv:VD V) {x:Nat} {l:Int} {s:List Int} {i:Int} (hx:V[x]? = some ⟨pl,l,s,i⟩):V.find? (fD pl l s)=some ⟨pl,l,s,i⟩:=by
 cases hf:V.find? (fD pl l s) with
 | none =>
  have:=List.find?_eq_none.1 hf _ (FT hx);exfalso;apply this;unfold fD;simp
 | some v =>
  have hm:=List.mem_of_find?_eq_some hf;have hs:=List.find?_some hf;unfold fD at hs;simp only[Bool.and_eq_true,decide_eq_true_eq] at hs;obtain⟨y,hy⟩:=Gz hm;have e:=hv y x v _ hy hx hs.1.1 hs.1.2 hs.2;subst e;rw[hx] at hy;exact congrArg _ (KJ hy).symm
theorem aiU {p:Place} {pl:Nat} (h:pl < seen.length):(iK p i seen).getD pl []=seen.getD pl [] ++ [if (pl:Int)=p.aC\/(p.seen.toNat >>> pl) % 2=1 then (i:Int) else -1]:=by
 unfold iK;rw[FU,List.getElem?_mapIdx,GX h,FU,GX h];rfl
theorem afH {p:Place}:(iK p i seen).length=seen.length:=by unfold iK; simp
def Rts (g:Gm) (C:MC) (V:List View) (P pl level:Nat) (ss:List (List (List Int))) (cs:List Int):Prop :=
 ∀ (k:Nat) (seen:List (List Int)) (c:Int),ss[k]? = some seen->cs[k]? = some c->seen.length=P/\(∀ l∈seen,l.length=level)/\gG g pl c.toNat=ag9 C V pl (seen.getD pl []) level
theorem Bt.ways {g:Gm} (hg:Good g) {C:MC} {V:List View} (hv:VD V) {P pl:Nat} (hpl:pl < P) {level:Nat} (h:Bt C V g.Fh g.Fg level ss cs a b):Rts g C V P pl level ss cs ->
  ∀ (i:Nat) (n:Nd),a<=i->i < b->g.Fg[i]? = some n->n.kind=2->∃ l seen,Dv C V g.Fh l seen n/\gG g pl i=ag9 C V pl (seen.getD pl []) l:=by
 induction h with
 | nil level a=>intro _ i n h1 h2; omega
 | @fin level a b n0 seen ss cs hn he hr ih =>
  intro hR i n h1 h2 hi hk;by_cases e:i=a
  ·subst e;rw[hn] at hi;cases hi;have:=he.1;omega
  ·exact ih (λk s c hs hc=>hR (k+1) s c hs hc) i n EN h2 hi hk
 | @mid level a m b n0 seen ss cs hn hm hk hr ih1 ih2 =>
  intro hR i n h1 h2 hi hkd;obtain⟨r1,r2,r3⟩:=hR 0 seen a rfl rfl;rw[Gu] at r3;by_cases e:i=a
  ·subst e;rw[hn] at hi;cases hi;exact⟨level,seen,hm,r3⟩
  by_cases e2:i < m
  ·refine ih1 (λk s c hs hc=>?_) i n EN e2 hi hkd;have hkl:=FD hc;rw[Gi,List.getElem?_range hkl] at hs;cases hs;have hmem:=FT hc;have hqc:=hg.span.kids a n0 (GR _) (FD hn) hn _ hmem;obtain⟨d,rfl⟩:∃ d:Nat,c=(d:Int):=⟨c.toNat,EN⟩;have hd:d < g.Fg.length:=EN;have hpd:=ny hg hd hn hmem;rw[Gu];refine⟨by rw[afH,r1],xJ r2,?_⟩;have hsl:(seen.getD pl []).length=level:=by
    rw[FU,GX EN];exact r2 _ (List.getElem_mem _)
   rw[pK hg hd hpd hn EN,r3,aiU EN,ag9,aha EN,List.take_append_of_le_length EN,Gl EN];congr 1;obtain⟨_,_,_,_,m5⟩:=hm;rcases m5 with⟨p0,k1,_⟩ | ⟨p0,k1,k2,_,x,k3,_,k5⟩
   ·rw[fG EN,L6 EN];rfl
   ·by_cases hp:n0.aC=(pl:Int)
    ·rw[lg hg hn ⟨k1,hp⟩ hc,L8 EN];rw[hp,Gu] at k5;have e3:(seen.getD pl [] ++ [if (pl:Int)=(C.levels.getD level default).aC\/((C.levels.getD level default).seen.toNat >>> pl) % 2=1 then (k:Int) else -1]).getD level 0=(k:Int):=by
      rw[FU,Gx EN,hsl,Nat.sub_self,L8 (.inl EN)];rfl
     rw[e3,akW hv k5,k3];rfl
    ·rw[fG EN,L6 EN];rfl
  ·exact ih2 (λk s c hs hc=>hR (k+1) s c hs hc) i n EN h2 hi hkd
theorem amE (L:List Int) (zero:Bool) (hp:1<=ay) (hm:1<=most):∃ C V,VD V/\Bt C V (qc L ay most zero).Fh (qc L ay most zero).Fg 0 [F8 ay.toNat []] [(0:Int)] 0 (qc L ay most zero).Fg.length:=by
 refine Z4 ?_;intro hl hpl hd hC hJ h1 h2 h3;exact⟨_,_,ag8 (C:=⟨L,(fU L ay (1+dY L 0 5).toNat (dR L 0)).1,ay,most,zero⟩) ((1+dY L 0 5).toNat+1) 0 (F8 ay.toNat []) ⟨(fU L ay (1+dY L 0 5).toNat (dR L 0)).2,[],1,[],[]⟩ (λx y v w h=>by simp at h),h3.bt⟩
theorem aiV (L:List Int) (zero:Bool) (hp:1<=ay) (hm:1<=most) (hform:bF (qc L ay most zero)=0) (pl:Nat) (hpl:(pl:Int) < ay):abr (qc L ay most zero) pl=true:=by
 obtain⟨C,V,hv,hb⟩:=amE L zero hp hm;generalize hgg:qc L ay most zero=g at *;have hg:=iO hform;have hR:Rts g C V ay.toNat pl 0 [F8 ay.toNat []] [(0:Int)]:=λk s c hs hc=>by
  cases k with
  | succ k=>simp at hs
  | zero =>
   cases hs;cases hc;exact⟨aF,λl h=>by rw[List.eq_of_mem_replicate h]; rfl,lI hg⟩
 have hw:=hb.ways hg hv (P:=ay.toNat) (pl:=pl) EN hR;unfold abr;rw[sN];intro i hi hip;obtain⟨h2,h3,h4⟩:=qU hform hi;obtain⟨n0,hn0,k0,i0,p0,_,f0⟩:=oQ hform hi;unfold aaS;rw[Jc];intro x hx;obtain⟨j,n,rfl,hn,hk,hin⟩:=h4 x hx;rw[f0];refine Mc ?_;rw[Gu,Gu];obtain⟨l,s,m1,w1⟩:=hw j n (GR _) (FD hn) hn hk;obtain⟨l',s',m2,w2⟩:=hw (iG g i) n0 (GR _) (FD hn0) hn0 k0;rw[w1,w2];have hpn:=(h3 j n hn hk hin).1;rcases m1.2.2.2.2 with⟨_,a,_⟩ | ⟨_,_,_,_,y,a1,_,a2⟩
 ·omega
 rcases m2.2.2.2.2 with⟨_,a,_⟩ | ⟨_,_,_,_,z,b1,_,b2⟩
 ·omega
 have hy:y=i:=EN;have hz:z=i:=EN;subst hy;subst hz;rw[a2] at b2;rw[hpn,p0,hip,Gu] at b2;simp only[Hu,View.mk.injEq,and_true,true_and] at b2;obtain⟨e1,e2⟩:=b2;rw[e2,show l=l' by omega]
theorem akX (L:List Int) (zero:Bool) (hp1:1<=ay) (hp4:ay<=4) (hm1:1<=most) (hm:most<=100):qh (qc L ay most zero)=0:=by
 have hf:=abA L zero hp1 hp4 hm1 hm;unfold qh;rw[L8];unfold lM;rw[Jc];intro p hp;have h:=List.mem_range.1 hp;rw[hf.hpl] at h;exact aiV L zero hp1 hm1 hf.form p EN
section
variable {g:Gm} {ch:List Int}
end
theorem aeE {n:Nat} (h1:1<=n) (h2:n<=10):Dk (n:Int) (mZ n):=by
 have key:∀ n:Fin 11,1<=n.val->((mZ n.val).length=n.val/\fO (mZ n.val)=1/\∀ x∈mZ n.val,0<=x/\x<=1):=by decide +kernel
 obtain⟨k1,k2,k3⟩:=key ⟨n,EN⟩ h1;exact⟨by exact_mod_cast k1,k2,λx hx=>⟨ajq h1 h2 x hx,(k3 x hx).1,(k3 x hx).2⟩⟩
theorem abB {up:List (Int×Int)} {m:List (List Rat)} (p:Rat->Prop) (h0:p 0) (h1:p 1) (hm:∀ l∈m,∀ x∈l,p x) (hmul:∀ a b,p a->p b->p (a*b)):∀ k,∀ row∈eG up m k,∀ x∈row,p x
 | 0,row,hr,_,_=>by cases hr
 | k+1,row,hr,x,hx=>by
  have ih:=abB (up:=up) p h0 h1 hm hmul k;rw[eG] at hr;rcases List.mem_append.1 hr with hr | hr
  ·exact ih row hr x hx
  ·rw[List.mem_singleton.1 hr] at hx;obtain⟨y,hy,rfl⟩:=List.mem_map.1 hx;refine hmul _ _ ?_ ?_
   ·unfold eP;split
    ·exact h1
    ·rw[FU];cases e:((eG up m k).getD (up.getD k (-1,-1)).1.toNat [])[(up.getD k (-1,-1)).2.toNat]? with
     | none=>exact h0
     | some z =>
      refine ih _ ?_ z (FT e);rw[FU] at e ⊢;cases e2:(eG up m k)[(up.getD k (-1,-1)).1.toNat]? with
      | none=>rw[e2] at e; simp at e
      | some l=>exact FT e2
   ·rw[FU] at hy;cases e2:m[k]? with
    | none=>rw[e2] at hy; cases hy
    | some l=>rw[e2] at hy; exact hm l (FT e2) y hy
theorem vH {up:List (Int×Int)} {row:List Rat} (h:(aO up m)[k]? = some l) (hm:m[k]? = some row):l=row.map λx=>eP (eG up m k) (up.getD k (-1,-1))*x:=by
 have hk:k < m.length:=FD hm;have e:(aO up m).getD k []=l:=by rw[FU,h];rfl
 unfold aO at e;rw[iC hk] at e;have e2:m.getD k []=row:=by rw[FU,hm];rfl
 rw[<-e,e2]
theorem adg {g:Gm} (h:AP g m) (hl:(aO (aK g) m)[k]? = some l):∃ inf,g.Fh[k]? = some inf/\(l.length:Int)=inf.actions:=by
 have hk:k < m.length:=by have:=FD hl;unfold aO at this;rwa [cZ] at this
 obtain⟨row,hr⟩:=FC hk;obtain⟨inf,hi⟩:=FC (l:=g.Fh) (k:=k) (by have:=h.1; omega);refine⟨inf,hi,?_⟩;rw[vH hl hr,FX];exact(h.2 k inf row hi hr).1
theorem aeF {g:Gm} (hf:bF g=0) (hs:Small g) (h:AP g m):∀ l∈aO (aK g) m,∀ x∈l,rl x<=1000:=by
 have hst:=h.nP hf;have hft:=rG hst;have hl4:=aak h.limbs;have hml:m.length<=100:=by have:=h.1;have:=hs.Fh;omega
 intro l hl x hx;refine zb7 ?_;intro k hk;have hkm:k < m.length:=by have:=FD hk;unfold aO at this;rwa [cZ] at this
 obtain⟨row,hr⟩:=FC hkm;rw[vH hk hr] at hx;obtain⟨y,hy,rfl⟩:=List.mem_map.1 hx;obtain⟨s,hs'⟩:=FC (l:=aK g) (k:=k) (by rw[hft.len]; exact hkm);have h1:=ac1 hft hl4 k EN s (by have:=hft.ok k s hs'; omega);rw[FU,hs',Ht];have h2:=kR (eP (eG (aK g) m k) s) y;have h3:=hl4 row (FT hr) y hy;omega
open Go.RowKit Go.Shelf
attribute [local go_sem] Oper.semAt_some
structure BK (g:Gm) (r:List (List Rat)):Prop where
 len:r.length=g.Fh.length
 acts:∀ (k:Nat) (l:List Rat) (inf:Inf),r[k]? = some l->g.Fh[k]? = some inf->(l.length:Int)=inf.actions
 pos:∀ l∈r,∀ x∈l,dI x=false
 fits:∀ l∈r,∀ x∈l,rl x<=1000
 sum:∀ (k:Nat) (l:List Rat) (s:Int×Int),r[k]? = some l->(aK g)[k]? = some s->fO l=eP r s
 up:∀ (k:Nat) (s:Int×Int),(aK g)[k]? = some s->s.1 < 0\/(0<=s.1/\s.1 < (k:Int)/\0<=s.2/\s.2 < ((r.getD s.1.toNat []).length:Int))
theorem BK.anz {g:Gm} {r:List (List Rat)} (h:BK g r) (s:Int×Int):rl (eP r s)<=1000:=by
 unfold eP;split
 ·rw[qy];omega
 ·rw[FU];cases e:(r.getD s.1.toNat [])[s.2.toNat]? with
  | none=>show rl 0<=1000; rw[rQ]; omega
  | some x =>
   refine h.fits (r.getD s.1.toNat []) ?_ x (FT e);rw[FU] at e ⊢;cases e2:r[s.1.toNat]? with
   | none=>rw[e2] at e; simp at e
   | some l=>exact FT e2
theorem ahb (u:Rat):∀ (l:List Rat) (a:Rat),(l.map λx=>u*x).foldl (· + ·) (u*a)=u*l.foldl (· + ·) a
 | [],_=>rfl
 | x :: l,a=>by
  rw[List.map_cons,Iw,Iw,<-JX];exact ahb u l (a+x)
theorem zq (u:Rat) (l:List Rat):fO (l.map λx=>u*x)=u*fO l:=by
 have h:=ahb u l 0;rw[Rat.mul_zero] at h;exact h
theorem AP.row {g:Gm} (h:AP g m) {row:List Rat} (hr:m[k]? = some row):∃ inf,g.Fh[k]? = some inf/\Dk inf.actions row:=by
 obtain⟨inf,hi⟩:=FC (l:=g.Fh) (k:=k) (by have:=FD hr; have:=h.1; omega);exact⟨inf,hi,h.2 k inf row hi hr⟩
section
variable {g:Gm} {m:List (List Rat)} (hf:bF g=0) (h:AP g m)
include hf h
theorem adh {row:List Rat} {s:Int×Int} (hr:m[k]? = some row) (hs:(aK g)[k]? = some s):(aO (aK g) m)[k]? = some (row.map λx=>eP (aO (aK g) m) s*x):=by
 have hft:=rG (h.nP hf);have hk:=FD hr;obtain⟨l,hl⟩:=FC (l:=aO (aK g) m) (k:=k) (by unfold aO; rw[cZ]; exact hk);rw[hl,vH hl hr];have e:(aK g).getD k (-1,-1)=s:=by rw[FU,hs];rfl
 rw[e,wU (k':=m.length) (by have:=hft.ok k s hs; omega) EN];rfl
theorem adi (hsm:Small g):BK g (aO (aK g) m):=by
 have hft:=rG (h.nP hf);have hlen:(aO (aK g) m).length=m.length:=by unfold aO;rw[cZ]
 refine⟨by rw[hlen,h.1],λk l inf hl hi=>?_,?_,aeF hf hsm h,λk l s hl hs=>?_,λk s hs=>?_⟩
 ·obtain⟨inf',hi',e⟩:=adg h hl;rw[hi] at hi';cases hi';exact e
 ·refine λl hl x hx=>afw (abB (λx=>0<=x) aA aA (λl hl x hx=>?_) (λa b ha hb=>KZ ha hb) _ l hl x hx)
  refine zb7 ?_;intro k hk;obtain⟨_,_,hr⟩:=h.row hk;exact(hr.2.2 x hx).2.1
 ·obtain⟨row,hr⟩:=FC (l:=m) (k:=k) (by have:=FD hl; omega);obtain⟨_,_,ho⟩:=h.row hr;rw[adh hf h hr hs] at hl;cases hl;rw[zq,ho.2.1,La]
 ·rcases hft.ok k s hs with h1 | ⟨h1,h2,h3,h4⟩
  ·exact .inl h1
  ·refine .inr ⟨h1,h2,h3,?_⟩;have hk:k < m.length:=by rw[<-hft.len];exact FD hs
   unfold aO;rw[iC EN,FX];exact h4
theorem ajw {row:List Rat} {s:Int×Int} (hr:m[k]? = some row) (hs:(aK g)[k]? = some s):(dM (aO (aK g) m))[k]? = some (if eP (aO (aK g) m) s=0 then mZ row.length else row):=by
 obtain⟨_,_,ho⟩:=h.row hr;unfold dM;rw[Gi,adh hf h hr hs,Option.map_some];unfold jA;rw[zq,ho.2.1,La];by_cases hu:eP (aO (aK g) m) s=0
 ·rw[L8 hu,L8 hu,FX]
 ·rw[L6 hu,L6 hu,List.map_map];refine congrArg some ?_;conv=>rhs;rw[<-List.map_id row]
  refine Jo λx _=>?_
  show eP (aO (aK g) m) s*x / eP (aO (aK g) m) s=x;rw[JW,Ig (eP _ _) x,G6,Rat.mul_inv_cancel _ hu,La]
theorem aiW (hI:∀ i∈g.Fh,1<=i.actions/\i.actions<=10):AP g (dM (aO (aK g) m)):=by
 have hlen:(dM (aO (aK g) m)).length=m.length:=by unfold dM aO;rw[FX,cZ]
 refine⟨by rw[hlen,h.1],λk i l hi hl=>?_⟩;obtain⟨row,hr⟩:=FC (l:=m) (k:=k) (by have:=FD hl; omega);obtain⟨s,hs⟩:=FC (l:=aK g) (k:=k) (by rw[cO]; exact FD hi);have ho:=h.2 k i row hi hr;have hi1:=hI i (FT hi);rw[ajw hf h hr hs] at hl;cases hl
 split
 ·have:=aeE (n:=row.length) (by have:=ho.1; omega) (by have:=ho.1; omega);rwa [ho.1] at this
 ·exact ho
theorem ahc:∀ k,k<=m.length->eG (aK g) (dM (aO (aK g) m)) k=eG (aK g) m k
 | 0,_=>rfl
 | k+1,hk=>by
  rw[eG,eG,ahc k EN];refine congrArg (λx=>eG (aK g) m k ++ [x]) ?_;have hft:=rG (h.nP hf);obtain⟨row,hr⟩:=FC (l:=m) (k:=k) EN;obtain⟨s,hs⟩:=FC (l:=aK g) (k:=k) (by rw[hft.len]; omega);have e:(aK g).getD k (-1,-1)=s:=by rw[FU,hs]; rfl
  have e2:m.getD k []=row:=by rw[FU,hr]; rfl
  have e3:eP (eG (aK g) m k) s=eP (aO (aK g) m) s:=by
   rw[wU (k':=m.length) (by have:=hft.ok k s hs; omega) EN];rfl
  have e4:(dM (aO (aK g) m)).getD k []=if eP (aO (aK g) m) s=0 then mZ row.length else row:=by rw[FU,ajw hf h hr hs];rfl
  rw[e,e2,e3,e4];show GK _ (if eP (aO (aK g) m) s=0 then mZ row.length else row)=_;split
  ·rename_i hu
   rw[hu];have hz:∀ l:List Rat,(l.map λx=>(0:Rat)*x)=F8 l.length 0:=λl=>by
    exact zcO
   rw[hz,hz];unfold mZ;rw[Lm]
  ·rfl
theorem aiX:aO (aK g) (dM (aO (aK g) m))=aO (aK g) m:=by
 have hlen:(dM (aO (aK g) m)).length=m.length:=by unfold dM aO;rw[FX,cZ]
 have e:aO (aK g) (dM (aO (aK g) m))=eG (aK g) (dM (aO (aK g) m)) m.length:=by
  show eG (aK g) (dM (aO (aK g) m)) (dM (aO (aK g) m)).length=_;rw[hlen]
 rw[e];exact ahc hf h m.length (FV _)
end
def dV (m:List (List Rat)) (l:List (Int×Int)):Rat:=(l.map λs=>(m.getD s.1.toNat []).getD s.2.toNat 0).foldl (· * ·) 1
theorem vI (m:List (List Rat)) (l:List (Int×Int)) (s:Int×Int):dV m (l ++ [s])=dV m l*(m.getD s.1.toNat []).getD s.2.toNat 0:=by
 unfold dV;rw[List.map_append,List.foldl_append];rfl
theorem aiY {up:List (Int×Int)} (h:BX up m) {s:Int×Int} (h0:0<=s.1) (hs:s.1 < (m.length:Int)):eP (aO up m) s=eP (aO up m) (up.getD s.1.toNat (-1,-1))*(m.getD s.1.toNat []).getD s.2.toNat 0:=by
 obtain⟨t,ht⟩:=FC (l:=up) (k:=s.1.toNat) (by rw[h.len]; omega);have htd:up.getD s.1.toNat (-1,-1)=t:=by rw[FU,ht];rfl
 rw[htd];have ho:=h.ok _ _ ht;have h1:eP (aO up m) s=((aO up m).getD s.1.toNat []).getD s.2.toNat 0:=by rw[eP,L6 EN]
 rw[h1];unfold aO;rw[iC EN,htd,vk];congr 1;exact wU EN EN
theorem anA {g:Gm} (hf:bF g=0) (hp:qh g=0) {q:Nat} {n:Nd} (hn:g.Fg[q]? = some n) (hk:n.kind=2):gG g n.aC (iG g n.info.toNat)=gG g n.aC q:=by
 obtain⟨hne,_⟩:=jr hf;have hmp:=mV hne (FT hn) hk;have hi:n.info.toNat < g.Fh.length:=EN;have hin:n.info=(n.info.toNat:Int):=EN;obtain⟨h2,h3,h4⟩:=qU hf hi;obtain⟨hpl,hmem⟩:=h3 q n hn hk hin;have hw:abr g n.aC=true:=by
  unfold qh at hp;have h5:lM g g.ay.toNat=true:=by
   cases e:lM g g.ay.toNat with
   | true=>rfl
   | false=>rw[e] at hp; simp at hp
  unfold lM at h5;have h6:=List.all_eq_true.1 h5 n.aC.toNat (List.mem_range.2 EN);rwa [Int.toNat_of_nonneg EN] at h6
 unfold abr at hw;have h7:=sN.1 hw n.info.toNat hi hpl.symm;unfold aaS at h7;have h8:=of_decide_eq_true (List.all_eq_true.1 h7 _ hmem);rw[Gu] at h8;rw[h8];rfl
theorem ajx {g:Gm} (hf:bF g=0) {q:Nat} {n:Nd} (hn:g.Fg[q]? = some n) (hk:n.kind=2):0<=n.info/\n.info.toNat < g.Fh.length/\(g.Fh.getD n.info.toNat default).aC=n.aC:=by
 obtain⟨hne,_⟩:=jr hf;have hmp:=mV hne (FT hn) hk;have hi:n.info.toNat < g.Fh.length:=EN;obtain⟨h2,h3,h4⟩:=qU hf hi;exact⟨EN,hi,(h3 q n hn hk EN).1.symm⟩
theorem aaq {g:Gm} {m:List (List Rat)} (hf:bF g=0) (hp:qh g=0) (hm:BX (aK g) m) (pl:Int):∀ (b c:Nat),c<=b->c < g.Fg.length->eP (aO (aK g) m) (sQ g pl c)=dV m (gG g pl c)
 | 0,c,hb,hc=>by
  obtain rfl:c=0:=EN;rw[uZ (iO hf),lI (iO hf)]; rfl
 | b+1,c,hb,hc=>by
  have hg:=iO hf;obtain⟨p,hpp,h0 | ⟨q,n,rfl,hq,hn,hmem⟩⟩:=hg.par hc
  ·rw[h0.1,uZ hg,lI hg]; rfl
  ·obtain⟨j,hj⟩:=Gz hmem;have ih:=aaq hf hp hm pl b q EN EN;rw[aeo hg hn hj,pK hg hc hpp hn hq];by_cases hk:n.kind=2/\n.aC=pl
   ·obtain⟨i1,i2,i3⟩:=ajx hf hn hk.1;have hml:(aK g).length=m.length:=hm.len;rw[cO] at hml;rw[L8 hk,lg hg hn hk hj,JE,vI,aiY hm (s:=(n.info,(j:Int))) i1 (by show n.info < _; omega)];have e:(aK g).getD (n.info,(j:Int)).1.toNat (-1,-1)=sQ g pl q:=by
     show(aK g).getD n.info.toNat (-1,-1)=_;rw[FU,sS i2,Ht,i3];unfold sQ;rw[anA hf hp hn hk.1,hk.2]
    rw[e,ih]
   ·rw[L6 hk,fG hk,Ky,Hz,ih]
theorem Bt.deep {g:Gm} (hg:Good g) {C:MC} {V:List View} {level:Nat} (h:Bt C V g.Fh g.Fg level ss cs a b):level<=C.levels.length->(∀ c∈cs,(gG g pl c.toNat).length<=level) ->
  ∀ (i:Nat) (n:Nd),a<=i->i < b->g.Fg[i]? = some n->(gG g pl i).length<=C.levels.length/\(n.kind=2->(gG g pl i).length < C.levels.length):=by
 induction h with
 | nil level a=>intro _ _ i n h1 h2; omega
 | @fin level a b n0 seen ss cs hn he hr ih =>
  intro hl hR i n h1 h2 hi;by_cases e:i=a
  ·subst e;rw[hn] at hi;cases hi;have h3:=hR (i:Int) aF;rw[Gu] at h3;have h4:=he.1;exact⟨EN,λhk=>by omega⟩
  ·exact ih hl (λc hc=>hR c (GI _ hc)) i n EN h2 hi
 | @mid level a m b n0 seen ss cs hn hm hk hr ih1 ih2 =>
  intro hl hR i n h1 h2 hi;have hlt:=hm.1;have h3:=hR (a:Int) aF;rw[Gu] at h3;by_cases e:i=a
  ·subst e;exact⟨EN,λ_=>by omega⟩
  by_cases e2:i < m
  ·refine ih1 EN (λc hc=>?_) i n EN e2 hi;have hqc:=hg.span.kids a n0 (GR _) (FD hn) hn _ hc;obtain⟨d,rfl⟩:∃ d:Nat,c=(d:Int):=⟨c.toNat,EN⟩;have hd:d < g.Fg.length:=EN;rw[Gu,pK hg hd (ny hg hd hn hc) hn EN,List.length_append,List.length_reverse];obtain⟨j,hj⟩:=Gz hc;by_cases hk:n0.kind=2/\n0.aC=pl
   ·rw[lg hg hn hk hj,List.length_singleton];omega
   ·rw[fG hk,List.length_nil];omega
  ·exact ih2 hl (λc hc=>hR c (GI _ hc)) i n EN h2 hi
theorem aiZ (L:List Int) (zero:Bool) (hp:1<=ay) (hm:1<=most) (hform:bF (qc L ay most zero)=0) (pl:Int) (i:Nat) (n:Nd) (hn:(qc L ay most zero).Fg[i]? = some n) (hk:n.kind=2):(gG (qc L ay most zero) pl i).length < 5:=by
 obtain⟨C,V,cr,h,_⟩:=acV L zero hp hm;have hg:=iO hform;have h1:=h.bt.deep hg (pl:=pl) (GR _) (λc hc=>by rw[List.mem_singleton.1 hc,show(0:Int).toNat=0 from rfl,lI hg]; exact FV _) i n (GR _) (FD hn) hn;have h2:=h1.2 hk;have h3:=h.places.len;omega
def Lo (b:Nat) (x:Rat):Prop:=x.num.natAbs<=b/\x.den<=b
theorem ahd {n:Int} {d:Nat} (hd:d≠0) (h1:n.natAbs<=b) (h2:d<=b):Lo b (mkRat n d):=by
 have h:=jl n hd;exact⟨by rw[h.1]; exact Gf (JJ _ _) h1,by rw[h.2.1]; exact Gf (JJ _ _) h2⟩
theorem Lo.mono {x:Rat} (h:Lo a x) (hab:a<=b):Lo b x:=⟨Gf h.1 hab,Gf h.2 hab⟩
theorem Lo.mul {x y:Rat} (hx:Lo a x) (hy:Lo b y):Lo (a*b) (x*y):=by
 rw[Rat.mul_def'];refine ahd (Jk x.den_nz y.den_nz) ?_ (IX hx.2 hy.2);rw[JF];exact IX hx.1 hy.1
theorem Lo.add {x y:Rat} (hx:Lo a x) (hy:Lo b y):Lo (2*(a*b)) (x+y):=by
 rw[Rat.add_def'];have h1:=IX hx.1 hy.2;have h2:=IX hy.1 hx.2;have h3:=IX hx.2 hy.2;have h4:=Gy b a;refine ahd (Jk x.den_nz y.den_nz) ?_ EN;refine Gf (Int.natAbs_add_le _ _) ?_;rw[JF,JF];show x.num.natAbs*y.den+y.num.natAbs*x.den<=_;omega
theorem Lo.neg {x:Rat} (hx:Lo a x):Lo a (-x):=by
 unfold Lo at *;rw[Rat.neg_num,Rat.neg_den,Int.natAbs_neg];exact hx
theorem Lo.inv {x:Rat} (hx:Lo a x) (h0:x≠0):Lo a x⁻¹:=by
 have h:=tJ h0;exact⟨by rw[h.1]; exact hx.2,by rw[h.2.1]; exact hx.1⟩
theorem Lo.rl {x:Rat} (hx:Lo a x) (ha:a < LB ^ 4):rl x<=4 :=
 Nat.max_le.2 ⟨aV (JD hx.1 ha),aV (JD hx.2 ha)⟩
theorem amF (h:1<=a):Lo a 1:=⟨h,h⟩
theorem anB (h:1<=a):Lo a 0:=⟨GR _,h⟩
theorem anC (ha:1<=a) (h:∀ l∈m,∀ x∈l,Lo a x) (i j:Nat):Lo a ((m.getD i []).getD j 0):=by
 rw[FU];cases e:(m.getD i [])[j]? with
 | none=>exact anB ha
 | some x =>
  refine h (m.getD i []) ?_ x (FT e);rw[FU] at e ⊢;cases e2:m[i]? with
  | none=>rw[e2] at e; simp at e
  | some l=>exact FT e2
theorem ajy {m:List (List Rat)} {a:Nat} (ha:1<=a) (h:∀ l∈m,∀ x∈l,Lo a x):∀ (l:List (Int×Int)) (B:Nat) (acc:Rat),Lo B acc->Lo (B*a ^ l.length) ((l.map λs=>(m.getD s.1.toNat []).getD s.2.toNat 0).foldl (· * ·) acc)
 | [],B,acc,hB=>by rw[List.length_nil,Nat.pow_zero,Gp]; exact hB
 | s :: l,B,acc,hB=>by
  have:=ajy ha h l _ _ (hB.mul (anC ha h s.1.toNat s.2.toNat));rw[LG,Nat.pow_succ,Gy (a ^ l.length) a,<-Nat.mul_assoc];exact this
theorem adJ (L:List Int) (a k:Nat):∀ x∈fP (fJ L a k).1,k<=10->Lo 30 x:=by
 intro x hx hk;have hl:=jM L a k;have hin:=vF L a k;generalize (fJ L a k).1=d at *;have hs:∀ (d:List Int) (b:Int),(∀ x∈d,0<=x/\x<=3)->b<=d.foldl (· + ·) b/\d.foldl (· + ·) b<=b+3*d.length:=by
  intro d;induction d with
  | nil=>intro b _; simp
  | cons y d ih =>
   intro b h;have h1:=ih (b+y) λx hx=>h x (GI _ hx)
   have h2:=h y aF;rw[Iw,LG];omega
 have h1:=hs d 0 hin;unfold fP at hx;split at hx
 ·obtain⟨y,hy,rfl⟩:=List.mem_map.1 hx;have:=List.length_pos_of_mem hy;exact ahd EN aA EN
 ·rename_i h0
  obtain⟨y,hy,rfl⟩:=List.mem_map.1 hx;have h2:=hin y hy;have e:d.foldl (· + ·) 0=oq d:=rfl;rw[e] at h1;exact ahd EN EN EN
theorem yD (L:List Int) (a:Nat) {I:List Inf} (hI:∀ i∈I,i.actions<=10):∀ k,k<=I.length->∀ l∈(ig L a I k).1,∀ x∈l,Lo 30 x
 | 0,_,l,h=>by cases h
 | k+1,hk,l,h=>by
  unfold ig at h;simp only at h;rcases List.mem_append.1 h with h | h
  ·exact yD L a hI k EN l h
  ·rw[List.mem_singleton.1 h];intro x hx;obtain⟨i,hi⟩:=FC (l:=I) (k:=k) EN;have:=hI i (FT hi);refine adJ _ _ _ x hx ?_;rw[FU,hi,Ht];omega
theorem aar (L:List Int) (a:Nat) {g:Gm} (hI:∀ i∈g.Fh,1<=i.actions/\i.actions<=10):∀ l∈ac8 L a g,∀ x∈l,Lo 30 x :=
 yD L a (λi hi=>(hI i hi).2) _ (FV _)
section
variable {g:Gm} {m:List (List Rat)} (hf:bF g=0) (hp:qh g=0) (hd:∀ (pl:Int) (i:Nat) (n:Nd),g.Fg[i]? = some n->n.kind=2->(gG g pl i).length < 5) (hr:AP g m) (hs:∀ l∈m,∀ x∈l,Lo 30 x)
include hf hp hd hr hs
theorem aa1 {s:Int×Int} (h:(aK g)[k]? = some s):Lo (30 ^ 4) (eP (aO (aK g) m) s):=by
 have hk:k < g.Fh.length:=by have:=FD h;rwa [cO] at this
 rw[sS hk] at h;cases h;obtain⟨n,hn,hkd,_⟩:=oQ hf hk;rw[aaq hf hp (rG (hr.nP hf)) _ _ (iG g k) (FV _) (FD hn)];have h1:=hd (g.Fh.getD k default).aC _ n hn hkd;have h2:=ajy aA hs (gG g (g.Fh.getD k default).aC (iG g k)) 1 1 (amF (FV _));refine h2.mono ?_;rw[Nat.one_mul];exact Nat.pow_le_pow_right aA EN
theorem adk:∀ l∈aO (aK g) m,∀ x∈l,Lo (30 ^ 5) x:=by
 intro l hl x hx;refine zb7 ?_;intro k hk;have hft:=rG (hr.nP hf);have hkm:k < m.length:=by have:=FD hk;unfold aO at this;rwa [cZ] at this
 obtain⟨row,hrow⟩:=FC (l:=m) (k:=k) hkm;obtain⟨s,hs'⟩:=FC (l:=aK g) (k:=k) (by rw[hft.len]; exact hkm);rw[adh hf hr hrow hs'] at hk;cases hk;obtain⟨y,hy,rfl⟩:=List.mem_map.1 hx;exact(aa1 hf hp hd hr hs hs').mul (hs row (FT hrow) y hy)
end
theorem adl (s t:Rat):∀ (l m:List Rat),m.length=l.length->fO (IW (λa b=>a*s+b*t) l m)=fO l*s+fO m*t
 | [],[],_=>by show(0:Rat)=0*s+0*t; rw[J9,J9,Je]
 | [],_ :: _,h=>by simp at h
 | _ :: _,[],h=>by simp at h
 | a :: l,b :: m,h=>by
  have ih:=adl s t l m (by simpa using h);have sc:∀ (x:Rat) (l:List Rat),fO (x :: l)=x+fO l:=λx l=>by
   have H:∀ (l:List Rat) (a b:Rat),l.foldl (· + ·) (a+b)=a+l.foldl (· + ·) b:=by
    intro l;induction l with
    | nil=>intro a b; rfl
    | cons x l ih=>intro a b; rw[Iw,Iw,Jf,ih]
   have e:fO (x :: l)=l.foldl (· + ·) (0+x):=rfl;rw[e,Rat.add_comm,H];rfl
  rw[List.zipWith_cons_cons,sc,sc,sc,ih,Rat.add_mul,Rat.add_mul];simp only[Jf];congr 1;simp only[<-Jf];rw[Rat.add_comm (b*t)]
theorem amG (f:Rat->Rat->Rat) (h0:f 0 0=0) {m:List Rat} (h:m.length=l.length) (j:Nat):(IW f l m).getD j 0=f (l.getD j 0) (m.getD j 0):=by
 rw[FU,FU,FU,IG];by_cases hj:j < l.length
 ·obtain⟨x,hx⟩:=FC hj;obtain⟨y,hy⟩:=FC (l:=m) (k:=j) EN;rw[hx,hy];rfl
 ·rw[G9 (l:=l) EN,G9 (l:=m) EN];exact h0.symm
theorem ahe (hl:q.length=p.length) (hrow:∀ (k:Nat) (l m:List Rat),p[k]? = some l->q[k]? = some m->m.length=l.length) (s t:Rat) (i j:Nat):((dS p q s t).getD i []).getD j 0=(p.getD i []).getD j 0*s+(q.getD i []).getD j 0*t:=by
 have h0:(λa b:Rat=>a*s+b*t) 0 0=0:=by show(0:Rat)*s+0*t=0;rw[J9,J9,Je]
 have e:∀ {a:List (List Rat)} {r:List Rat},a[i]? = some r->a.getD i []=r:=λh=>by rw[FU,h];rfl
 by_cases hi:i < p.length
 ·obtain⟨x,hx⟩:=FC hi;obtain⟨y,hy⟩:=FC (l:=q) (k:=i) EN;have hm:(dS p q s t)[i]? = some (IW (λa b=>a*s+b*t) x y):=by unfold dS;rw[IG,hx,hy]
  rw[e hm,e hx,e hy];exact amG _ h0 (hrow i x y hx hy) j
 ·have e1:∀ {a:List (List Rat)},a.length<=i->a.getD i [] = []:=λh=>by rw[FU,G9 h];rfl
  rw[e1 (by unfold dS; rw[IY]; omega),e1 (a:=p) EN,e1 (a:=q) EN];exact h0.symm
theorem aas (hl:q.length=p.length) (hrow:∀ (k:Nat) (l m:List Rat),p[k]? = some l->q[k]? = some m->m.length=l.length) (s t:Rat) (hst:s+t=1) (c:Int×Int):eP (dS p q s t) c=eP p c*s+eP q c*t:=by
 unfold eP;split
 ·rw[Kr,Kr,hst]
 ·exact ahe hl hrow s t _ _
theorem um {s:Rat} {x:List Rat} (h:(dS p q s t)[k]? = some x):∃ l m,p[k]? = some l/\q[k]? = some m/\x=IW (λa b=>a*s+b*t) l m:=by
 unfold dS at h;rw[IG] at h;cases ha:p[k]? with
 | none=>rw[ha] at h; cases q[k]? <;> simp at h
 | some l =>
  cases hb:q[k]? with
  | none=>rw[ha,hb] at h; simp at h
  | some m =>
   rw[ha,hb] at h;simp only[Hu] at h;exact⟨l,m,rfl,rfl,h.symm⟩
theorem BK.mix {g:Gm} (h1:BK g p) (h2:BK g q) (ht0:0<=t) (ht1:t<=1) (hfit:∀ l∈dS p q (1 - t) t,∀ x∈l,rl x<=1000):BK g (dS p q (1 - t) t):=by
 have hl:q.length=p.length:=by rw[h1.len,h2.len]
 have hrow:∀ (k:Nat) (l m:List Rat),p[k]? = some l->q[k]? = some m->m.length=l.length:=λk l m e1 e2=>by
  obtain⟨inf,hi⟩:=FC (l:=g.Fh) (k:=k) (by have:=FD e1; have:=h1.len; omega);have a1:=h1.acts k l inf e1 hi;have a2:=h2.acts k m inf e2 hi;omega
 have hst:1 - t+t=1:=Rat.sub_add_cancel;have hs0:0<=1 - t:=by
  exact(Rat.le_iff_sub_nonneg t 1).1 ht1
 refine⟨by unfold dS; rw[IY,hl,Nat.min_self,h1.len],λk x inf hx hi=>?_,λx hx y hy=>?_,hfit,λk x s hx hs=>?_,λk s hs=>?_⟩
 ·obtain⟨l,m,e1,e2,rfl⟩:=um hx;have a1:=h1.acts k l inf e1 hi;have a2:=hrow k l m e1 e2;rw[IY];omega
 ·obtain⟨k,hk⟩:=Gz hx;obtain⟨l,m,e1,e2,rfl⟩:=um hk;obtain⟨a,ha,b,hb,rfl⟩:=afn hy;have nn:∀ {x:Rat},dI x=false->0<=x:=λ{x} h=>by
   unfold dI at h;exact Rat.num_nonneg.1 (by have:=of_decide_eq_false h; omega)
  have b1:=nn (h1.pos l (FT e1) a ha);have b2:=nn (h2.pos m (FT e2) b hb);exact afw (Rat.add_nonneg (KZ b1 hs0) (KZ b2 ht0))
 ·obtain⟨l,m,e1,e2,rfl⟩:=um hx;rw[adl _ _ _ _ (hrow k l m e1 e2),h1.sum k l s e1 hs,h2.sum k m s e2 hs,aas hl hrow _ _ hst]
 ·rcases h1.up k s hs with h | ⟨a1,a2,a3,a4⟩
  ·exact .inl h
  ·refine .inr ⟨a1,a2,a3,?_⟩;have hk:=FD hs;rw[cO] at hk;obtain⟨l,e1⟩:=FC (l:=p) (k:=s.1.toNat) (by have:=h1.len; omega);obtain⟨m,e2⟩:=FC (l:=q) (k:=s.1.toNat) (by have:=h2.len; omega);have hm:(dS p q (1 - t) t)[s.1.toNat]? = some (IW (λa b=>a*(1 - t)+b*t) l m):=by unfold dS;rw[IG,e1,e2]
   have a5:=hrow _ l m e1 e2;rw[FU,e1,Ht] at a4;rw[FU,hm,Ht,IY];omega
theorem zy:∀ {l:List Rat},(∀ x∈l,0<=x)->0<=fO l/\∀ x∈l,x<=fO l:=by
 intro l;have key:∀ (l:List Rat) (a:Rat),(∀ x∈l,0<=x)->a<=l.foldl (· + ·) a/\∀ x∈l,a+x<=l.foldl (· + ·) a:=by
  intro l;induction l with
  | nil=>intro a _; exact⟨Rat.le_refl,λ_ h=>by cases h⟩
  | cons y l ih =>
   intro a h;obtain⟨h1,h2⟩:=ih (a+y) λx hx=>h x (GI _ hx)
   have hy:=h y aF;have h3:a<=a+y:=by
    have:=Rat.add_le_add_left (c:=a) |>.2 hy
    rwa [Je] at this
   rw[Iw];refine⟨Rat.le_trans h3 h1,λx hx=>?_⟩;rcases List.mem_cons.1 hx with rfl | hx
   ·exact h1
   ·refine Rat.le_trans ?_ (h2 x hx);rw[Jf,Rat.add_comm y x,<-Jf];have:=Rat.add_le_add_left (c:=a+x) |>.2 hy
    rwa [Je] at this
 intro h;obtain⟨h1,h2⟩:=key l 0 h;exact⟨h1,λx hx=>by have:=h2 x hx; rwa [Rat.zero_add] at this⟩
theorem aoB {x:Rat} (h:0<=x):0<=x⁻¹:=by
 rcases Rat.le_iff_lt_or_eq.1 h with h | h
 ·exact Rat.le_of_lt (Rat.inv_pos.2 h)
 ·rw[<-h,Rat.inv_zero];exact Rat.le_refl
theorem amH {g:Gm} (h:BK g M):∀ l∈M,∀ x∈l,0<=x:=λl hl x hx=>by
 have:=h.pos l hl x hx;unfold dI at this;exact Rat.num_nonneg.1 (by have:=of_decide_eq_false this; omega)
theorem ajz {g:Gm} {M:List (List Rat)} (h:BK g M):∀ k,k<=M.length->eG (aK g) (dM M) k=M.take k
 | 0,_=>rfl
 | k+1,hk=>by
  obtain⟨l,hl⟩:=FC (l:=M) (k:=k) EN;obtain⟨s,hs⟩:=FC (l:=aK g) (k:=k) (by rw[cO,<-h.len]; omega);rw[eG,ajz h k EN,FP hl];refine congrArg (λx=>M.take k ++ [x]) ?_;have e:(aK g).getD k (-1,-1)=s:=by rw[FU,hs]; rfl
  have e2:(dM M).getD k []=jA l:=by unfold dM; rw[FU,Gi,hl]; rfl
  have e3:eP (M.take k) s=fO l:=by
   rw[h.sum k l s hl hs];unfold eP;by_cases h0:s.1 < 0
   ·rw[L8 h0,L8 h0]
   ·rw[L6 h0,L6 h0];have:=h.up k s hs;rw[FU (l:=M.take k),List.getElem?_take,L8 EN,<-FU]
  rw[e,e2,e3];unfold jA;split
  ·rename_i hz
   have hpos:=amH h l (FT hl);have hle:=(zy hpos).2;rw[hz] at hle ⊢;have e4:l=F8 l.length 0:=List.eq_replicate_iff.2 ⟨rfl,λx hx=>Rat.le_antisymm (hle x hx) (hpos x hx)⟩;have hz2:∀ r:List Rat,(r.map λx=>(0:Rat)*x)=F8 r.length 0:=λr=>by
    exact zcO
   rw[hz2];unfold mZ;rw[Lm,<-e4]
  ·rename_i hz
   rw[List.map_map];conv=>rhs;rw[<-List.map_id l]
   refine Jo λx _=>?_
   show fO l*(x / fO l)=x;rw[JW,Ig,G6,Rat.inv_mul_cancel _ hz,La]
theorem akY {g:Gm} (h:BK g M):aO (aK g) (dM M)=M:=by
 have e:(dM M).length=M.length:=by unfold dM;rw[FX]
 have:=ajz h M.length (FV _);rw[Gl (FV _)] at this;unfold aO;rw[e];exact this
theorem amI (s:Rat) (l:List Rat):fO (l.map (· / s))=fO l / s:=by
 have e:l.map (· / s)=l.map λx=>s⁻¹*x:=Jo λx _=>by rw[JW,Ig]
 rw[e,zq,JW,Ig]
theorem akZ {g:Gm} (hI:∀ i∈g.Fh,1<=i.actions/\i.actions<=10) (h:BK g M) {B:Nat} (hB:B*B < LB ^ 4) (hx:∀ l∈M,∀ x∈l,Lo B x) (hs:∀ l∈M,Lo B (fO l)):AP g (dM M):=by
 refine⟨by unfold dM; rw[FX,h.len],λk i l hi hl=>?_⟩;unfold dM at hl;rw[Gi] at hl;obtain⟨r,hr,rfl⟩:=Option.map_eq_some_iff.1 hl;have hrm:=FT hr;have ha:=h.acts k r i hr hi;have hia:=hI i (FT hi);have hpos:=amH h r hrm;unfold jA;split
 ·have:=aeE (n:=r.length) EN EN;rwa [ha] at this
 ·rename_i hz
  have hsum:fO (r.map (· / fO r))=1:=by rw[amI,JW,Rat.mul_inv_cancel _ hz]
  have hsp:0<=(fO r)⁻¹:=aoB (zy hpos).1;have hnn:∀ x∈r.map (· / fO r),0<=x:=λx hx'=>by
   obtain⟨y,hy,rfl⟩:=List.mem_map.1 hx';rw[JW];exact KZ (hpos y hy) hsp
  refine⟨by rw[FX]; exact ha,hsum,λx hx'=>⟨?_,hnn x hx',?_⟩⟩
  ·obtain⟨y,hy,rfl⟩:=List.mem_map.1 hx';rw[JW];exact((hx r hrm y hy).mul ((hs r hrm).inv hz)).rl hB
  ·have:=(zy hnn).2 x hx';rwa [hsum] at this
structure DC (g:Gm) (x y:List (List Rat)) (t:Rat):Prop where
 plan:BK g (dS (aO (aK g) x) (aO (aK g) y) (1 - t) t)
 rows:AP g (dM (dS (aO (aK g) x) (aO (aK g) y) (1 - t) t))
 same:aO (aK g) (dM (dS (aO (aK g) x) (aO (aK g) y) (1 - t) t))=dS (aO (aK g) x) (aO (aK g) y) (1 - t) t
theorem ak0 {g:Gm} (hf:bF g=0) (hp:qh g=0) (hsm:Small g) (hI:∀ i∈g.Fh,1<=i.actions/\i.actions<=10) (hd:∀ (pl:Int) (i:Nat) (n:Nd),g.Fg[i]? = some n->n.kind=2->(gG g pl i).length < 5)
  (hx:AP g x) (hxs:∀ l∈x,∀ a∈l,Lo 30 a) (hy:AP g y) (hys:∀ l∈y,∀ a∈l,Lo 30 a) (ht0:0<=t) (ht1:t<=1) (ht:Lo 9 t):DC g x y t:=by
 have p1:=adi hf hx hsm;have p2:=adi hf hy hsm;have l1:=adk hf hp hd hx hxs;have l2:=adk hf hp hd hy hys;have hst:Lo 18 (1 - t):=by
  rw[Rat.sub_eq_add_neg];exact(amF (FV 1)).add ht.neg
 have anO:∀ a b:Rat,Lo (30 ^ 5) a->Lo (30 ^ 5) b->Lo (2*(30 ^ 5*18*(30 ^ 5*9))) (a*(1 - t)+b*t):=λa b ha hb=>(ha.mul hst).add (hb.mul ht)
 have hM:∀ l∈dS (aO (aK g) x) (aO (aK g) y) (1 - t) t,∀ a∈l,Lo (2*(30 ^ 5*18*(30 ^ 5*9))) a:=by
  intro l hl a ha;refine zb7 ?_;intro k hk;obtain⟨u,v,e1,e2,rfl⟩:=um hk;obtain⟨b,hb,c,hc,rfl⟩:=afn ha;exact anO b c (l1 u (FT e1) b hb) (l2 v (FT e2) c hc)
 have hok:=p1.mix p2 ht0 ht1 λl hl a ha=>Gf ((hM l hl a ha).rl (by decide +kernel)) aA
 have hS:∀ l∈dS (aO (aK g) x) (aO (aK g) y) (1 - t) t,Lo (2*(30 ^ 5*18*(30 ^ 5*9))) (fO l):=by
  intro l hl;refine zb7 ?_;intro k hk;obtain⟨u,v,e1,e2,rfl⟩:=um hk;obtain⟨s,hs⟩:=FC (l:=aK g) (k:=k) (by have:=FD e1; rw[p1.len] at this; rw[cO]; exact this);have hlen:v.length=u.length:=by
   obtain⟨inf,hi⟩:=FC (l:=g.Fh) (k:=k) (by have:=FD e1; have:=p1.len; omega);have a1:=p1.acts k u inf e1 hi;have a2:=p2.acts k v inf e2 hi;omega
  rw[adl _ _ _ _ hlen,p1.sum k u s e1 hs,p2.sum k v s e2 hs];exact anO _ _ ((aa1 hf hp hd hx hxs hs).mono aA) ((aa1 hf hp hd hy hys hs).mono aA)
 exact⟨hok,akZ hI hok (by decide +kernel) hM hS,akY hok⟩
theorem anD {g:Gm} (hf:bF g=0) (hp:qh g=0) (hx:AP g x) (hy:AP g y) (ht0:0<=t) (ht1:t<=1) (hrl:rl t<=1024) (hM:dS (aO (aK g) x) (aO (aK g) y) (1 - t) t=M) (hm:AP g (dM M)) :
  akH g (x.map (GK au)) (y.map (GK au)) (au t)=0/\aaT g (x.map (GK au)) (y.map (GK au)) (au t)=(dM M).map (GK au):=by
 have h0:yB g (x.map (GK au)) (y.map (GK au)) (au t)=0:=by
  unfold yB;rw[L6 (by rw[hx.nP hf]; decide),L6 (by rw[pW (hy.nP hf)]; decide),L6 (by rw[aev hrl ht0 ht1]; decide),hp]
 have h1:adG g (x.map (GK au)) (y.map (GK au)) (au t)=dM M:=by
  unfold adG;rw[abU,abU,qX,hM]
 have h2:kJ (dM M).flatten=0:=vC λa ha=>by
  obtain⟨l,hl,hal⟩:=List.mem_flatten.1 ha;refine zb7 ?_;intro k hk;obtain⟨_,_,ho⟩:=hm.row hk;have:=(ho.2.2 a hal).1;omega
 refine⟨?_,?_⟩
 ·unfold akH;rw[h0,L6 aA,h1,h2]
 ·unfold aaT;rw[h0,L6 aA,h1];unfold aaN;rw[h2];rfl
theorem amJ (a b c:Rat):a*b*c=a*c*b:=by rw[G6,Ig b,<-G6]
def chB (n:Nd):Bool:=decide (n.kind=1)
theorem vJ {g:Gm} (hg:Good g) (m m':List (List Rat)):∀ c,c < g.Fg.length->dD chB g.Fg m c=dD chB g.Fg m' c:=by
 intro c;induction c using LK with
 | _ c ih =>
  intro hc;by_cases h0:c=0
  ·subst h0;rw[nD,nD]
  ·obtain⟨i,k,n,hn,hk⟩:=hg.abL (Jz h0) hc;have hl:=hg.aay ⟨n,hn,hk⟩;rw[mJ hg chB m hn hk,mJ hg chB m' hn hk,ih i hl.1 hl.2.2];by_cases h1:n.kind=1
   ·have e:dL m n=dL m' n:=by unfold dL;rw[L6 EN,L6 EN]
    rw[e]
   ·rw[L6 (by unfold chB; simpa using h1),L6 (by unfold chB; simpa using h1)]
theorem qm {g:Gm} (hf:bF g=0) (h2:g.ay=2) (m:List (List Rat)):∀ c,c < g.Fg.length->dD bH g.Fg m c=dD chB g.Fg m c*(dV m (gG g 0 c)*dV m (gG g 1 c)):=by
 have hg:=iO hf;obtain⟨hne,_⟩:=jr hf;intro c;induction c using LK with
 | _ c ih =>
  intro hc;by_cases h0:c=0
  ·subst h0;rw[nD,nD,lI hg,lI hg];show(1:Rat)=1*(1*1);rw[Kr,Kr]
  ·obtain⟨i,k,n,hn,hk⟩:=hg.abL (Jz h0) hc;have hl:=hg.aay ⟨n,hn,hk⟩;have hm:=FT hn;have hpp:=ny hg hc hn (FT hk);rw[mJ hg bH m hn hk,mJ hg chB m hn hk,pK hg hc hpp hn hl.1,pK hg hc hpp hn hl.1,ih i hl.1 hl.2.2];rcases kinds hne hm with k1 | k1 | k1
   ·rw[L8 (by unfold bH; simp; omega),L8 (by unfold chB; simpa using k1),fG EN,fG EN,Ky,Hz,Hz];exact amJ _ _ _
   ·have hmp:=mV hne hm k1;have hch:(dL m n).getD k 0=(m.getD n.info.toNat []).getD k 0:=by unfold dL;rw[L8 k1]
    rw[L8 (by unfold bH; simp; omega),L6 (by unfold chB; simp; omega),hch];have hsp:n.aC=0\/n.aC=1:=EN;rcases hsp with p0 | p0
    ·rw[lg hg hn ⟨k1,p0⟩ hk,fG EN,Ky,Hz,JE,vI];show _*(m.getD n.info.toNat []).getD k 0=_*(dV m (gG g 0 i)*(m.getD n.info.toNat []).getD ((k:Int).toNat) 0*dV m (gG g 1 i));rw[Gu,G6,G6 (dV m (gG g 0 i)),Ig (dV m (gG g 1 i)),<-G6 (dV m (gG g 0 i))]
    ·rw[lg hg hn ⟨k1,p0⟩ hk,fG EN,Ky,Hz,JE,vI];show _*(m.getD n.info.toNat []).getD k 0=_*(dV m (gG g 0 i)*(dV m (gG g 1 i)*(m.getD n.info.toNat []).getD ((k:Int).toNat) 0));rw[Gu,G6,G6 (dV m (gG g 0 i))]
   ·have:=(uN hne hm k1).2.2;rw[this] at hk;simp at hk
theorem adn {g:Gm} (hf:bF g=0) (pl:Int):∀ (b c:Nat),c<=b->c < g.Fg.length->∀ s∈gG g pl c,s.1.toNat < g.Fh.length/\(g.Fh.getD s.1.toNat default).aC=pl
 | 0,c,hb,hc=>by
  obtain rfl:c=0:=EN;rw[lI (iO hf)];intro s hs; cases hs
 | b+1,c,hb,hc=>by
  have hg:=iO hf;obtain⟨p,hpp,h0 | ⟨q,n,rfl,hq,hn,hmem⟩⟩:=hg.par hc
  ·rw[h0.1,lI hg]; intro s hs; cases hs
  ·obtain⟨j,hj⟩:=Gz hmem;have ih:=adn hf pl b q EN EN;rw[pK hg hc hpp hn hq];intro s hs;rcases List.mem_append.1 hs with hs | hs
   ·exact ih s hs
   ·by_cases hk:n.kind=2/\n.aC=pl
    ·rw[lg hg hn hk hj,JE,List.mem_singleton] at hs;subst hs;obtain⟨_,i2,i3⟩:=ajx hf hn hk.1;exact⟨i2,by rw[<-hk.2]; exact i3⟩
    ·rw[fG hk] at hs; cases hs
theorem ak1 {g:Gm} (hf:bF g=0) (pl:Int) (h:∀ i,i < g.Fh.length->(g.Fh.getD i default).aC=pl->x.getD i []=y.getD i []) {c:Nat} (hc:c < g.Fg.length):dV x (gG g pl c)=dV y (gG g pl c):=by
 unfold dV;refine congrArg (λl:List Rat=>l.foldl (· * ·) 1) (Jo λs hs=>?_);obtain⟨h1,h2⟩:=adn hf pl c c (FV _) hc s hs;rw[h _ h1 h2]
def nR (g:Gm) (pl:Int) (x y:List (List Rat)):List (List Rat):=(List.range g.Fh.length).map λi=>if (g.Fh.getD i default).aC=pl then y.getD i [] else x.getD i []
theorem aat (g:Gm) (pl:Int) (x y:List (List Rat)):(nR g pl x y).length=g.Fh.length:=by unfold nR; simp
theorem aeG {g:Gm} (hi:i < g.Fh.length):(nR g pl x y).getD i []=if (g.Fh.getD i default).aC=pl then y.getD i [] else x.getD i []:=by
 unfold nR;rw[FU,Gi,List.getElem?_range hi];rfl
theorem aa2 {g:Gm} (hx:x.length=g.Fh.length) (hy:y.length=g.Fh.length) (h:(nR g pl x y)[i]? = some l):(∃ inf,g.Fh[i]? = some inf/\(inf.aC=pl/\y[i]? = some l\/inf.aC≠pl/\x[i]? = some l)):=by
 have hi:i < g.Fh.length:=by have:=FD h;rwa [aat] at this
 obtain⟨inf,gU⟩:=FC hi;obtain⟨a,ha⟩:=FC (l:=x) (k:=i) EN;obtain⟨b,hb⟩:=FC (l:=y) (k:=i) EN;have e:=aeG (g:=g) (pl:=pl) (x:=x) (y:=y) hi;rw[FU,h,Ht,FU,gU,Ht,FU,FU,ha,hb,Ht,Ht] at e;refine⟨inf,gU,?_⟩;by_cases hp:inf.aC=pl
 ·rw[L8 hp] at e;subst e;exact .inl ⟨hp,hb⟩
 ·rw[L6 hp] at e;subst e;exact .inr ⟨hp,ha⟩
theorem ai0 {g:Gm} (hx:AP g x) (hy:AP g y):AP g (nR g pl x y):=by
 refine⟨aat _ _ _ _,λk i l hi hl=>?_⟩;obtain⟨inf,gU,⟨_,h⟩ | ⟨_,h⟩⟩:=aa2 hx.1 hy.1 hl
 ·exact hy.2 k i l hi h
 ·exact hx.2 k i l hi h
theorem ak2 {g:Gm} (hx:x.length=g.Fh.length) (hy:y.length=g.Fh.length) {p:Rat->Prop} (h1:∀ l∈x,∀ a∈l,p a) (h2:∀ l∈y,∀ a∈l,p a):∀ l∈nR g pl x y,∀ a∈l,p a:=by
 intro l hl;refine zb7 ?_;intro k hk;obtain⟨inf,gU,⟨_,h⟩ | ⟨_,h⟩⟩:=aa2 hx hy hk
 ·exact h2 l (FT h)
 ·exact h1 l (FT h)
theorem ado {g:Gm} (a b:Rat) (f h:Nat->Rat):∀ k,jd g (λi=>a*f i+b*h i) k=a*jd g f k+b*jd g h k
 | 0=>by show(0:Rat)=a*0+b*0; rw[Rat.mul_zero,Rat.mul_zero,Je]
 | k+1=>by
  have ih:=ado (g:=g) a b f h k;cases hn:g.Fg[k]? with
  | none=>rw[jd,jd,jd,hn]; exact ih
  | some n =>
   by_cases hk:n.kind=3
   ·rw[oZ hn hk,oZ hn hk,oZ hn hk,ih,JX,JX];simp only[Jf];congr 1
    simp only[<-Jf];rw[Rat.add_comm (b*_)]
   ·rw[lN hn hk,lN hn hk,lN hn hk,ih]
theorem ahf {g:Gm} (hx:AV g x) (hy:AV g y) (hm:AV g m) (a b:Rat) (h:∀ c,c < g.Fg.length->dD bH g.Fg m c=a*dD bH g.Fg x c+b*dD bH g.Fg y c) {p:Nat} (hp:p < g.ay.toNat) :
  (dG g m 0).getD p 0=a*(dG g x 0).getD p 0+b*(dG g y 0).getD p 0:=by
 rw[<-hx.worth hp,<-hy.worth hp,<-hm.worth hp,<-ado];refine vG _ λi n hn hk hi=>?_
 rw[h i hi,Rat.add_mul,G6,G6]
theorem ak3 {g:Gm} (hx:AV g x) (hm:AV g m) (h:∀ c,c < g.Fg.length->dD bH g.Fg m c=dD bH g.Fg x c):dG g m 0=dG g x 0:=by
 have l1:=hx.fit.jV _ 0 (FV _) hx.fit.good.pos;have l2:=hm.fit.jV _ 0 (FV _) hm.fit.good.pos;refine List.ext_getElem? λp=>?_
 by_cases hp:p < g.ay.toNat
 ·have e:=ahf hx hx hm 1 0 (λc hc=>by rw[h c hc,Kr,J9,Je]) hp;rw[Kr,J9,Je] at e;obtain⟨a,ha⟩:=FC (l:=dG g m 0) (k:=p) EN;obtain⟨b,hb⟩:=FC (l:=dG g x 0) (k:=p) EN;rw[FU,FU,ha,hb] at e;rw[ha,hb];exact congrArg some e
 ·rw[G9 EN,G9 EN]
theorem ak4 {g:Gm} (hf:bF g=0) (hp:qh g=0) (h2:g.ay=2) (hpl:pl=0\/pl=1) (hx:AP g x) (hy:AP g (nR g pl x y)) (hyl:y.length=g.Fh.length) (h:DC g x (nR g pl x y) t):∀ c,c < g.Fg.length ->
  dD bH g.Fg (dM (dS (aO (aK g) x) (aO (aK g) (nR g pl x y)) (1 - t) t)) c=(1 - t)*dD bH g.Fg x c+t*dD bH g.Fg (nR g pl x y) c:=by
 intro c hc;obtain⟨M,hM⟩:=FH (dM (dS (aO (aK g) x) (aO (aK g) (nR g pl x y)) (1 - t) t));have hrows:=h.rows;have hsame:=h.same;rw[<-hM] at hrows hsame ⊢;refine zcx ?_;intro w0;have hst:1 - t+t=1:=Rat.sub_add_cancel;have hl:(aO (aK g) (nR g pl x y)).length=(aO (aK g) x).length:=by rw[gZ,gZ,hy.1,hx.1]
 have aoC:∀ q:Int,dV M (gG g q c)=dV x (gG g q c)*(1 - t)+dV (nR g pl x y) (gG g q c)*t:=λq=>by
  rw[w0 M hrows,hsame,aas hl (λk l m e1 e2=>(acZ (hx.nP hf) (hy.nP hf)).2 k l m e1 e2 |>.2) _ _ hst,<-w0 x hx,<-w0 _ hy]
 have hother:∀ q:Int,q≠pl->dV (nR g pl x y) (gG g q c)=dV x (gG g q c):=λq hq =>
  ak1 hf q (λi hi hpi=>by rw[aeG hi,L6 EN]) hc
 have hsx:∀ q:Int,q≠pl->dV M (gG g q c)=dV x (gG g q c):=λq hq=>by
  rw[aoC q,hother q hq,<-JX,hst,La]
 have hc1:=vJ (iO hf) M x c hc;have hc2:=vJ (iO hf) (nR g pl x y) x c hc;rw[qm hf h2 M c hc,qm hf h2 x c hc,qm hf h2 (nR g pl x y) c hc,hc1,hc2];generalize dD chB g.Fg x c=K;rcases hpl with rfl | rfl
 ·rw[hsx 1 aA,hother 1 aA,aoC 0];generalize dV x (gG g 1 c)=B;generalize dV x (gG g 0 c)=A;generalize dV (nR g 0 x y) (gG g 0 c)=A';generalize 1 - t=s;rw[Rat.add_mul,JX,Ig A s,Ig A' t,G6,G6,<-G6 K s,<-G6 K t,Ig K s,Ig K t,G6,G6]
 ·rw[hsx 0 aA,hother 0 aA,aoC 1];generalize dV x (gG g 0 c)=B;generalize dV x (gG g 1 c)=A;generalize dV (nR g 1 x y) (gG g 1 c)=A';generalize 1 - t=s;rw[JX,JX,Ig A s,Ig A' t,<-G6 B s,<-G6 B t,Ig B s,Ig B t,G6,G6,<-G6 K s,<-G6 K t,Ig K s,Ig K t,G6,G6]
theorem ai1 {g:Gm} {z:List (List Rat)} (hf:bF g=0) (hp:qh g=0) (h2:g.ay=2) (hx:AP g x) (hz:AP g z) (h:aO (aK g) z=aO (aK g) x):∀ c,c < g.Fg.length->dD bH g.Fg z c=dD bH g.Fg x c:=by
 intro c hc;refine zcx ?_;intro w0;rw[qm hf h2 z c hc,qm hf h2 x c hc,vJ (iO hf) z x c hc,w0 z hz,w0 z hz,w0 x hx,w0 x hx,h]
open List renaming getElem_toArray → lq1, getElem_cons_zero → lq2, getElem_cons_succ → lq3, setIfInBounds_toArray → lq4, set_cons_zero → lq5, set_cons_succ → lq6
theorem amK (w:FW) (F:FI) (vg vm:F7) (g:Gm) (m:List (List Rat)) (hg:AA w F vg g) (hsm:Small g) (hf:bF g=0) (hp:qh g=0) (hm:Ak w F vm m) (hr:AP g m) :
  Calls FY 17 #[vg,vm] w (Ret w λu w'=>∃ t,u = .tuple #[t,F6 F5 0]/\Ak w' (λ_=>True) t (aO (aK g) m)):=by
 have HG:=Ac (hg.keep (G:=λ_=>True) (λ_ _ _=>trivial) (Gh _ _)); have HM:=Ac (JA (G:=λ_=>True) hm (λ_ _ _=>trivial) (Gh _ _)); have HS:=Ac hsm;have HST:=Ac (hr.nP hf); have HFO:=Ac hf;have HFC:=Ac (hr.facts hf hsm);have HFT:=Ac (rG HST.out);have HRL:=Ac (aak hr.limbs);have HR2:=Ac (aeF hf hsm hr);have HPE:=Ac hp;have HPO:=Ac (show rF g=aK g by
  rcases yZ g with⟨_,h⟩ | h
  ·exact h
  ·exact absurd hp h)
 have HLN:=Ac (show ∀ l∈m,l.length<=1000 from λl hl=>by
  obtain⟨k,hk⟩:=Gz hl;obtain⟨i,hi⟩:=FC (l:=g.Fh) (k:=k) (by have:=FD hk; have:=hr.1; omega);have h1:=(hr.2 k i l hi hk).1;have h2:=mQ hf i (FT hi);omega)
 have HFL:=Ac (show ∀ l∈aO (aK g) m,l.length<=1000 from λl hl=>by
  obtain⟨k,hk⟩:=Gz hl;obtain⟨inf,hi,h1⟩:=adg hr hk;have h2:=mQ hf inf (FT hi);omega)
 have hni:=hsm.Fh;obtain⟨n,hn⟩:=FH g.Fh.length;have hml:m.length=n:=by rw[hn];exact hr.1
 have HML:=Ac hml;have HNN:=Ac hn;have HOL:=Ac (show(aO (aK g) m).length=n by rw[gZ,hml]);have hn100:n<=100:=EN;obtain⟨vn,vi,rfl,⟨A,c,rfl,hc,_⟩,⟨Ai,ci,rfl,hci,_⟩⟩:=hg;obtain⟨Am,cm,e,_,_⟩:=hm;rw[FX,hml] at e;subst e;rw[<-hn] at HG ⊢;clear hsm hf hp hr hml hn hni;go_in;go_wp2_with fail
 obtain⟨W,hW,rx,hB,hz⟩:=aJ w 27 #[F6 F5 g.ay,FQ A g.Fg.length c,FQ Ai n ci];rw[<-hW];replace HG:=Ac (HG.out.on (FZ hB _));replace HM:=Ac (Ll HM.out (FZ hB _));refine Zd ?_;intro x0 x1 x2;clear hW hz rx;go_wp2_with fail
 refine(ac4 W (λ_=>True) _ _ g _ HG.out HS.out HM.out (by rw[FX,HML.out]; omega) HFC.out.fine).mono ?_;rintro e w1 ⟨_,rfl,hb,rfl⟩;rw[HST.out];refine YD ?_;clear HG HM hB x0 x1 x2 hb;intro HG HM hB x0 x1 x2;dsimp only;go_wp2_with fail
 refine(rH w1 (λ_=>True) _ g HG.out HS.out HFO.out).mono ?_;rintro e w2 ⟨_,rfl,hb,vp,rfl,hvp⟩;rw[HPE.out];rw[HPO.out] at hvp;refine YD ?_;clear HG HM hB x0 x1 x2 hb;intro HG HM hB x0 x1 x2;have HU:=Ac (AL.keep (G:=(λ_=>True)) hvp (λ_ _ _=>trivial) (Gh _ _));obtain⟨Au,cu,e⟩:=hvp.open;rw[cO,<-HNN.out] at e;subst e;clear hvp;dsimp only;go_wp2_with fail
 refine(afq w2 (λ_=>True) _ _ _ g (aK g) m HG.out HU.out HM.out HFT.out HRL.out (by rw[HML.out]; omega) HLN.out).mono ?_;rintro e w3 ⟨u,rfl,hb,hu⟩;rw[aiB HFT.out] at hu;have HO:=Ac (JA (G:=(λ_=>True)) hu (λ_ _ _=>trivial) (Gh _ _));obtain⟨Ao,co,e,_,_⟩:=hu;rw[FX,HOL.out] at e;subst e;refine YD ?_;clear HG HM hB x0 x1 x2 hb;intro HG HM hB x0 x1 x2;dsimp only;go_wp2_with fail
 refine(wV w3 (λ_=>True) _ (aO (aK g) m) HO.out (by rw[HOL.out]; omega) HFL.out (λl hl x hx=>by have:=HR2.out l hl x hx; omega)).mono ?_;rintro e w4 ⟨u,rfl,hb,t,rfl,ht⟩;have hE:kJ (aO (aK g) m).flatten=0:=vC λx hx=>by obtain⟨l,hl,hx⟩:=List.mem_flatten.1 hx;have:=HR2.out l hl x hx;omega
 have HMX:=Ac (show aaN (aO (aK g) m)=(aO (aK g) m).map (GK au) by unfold aaN; rw[hE]; rfl);rw[hE];rw[HMX.out] at ht;have HTT:=Ac ht;replace hB:=hB.trans (hb.mono hB.size);clear ht hE hb x0 x1 x2;dsimp only;go_wp2
 go_ret2;exact⟨_,rfl,hB,_,rfl,HTT.out⟩
structure ET (w0:FW) (ub:Nat) (acc:Rat) (A:Option Addr) (c:Nat) (B:Option Addr) (d:Nat) (wr:FW):Prop where
 tu:Row wr ub 42 [Gj (au acc).neg,FQ A (au acc).num.length c,FQ B (au acc).den.length d]
 fine:(⟨au acc,FQ A (au acc).num.length c,FQ B (au acc).den.length d⟩:RV).fine wr (λb=>b≠ub)
 bel:Below ub w0 wr
theorem ai2 (w:FW) (F:FI) (vg vm:F7) (g:Gm) (r:List (List Rat)) (hg:AA w F vg g) (hsm:Small g) (hf:bF g=0) (hp:qh g=0) (hm:Ak w F vm r) (hok:BK g r) :
  Calls FY 18 #[vg,vm] w (Ret w λu w'=>∃ t,u = .tuple #[t,F6 F5 (kJ (dM r).flatten)]/\FM w' (λ_=>True) t (aaN (dM r))):=by
 have HG:=Ac (hg.keep (G:=λ_=>True) (λ_ _ _=>trivial) (Gh _ _)); have HM:=Ac (JA (G:=λ_=>True) hm (λ_ _ _=>trivial) (Gh _ _)); have HS:=Ac hsm;have HOK:=Ac hok; have HA10:=Ac (mQ hf);have HPE:=Ac (show ajo g=0 by unfold ajo; rw[L6 (by rw[hf]; decide)]; exact hp);have HPO:=Ac (show abT g=aK g by
  unfold abT;rw[L6 (by rw[hf]; decide)];rcases yZ g with⟨_,h⟩ | h
  ·exact h
  ·exact absurd hp h)
 have hni:=hsm.Fh;obtain⟨n,hn⟩:=FH g.Fh.length;have HRL:=Ac (show r.length=n by rw[hn]; exact hok.len); have HNN:=Ac hn;have hn100:n<=100:=EN;have HL10:=Ac (show ∀ l∈r,l.length<=10 from λl hl=>by
  obtain⟨k,hk⟩:=Gz hl;obtain⟨inf,gU⟩:=FC (l:=g.Fh) (k:=k) (by have:=FD hk; have:=hok.len; omega);have h1:=hok.acts k l inf hk gU;have h2:=HA10.out inf (FT gU);omega)
 have HBM:=Ac (back_mem (p:=r) λl hl=>⟨HL10.out l hl,λx hx=>by have:=hok.fits l hl x hx; omega⟩);have HBL:=Ac (show(dM r).length=n by unfold dM; rw[FX,HRL.out]);obtain⟨vn,vi,rfl,⟨A,c,rfl,hc,_⟩,⟨Ai,ci,rfl,hci,_⟩⟩:=hg;obtain⟨Am,cm,e,_,_⟩:=hm;rw[FX,HRL.out] at e;subst e;rw[<-hn] at HG ⊢;clear hsm hf hp hok hn hni;go_in;go_wp2_with fail
 obtain⟨W,hW,rx,hB,hz⟩:=aJ w 27 #[F6 F5 g.ay,FQ A g.Fg.length c,FQ Ai n ci];rw[<-hW];obtain⟨gb,hgb⟩:=FH w.heap.size;rw[<-hgb] at rx ⊢;replace HG:=Ac (HG.out.on (FZ hB _));replace HM:=Ac (Ll HM.out (FZ hB _));refine Zd ?_;intro x0 x1 x2;clear hW hz rx hgb;go_wp2_with fail
 refine(afp W (λ_=>True) _ g HG.out HS.out).mono ?_;rintro e w2 ⟨_,rfl,hb,vp,rfl,hvp⟩;rw[HPE.out];rw[HPO.out] at hvp;refine YD ?_;clear HG HM hB x0 x1 x2 hb;intro HG HM hB x0 x1 x2;have HU:=Ac (AL.keep (G:=(λ_=>True)) hvp (λ_ _ _=>trivial) (Gh _ _));obtain⟨Au,cu,e⟩:=hvp.open;rw[cO,<-HNN.out] at e;subst e;clear hvp;dsimp only;go_wp2_with fail
 refine(acJ w2 (λ_=>True) _ _ g _ HG.out HM.out (by rw[FX,HRL.out]; omega) (by have:=HNN.out; omega)).mono ?_;rintro e w3 ⟨_,rfl,hb,rfl⟩;rw[L6 (by rw[FX,HRL.out]; have:=HNN.out; omega)];replace HU:=Ac (AL.on HU.out (FZ hb _));refine YD ?_;clear HG HM hB x0 x1 x2 hb;intro HG HM hB x0 x1 x2;dsimp only;go_wp2_with fail
 have HX0:=Ac x0;have HX1:=Ac x1;have HX2:=Ac x2;have HB3:=Ac hB;clear x0 x1 x2 hB;go_loopw [9] (λiv wr=>∃ k:Nat,k<=n/\iv = F6 F5 (k:Int)/\Below w3.heap.size w3 wr) (λiv _=>n - (intOf iv).toNat)
 case atStart=>exact⟨0,GR _,rfl,F9 _ _⟩
 case round =>
  obtain⟨k,hk,rfl,hbel⟩:=hrel;obtain⟨wa,rfl⟩:=FH wr;by_cases hlt:k < n
  ·obtain⟨row,hrow⟩:=FC (l:=r) (k:=k) (by rw[HRL.out]; exact hlt);obtain⟨inf,gU⟩:=FC (l:=g.Fh) (k:=k) (by rw[<-HNN.out]; exact hlt);obtain⟨s,hs⟩:=FC (l:=aK g) (k:=k) (by rw[cO,<-HNN.out]; exact hlt);have hact:=HOK.out.acts k row inf hrow gU;have hsum:=HOK.out.sum k row s hrow hs;have hup:=HOK.out.up k s hs;have hl10:=HL10.out row (FT hrow);have HFT:=Ac (λx (hx:x∈row)=>HOK.out.fits row (FT hrow) x hx);have HPS:=Ac (λx (hx:x∈row)=>HOK.out.pos row (FT hrow) x hx);have HSS:=Ac (λj=>xK hl10 (λx hx=>by have:=HFT.out x hx; omega) j);have AZ:=Ac hrow;have HINF:=Ac gU;have HSQ:=Ac hs;have CX:=Ac hact;have DJ:=Ac hsum;have HUP:=Ac hup;clear hrow gU hs hact hsum hup;obtain⟨A',c',e,_,hxm⟩:=HM.out;rw[FX,HRL.out] at e;injection e with e1 e2 e3
   subst e1;obtain⟨mb,mo,rfl,_,y8,hcm⟩:=hxm (by rw[FX,HRL.out]; omega);have HCM:=Ac hcm;clear e2 e3 hxm;refine zda ?_;intro vr hvr hra;rw[Gp] at hvr;have lq:=IB (G:=λb=>b < w3.heap.size) hra (λb hb hl=>hl) (Gh _ _);obtain⟨Ar,cr,rfl,-,-⟩:=hra;rw[FX] at hvr lq;have HRV:=Ac lq;have HVR:=Ac hvr;clear hcm hvr lq;obtain⟨_,_,e,-,A3,c3,he2,_,hxi⟩:=HG.out;simp only[Value.agg.injEq,Js,Jd,and_true,true_and] at e;obtain⟨-,e⟩:=e;rw[he2,<-HNN.out] at e;injection e with e1 e2 e3
   subst e1;obtain⟨bI,oI,rfl,_,hbI,hcI⟩:=hxi (by rw[<-HNN.out]; omega);have i1:=(hbel.cell (p:=⟨bI,oI+k*2+1,none⟩) hbI).trans (hcI k inf HINF.out).c1;rw[<-CX.out] at i1;clear e2 e3 he2 hxi hcI;obtain⟨_,_,e,-,hxp⟩:=HU.out;rw[cO,<-HNN.out] at e;injection e with e1 e2 e3
   subst e1;obtain⟨pb0,po0,rfl,-,aku,hcp⟩:=hxp (by rw[cO,<-HNN.out]; omega);obtain⟨hp1,hp2⟩:=hcp k s HSQ.out;have HP1:=Ac hp1;have HP2:=Ac hp2;clear e2 e3 hxp hcp hp1 hp2;have m1:=(hbel.cell (p:=⟨mb,mo+k,none⟩) y8).trans HVR.out;have x2:=ah HX2.out hbel;have hnne:((row.length:Int) != (row.length:Int))=false:=aF;have hkn:(k:Int) < n:=EN;go_wp2_with fail
   refine wp_region_held_drew (S:=λw'=>w'.cell? ⟨mb,mo+k,none⟩=some (FQ Ar row.length cr)/\w'.cell? ⟨gb,2,none⟩=some (FQ (some ⟨bI,oI,none⟩) n ci)/\w'.cell? ⟨bI,oI+k*2+1,none⟩=some (F6 F5 (row.length:Int))) ak ⟨m1,x2,i1⟩ (λhHeld=>?_);have hb:Below wa.heap.size wa wa.drew:=aI (F9 _ wa) 1;replace m1:=ah m1 hb;replace x2:=ah x2 hb;replace i1:=ah i1 hb;replace hbel:=hbel.trans (hb.mono hbel.size);clear hb;generalize wa.drew=wn at *;refine tkm [0,1,2,3,4,5,6,7,8,9,10,11] ?_;refine Yf ?_;clear hHeld;clear x2 i1 hnne m1;have hbz:=hbel.size;refine ZR ?_;go_wp2_with fail
   refine(mP wn 0 aA aA).mono ?_;rintro e wb ⟨u1,rfl,hb,hu⟩;obtain⟨z0,hz0⟩:∃ y:Rat,y=((0:Int):Rat):=⟨_,rfl⟩;rw[<-hz0] at hu;have HZ:=Ac (show z0=0 by rw[hz0]; rfl);obtain⟨A1,c1,B1,d1,rfl,hf1⟩:=Ah.opened hu;replace hbel:=hbel.trans (hb.mono hbel.size);clear hu hz0 hb hbz;dsimp only;go_upto_region 13 with(fail)
   obtain⟨W3,hW3,r3,hb,hz3⟩:=aJ wb 42 #[Gj (au z0).neg,FQ A1 (au z0).num.length c1,FQ B1 (au z0).den.length d1];rw[<-hW3];obtain⟨ub,hub⟩:=FH wb.heap.size;have hf3:RV.fine W3 (λb=>b≠ub) ⟨au z0,FQ A1 (au z0).num.length c1,FQ B1 (au z0).den.length d1⟩:=RV.fine.keep hf1 (λb hb hl=>by omega) (FZ hb _);have hub9:w3.heap.size<=ub:=by rw[hub];exact hbel.size
   rw[<-hub] at r3 ⊢;replace hbel:=hbel.trans (hb.mono hbel.size);have hub3:ub < W3.heap.size:=r3.lt;have hst:ET W3 ub z0 A1 c1 B1 d1 W3:=⟨r3,hf3,F9 _ _⟩;have HST:=Ac hst;have HBL3:=Ac hbel;clear hf1 hb hz3 hub hW3 r3 hf3 hst hbel;go_wp2_with fail
   go_loopw [11] (λiv wr=>∃ (j:Nat) (acc:Rat) (A:Option Addr) (c:Nat) (B:Option Addr) (d:Nat),j<=row.length/\iv = F6 F5 (j:Int)/\acc=fO (row.take j)/\ET W3 ub acc A c B d wr) (λiv _=>row.length - (intOf iv).toNat)
   case atStart=>exact⟨0,z0,_,_,_,_,GR _,rfl,by rw[HZ.out]; rfl,HST.out⟩
   case round =>
    clear HST;obtain⟨j,acc,A2,c2,B2,d2,hj,rfl,hacc,hst⟩:=hrel;obtain⟨wd,rfl⟩:=FH wr;have HST:=Ac hst;have HAC:=Ac hacc;have hBu:=hst.bel;have ac3:=HBL3.out.trans (hBu.mono hub9);have m1:=(ac3.cell (p:=⟨mb,mo+k,none⟩) y8).trans HVR.out;have aml:rl acc<=20000:=by rw[hacc];exact HSS.out j
    have mW:=hst.tu.lt;clear hst hacc;by_cases hjt:j < row.length
    ·obtain⟨x,hx⟩:=FC hjt;have HX:=Ac hx;have hxl:=HFT.out x (FT hx);have hneg:(au x).neg=false:=HPS.out x (FT hx);obtain⟨rb,ro,rc,vn,vd,e,aaW,adH,y0,y1,y2,hn,hd⟩:=FK.at (HRV.out.on (FZ ac3 _)) (show(row.map au)[j]? = some (au x) by rw[Gi,hx]; rfl);injection e with e1 e2 e3
     subst e1;have HXV:=Ac (Ah.mono (JL (r:=au x) rfl hn hd) (G:=λb=>b≠ub) (λb hb _=>by have:b < w3.heap.size:=hb; omega));obtain⟨An,cn,rfl,-,-⟩:=hn;obtain⟨Ad,cd,rfl,-,-⟩:=hd;rw[hneg] at y0 HXV;refine zbV ?_;intro HUB HAV;have hBn:=hBu;have hjr:(j:Int) < row.length:=EN;have HRE:=Ac (ac6 (x:=x) EN);have hq1:=gy x;have hq2:=gB x;clear HST e2 e3 hx aaW adH hneg;go_wp2_with fail
     refine(tq wd (λb=>b≠ub) _ (au x) HXV.out (afF x) (by rw[oL]; omega) (by show(dig x.den).length<=100000; omega)).mono ?_;rintro e we ⟨_,rfl,hb,rfl⟩;rw[HRE.out];replace m1:=ah m1 hb;replace y0:=ah y0 hb;replace y1:=ah y1 hb;replace y2:=ah y2 hb;have hbz:=hb.size;replace HXV:=Ac (Hw HXV.out hb);refine YL ?_;clear HAV HUB hBn mW hb;intro HAV HUB hBn mW;dsimp only;go_upto_region 21 with(fail)
     have u0:=HUB.out.cell (i:=0) rfl;have u1:=HUB.out.cell (i:=1) rfl;have u2:=HUB.out.cell (i:=2) rfl;refine aW (λw'=>w'.cell? ⟨ub,0,none⟩=some (Gj (au acc).neg)/\w'.cell? ⟨ub,1,none⟩=some (FQ A2 (au acc).num.length c2)/\w'.cell? ⟨ub,2,none⟩=some (FQ B2 (au acc).den.length d2)/\w'.cell? ⟨mb,mo+k,none⟩=some (FQ (some ⟨rb,ro,none⟩) row.length cr)/\w'.cell? ⟨rb,ro+j*3,none⟩=some (Gj false)/\w'.cell? ⟨rb,ro+j*3+1,none⟩=some (FQ An (au x).num.length cn)/\w'.cell? ⟨rb,ro+j*3+2,none⟩=some (FQ Ad (au x).den.length cd)) 9 1 ak rfl ak ?_;have hHeld:(λw':FW=>w'.cell? ⟨ub,0,none⟩=some (Gj (au acc).neg)/\w'.cell? ⟨ub,1,none⟩=some (FQ A2 (au acc).num.length c2)/\w'.cell? ⟨ub,2,none⟩=some (FQ B2 (au acc).den.length d2)/\w'.cell? ⟨mb,mo+k,none⟩=some (FQ (some ⟨rb,ro,none⟩) row.length cr)/\w'.cell? ⟨rb,ro+j*3,none⟩=some (Gj false)/\w'.cell? ⟨rb,ro+j*3+1,none⟩=some (FQ An (au x).num.length cn)/\w'.cell? ⟨rb,ro+j*3+2,none⟩=some (FQ Ad (au x).den.length cd)) we.drew:=⟨u0,u1,u2,m1,y0,y1,y2⟩;refine Zv ?_;have hb:Below we.heap.size we we.drew:=aI (F9 _ we) 1;refine ZU ?_;clear u0 u1 u2 m1 y0 y1 y2 HXV;intro u0 u1 u2 m1 y0 y1 y2 HXV;refine YL ?_;clear HAV HUB hBn mW hb;intro HAV HUB hBn mW;generalize we.drew=wn at *;refine tkm [0,1,2,3,4,5,6,7] ?_;refine tk2 8 ak rfl λK hK=>?_
     go_simp;refine(kV wn (λb=>b≠ub) _ _ acc x HAV.out HXV.out aml EN).mono ?_;rintro e wn ⟨vp,rfl,hb,hu⟩;obtain⟨pr,hpr⟩:=FH (acc+x);rw[<-hpr] at hu;have HPV:=Ac (hu.mono (G:=(λb=>b≠ub)) (λb hb _=>hb.elim id λh=>by omega));have HPR:=Ac hpr;obtain⟨A4,c4,B4,d4,rfl,-⟩:=hu.opened;clear hu hpr;refine ZU ?_;clear u0 u1 u2 m1 y0 y1 y2 HXV;intro u0 u1 u2 m1 y0 y1 y2 HXV;refine YL ?_;clear HAV HUB hBn mW hb;intro HAV HUB hBn mW;refine zdi ?_;clear hHeld;intro hHeld;refine zaq ?_;clear hK K hHeld;intro f0 f1 f2 Wz hWz hrz hwz HWZ;have HPZ:=Ac (Ah.on HPV.out (hwz.same λb hb=>hb));have hBz:=Wrote.below hBn hwz (λb hb=>by omega) EN;clear hWz hwz HPV;go_wp2
     rw[<-HWZ.out];unfold Bj;refine zaB ?_;clear f0 f1 f2 u0 u1 u2 m1 y0 y1 y2 HWZ HXV HAV HUB;have hst2:ET W3 ub pr A4 c4 B4 d4 Wz:=⟨hrz,Ah.aiG HPZ.out,hBz⟩;have Cc:=Ac hst2;clear hst2 hrz hBz HPZ;go_wp2
     go_roundw
     case rel=>exact⟨j+1,pr,_,_,_,_,EN,by go_num,by rw[HPR.out,FP HX.out,tN,<-HAC.out],Cc.out⟩
     case measure=>simp[intOf]; omega
    ·have hje:j=row.length:=EN;subst hje;have HSR:=Ac (show acc=fO row by rw[HAC.out,Gl (FV _)]);refine zbV ?_;intro HUB HAV;have hbel:=ac3;clear HST hBu ac3 HAC;go_wp2_with fail
     clear m1;refine(mP wd 1 aA aA).mono ?_;rintro e we ⟨v,rfl,hb,hv⟩;obtain⟨z1,hz1⟩:∃ y:Rat,y=((1:Int):Rat):=⟨_,rfl⟩;rw[<-hz1] at hv;have HZ1:=Ac (show z1=1 by rw[hz1]; rfl);obtain⟨AU,cU,BU,dU,rfl,hv2⟩:=Ah.opened hv;have HV:=Ac (show RtV we (λ_=>True) _ z1 from hv.mono λ_ _ _=>trivial);refine zcA ?_;clear HUB HAV hbel mW;intro HUB HAV hbel mW;clear hv hv2 hz1 hb;dsimp only;go_upto_region 23 with(fail)
     obtain⟨wC,hwc,ru,hb,hz⟩:=aJ we 42 #[Gj (au z1).neg,FQ AU (au z1).num.length cU,FQ BU (au z1).den.length dU];rw[<-hwc];obtain⟨qb,hqb⟩:=FH we.heap.size;replace HAV:=Ac (JR (G:=λb=>b < we.heap.size) HAV.out (λb _ hl=>hl) (Gh _ _));have HQE:=Ac (show(λb=>b < we.heap.size)=λb=>b < qb by rw[hqb]);rw[HQE.out] at HAV;clear HQE;rw[<-hqb] at ru hz ⊢;have hq9:w3.heap.size<=qb/\ub < qb:=⟨by rw[hqb]; exact hbel.size,EN⟩;replace HV:=Ac (Hw HV.out hb);refine zcA ?_;clear HUB HAV hbel mW;intro HUB HAV hbel mW;clear hwc hqb hb;have q0:=(hbel.cell (p:=⟨pb0,po0+k*2,none⟩) aku).trans HP1.out;have q1:=(hbel.cell (p:=⟨pb0,po0+k*2+1,none⟩) aku).trans HP2.out;go_upto_region 24 with(fail)
     obtain⟨wD,hwd,rp,hb,hz2⟩:=aJ wC 60 #[F6 F5 s.1,F6 F5 s.2];rw[<-hwd];obtain⟨pb,hpb⟩:=FH wC.heap.size;rw[<-hpb] at rp hz2 ⊢;have hup:qb < pb/\pb < wD.heap.size:=EN;replace ru:=ru.below hb ru.lt;replace HV:=Ac (Hw HV.out hb);refine zcA ?_;clear HUB HAV hbel mW;intro HUB HAV hbel mW;clear hwd hpb hb q0 q1 HP1 HP2 hz hz2;have p0:=rp.cell (i:=0) rfl;have p1:=rp.cell (i:=1) rfl;obtain⟨tg,htg⟩:=FH (eP r s);have HTG:=Ac htg;clear htg;have hnu:ub≠qb:=EN;go_upto_if 92 with(fail)
     go_cut [] from 90 to 101 (λwx=>∃ AU cU BU dU,Row wx qb 42 [Gj (au tg).neg,FQ AU (au tg).num.length cU,FQ BU (au tg).den.length dU]/\RtV wx (λ_=>True) (.agg #[Gj (au tg).neg,FQ AU (au tg).num.length cU,FQ BU (au tg).den.length dU]) tg/\Wrote (λb=>b=qb) wD wx)
     case first =>
      rcases HUP.out with hs | ⟨h1,h2,h3,h4⟩
      ·have hu1:tg=z1:=by rw[HTG.out,HZ1.out];unfold eP;rw[L8 hs]
       have hd0:decide (0<=s.1)=false:=L9 EN;have hng:¬ (0:Int)<=s.1:=EN;go_wp2_with fail
       go_meet
       exact⟨AU,cU,BU,dU,by rw[hu1]; exact ru,by rw[hu1]; exact HV.out,H6 _ _⟩
      ·obtain⟨q,hq⟩:∃ a:Nat,s.1=(a:Int):=⟨s.1.toNat,EN⟩;obtain⟨a2,ha2⟩:∃ a:Nat,s.2=(a:Int):=⟨s.2.toNat,EN⟩;obtain⟨s1,s2⟩:=s;dsimp only at hq ha2 h1 h2 h3 h4 p0 p1 ⊢;subst hq;subst ha2;rw[Gu] at h4;obtain⟨rq,hrq⟩:=FC (l:=r) (k:=q) (by rw[HRL.out]; omega);have hrd:r.getD q []=rq:=by rw[FU,hrq];rfl
       rw[hrd] at h4;have haq:a2 < rq.length:=EN;obtain⟨x,hx⟩:=FC haq;have hux:tg=x:=by rw[HTG.out];unfold eP;rw[L6 (by show ¬ ((q:Int) < 0); omega)];show(r.getD (Int.toNat (q:Int)) []).getD (Int.toNat (a2:Int)) 0=x;rw[Gu,Gu,hrd,FU,hx];rfl
       obtain⟨vr,hvr,hra⟩:=HCM.out q (GK au rq) (by rw[Gi,hrq]; rfl);rw[Gp] at hvr;have lq:=IB (G:=λb=>b < w3.heap.size) hra (λb hb hl=>hl) (Gh _ _);obtain⟨AQ,cQ,rfl,-,-⟩:=hra;rw[FX] at hvr lq;have mq:=(hbel.cell (p:=⟨mb,mo+q,none⟩) y8).trans hvr;obtain⟨eb,eo,ec,vn,vd,e,-,anE,h0',h1',h2',hn,hd⟩:=FK.at (lq.on (FZ hbel _)) (show(GK au rq)[a2]? = some (au x) by rw[Gi,hx]; rfl);injection e with e1 e2 e3
       subst e1;have HXV:=Ac (JL (r:=au x) rfl hn hd);obtain⟨Axn,cxn,rfl,-,-⟩:=hn;obtain⟨Axd,cxd,rfl,-,-⟩:=hd;have hra3:=lq;have c5:(q:Int) < n:=EN;have c7:(a2:Int) < rq.length:=EN;have c8:(0:Int)<=q:=EN;have hd0:decide ((0:Int)<=(q:Int))=true:=Mc c8;clear hrq hvr lq hra3 hx e2 e3 h1 h2 h3 h4 hrd;go_wp2_with fail
       have ajA:=F9 wD.heap.size wD;refine aW (λw'=>w'.cell? ⟨pb,0,none⟩=some (F6 F5 (q:Int))/\w'.cell? ⟨pb,1,none⟩=some (F6 F5 (a2:Int))/\w'.cell? ⟨mb,mo+q,none⟩=some (FQ (some ⟨eb,eo,none⟩) rq.length cQ)/\w'.cell? ⟨eb,eo+a2*3,none⟩=some (Gj (au x).neg)/\w'.cell? ⟨eb,eo+a2*3+1,none⟩=some (FQ Axn (au x).num.length cxn)/\w'.cell? ⟨eb,eo+a2*3+2,none⟩=some (FQ Axd (au x).den.length cxd)) 9 1 ak rfl ak ?_;have hHeld:(λw':FW=>w'.cell? ⟨pb,0,none⟩=some (F6 F5 (q:Int))/\w'.cell? ⟨pb,1,none⟩=some (F6 F5 (a2:Int))/\w'.cell? ⟨mb,mo+q,none⟩=some (FQ (some ⟨eb,eo,none⟩) rq.length cQ)/\w'.cell? ⟨eb,eo+a2*3,none⟩=some (Gj (au x).neg)/\w'.cell? ⟨eb,eo+a2*3+1,none⟩=some (FQ Axn (au x).num.length cxn)/\w'.cell? ⟨eb,eo+a2*3+2,none⟩=some (FQ Axd (au x).den.length cxd)) wD.drew:=⟨p0,p1,mq,h0',h1',h2'⟩;refine Zv ?_;have hb:Below wD.heap.size wD wD.drew:=aI (F9 _ wD) 1;replace p0:=ah p0 hb;replace p1:=ah p1 hb;replace mq:=ah mq hb;replace h0':=ah h0' hb;replace h1':=ah h1' hb;replace h2':=ah h2' hb;replace ru:=ru.below hb ru.lt;replace HXV:=Ac (Hw HXV.out hb);replace ajA:=ajA.trans (hb.mono ajA.size);clear hb;generalize wD.drew=wn at *;refine tkm [0,1,2,3,4,5,6,7,8] ?_;refine Zx ?_;clear hHeld;have r0:=ru.cell (i:=0) rfl;have r1:=ru.cell (i:=1) rfl;have r2:=ru.cell (i:=2) rfl;have f0:=ru.frozen 0;have f1:=ru.frozen 1;have f2:=ru.frozen 2;go_wp2
       obtain⟨wf,hwf,rf,hwr⟩:=amk ru (Gj (au x).neg) (FQ Axn (au x).num.length cxn) (FQ Axd (au x).den.length cxd);rw[<-hwf];clear hwf;unfold Bj;refine ZR ?_;go_wp2_with fail
       go_meet
       exact⟨Axn,cxn,Axd,cxd,by rw[hux]; exact rf,by rw[hux]; exact JR (G:=λ_=>True) HXV.out (λ_ _ _=>trivial) (hwr.same λb hb e=>by have:b < w3.heap.size:=hb; have:=hq9.1; omega),(Below.wrote ajA _).trans hwr⟩
     case rest =>
      clear ru HV rp p0 p1;obtain⟨AU,cU,BU,dU,ru,hV,hwr⟩:=hcut;obtain⟨wk,hwk⟩:=FH wc;rw[<-hwk] at ru hV hwr ⊢;have HTV:=Ac hV;replace HUB:=Ac (HUB.out.wrote hwr EN);replace HAV:=Ac (JR (G:=λ_=>True) HAV.out (λ_ _ _=>trivial) (hwr.same λb hb e=>by have:b < qb:=hb; omega));replace hbel:=Below.wr hbel hwr hbel.size λb e=>by omega
      have u0:=HUB.out.cell (i:=0) rfl;have u1:=HUB.out.cell (i:=1) rfl;have u2:=HUB.out.cell (i:=2) rfl;have v0:=ru.cell (i:=0) rfl;have v1:=ru.cell (i:=1) rfl;have v2:=ru.cell (i:=2) rfl;have htl:rl tg<=20000:=by rw[HTG.out];have:=HOK.out.anz s;omega
      have HORD:=Ac (show jC acc tg=0 by rw[HSR.out,HTG.out,DJ.out]; exact(sW _ _).2 rfl);clear hV hwr hwk ru mW hup hq9;go_wp2_with fail
      refine(pV wk (λ_=>True) _ _ acc tg HAV.out HTV.out aml htl).mono ?_;rintro e wl ⟨_,rfl,hb,rfl⟩;rw[HORD.out];replace hbel:=hbel.trans (hb.mono hbel.size);clear hb u0 u1 u2 v0 v1 v2;dsimp only;go_wp2_with fail
      go_roundw
      case rel=>exact⟨k+1,EN,by go_num,hbel⟩
      case measure=>simp[intOf]; omega
  ·have hke:k=n:=EN;subst hke;have hB:=HB3.out.trans (hbel.mono HB3.out.size);have x0:=ah HX0.out hbel;have x1:=ah HX1.out hbel;have x2:=ah HX2.out hbel;replace HG:=Ac (HG.out.on (FZ hbel _));replace HM:=Ac (Ll HM.out (FZ hbel _));clear hbel;go_wp2_with fail
   refine(aes wa (λ_=>True) _ _ g r HG.out HM.out (by rw[HRL.out]; omega) (λl hl=>by have:=HL10.out l hl; omega) (λl hl x hx=>by have:=HOK.out.fits l hl x hx; omega) (λl hl j=>xK (HL10.out l hl) (λx hx=>by have:=HOK.out.fits l hl x hx; omega) j)).mono ?_;rintro e wb ⟨u,rfl,hb,hu⟩;have HO:=Ac (JA (G:=(λ_=>True)) hu (λ_ _ _=>trivial) (Gh _ _));obtain⟨Ao,co,e,_,_⟩:=hu;rw[FX,HBL.out] at e;subst e;replace hB:=hB.trans (hb.mono hB.size);clear hb x0 x1 x2;dsimp only;go_wp2_with fail
   refine(wV wb (λ_=>True) _ (dM r) HO.out (by rw[HBL.out]; omega) (λl hl=>by have:=(HBM.out l hl).1; omega) (λl hl x hx=>by have:=(HBM.out l hl).2 x hx; omega)).mono ?_;rintro e wc ⟨u,rfl,hb,t,rfl,ht⟩;have HTT:=Ac ht;replace hB:=hB.trans (hb.mono hB.size);clear ht hb;generalize hErr:kJ (dM r).flatten=er at *;dsimp only;go_wp2
   go_ret2;exact⟨_,rfl,hB,_,by rw[hErr]; rfl,HTT.out⟩
theorem aoS:mkRat 1 1=1:=by decide +kernel
theorem ahg {x:Rat} (h:rl x<=1000):(au x).num.length<=500000/\(au x).den.length<=500000:=by
 have h2:=gy x;have h3:=gB x;rw[oL];exact⟨EN,by show(dig x.den).length<=500000; omega⟩
structure DK (z y0:List (List Rat)) (n B0:Nat) (vY:F7) (W0:FW) (k:Nat) (L:List (F7×List Raw)) (wr:FW):Prop where
 len:L.length=n
 dat:L.map Prod.snd=(rM z y0 k).map (GK au)
 own:OwnSl lV wr B0 38 (λ_=>True) vY L
 wrote:Wrote (λb=>vY.ownBlock=some b) W0 wr
theorem anF (w:FW) (F:FI) (v1 v2 v3:F7) (l one two:List Int) (P0 A0 B0:Int) (h1:Aj w F v1 l) (h2:Aj w F v2 one) (h3:Aj w F v3 two) (b1:l.length<=9223372036854775807) (b2:one.length<=9223372036854775807) (b3:two.length<=9223372036854775807) (hT:Bd w) :
  Calls FY 3 #[v1,v2,v3,F6 F5 P0,F6 F5 A0,F6 F5 B0] w (Ret w λv _=>v = Gj true):=by
 have HL:=Ac h1;have HN1:=Ac (h2.keep (G:=λb=>F b/\b < w.heap.size) (λb hb hl=>⟨hb,hl⟩) (Gh _ _));have HN2:=Ac (h3.keep (G:=λb=>F b/\b < w.heap.size) (λb hb hl=>⟨hb,hl⟩) (Gh _ _));have HT:=Ac hT;obtain⟨A,c,rfl,hc,_⟩:=h1;obtain⟨A2,c2,rfl,hc2,_⟩:=h2;obtain⟨A3,c3,rfl,hc3,_⟩:=h3;clear hT;have hw0:0 < w.heap.size:=by
  have:=HT.out 0 aA;exact JD (GR _) (Gg w _ this)
 have hP0:=LD P0 (show(2:Int)≠0 by decide);have hP1:=KA P0 (show(0:Int) < 2 by decide);obtain⟨pl,hpl⟩:=FH (P0 % 2);rw[<-hpl] at hP0 hP1;have hpl2:pl=0\/pl=1:=EN;have HPLE:=Ac hpl;have hB0:=LD B0 (show(9:Int)≠0 by decide);have hB1:=KA B0 (show(0:Int) < 9 by decide);obtain⟨bb,hbb⟩:∃ b:Nat,1+B0 % 9=(b:Int):=⟨(1+B0 % 9).toNat,EN⟩;have hbb9:1<=bb/\bb<=9:=EN;obtain⟨bm,hbm⟩:=FH (B0 % 9);rw[<-hbm] at hbb hB0 hB1;have hwp:IntKind.i64.wrap (1+bm)=1+bm:=GH _ EN;have hwq:IntKind.i64.wrap ((bb:Int)+1)=(bb:Int)+1:=GH _ EN;have HBM:=Ac hbm;have HBB:=Ac hbb;have hA0:=LD A0 (show((bb:Int)+1)≠0 by omega);have hA1:=KA A0 (show(0:Int) < (bb:Int)+1 by omega);obtain⟨aa,haa⟩:∃ a:Nat,A0 % ((bb:Int)+1)=(a:Int):=⟨(A0 % ((bb:Int)+1)).toNat,EN⟩;have haab:aa<=bb:=EN;have HAA:=Ac haa;obtain⟨t,ht⟩:∃ t:Rat,t=mkRat (aa:Int) bb:=⟨_,rfl⟩;have HT0:=Ac (show 0<=t by rw[ht]; exact aam EN EN);have HT1:=Ac (show t<=1 by rw[ht]; exact ac7 EN EN);have HT9:=Ac (show Lo 9 t by rw[ht]; exact ahd EN EN EN);have HTD:=Ac ht;have hrt:rl t<=4:=HT9.out.rl (by decide +kernel);have HPL2:=Ac hpl2;clear hbm hbb hB0 hB1 hA0 hA1 haa ht hpl hP0 hP1 hpl2;have HF:=Ac (abA l (ay:=2) (most:=40) false aA aA aA aA);have HPE:=Ac (akX l (ay:=2) (most:=40) false aA aA aA aA);have HDP:=Ac (λpl i n hn hk=>aiZ l (ay:=2) (most:=40) false aA aA HF.out.form pl i n hn hk);obtain⟨g,hg⟩:=FH (qc l 2 40 false);have HGE:=Ac hg;rw[<-hg] at HF HPE HDP;clear hg;obtain⟨x,hx⟩:=FH (ac8 one 0 g);obtain⟨y0,hy⟩:=FH (ac8 two 0 g);have HRX:=Ac (show AP g x by rw[hx]; exact abx one 0 HF.out.acts);have Ej:=Ac (show AP g y0 by rw[hy]; exact abx two 0 HF.out.acts);have HSX:=Ac (show ∀ l∈x,∀ a∈l,Lo 30 a by rw[hx]; exact aar one 0 HF.out.acts);have HSY0:=Ac (show ∀ l∈y0,∀ a∈l,Lo 30 a by rw[hy]; exact aar two 0 HF.out.acts);have EU:=Ac hx;have DY:=Ac hy;clear hx hy;have hmo:=HF.out.hmo;have hni:g.Fh.length<=40:=by
  obtain⟨C,V,cr,h,_,hm⟩:=acV l (ay:=2) (most:=40) false aA aA;have h1:=h.many;have h2:=h.most;rw[<-HGE.out] at h1 h2;omega
 obtain⟨n,hn⟩:=FH g.Fh.length;have HN0:=Ac hn;have hn40:n<=40:=EN;obtain⟨y,hyd⟩:=FH (nR g pl x y0);have HRY:=Ac (show AP g y by rw[hyd]; exact ai0 HRX.out Ej.out);have HSY:=Ac (show ∀ l∈y,∀ a∈l,Lo 30 a by rw[hyd]; exact ak2 HRX.out.1 Ej.out.1 HSX.out HSY0.out);have HYM:=Ac (show ∀ (i:Nat) (l:List Rat),y[i]? = some l->∃ inf,g.Fh[i]? = some inf/\(inf.aC=pl/\y0[i]? = some l\/inf.aC≠pl/\x[i]? = some l) from λi l h=>by rw[hyd] at h; exact aa2 HRX.out.1 Ej.out.1 h);have HMF:=Ac (ak0 HF.out.form HPE.out HF.out.small HF.out.acts HDP.out HRX.out HSX.out HRY.out HSY.out HT0.out HT1.out HT9.out);have HPX:=Ac (adi HF.out.form HRX.out HF.out.small);have HBX:=Ac (aiW HF.out.form HRX.out HF.out.acts);have HSB:=Ac (aiX HF.out.form HRX.out);have HXM:=Ac (anD HF.out.form HPE.out HRX.out HRY.out HT0.out HT1.out EN rfl HMF.out.rows);obtain⟨M,hM⟩:=FH (dM (dS (aO (aK g) x) (aO (aK g) y) (1 - t) t));have HREA:=Ac (show ∀ c,c < g.Fg.length->dD bH g.Fg M c=(1 - t)*dD bH g.Fg x c+t*dD bH g.Fg y c from by
  have h1:=HMF.out;have h2:=HRY.out;rw[hyd] at h1 h2;rw[hM,hyd];exact ak4 HF.out.form HPE.out HF.out.hpl HPL2.out HRX.out h2 Ej.out.1 h1)
 have HRM:=Ac (show AP g M by rw[hM]; exact HMF.out.rows);rw[<-hM] at HXM;obtain⟨P,hP⟩:=FH (aO (aK g) x);rw[<-hP] at HPX HBX HSB;obtain⟨U,hU⟩:=FH (dM P);have HUE:=Ac hU; have HPF:=Ac hP;rw[<-hU] at HBX HSB;have HXF:=Ac (HRX.out.facts HF.out.form HF.out.small); have HYF:=Ac (HRY.out.facts HF.out.form HF.out.small); have Em:=Ac (HRM.out.facts HF.out.form HF.out.small); have HUF:=Ac (HBX.out.facts HF.out.form HF.out.small);have HVX:=Ac (aap HXF.out HF.out); have HVY:=Ac (aap HYF.out HF.out); have HVM:=Ac (aap Em.out HF.out); have HVU:=Ac (aap HUF.out HF.out);have HVS:=Ac (show dG g U 0=dG g x 0 from ak3 HXF.out HUF.out (ai1 HF.out.form HPE.out HF.out.hpl HRX.out HBX.out (by rw[HSB.out,HPF.out])));have Ez:=Ac (show ∀ p,p < 2->(dG g M 0).getD p 0=(1 - t)*(dG g x 0).getD p 0+t*(dG g y 0).getD p 0 from λp hp=>ahf HXF.out HYF.out Em.out (1 - t) t HREA.out (by rw[HF.out.hpl]; exact hp));obtain⟨vX,hvX⟩:=FH (dG g x 0);obtain⟨vYY,hvY⟩:=FH (dG g y 0);obtain⟨vM,hvM⟩:=FH (dG g M 0);rw[HVS.out] at HVU;rw[<-hvX] at HVX Ez HVU HVS; rw[<-hvY] at HVY Ez; rw[<-hvM] at HVM Ez;have HEX:=Ac hvX; have HEY:=Ac hvY; have HEM:=Ac hvM;have HBE:=Ac (show kJ (dM P).flatten=0/\aaN (dM P)=U.map (GK au) from by
  have h2:kJ (dM P).flatten=0:=vC λa ha=>by
   obtain⟨l,hl,hal⟩:=List.mem_flatten.1 ha;refine zb7 ?_;intro k hk;rw[<-hU] at hk;obtain⟨_,_,ho⟩:=HBX.out.row hk;have:=(ho.2.2 a hal).1;omega
  exact⟨h2,by unfold aaN; rw[h2,hU]; rfl⟩)
 have HXL:=Ac (show x.length=n by rw[hn]; exact HRX.out.1); have DZ:=Ac (show y0.length=n by rw[hn]; exact Ej.out.1); have HYL:=Ac (show y.length=n by rw[hn]; exact HRY.out.1);have HML:=Ac (show M.length=n by rw[hn]; exact HRM.out.1); have HUL:=Ac (show U.length=n by rw[hn]; exact HBX.out.1); have HPL:=Ac (show P.length=n by rw[HPX.out.len,hn]);have HL2:=Ac (show ∀ m:List (List Rat),AP g m->∀ l∈m.map (GK au),l.length<=20 from λm hm l hl=>by
  obtain⟨r,hr,rfl⟩:=List.mem_map.1 hl;obtain⟨k,hk⟩:=Gz hr;obtain⟨i,hi,ho⟩:=hm.row hk;have h1:=ho.1;have h2:=HF.out.acts i (FT hi);rw[FX]; omega)
 clear hP hU hM hn hni hmo hyd hvX hvY hvM HMF HDP HSX HSY HSY0 HREA HSB HT9;go_in;have hB:=F9 w.heap.size w;go_wp2_with fail
 refine(akS w HT.out).mono ?_;rintro e w1 ⟨u,rfl,hb,rfl⟩;replace HL:=Ac (HL.out.on (FZ hb F));refine Ya ?_;clear HN1 HN2 HT hB;intro HN1 HN2 HT hB;clear hb;dsimp only;go_wp2_with fail
 refine(aix w1 F A c l HL.out b1 2 40 false aA aA aA aA).mono ?_;rintro e w2 ⟨vg,rfl,hb,hu⟩;rw[<-HGE.out] at hu;have HG:=Ac (hu.keep (G:=λb=>w.heap.size<=b/\b < w2.heap.size) (λb hb' hl=>⟨Gf hB.size hb',hl⟩) (Gh _ _));refine Ya ?_;clear HN1 HN2 HT hB;intro HN1 HN2 HT hB;obtain⟨vn,vi,rfl,⟨An,cn,rfl,_,_⟩,⟨Ai,ci,rfl,_,_⟩⟩:=hu;rw[<-HN0.out] at HG ⊢;clear hb HL;dsimp only;go_upto_region 3 with(fail)
 obtain⟨W,hW,rx,hb,hz⟩:=aJ w2 27 #[F6 F5 g.ay,FQ An g.Fg.length cn,FQ Ai n ci];rw[<-hW];obtain⟨gb,hgb⟩:=FH w2.heap.size;rw[<-hgb] at rx ⊢;have hg0:w.heap.size<=gb:=by rw[hgb];exact hB.size
 have HGS:=Ac (show(λb=>w.heap.size<=b/\b < w2.heap.size)=λb=>w.heap.size<=b/\b < gb by rw[hgb]);rw[HGS.out] at HG;replace HG:=Ac (HG.out.on (FZ hb _));refine Ya ?_;clear HN1 HN2 HT hB;intro HN1 HN2 HT hB;have hgl:gb < W.heap.size:=rx.lt;refine Zd ?_;intro x0 x1 x2;clear hW rx hb hz hgb HGS;go_cut [15,16] from 34 to 44 (λv15 v16 wx=>∃ Ax cx Ay cy LL B0,v15 = FQ Ax n cx/\v16 = FQ Ay n cy/\Ak wx (λb=>b < B0) (FQ Ax n cx) x/\OwnSl lV wx B0 38 (λ_=>True) (FQ Ay n cy) LL/\LL.map Prod.snd=y0.map (GK au)/\AA wx (λb=>b < B0) (.agg #[F6 F5 g.ay,FQ An g.Fg.length cn,FQ Ai n ci]) g/\Bd wx/\Below w.heap.size w wx/\w.heap.size<=B0/\gb < B0/\wx.cell? ⟨gb,0,none⟩=some (F6 F5 g.ay)/\wx.cell? ⟨gb,1,none⟩=some (FQ An g.Fg.length cn)/\wx.cell? ⟨gb,2,none⟩=some (FQ Ai n ci))
 case first =>
  refine wp_region_held_drew (S:=λw'=>w'.cell? ⟨gb,0,none⟩=some (F6 F5 g.ay)/\w'.cell? ⟨gb,1,none⟩=some (FQ An g.Fg.length cn)/\w'.cell? ⟨gb,2,none⟩=some (FQ Ai n ci)) ak ⟨x0,x1,x2⟩ (λhHeld=>?_);refine zcC ?_;intro hb;refine zci ?_;clear x0 x1 x2 HG HN1 HN2 HT hB hgl;intro x0 x1 x2 HG HN1 HN2 HT hB hgl;clear hb;generalize W.drew=wn at *;refine tkm [0,1,3,5,6,8] ?_;refine wpAnyH_ready (rs:=[2,7]) ak aF ?_;refine(AllReadyH.cons (o:=_) rfl (λK hK=>?_) (AllReadyH.cons (o:=_) rfl (λK hK=>?_) AllReadyH.nil))
  ·go_simp;obtain⟨ak5,hwx,rd1,hb,hz⟩:=aJ wn 34 #[FQ A2 one.length c2,F6 F5 0];rw[<-hwx];obtain⟨db1,hdb⟩:=FH wn.heap.size;rw[<-hdb] at rd1 ⊢;have hd1:gb < db1:=EN;clear hdb hz hwx;refine zci ?_;clear x0 x1 x2 HG HN1 HN2 HT hB hgl;intro x0 x1 x2 HG HN1 HN2 HT hB hgl;clear hHeld hb;refine ZV ?_;clear hK K;intro hHeld;refine wpAnyH_ready (rs:=[4,7]) ak aF ?_;refine(AllReadyH.cons (o:=_) rfl (λK hK=>?_) (AllReadyH.cons (o:=_) rfl (λK hK=>?_) AllReadyH.nil))
   ·go_simp;refine(jO ak5 (λb=>b < db1) db1 A2 c2 one 0 _ g rd1 (HN1.out.keep (G:=λb=>b < db1) (λb hb _=>by have:=hb.2; omega) (Gh _ _)) (LJ _) b2 (HG.out.keep (G:=λb=>b < db1) (λb hb _=>by have:=hb.2; omega) (Gh _ _)) HF.out.acts (by have:=HF.out.small.Fh; omega)).mono ?_;rintro e afI ⟨u,LL1,rfl,ho,hll,hws⟩;rw[<-EU.out] at hll;have hl1:=rd1.lt;refine Zo ?_;clear x0 x1 x2 HG HN1 HN2 HT hB;intro hsz x0 x1 x2 HG HN1 HN2 HT hB;have hu:=ho.rows (G:=λb=>ak5.heap.size<=b) (λb hb=>hb) (λb hb=>by omega);rw[hll] at hu;obtain⟨u1,hu1⟩:=FH afI.heap.size;have HM1:=Ac (JA (G:=λb=>ak5.heap.size<=b/\b < u1) hu (λb hb hl=>⟨hb,EN⟩) (Gh _ _));have hU1:u1<=afI.heap.size:=EN;obtain⟨lo1,hlo⟩:=FH ak5.heap.size;rw[<-hlo] at HM1;obtain⟨Am1,cm1,hvm,_,_⟩:=id hu;rw[FX,HXL.out] at hvm;subst hvm;replace hgl:=GZ hgl hsz;clear hws hu hHeld rd1 hsz hlo hu1 hl1 ho hll;refine ZV ?_;clear hK K;intro hHeld;refine wpAnyH_ready (rs:=[7]) ak aF ?_;refine zar ?_;intro K hK
    ·go_simp;obtain⟨aoD,hwx,rd2,hb,hz⟩:=aJ afI 34 #[FQ A3 two.length c3,F6 F5 0];rw[<-hwx];obtain⟨db2,hdb⟩:=FH afI.heap.size;rw[<-hdb] at rd2 ⊢;have hd2:gb < db2/\u1<=db2:=EN;clear hdb hz hwx;refine zci ?_;clear x0 x1 x2 HG HN1 HN2 HT hB hgl;intro x0 x1 x2 HG HN1 HN2 HT hB hgl;replace HM1:=Ac (Ll HM1.out (FZ hb _));replace hU1:=Gf hU1 hb.size;clear hHeld hb;refine ZV ?_;clear hK K;intro hHeld;refine wpAnyH_ready (rs:=[9]) ak aF ?_;refine zar ?_;intro K hK
     ·go_simp;refine(jO aoD (λb=>b < db2) db2 A3 c3 two 0 _ g rd2 (HN2.out.keep (G:=λb=>b < db2) (λb hb _=>by have:=hb.2; omega) (Gh _ _)) (LJ _) b3 (HG.out.keep (G:=λb=>b < db2) (λb hb _=>by have:=hb.2; omega) (Gh _ _)) HF.out.acts (by have:=HF.out.small.Fh; omega)).mono ?_;rintro e ahh ⟨u,LL2,rfl,ho,hll,hws⟩;rw[<-DY.out] at hll;have hl2:=rd2.lt;refine Zo ?_;clear x0 x1 x2 HG HN1 HN2 HT hB;intro hsz x0 x1 x2 HG HN1 HN2 HT hB;refine zbk ?_;clear HM1;intro HM1 HO2 Ce;have hLn:LL2.length=n:=by rw[<-DZ.out];have h:=congrArg LW hll;rwa [FX,FX] at h
      have amL:u1<=aoD.heap.size:=hU1;obtain⟨lo2,hlo⟩:=FH aoD.heap.size;rw[<-hlo] at amL hsz hgl;have hloc:lo2<=ahh.heap.size:=hsz;replace hU1:=Gf hU1 (by omega:_<=ahh.heap.size);have hvm:∃ Am2 cm2,u = FQ Am2 n cm2:=by rcases ho.at with⟨e1,e2⟩ | ⟨gg,cap,e1,_⟩;exact⟨none,0,by rw[e1,<-hLn,e2]; rfl⟩;exact⟨_,cap,by rw[e1,hLn]⟩
      obtain⟨Am2,cm2,rfl⟩:=hvm;rw[<-hlo] at HO2;clear hws hHeld rd2 hsz hlo hl2 ho hll;refine ZV ?_;clear hK K;intro hHeld;refine tkm [10,11] ?_;refine Yf ?_;clear hHeld;refine ZR ?_;go_wp2_with fail
      go_meet
      exact Yb
   ·go_simp;obtain⟨anG,hwx,rd2,hb,hz⟩:=aJ ak5 34 #[FQ A3 two.length c3,F6 F5 0];rw[<-hwx];obtain⟨db2,hdb⟩:=FH ak5.heap.size;rw[<-hdb] at rd2 ⊢;have hlk:=rd1.lt;have hd2:gb < db2/\db1 < db2:=EN;clear hdb hz hwx hlk;refine zci ?_;clear x0 x1 x2 HG HN1 HN2 HT hB hgl;intro x0 x1 x2 HG HN1 HN2 HT hB hgl;replace rd1:=rd1.below hb rd1.lt;clear hHeld hb;refine ZV ?_;clear hK K;intro hHeld;refine wpAnyH_ready (rs:=[4]) ak aF ?_;refine zar ?_;intro K hK
    ·go_simp;refine(jO anG (λb=>b < db1) db1 A2 c2 one 0 _ g rd1 (HN1.out.keep (G:=λb=>b < db1) (λb hb _=>by have:=hb.2; omega) (Gh _ _)) (LJ _) b2 (HG.out.keep (G:=λb=>b < db1) (λb hb _=>by have:=hb.2; omega) (Gh _ _)) HF.out.acts (by have:=HF.out.small.Fh; omega)).mono ?_;rintro e adp ⟨u,LL1,rfl,ho,hll,hws⟩;rw[<-EU.out] at hll;have hl1:=rd1.lt;refine Zo ?_;clear x0 x1 x2 HG HN1 HN2 HT hB;intro hsz x0 x1 x2 HG HN1 HN2 HT hB;have hkl:=rd2.lt;replace rd2:=rd2.wrote hws EN;have hu:=ho.rows (G:=λb=>anG.heap.size<=b) (λb hb=>hb) (λb hb=>by omega);rw[hll] at hu;obtain⟨u1,hu1⟩:=FH adp.heap.size;have HM1:=Ac (JA (G:=λb=>anG.heap.size<=b/\b < u1) hu (λb hb hl=>⟨hb,EN⟩) (Gh _ _));have hU1:u1<=adp.heap.size:=EN;obtain⟨lo1,hlo⟩:=FH anG.heap.size;rw[<-hlo] at HM1;have hkk:db2 < lo1:=EN;obtain⟨Am1,cm1,hvm,_,_⟩:=id hu;rw[FX,HXL.out] at hvm;subst hvm;replace hgl:=GZ hgl hsz;clear hws hu hHeld rd1 hsz hlo hu1 hl1 ho hll hkl;refine ZV ?_;clear hK K;intro hHeld;refine wpAnyH_ready (rs:=[9]) ak aF ?_;refine zar ?_;intro K hK
     ·go_simp;refine zam ?_;rintro e ahh ⟨u,LL2,rfl,ho,hll,hws⟩;rw[<-DY.out] at hll;have hl2:=rd2.lt;refine Zo ?_;clear x0 x1 x2 HG HN1 HN2 HT hB;intro hsz x0 x1 x2 HG HN1 HN2 HT hB;refine zbk ?_;clear HM1;intro HM1 HO2 Ce;have hLn:LL2.length=n:=by rw[<-DZ.out];have h:=congrArg LW hll;rwa [FX,FX] at h
      have amL:u1<=adp.heap.size:=hU1;obtain⟨lo2,hlo⟩:=FH adp.heap.size;rw[<-hlo] at amL hsz hgl;have hloc:lo2<=ahh.heap.size:=hsz;replace hU1:=Gf hU1 (by omega:_<=ahh.heap.size);have hvm:∃ Am2 cm2,u = FQ Am2 n cm2:=by rcases ho.at with⟨e1,e2⟩ | ⟨gg,cap,e1,_⟩;exact⟨none,0,by rw[e1,<-hLn,e2]; rfl⟩;exact⟨_,cap,by rw[e1,hLn]⟩
      obtain⟨Am2,cm2,rfl⟩:=hvm;rw[<-hlo] at HO2;clear hws hHeld rd2 hsz hlo hl2 ho hll;refine ZV ?_;clear hK K;intro hHeld;refine tkm [10,11] ?_;refine Yf ?_;clear hHeld;refine ZR ?_;go_wp2_with fail
      go_meet
      exact Yb
  ·go_simp;obtain⟨w5_2,hwx,rd2,hb,hz⟩:=aJ wn 34 #[FQ A3 two.length c3,F6 F5 0];rw[<-hwx];obtain⟨db2,hdb⟩:=FH wn.heap.size;rw[<-hdb] at rd2 ⊢;have hd2:gb < db2:=EN;clear hdb hz hwx;refine zci ?_;clear x0 x1 x2 HG HN1 HN2 HT hB hgl;intro x0 x1 x2 HG HN1 HN2 HT hB hgl;clear hHeld hb;refine ZV ?_;clear hK K;intro hHeld;refine wpAnyH_ready (rs:=[2]) ak aF ?_;refine zar ?_;intro K hK
   ·go_simp;obtain⟨afI,hwx,rd1,hb,hz⟩:=aJ w5_2 34 #[FQ A2 one.length c2,F6 F5 0];rw[<-hwx];obtain⟨db1,hdb⟩:=FH w5_2.heap.size;rw[<-hdb] at rd1 ⊢;have hlk:=rd2.lt;have hd1:gb < db1/\db2 < db1:=EN;clear hdb hz hwx hlk;refine zci ?_;clear x0 x1 x2 HG HN1 HN2 HT hB hgl;intro x0 x1 x2 HG HN1 HN2 HT hB hgl;replace rd2:=rd2.below hb rd2.lt;clear hHeld hb;refine ZV ?_;clear hK K;intro hHeld;refine wpAnyH_ready (rs:=[4]) ak aF ?_;refine zar ?_;intro K hK
    ·go_simp;refine(jO afI (λb=>b < db1) db1 A2 c2 one 0 _ g rd1 (HN1.out.keep (G:=λb=>b < db1) (λb hb _=>by have:=hb.2; omega) (Gh _ _)) (LJ _) b2 (HG.out.keep (G:=λb=>b < db1) (λb hb _=>by have:=hb.2; omega) (Gh _ _)) HF.out.acts (by have:=HF.out.small.Fh; omega)).mono ?_;rintro e adp ⟨u,LL1,rfl,ho,hll,hws⟩;rw[<-EU.out] at hll;have hl1:=rd1.lt;refine Zo ?_;clear x0 x1 x2 HG HN1 HN2 HT hB;intro hsz x0 x1 x2 HG HN1 HN2 HT hB;have hkl:=rd2.lt;replace rd2:=rd2.wrote hws EN;have hu:=ho.rows (G:=λb=>afI.heap.size<=b) (λb hb=>hb) (λb hb=>by omega);rw[hll] at hu;obtain⟨u1,hu1⟩:=FH adp.heap.size;have HM1:=Ac (JA (G:=λb=>afI.heap.size<=b/\b < u1) hu (λb hb hl=>⟨hb,EN⟩) (Gh _ _));have hU1:u1<=adp.heap.size:=EN;obtain⟨lo1,hlo⟩:=FH afI.heap.size;rw[<-hlo] at HM1;have hkk:db2 < lo1:=EN;obtain⟨Am1,cm1,hvm,_,_⟩:=id hu;rw[FX,HXL.out] at hvm;subst hvm;replace hgl:=GZ hgl hsz;clear hws hu hHeld rd1 hsz hlo hu1 hl1 ho hll hkl;refine ZV ?_;clear hK K;intro hHeld;refine wpAnyH_ready (rs:=[9]) ak aF ?_;refine zar ?_;intro K hK
     ·go_simp;refine zam ?_;rintro e ahh ⟨u,LL2,rfl,ho,hll,hws⟩;rw[<-DY.out] at hll;have hl2:=rd2.lt;refine Zo ?_;clear x0 x1 x2 HG HN1 HN2 HT hB;intro hsz x0 x1 x2 HG HN1 HN2 HT hB;refine zbk ?_;clear HM1;intro HM1 HO2 Ce;have hLn:LL2.length=n:=by rw[<-DZ.out];have h:=congrArg LW hll;rwa [FX,FX] at h
      have amL:u1<=adp.heap.size:=hU1;obtain⟨lo2,hlo⟩:=FH adp.heap.size;rw[<-hlo] at amL hsz hgl;have hloc:lo2<=ahh.heap.size:=hsz;replace hU1:=Gf hU1 (by omega:_<=ahh.heap.size);have hvm:∃ Am2 cm2,u = FQ Am2 n cm2:=by rcases ho.at with⟨e1,e2⟩ | ⟨gg,cap,e1,_⟩;exact⟨none,0,by rw[e1,<-hLn,e2]; rfl⟩;exact⟨_,cap,by rw[e1,hLn]⟩
      obtain⟨Am2,cm2,rfl⟩:=hvm;rw[<-hlo] at HO2;clear hws hHeld rd2 hsz hlo hl2 ho hll;refine ZV ?_;clear hK K;intro hHeld;refine tkm [10,11] ?_;refine Yf ?_;clear hHeld;refine ZR ?_;go_wp2_with fail
      go_meet
      exact Yb
 case rest =>
  clear HG HT hB hgl x0 x1 x2 HN1 HN2 hg0;obtain⟨Ax,cx,Ay,cy,LL,U0,rfl,rfl,hM1,hO2,hLL,hG,hT,hB,hwU,hgU,x0,x1,x2⟩:=hcut;obtain⟨w4,hw4⟩:=FH wc;rw[<-hw4] at hM1 hO2 hG hT hB x0 x1 x2 ⊢;clear hw4;have HM1:=Ac hM1;have HG:=Ac hG;have HT:=Ac hT;have HOW:=Ac (show ∀ b,(Value.slice Ay n cy).ownBlock=some b->U0<=b/\b < w4.heap.size from λb e=>hO2.row.lt b e);have HST0:=Ac (show DK y y0 n U0 (FQ Ay n cy) w4 0 LL w4 from⟨by have h:=congrArg LW hLL; rw[FX,FX,DZ.out] at h; exact h,by rw[aiS]; exact hLL,hO2,H6 _ _⟩);clear hM1 hG hT hO2 hLL;go_wp2_with fail
  refine(abQ w4 P0 2 aA aA).mono ?_;rintro e w4' ⟨rfl,rfl⟩;rw[<-HPLE.out];dsimp only;go_wp2_with fail
  have EW:=Ac x0;have EX:=Ac x1;have EY:=Ac x2;have HB4:=Ac hB;clear hB x0 x1 x2;go_loopw [17] (λiv wr=>∃ (k:Nat) (L:List (F7×List Raw)),k<=n/\iv = F6 F5 (k:Int)/\DK y y0 n U0 (FQ Ay n cy) w4 k L wr) (λiv _=>n - (intOf iv).toNat)
  case atStart=>exact⟨0,LL,GR _,rfl,HST0.out⟩
  case round =>
   clear HST0;obtain⟨k,L,hk,rfl,hst⟩:=hrel;obtain⟨wa,rfl⟩:=FH wr;have HST:=Ac hst;have hws:=hst.wrote;have x0:=aY EW.out hws (λe=>by have:=(HOW.out gb e).1; omega);have x1:=aY EX.out hws (λe=>by have:=(HOW.out gb e).1; omega);have x2:=aY EY.out hws (λe=>by have:=(HOW.out gb e).1; omega);clear hst;by_cases hlt:k < n
   ·obtain⟨inf,gU⟩:=FC (l:=g.Fh) (k:=k) (by rw[<-HN0.out]; exact hlt);obtain⟨row,hrow⟩:=FC (l:=y) (k:=k) (by rw[HYL.out]; exact hlt);obtain⟨xr,hxr⟩:=FC (l:=x) (k:=k) (by rw[HXL.out]; exact hlt);obtain⟨inf',anP,hcase⟩:=HYM.out k row hrow;rw[gU] at anP;cases anP;have AZ:=Ac hrow;have HXR:=Ac hxr;have HCS:=Ac hcase;have hg4:=HG.out.on (hws.same λb hb e=>by have h1:b < U0:=hb; have:=(HOW.out b e).1; omega);obtain⟨_,_,e,-,A3',c3',he2,_,hxi⟩:=hg4;simp only[Value.agg.injEq,Js,Jd,and_true,true_and] at e;obtain⟨-,e⟩:=e;rw[he2,<-HN0.out] at e;injection e with e1 e2 e3
    subst e1;obtain⟨bI,oI,rfl,_,hbI,hcI⟩:=hxi (by rw[<-HN0.out]; omega);have i0:=(hcI k inf gU).c0;have hkn:(k:Int) < n:=EN;clear e2 e3 he2 hxi hcI gU hrow hxr hcase x0 x1;by_cases hp:inf.aC=pl
    ·have hne:(inf.aC != pl)=false:=by simp[hp]
     have Fz:=Ac (show rM y y0 (k+1)=rM y y0 k from aiT AZ.out (by rcases HCS.out with h | h; exact h.2; exact absurd hp h.1));go_wp2_with fail
     go_roundw
     case rel=>exact⟨k+1,L,EN,by go_num,⟨HST.out.len,by rw[Fz.out]; exact HST.out.dat,HST.out.own,HST.out.wrote⟩⟩
     case measure=>simp[intOf]; omega
    ·have hne:(inf.aC != pl)=true:=by simp[hp]
     have FB:=Ac (show(rM y y0 k).set k xr=rM y y0 (k+1) from akV (by rcases HCS.out with h | h; exact absurd h.1 hp; rw[AZ.out,<-h.2,HXR.out]) (by rw[DZ.out,HYL.out]));have hx4:=Ll HM1.out (hws.same λb hb e=>by have h1:b < U0:=hb; have:=(HOW.out b e).1; omega);obtain⟨A',c',e,_,hxm⟩:=hx4;rw[FX,HXL.out] at e;injection e with e1 e2 e3
     subst e1;obtain⟨mb,mo,rfl,hmF,y8,hcm⟩:=hxm (by rw[FX,HXL.out]; omega);obtain⟨vr,hvr,hra⟩:=hcm k (xr.map au) (by rw[Gi,HXR.out]; rfl);rw[Gp] at hvr;have lq:=id hra;obtain⟨Ar,cr,rfl,-,-⟩:=hra;rw[FX] at hvr lq;have HRA:=Ac lq;clear lq;rcases HST.out.own.at with⟨e,hnil⟩ | ⟨gg,cap,e,hgb',hggl,hcap,hfin,hcell⟩
     ·exfalso; have:=HST.out.len; rw[hnil] at this; simp at this; omega
     rw[HST.out.len] at e hcap;injection e with e1 e4 e5
     subst e1;subst e5;obtain⟨qq,q0⟩:∃ v,wa.cell? ⟨gg,k,none⟩=some v:=by have ho:=HST.out.own;rw[<-HST.out.len] at ho;obtain⟨v,hv⟩:=ho.dH (i:=k) (by rw[HST.out.len]; exact hlt) 0 aA;exact⟨v,by simpa [lV] using hv⟩
     have ff:wa.frozen? ⟨gg,k,none⟩=false:=HST.out.own.fz k;clear e2 e3 hxm hcm hcell hfin e4;go_wp2_with fail
     obtain⟨wz,hwz⟩:=FH (wa.setCell ⟨gg,k,none⟩ (FQ Ar xr.length cr));try rw[<-hwz]
     have hst2:DK y y0 n U0 (FQ (some ⟨gg,0,none⟩) n cy) w4 (k+1) (L.set k (FQ Ar xr.length cr,xr.map au)) wz:=⟨by rw[List.length_set]; exact HST.out.len,by rw[ag7,HST.out.dat,<-FB.out,List.map_set],by rw[hwz]; exact HST.out.own.put (k:=k) (FQ Ar xr.length cr,xr.map au) (IB HRA.out (λb hb _=>⟨trivial,λe=>by have h1:b < U0:=hb; have:=(HOW.out b e).1; omega⟩) (Gh _ _)),by rw[hwz]; exact HST.out.wrote.setCell (p:=⟨gg,k,none⟩) (.inl rfl) _⟩;have Cc:=Ac hst2;clear hst2 HST q0 ff hvr hws i0 x2;try clear hwz
     go_roundw
     case rel=>exact⟨k+1,_,EN,by go_num,Cc.out⟩
     case measure=>simp[intOf]; omega
   ·have hke:k=n:=EN;subst hke;have HM1:=Ac (JA (G:=(λ_=>True)) HM1.out (λ_ _ _=>trivial) (hws.same λb hb e=>by have h1:b < U0:=hb; have:=(HOW.out b e).1; omega));replace HG:=Ac (HG.out.keep (G:=(λ_=>True)) (λ_ _ _=>trivial) (hws.same λb hb e=>by have h1:b < U0:=hb; have:=(HOW.out b e).1; omega));replace HT:=Ac (HT.out.wr hws (λe=>by have:=(HOW.out 0 e).1; omega));have hB:=Below.wr HB4.out hws HB4.out.size λb e=>by have:=(HOW.out b e).1;omega
    have HM2:=Ac (show Ak wa (λ_=>True) (FQ Ay k cy) y from by have h:=HST.out.own.rows (G:=(λ_=>True)) (λ_ _=>trivial) (λ_ _=>trivial); rw[HST.out.dat,<-HYL.out,akU (by rw[DZ.out,HYL.out])] at h; rw[<-HYL.out]; exact h);clear HST hws HOW HB4;go_wp2_with fail
    refine(abQ wa B0 9 aA aA).mono ?_;rintro e w4' ⟨rfl,rfl⟩;rw[<-HBM.out];dsimp only;go_upto_region 11 with(fail)
    rw[HBB.out];go_wp2_with fail
    refine(abQ wa A0 ((bb:Int)+1) EN EN).mono ?_;rintro e w4' ⟨rfl,rfl⟩;rw[HAA.out];dsimp only;go_wp2_with fail
    refine(uQ wa (aa:Int) bb EN EN EN EN).mono ?_;rintro e w5 ⟨v,rfl,hb,hv⟩;rw[<-HTD.out] at hv;obtain⟨At,ct,Bt,dt,rfl,hv2⟩:=hv.opened;have HTV:=Ac (show RtV w5 (λ_=>True) _ t from hv.mono λ_ _ _=>trivial);refine zbt ?_;clear x0 x1 x2 HG HT hB HM1;intro x0 x1 x2 HG HT hB HM1;replace HM2:=Ac (Ll HM2.out (FZ hb _));clear hv hv2 hb;dsimp only;go_upto_region 12 with(fail)
    obtain⟨w6,hw6,rt,hb,hz⟩:=aJ w5 42 #[Gj (au t).neg,FQ At (au t).num.length ct,FQ Bt (au t).den.length dt];rw[<-hw6];obtain⟨tb,htb⟩:=FH w5.heap.size;rw[<-htb] at rt ⊢;refine zbt ?_;clear x0 x1 x2 HG HT hB HM1;intro x0 x1 x2 HG HT hB HM1;replace HM2:=Ac (Ll HM2.out (FZ hb _));replace HTV:=Ac (Hw HTV.out hb);have t0:=rt.cell (i:=0) rfl;have t1:=rt.cell (i:=1) rfl;have t2:=rt.cell (i:=2) rfl;clear hw6 hz htb hb rt;go_wp2_with fail
    refine(amm w6 (λ_=>True) _ _ _ _ g _ _ (au t) HG.out HF.out.small HM1.out HM2.out HTV.out (by rw[FX,HXL.out]; omega) (by rw[FX,HYL.out]; omega) (HL2.out x HRX.out) (HL2.out y HRY.out) HXF.out.fine HYF.out.fine HRX.out.limbs HRY.out.limbs (afF t) ⟨Gf (gy t) hrt,Gf (gB t) hrt⟩).mono ?_;rintro e w7 ⟨_,rfl,hb,t',rfl,hu⟩;rw[HXM.out.1];rw[HXM.out.2] at hu;refine Yj ?_;clear x0 x1 x2 t0 t1 t2 HG HT hB HM1;intro x0 x1 x2 t0 t1 t2 HG HT hB HM1;replace HM2:=Ac (Ll HM2.out (FZ hb _));replace HTV:=Ac (Hw HTV.out hb);refine zbm ?_;intro HM;obtain⟨AHM,cHM,e,_,_⟩:=hu;rw[FX,HML.out] at e;subst e;clear hb;dsimp only;go_wp2_with fail
    refine(qV w7 (λ_=>True) _ _ g x HG.out HF.out.small HM1.out HT.out (by rw[HXL.out]; omega) HXF.out.fine HXF.out.nP HXF.out.fit).mono ?_;rintro e w8 ⟨_,rfl,hb,t',rfl,hu⟩;rw[<-HEX.out,HVX.out.1];rw[<-HEX.out,HVX.out.2.1] at hu;refine Yj ?_;clear x0 x1 x2 t0 t1 t2 HG HT hB HM1;intro x0 x1 x2 t0 t1 t2 HG HT hB HM1;refine zdk ?_;clear HM2 HM;intro HM2 HM;replace HTV:=Ac (Hw HTV.out hb);have HXV:=Ac (IB (G:=(λ_=>True)) hu (λ_ _ _=>trivial) (Gh _ _));obtain⟨AHXV,cHXV,e,_,_⟩:=hu;rw[FX,show vX.length=2 from HVX.out.2.2.2] at e;subst e;clear hb;dsimp only;go_wp2_with fail
    refine(qV w8 (λ_=>True) _ _ g y HG.out HF.out.small HM2.out HT.out (by rw[HYL.out]; omega) HYF.out.fine HYF.out.nP HYF.out.fit).mono ?_;rintro e w9 ⟨_,rfl,hb,t',rfl,hu⟩;rw[<-HEY.out,HVY.out.1];rw[<-HEY.out,HVY.out.2.1] at hu;refine Yj ?_;clear x0 x1 x2 t0 t1 t2 HG HT hB HM1;intro x0 x1 x2 t0 t1 t2 HG HT hB HM1;refine zdk ?_;clear HM2 HM;intro HM2 HM;replace HXV:=Ac (Ju HXV.out (FZ hb _));replace HTV:=Ac (Hw HTV.out hb);have HYV:=Ac (IB (G:=(λ_=>True)) hu (λ_ _ _=>trivial) (Gh _ _));obtain⟨AHYV,cHYV,e,_,_⟩:=hu;rw[FX,show vYY.length=2 from HVY.out.2.2.2] at e;subst e;clear hb;dsimp only;go_wp2_with fail
    refine(qV w9 (λ_=>True) _ _ g M HG.out HF.out.small HM.out HT.out (by rw[HML.out]; omega) Em.out.fine Em.out.nP Em.out.fit).mono ?_;rintro e wb ⟨_,rfl,hb,t',rfl,hu⟩;rw[<-HEM.out,HVM.out.1];rw[<-HEM.out,HVM.out.2.1] at hu;refine Yj ?_;clear x0 x1 x2 t0 t1 t2 HG HT hB HM1;intro x0 x1 x2 t0 t1 t2 HG HT hB HM1;refine zdk ?_;clear HM2 HM;intro HM2 HM;replace HXV:=Ac (Ju HXV.out (FZ hb _));replace HYV:=Ac (Ju HYV.out (FZ hb _));replace HTV:=Ac (Hw HTV.out hb);have HZV:=Ac (IB (G:=(λ_=>True)) hu (λ_ _ _=>trivial) (Gh _ _));obtain⟨AHZV,cHZV,e,_,_⟩:=hu;rw[FX,show vM.length=2 from HVM.out.2.2.2] at e;subst e;clear hb;dsimp only;clear HM HM2;go_upto_region 20 with(fail)
    refine aW (λw'=>w'.cell? ⟨tb,0,none⟩=some (Gj (au t).neg)/\w'.cell? ⟨tb,1,none⟩=some (FQ At (au t).num.length ct)/\w'.cell? ⟨tb,2,none⟩=some (FQ Bt (au t).den.length dt)) 5 1 ak rfl ak ?_;have hHeld:(λw':FW=>w'.cell? ⟨tb,0,none⟩=some (Gj (au t).neg)/\w'.cell? ⟨tb,1,none⟩=some (FQ At (au t).num.length ct)/\w'.cell? ⟨tb,2,none⟩=some (FQ Bt (au t).den.length dt)) wb.drew:=⟨t0,t1,t2⟩;refine Zv ?_;have hb:Below wb.heap.size wb wb.drew:=aI (F9 _ wb) 1;refine Yj ?_;clear x0 x1 x2 t0 t1 t2 HG HT hB HM1;intro x0 x1 x2 t0 t1 t2 HG HT hB HM1;replace HXV:=Ac (Ju HXV.out (FZ hb _));replace HYV:=Ac (Ju HYV.out (FZ hb _));replace HZV:=Ac (Ju HZV.out (FZ hb _));replace HTV:=Ac (Hw HTV.out hb);clear hb;generalize wb.drew=wn at *;refine tkm [1] ?_;refine og (js:=[0,2,3,4]) ((Hold.cell (tb) 0 (Gj (au t).neg)).and ((Hold.cell (tb) 1 (FQ At (au t).num.length ct)).and ((Hold.cell (tb) 2 (FQ Bt (au t).den.length dt)).and (Hold.below wn.heap.size wn)))) [(0,(Fact.raw (λ_=>True) (au 1))),(2,(Fact.raw (λ_=>True) (au (-t)))),(3,(Fact.raw (λ_=>True) (au (1 + -t)))),(4,(Fact.aec wn.heap.size 42 [Gj false,FQ none 0 0,FQ none 0 0]))] ak ⟨t0,t1,t2,⟨FV _,F9 _ _⟩⟩ (λ_ h=>⟨h.1,h.2.1,h.2.2.1⟩) ?_;refine Flow.cons (o:=_) rfl (λwk hS hf K hK=>?_) (λv0=>?_)
    ·go_simp;refine(uQ wk 1 1 aA aA aA aA).mono ?_;rintro e w' ⟨u,rfl,hb,hu⟩;rw[aoS] at hu;exact hK.out _ _ hb (Ah.mono hu (λ_ _ _=>trivial))
    refine Zb ?_;refine Flow.cons (o:=_) rfl (λwk hS hf K hK=>?_) (λv2=>?_)
    ·have hb5:=hS.2.2.2.2;go_simp;refine(acH wk (λ_=>True) _ t (Ah.on HTV.out (FZ hb5 _))).mono ?_;exact zaH
    refine Zb ?_;refine Flow.cons (o:=_) rfl (λwk hS hf K hK=>?_) (λv3=>?_)
    ·have f0:=eY (f:=(Fact.raw (λ_=>True) (au 1))) (hf (0,v0) aF ak) rfl;have f2:=eY (f:=(Fact.raw (λ_=>True) (au (-t)))) (hf (2,v2) aF ak) rfl;go_simp;refine(kV wk (λ_=>True) _ _ 1 (-t) f0 f2 (by rw[qy]; omega) (by rw[aeJ]; omega)).mono ?_;exact zaH
    refine Zb ?_;refine Flow.cons (o:=_) rfl (λwk hS hf K hK=>?_) (λv4=>?_)
    ·have hz5:=hS.2.2.2.1;go_simp;exact zch
    refine Zb ?_;refine Flow.nil (λwE hS hf=>?_);have f3:=eY (f:=(Fact.raw (λ_=>True) (au (1 + -t)))) (hf (3,v3) aF) rfl;have f4:=eY (f:=(Fact.aec wn.heap.size 42 [Gj false,FQ none 0 0,FQ none 0 0])) (hf (4,v4) aF) rfl;have hbE:=hS.2.2.2.2;obtain⟨sb,rfl,hsb,rsb⟩:=f4;obtain⟨sr,hsr⟩:∃ y:Rat,y=1 + -t:=⟨_,rfl⟩;rw[<-hsr] at f3;have HSR:=Ac (show sr=1 - t by rw[hsr,Rat.sub_eq_add_neg]);obtain⟨vsn,vsd,hv3,hsn,hsd⟩:=f3;have HSV:=Ac (show RtV wE (λb=>True/\b≠sb) v3 sr from⟨vsn,vsd,hv3,hsn.aaV rsb,hsd.aaV rsb⟩);obtain⟨As,cs,rfl,-,-⟩:=hsn;obtain⟨Bs,ds,rfl,-,-⟩:=hsd;dsimp only at hv3;subst hv3;replace HM1:=Ac (JA (G:=λb=>b < wn.heap.size) HM1.out (λb _ h=>h) (Gh _ _));replace HM1:=Ac (Ll HM1.out (FZ hbE _));replace HXV:=Ac (IB (G:=λb=>b < wn.heap.size) HXV.out (λb _ h=>h) (Gh _ _));replace HXV:=Ac (Ju HXV.out (FZ hbE _));replace HYV:=Ac (IB (G:=λb=>b < wn.heap.size) HYV.out (λb _ h=>h) (Gh _ _));replace HYV:=Ac (Ju HYV.out (FZ hbE _));replace HZV:=Ac (IB (G:=λb=>b < wn.heap.size) HZV.out (λb _ h=>h) (Gh _ _));replace HZV:=Ac (Ju HZV.out (FZ hbE _));replace HG:=Ac (HG.out.keep (G:=λb=>b < wn.heap.size) (λb _ h=>h) (Gh _ _));replace HG:=Ac (HG.out.on (FZ hbE _));replace HTV:=Ac (JR (G:=λb=>b < wn.heap.size) HTV.out (λb _ h=>h) (Gh _ _));replace HTV:=Ac (Ah.on HTV.out (FZ hbE _));have htl2:tb < wn.heap.size:=Gg wn _ t0;have hgl2:gb < wn.heap.size:=Gg wn _ x0;have hwn:w.heap.size<=wn.heap.size:=hB.size;replace HT:=Ac (HT.out.on hbE);replace hB:=hB.trans (hbE.mono hB.size);replace x0:=ah x0 hbE;replace x1:=ah x1 hbE;replace x2:=ah x2 hbE;replace t0:=ah t0 hbE;replace t1:=ah t1 hbE;replace t2:=ah t2 hbE;obtain⟨W9,hW9,rs9,hw9⟩:=amk rsb (Gj (au sr).neg) (FQ As (au sr).num.length cs) (FQ Bs (au sr).den.length ds);have HW9:=Ac hW9;have q0:=rsb.cell (i:=0) rfl;have q1:=rsb.cell (i:=1) rfl;have q2:=rsb.cell (i:=2) rfl;have z0:=rsb.frozen 0;have z1:=rsb.frozen 1;have z2:=rsb.frozen 2;replace HM1:=Ac (JA (G:=(λ_=>True)) HM1.out (λ_ _ _=>trivial) (hw9.same λb hb e=>by omega));replace HXV:=Ac (IB (G:=(λ_=>True)) HXV.out (λ_ _ _=>trivial) (hw9.same λb hb e=>by omega));replace HYV:=Ac (IB (G:=(λ_=>True)) HYV.out (λ_ _ _=>trivial) (hw9.same λb hb e=>by omega));replace HZV:=Ac (IB (G:=(λ_=>True)) HZV.out (λ_ _ _=>trivial) (hw9.same λb hb e=>by omega));replace HG:=Ac (HG.out.keep (G:=(λ_=>True)) (λ_ _ _=>trivial) (hw9.same λb hb e=>by omega));replace HTV:=Ac (JR (G:=(λ_=>True)) HTV.out (λ_ _ _=>trivial) (hw9.same λb hb e=>by omega));replace HSV:=Ac (JR (G:=(λ_=>True)) HSV.out (λ_ _ _=>trivial) (hw9.same λb hb=>hb.2));replace HT:=Ac (HT.out.wr hw9 EN);replace x0:=aY x0 hw9 EN;replace x1:=aY x1 hw9 EN;replace x2:=aY x2 hw9 EN;replace t0:=aY t0 hw9 EN;replace t1:=aY t1 hw9 EN;replace t2:=aY t2 hw9 EN;replace hB:=Wrote.below hB hw9 (λb hb=>by omega) hB.size;replace EW:=Ac x0;replace EX:=Ac x1;replace EY:=Ac x2;have HCt0:=Ac t0;have HCt1:=Ac t1;have HCt2:=Ac t2;have HRS:=Ac rs9;have HB9:=Ac hB;clear hf hS hsr hHeld hbE hw9 hW9 rsb hsb hB htl2 hgl2 hwn x0 x1 x2 t0 t1 t2;refine zaf ?_;go_wp2
    rw[<-HW9.out];unfold Bj;refine ZR ?_;clear q0 q1 q2 z0 z1 z2 HW9 rs9;have hrs:rl sr<=10:=by rw[HSR.out];have:=ac0 hrt;omega
    have HLL:=Ac (show vX.length=2/\vYY.length=2/\vM.length=2 from⟨HVX.out.2.2.2,HVY.out.2.2.2,HVM.out.2.2.2⟩);go_wp2_with fail
    go_loopw [27] (λiv wr=>∃ j:Nat,j<=2/\iv = F6 F5 (j:Int)/\Below W9.heap.size W9 wr) (λiv _=>2 - (intOf iv).toNat)
    case atStart=>exact⟨0,GR _,rfl,F9 _ _⟩
    case round =>
     obtain⟨j,hj,rfl,hbel⟩:=hrel;obtain⟨wl,rfl⟩:=FH wr;by_cases hjt:j < 2
     ·obtain⟨z,hz⟩:=FC (l:=vM) (k:=j) (by rw[HLL.out.2.2]; exact hjt);obtain⟨a,ha⟩:=FC (l:=vX) (k:=j) (by rw[HLL.out.1]; exact hjt);obtain⟨b,hb'⟩:=FC (l:=vYY) (k:=j) (by rw[HLL.out.2.1]; exact hjt);have aoE:z=sr*a+t*b:=by have h:=Ez.out j hjt;rw[FU,FU,FU,hz,ha,hb'] at h;rw[HSR.out];exact h
      have hzl:=HVM.out.2.2.1 z (FT hz);have hal:=HVX.out.2.2.1 a (FT ha);have hbl:=HVY.out.2.2.1 b (FT hb');obtain⟨p1,hp1⟩:=FH (sr*a);obtain⟨p2,hp2⟩:=FH (t*b);rw[<-hp1,<-hp2] at aoE;have hp1l:rl p1<=20000:=by rw[hp1];have:=kR sr a;omega
      have hp2l:rl p2<=20000:=by rw[hp2];have:=kR t b;omega
      have HP1:=Ac hp1;have HP2:=Ac hp2;have HZE:=Ac aoE;have HLZ:=Ac (ahg hzl);have HL1:=Ac hp1l;have HL2':=Ac hp2l;have HLA:=Ac (show rl a<=20000 by omega);have HLB:=Ac (show rl b<=20000 by omega);have HLS:=Ac (show rl sr<=20000 by omega);have HLT:=Ac (show rl t<=20000 by omega);have hb:=hb';clear hb';obtain⟨eb,eo,ebc,vn,vd,e,-,anE,h0,h1,h2,hn,hd⟩:=FK.at HZV.out (show(GK au (vM))[j]? = some (au z) by rw[Gi,hz]; rfl);injection e with e1 e2 e3
      subst e1;have HZW:=Ac (Hw (JL (r:=au z) rfl hn hd) hbel);obtain⟨Azn,czn,rfl,-,-⟩:=hn;obtain⟨Azd,czd,rfl,-,-⟩:=hd;have z0:=(hbel.cell (p:=⟨eb,eo+j*3,none⟩) anE).trans h0;have z1:=(hbel.cell (p:=⟨eb,eo+j*3+1,none⟩) anE).trans h1;have z2:=(hbel.cell (p:=⟨eb,eo+j*3+2,none⟩) anE).trans h2;clear e2 e3 h0 h1 h2 hz;obtain⟨fb,fo,fbc,vn,vd,e,-,aio,h0,h1,h2,hn,hd⟩:=FK.at HXV.out (show(GK au (vX))[j]? = some (au a) by rw[Gi,ha]; rfl);injection e with e1 e2 e3
      subst e1;have HAW:=Ac (Hw (JL (r:=au a) rfl hn hd) hbel);obtain⟨Aan,can,rfl,-,-⟩:=hn;obtain⟨Aad,cad,rfl,-,-⟩:=hd;have a0:=(hbel.cell (p:=⟨fb,fo+j*3,none⟩) aio).trans h0;have a1:=(hbel.cell (p:=⟨fb,fo+j*3+1,none⟩) aio).trans h1;have a2:=(hbel.cell (p:=⟨fb,fo+j*3+2,none⟩) aio).trans h2;clear e2 e3 h0 h1 h2 ha;obtain⟨qb,qo,qbc,vn,vd,e,-,amo,h0,h1,h2,hn,hd⟩:=FK.at HYV.out (show(GK au (vYY))[j]? = some (au b) by rw[Gi,hb]; rfl);injection e with e1 e2 e3
      subst e1;have HBW:=Ac (Hw (JL (r:=au b) rfl hn hd) hbel);obtain⟨Abn,cbn,rfl,-,-⟩:=hn;obtain⟨Abd,cbd,rfl,-,-⟩:=hd;have b0:=(hbel.cell (p:=⟨qb,qo+j*3,none⟩) amo).trans h0;have b1:=(hbel.cell (p:=⟨qb,qo+j*3+1,none⟩) amo).trans h1;have b2:=(hbel.cell (p:=⟨qb,qo+j*3+2,none⟩) amo).trans h2;clear e2 e3 h0 h1 h2 hb;clear hp1 hp2 aoE hzl hal hbl hp1l hp2l;have hjr:(j:Int) < 2:=EN;have s0:=ah (HRS.out.cell (i:=0) rfl) hbel;have s1:=ah (HRS.out.cell (i:=1) rfl) hbel;have s2:=ah (HRS.out.cell (i:=2) rfl) hbel;have t0:=ah HCt0.out hbel;have t1:=ah HCt1.out hbel;have t2:=ah HCt2.out hbel;have HS2:=Ac (Hw HSV.out hbel);have Df:=Ac (Hw HTV.out hbel);go_wp2_with fail
      refine wp_region_held_drew (S:=λw'=>w'.cell? ⟨eb,eo+j*3,none⟩=some (Gj (au z).neg)/\w'.cell? ⟨eb,eo+j*3+1,none⟩=some (FQ Azn (au z).num.length czn)/\w'.cell? ⟨eb,eo+j*3+2,none⟩=some (FQ Azd (au z).den.length czd)/\w'.cell? ⟨sb,0,none⟩=some (Gj (au sr).neg)/\w'.cell? ⟨sb,1,none⟩=some (FQ As (au sr).num.length cs)/\w'.cell? ⟨sb,2,none⟩=some (FQ Bs (au sr).den.length ds)/\w'.cell? ⟨fb,fo+j*3,none⟩=some (Gj (au a).neg)/\w'.cell? ⟨fb,fo+j*3+1,none⟩=some (FQ Aan (au a).num.length can)/\w'.cell? ⟨fb,fo+j*3+2,none⟩=some (FQ Aad (au a).den.length cad)/\w'.cell? ⟨tb,0,none⟩=some (Gj (au t).neg)/\w'.cell? ⟨tb,1,none⟩=some (FQ At (au t).num.length ct)/\w'.cell? ⟨tb,2,none⟩=some (FQ Bt (au t).den.length dt)/\w'.cell? ⟨qb,qo+j*3,none⟩=some (Gj (au b).neg)/\w'.cell? ⟨qb,qo+j*3+1,none⟩=some (FQ Abn (au b).num.length cbn)/\w'.cell? ⟨qb,qo+j*3+2,none⟩=some (FQ Abd (au b).den.length cbd)) ak ⟨z0,z1,z2,s0,s1,s2,a0,a1,a2,t0,t1,t2,b0,b1,b2⟩ (λhHeld=>?_);have hb:Below wl.heap.size wl wl.drew:=aI (F9 _ wl) 1;refine Zw ?_;clear z0 z1 z2 s0 s1 s2 a0 a1 a2 t0 t1 t2 b0 b1 b2 HZW HAW HBW HS2 Df;intro z0 z1 z2 s0 s1 s2 a0 a1 a2 t0 t1 t2 b0 b1 b2 HZW HAW HBW HS2 Df;replace hbel:=hbel.trans (hb.mono hbel.size);clear hb;generalize wl.drew=wn at *;refine tkm [0,1,2,3,4,5,6,7,8,10,11,12,13,14] ?_;refine tk2 9 ak rfl λK hK=>?_
      go_simp;refine(nI wn (λ_=>True) _ _ sr a HS2.out HAW.out HLS.out HLA.out).mono ?_;rintro e wn ⟨pv,rfl,hb,hpv⟩;rw[<-HP1.out] at hpv;obtain⟨AHP1,cHP1,BHP1,dHP1,rfl,-⟩:=hpv.opened;have DL:=Ac (show RtV wn (λ_=>True) _ p1 from hpv.mono λ_ _ _=>trivial);clear hpv;refine Zw ?_;clear z0 z1 z2 s0 s1 s2 a0 a1 a2 t0 t1 t2 b0 b1 b2 HZW HAW HBW HS2 Df;intro z0 z1 z2 s0 s1 s2 a0 a1 a2 t0 t1 t2 b0 b1 b2 HZW HAW HBW HS2 Df;refine Y0 ?_;clear hbel hb hHeld hK K;intro hbel hHeld;refine tk2 15 ak rfl λK hK=>?_
      go_simp;refine(nI wn (λ_=>True) _ _ t b Df.out HBW.out HLT.out HLB.out).mono ?_;rintro e wn ⟨pv,rfl,hb,hpv⟩;rw[<-HP2.out] at hpv;obtain⟨AHP2,cHP2,BHP2,dHP2,rfl,-⟩:=hpv.opened;have En:=Ac (show RtV wn (λ_=>True) _ p2 from hpv.mono λ_ _ _=>trivial);clear hpv;refine Zw ?_;clear z0 z1 z2 s0 s1 s2 a0 a1 a2 t0 t1 t2 b0 b1 b2 HZW HAW HBW HS2 Df;intro z0 z1 z2 s0 s1 s2 a0 a1 a2 t0 t1 t2 b0 b1 b2 HZW HAW HBW HS2 Df;replace DL:=Ac (Hw DL.out hb);refine Y0 ?_;clear hbel hb hHeld hK K;intro hbel hHeld;refine tk2 16 ak rfl λK hK=>?_
      go_simp;refine(kV wn (λ_=>True) _ _ p1 p2 DL.out En.out HL1.out HL2'.out).mono ?_;rintro e wn ⟨pv,rfl,hb,hpv⟩;rw[<-HZE.out] at hpv;obtain⟨AHZE,cHZE,BHZE,dHZE,rfl,-⟩:=hpv.opened;have EZ:=Ac (show RtV wn (λ_=>True) _ z from hpv.mono λ_ _ _=>trivial);clear hpv;refine Zw ?_;clear z0 z1 z2 s0 s1 s2 a0 a1 a2 t0 t1 t2 b0 b1 b2 HZW HAW HBW HS2 Df;intro z0 z1 z2 s0 s1 s2 a0 a1 a2 t0 t1 t2 b0 b1 b2 HZW HAW HBW HS2 Df;replace DL:=Ac (Hw DL.out hb);replace En:=Ac (Hw En.out hb);refine Y0 ?_;clear hbel hb hHeld hK K;intro hbel hHeld;have HTT:=Ac (show decide (au z=au z)=true from Mc rfl);refine tk2 17 ak rfl λK hK=>?_
      go_simp;refine(pX wn (λ_=>True) _ _ (au z) (au z) HZW.out EZ.out HLZ.out HLZ.out).mono ?_;rintro e wn ⟨_,rfl,hb,rfl⟩;rw[HTT.out];refine Zw ?_;clear z0 z1 z2 s0 s1 s2 a0 a1 a2 t0 t1 t2 b0 b1 b2 HZW HAW HBW HS2 Df;intro z0 z1 z2 s0 s1 s2 a0 a1 a2 t0 t1 t2 b0 b1 b2 HZW HAW HBW HS2 Df;replace DL:=Ac (Hw DL.out hb);replace En:=Ac (Hw En.out hb);replace EZ:=Ac (Hw EZ.out hb);refine Y0 ?_;clear hbel hb hHeld hK K;intro hbel hHeld;refine tkm [18] ?_;refine Yf ?_;clear hHeld;clear z0 z1 z2 s0 s1 s2 t0 t1 t2 a0 a1 a2 b0 b1 b2;refine ZR ?_;go_wp2_with fail
      go_roundw
      case rel=>exact⟨j+1,EN,by go_num,hbel⟩
      case measure=>simp[intOf]; omega
     ·have hje:j=2:=EN;subst hje;have hB2:=HB9.out.trans (hbel.mono HB9.out.size);have x0:=ah EW.out hbel;have x1:=ah EX.out hbel;have x2:=ah EY.out hbel;replace HM1:=Ac (Ll HM1.out (FZ hbel _));replace HXV:=Ac (Ju HXV.out (FZ hbel _));replace HG:=Ac (HG.out.on (FZ hbel _));replace HT:=Ac (HT.out.on hbel);have hB:=hB2;clear hbel hB2 HYV HZV HTV HSV HRS HB9;go_wp2_with fail
      refine(amK wl (λ_=>True) _ _ g x HG.out HF.out.small HF.out.form HPE.out HM1.out HRX.out).mono ?_;rintro e wd ⟨_,rfl,hb,t',rfl,hu⟩;rw[<-HPF.out] at hu;refine zbt ?_;clear x0 x1 x2 HG HT hB HM1;intro x0 x1 x2 HG HT hB HM1;replace HXV:=Ac (Ju HXV.out (FZ hb _));have HP:=Ac (JA (G:=(λ_=>True)) hu (λ_ _ _=>trivial) (Gh _ _));obtain⟨AHP,cHP,e,_,_⟩:=hu;rw[FX,HPL.out] at e;subst e;clear hb;dsimp only;go_wp2_with fail
      refine(ai2 wd (λ_=>True) _ _ g P HG.out HF.out.small HF.out.form HPE.out HP.out HPX.out).mono ?_;rintro e we ⟨_,rfl,hb,t',rfl,hu⟩;rw[HBE.out.1];rw[HBE.out.2] at hu;refine zbt ?_;clear x0 x1 x2 HG HT hB HM1;intro x0 x1 x2 HG HT hB HM1;replace HXV:=Ac (Ju HXV.out (FZ hb _));refine zdK ?_;clear HP;intro HP;have HU:=Ac (JA (G:=(λ_=>True)) hu (λ_ _ _=>trivial) (Gh _ _));obtain⟨AHU,cHU,e,_,_⟩:=hu;rw[FX,HUL.out] at e;subst e;clear hb;dsimp only;go_wp2_with fail
      refine(qV we (λ_=>True) _ _ g U HG.out HF.out.small HU.out HT.out (by rw[HUL.out]; omega) HUF.out.fine HUF.out.nP HUF.out.fit).mono ?_;rintro e wf ⟨_,rfl,hb,t',rfl,hu⟩;rw[HVS.out,HVU.out.1];rw[HVS.out,HVU.out.2.1] at hu;refine zbt ?_;clear x0 x1 x2 HG HT hB HM1;intro x0 x1 x2 HG HT hB HM1;replace HXV:=Ac (Ju HXV.out (FZ hb _));refine zdK ?_;clear HP;intro HP;replace HU:=Ac (Ll HU.out (FZ hb _));have HUV:=Ac (IB (G:=(λ_=>True)) hu (λ_ _ _=>trivial) (Gh _ _));obtain⟨AHUV,cHUV,e,_,_⟩:=hu;rw[FX,show vX.length=2 from HVU.out.2.2.2] at e;subst e;clear hb;dsimp only;clear x0 x1 x2;have HSS:=Ac (show BZ (vX.map au) from⟨by rw[FX,HLL.out.1]; decide,λr hr=>by obtain⟨a,ha,rfl⟩:=List.mem_map.1 hr; exact ahg (HVX.out.2.2.1 a ha)⟩);go_wp2_with fail
      refine(nM wf (λ_=>True) _ _ _ _ HUV.out HXV.out HSS.out HSS.out).mono ?_;rintro e wg ⟨_,rfl,hb,rfl⟩;exact zdw
end Go.Proofs.YtnmeejofpkhlkaaGreatDoor
