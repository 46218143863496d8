/- Part of a claim. -/
import Derived.Test.YtnmeejofpkhlkaaGreatDoorE28
import Derived.Test.YtnmeejofpkhlkaaGreatDoorE36
import Derived.Deep.Cut
import Derived.Test.YtnmeejofpkhlkaaGreatDoorE32
set_option linter.all false
namespace Go.Proofs.YtnmeejofpkhlkaaGreatDoor
open Go renaming Value->F7
open Go.Value renaming slice->FQ
open Int renaming toNat_natCast->Gu
open List renaming append_assoc->GY,drop_eq_getElem_cons->Ii,foldl_cons->Iw,getD_eq_getElem?_getD->FU,getElem?_of_mem->Gz,length_set->He,map->GK,map_cons->Hr,map_nil->Jp,map_set->Jb,mem_of_getElem?->FT,take_of_length_le->Gl
open Nat renaming le_refl->FV
open Option renaming getD_some->Ht
open Option.some renaming injEq->Hu
open Rat renaming add_assoc->Jf,add_zero->Je
open Go.RowKit
variable {ay most:Int} {m y z:List (List Rat)} {l:List Rat} {k:Nat} {w:World}
section
variable {C:MC} {V:List View} {cr:List Nat} {g:Gm}
theorem BJ.small (h:BJ C V cr g) (hp4:g.ay<=4) (hm:C.most<=100):Small g:=by
 have h1:=h.most;have h2:=h.many;have key:∀ n∈g.Fg,n.next.length<=100/\n.weights.length<=100/\n.pay.length<=100:=λn hn=>by
  rcases h.node hn with⟨_,_,_,e4,e5,e6,_⟩ | ⟨l,seen,_,_,m3,m4,m5⟩
  ·rw[e4,e5];have:=h.ay;exact⟨aF,aF,EN⟩
  ·rw[m4];rcases m5 with⟨_,_,_,_,a4,_⟩ | ⟨_,_,_,a3,_⟩
   ·exact⟨EN,EN,aF⟩
   ·rw[a3];exact⟨EN,aF,aF⟩
 exact⟨EN,EN,λn hn=>(key n hn).1,λn hn=>(key n hn).2.1,λn hn=>(key n hn).2.2⟩
theorem BJ.actions (h:BJ C V cr g):∀ i∈g.Fh,1<=i.actions/\i.actions<=3:=by
 intro i hi;obtain⟨x,hx⟩:=Gz hi;obtain⟨c,hc⟩:=FC (l:=cr) (k:=x) (by rw[h.len]; exact FD hx);obtain⟨n,n1,n2,n3⟩:=(h.km.has x c hc).resolve_right aF;rcases h.node (FT n1) with he | ⟨l,seen,_,m2,m3,_,m5⟩
 ·have:=he.1;omega
 ·rcases m5 with⟨_,a1,_⟩ | ⟨_,_,_,_,y,a4,a5,_⟩
  ·omega
  ·have:y=x:=EN;subst this;rw[hx] at a5;cases a5;dsimp only;omega
end
structure Dl (g:Gm) (ay:Int) (zero:Bool) (most:Int):Prop where
 form:bF g=0
 small:Small g
 acts:∀ i∈g.Fh,1<=i.actions/\i.actions<=10
 hpl:g.ay=ay
 hmo:(g.Fg.length:Int)<=most
 hz:zero=true->ay=2->∀ n∈g.Fg,n.kind=3->∃ x,n.pay = [x,-x]
theorem abA (L:List Int) (zero:Bool) (hp1:1<=ay) (hp4:ay<=4) (hm1:1<=most) (hm:most<=100):Dl (qc L ay most zero) ay zero most:=by
 obtain⟨C,V,cr,h,hz,hmo⟩:=acV L zero hp1 hm1;have hpl:(qc L ay most zero).ay=ay:=rfl;refine⟨h.form (by rw[hpl]; exact hp1) (by rw[hpl]; exact hp4) EN,h.small (by rw[hpl]; exact hp4) EN,λi hi=>?_,hpl,by have:=h.most; omega,λz0 p2 n hn hk=>?_⟩
 ·have:=h.actions i hi;omega
 ·rcases h.node hn with he | ⟨l,seen,_,_,_,_,m5⟩
  ·exact he.2.2.2.2.2.2.2 (by rw[hz]; exact z0) (by rw[h.ay,hpl]; exact p2)
  ·rcases m5 with⟨_,a1,_⟩ | ⟨_,a1,_⟩ <;> omega
structure AV (g:Gm) (m:List (List Rat)):Prop where
 rows:AP g m
 nP:fH g (m.map (GK au))=0
 fit:Fit g m
 fine:AX (m.map (GK au))
 len:m.length<=100000
theorem afF (x:Rat):U32 (au x):=⟨λy hy=>by have:=aP x.num.natAbs y hy; unfold LB at this; omega,λy hy=>by have:=aP x.den y hy; unfold LB at this; omega⟩
theorem AP.facts {g:Gm} (hf:bF g=0) (hs:Small g) (hr:AP g m):AV g m:=by
 have hl4:=hr.limbs;refine⟨hr,hr.nP hf,hr.fit hf,λl hl=>?_,by have:=hr.1; have:=hs.Fh; omega⟩;obtain⟨l',hl',rfl⟩:=List.mem_map.1 hl;obtain⟨k,hk⟩:=Gz hl';obtain⟨i,hi⟩:=FC (l:=g.Fh) (k:=k) (by have:=FD hk; have:=hr.1; omega);have h1:=(hr.2 k i l' hi hk).1;have h2:=mQ hf i (FT hi);refine⟨by rw[List.length_map]; omega,λr hr'=>?_⟩;have h4:=hl4 _ hl r hr';obtain⟨x,_,rfl⟩:=List.mem_map.1 hr';exact⟨afF x,EN,EN⟩
theorem Bd.wr {K:FI} {w':World} (h:Bd w) (hw:Wrote K w w') (hK:¬ K 0):Bd w':=λj hj=>aY (h j hj) hw hK
theorem foldl_add (l:List Rat) (a:Rat):l.foldl (· + ·) a=a+fO l:=by
 unfold fO;suffices H:∀ (l:List Rat) (a b:Rat),l.foldl (· + ·) (a+b)=a+l.foldl (· + ·) b by
  have:=H l a 0;rwa [Je] at this
 intro l;induction l with
 | nil=>intro a b; rfl
 | cons x l ih=>intro a b; rw[Iw,Iw,Jf,ih]
theorem aeC (x:Rat) (l:List Rat):fO (x :: l)=x+fO l:=by
 have e:fO (x :: l)=l.foldl (· + ·) (0+x):=rfl;rw[e,Rat.zero_add,foldl_add]
theorem adf:fO []=0:=rfl
theorem aoA {α β:Type} {l:List α} {r:List β} {a:α} {b:β} (h1:l[k]? = some a) (h2:r[k]? = some b):(l.zip r)[k]? = some (a,b):=by
 rw[List.getElem?_zip_eq_some];exact⟨h1,h2⟩
section
variable {g:Gm} {m:List (List Rat)}
theorem aeD (hg:Good g) {i:Nat} {n:Nd} (hn:g.Fg[i]? = some n) (hin:bH n=true) (hl:(dL m n).length=n.next.length) (W:Nat->Rat):∀ k,k<=n.next.length ->
  fO ((n.next.take k).map λc=>dD bH g.Fg m c.toNat*W c.toNat)=dD bH g.Fg m i*abg W 0 (((dL m n).zip n.next).take k)
 | 0,_=>by
  show(0:Rat)=_*0;rw[Rat.mul_zero]
 | k+1,hk=>by
  obtain⟨c,hc⟩:=FC (l:=n.next) (k:=k) EN;obtain⟨b,hb⟩:=FC (l:=dL m n) (k:=k) EN;have hcb:=hg.span.kids i n (Nat.zero_le _) (FD hn) hn c (FT hc);obtain⟨j,rfl⟩:∃ j:Nat,c=(j:Int):=⟨c.toNat,EN⟩;rw[FP hc,List.map_append,Hr,Jp,tN,aeD hg hn hin hl W k EN,FP (aoA hb hc),ahA,Gu,mJ hg bH m hn hc,L8 hin,FU,hb,Ht,Rat.mul_add,Rat.mul_assoc]
def jd (g:Gm) (f:Nat->Rat):Nat->Rat
 | 0=>0
 | k+1=>match g.Fg[k]? with
  | some n=>if n.kind=3 then jd g f k+f k else jd g f k
  | none=>jd g f k
theorem oZ {f:Nat->Rat} {n:Nd} (hn:g.Fg[k]? = some n) (hk:n.kind=3):jd g f (k+1)=jd g f k+f k:=by
 rw[jd,hn];exact L8 hk
theorem lN {f:Nat->Rat} {n:Nd} (hn:g.Fg[k]? = some n) (hk:n.kind≠3):jd g f (k+1)=jd g f k:=by
 rw[jd,hn];exact L6 hk
theorem vG {f f':Nat->Rat}:∀ k,(∀ (i:Nat) (n:Nd),g.Fg[i]? = some n->n.kind=3->i < k->f i=f' i)->jd g f k=jd g f' k
 | 0,_=>rfl
 | k+1,h=>by
  have ih:=vG (f:=f) (f':=f') k λi n h1 h2 h3=>h i n h1 h2 EN
  cases hn:g.Fg[k]? with
  | none=>rw[jd,jd,hn]; exact ih
  | some n =>
   by_cases hk:n.kind=3
   ·rw[oZ hn hk,oZ hn hk,ih,h k n hn hk EN]
   ·rw[lN hn hk,lN hn hk,ih]
theorem akT (h:AV g m) {W:Nat->Rat} (hW:∀ (i:Nat) (n:Nd),g.Fg[i]? = some n->n.kind≠3->W i=abg W 0 ((dL m n).zip n.next)) {cs:List Int} {a b:Nat} (hs:Span g.Fg cs a b) :
  jd g (λi=>dD bH g.Fg m i*W i) b=jd g (λi=>dD bH g.Fg m i*W i) a+fO (cs.map λc=>dD bH g.Fg m c.toNat*W c.toNat):=by
 induction hs with
 | nil a=>rw[Jp,adf,Je]
 | @cons a k b n cs hn h1 h2 ih1 ih2 =>
  rw[Hr,aeC,Gu,ih2,ih1];by_cases hk:n.kind=3
  ·have hnx:=(uN h.fit.Fg (FT hn) hk).2.2;rw[hnx,Jp,adf,Je,oZ hn hk,Jf]
  ·have hin:bH n=true:=by unfold bH;simpa using hk
   have hf:=aeD h.fit.good hn hin (h.fit.chan n (FT hn) hk).1 W n.next.length (FV _);rw[Gl (FV _),Gl (by rw[List.length_zip]; omega),<-hW a n hn hk] at hf;rw[lN hn hk,hf,Jf]
theorem AV.flow (h:AV g m) {W:Nat->Rat} (hW:∀ (i:Nat) (n:Nd),g.Fg[i]? = some n->n.kind≠3->W i=abg W 0 ((dL m n).zip n.next)):jd g (λi=>dD bH g.Fg m i*W i) g.Fg.length=W 0:=by
 have:=akT h hW h.fit.good.span;rw[this];show(0:Rat)+fO [dD bH g.Fg m 0*W 0]=W 0;rw[aeC,adf,Je,Rat.zero_add,nD,Rat.one_mul]
theorem AV.worth (h:AV g m) {p:Nat} (hp:p < g.ay.toNat):jd g (λi=>dD bH g.Fg m i*(((g.Fg.getD i default).pay.getD p 0:Int):Rat)) g.Fg.length=(dG g m 0).getD p 0:=by
 rw[<-h.flow (W:=λi=>(dG g m i).getD p 0) λi n hn hk=>h.fit.am0 hn hk hp];refine vG _ λi n hn hk _=>?_
 have hpay:=(uN h.fit.Fg (FT hn) hk).1;obtain⟨x,hx⟩:=FC (l:=n.pay) (k:=p) EN;rw[uK h.fit.good m hn];unfold valOf;rw[L8 hk,FU (l:=g.Fg),hn,Ht,FU,hx,FU,List.getElem?_map,hx];rfl
end
section
variable {g:Gm} {m:List (List Rat)}
end
theorem aa0:∀ L:List (F7×List Raw),L.flatMap lV.cells=L.map Prod.fst
 | []=>rfl
 | q :: L=>by rw[List.flatMap_cons,aa0 L]; rfl
theorem OwnSl.put {base:Nat} {et:TypeId} {F:FI} {g n cap:Nat} {L:List (F7×List Raw)} (h:OwnSl lV w base et F (FQ (some ⟨g,0,none⟩) n cap) L) (q:F7×List Raw) (hq:FK w (Apart F (FQ (some ⟨g,0,none⟩) n cap)) q.1 q.2):OwnSl lV (w.setCell ⟨g,k,none⟩ q.1) base et F (FQ (some ⟨g,0,none⟩) n cap) (L.set k q):=by
 have hs:Same (Apart F (FQ (some ⟨g,0,none⟩) n cap)) w (w.setCell ⟨g,k,none⟩ q.1):=⟨aF,λb hb hl=>Below.heap_setCell _ _ _ _ (λe=>hb.2 (by show some g=some b; rw[e]))⟩;refine⟨?_,λp hp=>?_⟩
 ·obtain⟨h1,h2⟩:=h.row;rw[aa0] at h1 h2;rw[aa0,He];refine⟨by rw[Jb,He]; exact h1,?_⟩;rcases h2 with⟨e,_⟩ | ⟨g',cap',cur,e,hb,hc,r1,r2,r3,r4⟩
  ·cases e
  ·simp only[Value.slice.injEq,Hu,Addr.mk.injEq,and_true,true_and] at e;obtain⟨rfl,hn,rfl⟩:=e;refine .inr ⟨g,cap,cur.setIfInBounds k q.1,by rw[hn],hb,by simp[World.setCell,Array.getElem?_modify,hc],r1,r2,by rw[Array.size_setIfInBounds]; exact r3,?_⟩;rw[Array.toList_setIfInBounds,List.take_set,r4,Jb]
 ·rcases List.mem_or_eq_of_mem_set hp with hp | rfl
  ·exact lV.keep (h.fine p hp) (λ_ h _=>h) hs
  ·exact lV.keep hq (λ_ h _=>h) hs
theorem ag7 (L:List (F7×List Raw)) (k:Nat) (q:F7×List Raw):(L.set k q).map Prod.snd=(L.map Prod.snd).set k q.2:=Jb
def rM (z y:List (List Rat)) (k:Nat):List (List Rat):=z.take k++y.drop k
theorem aiS (z y:List (List Rat)):rM z y 0=y:=by unfold rM; simp
theorem akU (h:y.length=z.length):rM z y z.length=z:=by
 unfold rM;rw[Gl (FV _),List.drop_eq_nil_of_le EN,List.append_nil]
theorem akV (hz:z[k]? = some l) (hl:y.length=z.length):(rM z y k).set k l=rM z y (k+1):=by
 have hk:=FD hz;unfold rM;have h1:(z.take k).length=k:=by rw[List.length_take];omega
 have h2:k < y.length:=EN;rw[List.set_append_right _ _ EN,h1,Nat.sub_self,Ii h2,List.set_cons_zero,FP hz,GY];rfl
theorem aiT (hz:z[k]? = some l) (hy:y[k]? = some l):rM z y (k+1)=rM z y k:=by
 have h2:=FD hy;unfold rM;rw[FP hz,GY,Ii h2];rw[List.getElem?_eq_getElem h2] at hy;injection hy with hy
 rw[hy];rfl
theorem aap {g:Gm} (h:AV g m) {zero:Bool} (hg:Dl g ay zero most):kJ (dG g m 0)=0/\fitsV (dG g m 0)=(dG g m 0).map au/\(∀ x∈dG g m 0,rl x<=1000)/\(dG g m 0).length=ay.toNat:=by
 have hn:=hg.small.Fg;have h1:∀ x∈dG g m 0,rl x<=1000:=λx hx=>by have:=h.fit.acw h.fit.good.pos x hx;omega
 have he:=oh (xs:=dG g m 0) λx hx=>Nat.le_trans (h1 x hx) aA
 exact⟨he,by unfold fitsV; rw[he,L6 aF],h1,by rw[<-hg.hpl]; exact h.fit.jV _ 0 (FV _) h.fit.good.pos⟩
end Go.Proofs.YtnmeejofpkhlkaaGreatDoor
