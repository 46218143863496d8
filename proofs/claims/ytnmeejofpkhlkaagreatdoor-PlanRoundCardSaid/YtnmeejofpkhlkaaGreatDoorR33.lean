/- The walker's parents are those of the reference; perfect recall by the ways alone: plain law. -/
import Derived.Test.YtnmeejofpkhlkaaGreatDoorR32
import Derived.Deep.CutBlock
import Derived.Test.YtnmeejofpkhlkaaGreatDoorR26
set_option linter.all false
set_option maxRecDepth 100000
set_option maxHeartbeats 12800000
namespace Go.Proofs.YtnmeejofpkhlkaaGreatDoor
open Lib renaming hid → Ag
open Go.RowKit
structure EC (nodes:List Nd) (q:Int) (cs:List Int) (a:Nat) (r:Int) (p p':List Int):Prop where
 out:∀ i:Nat,i < a∨r≤(i:Int)→p'[i]? = p[i]?
 inn:∀ i:Nat,a≤i→(i:Int) < r→((i:Int)∈cs∧p'[i]? = some q)∨∃ (m:Nat) (n:Nd),nodes[m]? = some n∧(i:Int)∈n.next∧p'[i]? = some (m:Int)
theorem aer {nodes:List Nd} {q:Int} {rec:Nat→Tri→Int×Tri} (hlen:∀ a t,Tri.Len nodes.length t→Tri.Len nodes.length (rec a t).2)
  (hb:∀ a t,(rec a t).1 = -1∨((a:Int) < (rec a t).1∧(rec a t).1≤nodes.length))
  (hrec:∀ a t,a < nodes.length→Tri.Len nodes.length t→0≤(rec a t).1→EC nodes q [(a:Int)] a (rec a t).1 t.p (rec a t).2.p) :
  ∀ (cs:List Int) (x:Nat) (t:Tri),x≤nodes.length→Tri.Len nodes.length t→0≤(dK rec cs x t).1→(x:Int)≤(dK rec cs x t).1∧EC nodes q cs x (dK rec cs x t).1 t.p (dK rec cs x t).2.p
 | [],x,t,_,_,_=>⟨by simp[dK],⟨fun _ _=>by simp[dK],fun i h1 h2=>by simp[dK] at h2; omega⟩⟩
 | c :: cs,x,t,hx,ht,h=>by
  unfold dK at h ⊢;by_cases hc:c=x
  ·subst hc;simp only[ne_eq,not_true_eq_false,↓reduceIte,Int.toNat_natCast] at h ⊢;by_cases hng:(rec x t).1 < 0
   ·rw[if_pos hng] at h; simp at h
   ·rw[if_neg hng] at h ⊢;rcases hb x t with hb1 | hb1
    ·omega
    ·have hr:=hrec x t byOmega ht byOmega;obtain⟨m,hm⟩:=Int.eq_ofNat_of_zero_le (show 0≤(rec x t).1 by omega);rw[hm] at h hr ⊢;rw[hm] at hb1;obtain⟨ih1,ih2⟩:=aer hlen hb hrec cs m (rec x t).2 byOmega (hlen x t ht) h;refine⟨byOmega,fun i hi=>?_,fun i h1 h2=>?_⟩
     ·rw[ih2.out i byOmega,hr.out i byOmega]
     ·by_cases hmi:i < m
      ·have e:=ih2.out i (.inl hmi);rw[e];rcases hr.inn i h1 byOmega with⟨h3,h4⟩ | h3
       ·exact .inl ⟨by rw[List.mem_singleton.1 h3]; simp,h4⟩
       ·exact .inr h3
      ·rcases ih2.inn i byOmega h2 with⟨h3,h4⟩ | h3
       ·exact .inl ⟨List.mem_cons_of_mem _ h3,h4⟩
       ·exact .inr h3
  ·rw[if_pos hc] at h; simp at h
theorem aes (nodes:List Nd):∀ (f a:Nat) (par dep:Int) (t:Tri),Tri.Len nodes.length t→0≤(bK nodes f a par dep t).1 →
  EC nodes par [(a:Int)] a (bK nodes f a par dep t).1 t.p (bK nodes f a par dep t).2.p
 | 0,_,_,_,_,_,h=>by simp[bK] at h
 | f+1,a,par,dep,t,ht,h=>by
  unfold bK at h ⊢;cases hn:nodes[a]? with
  | none=>rw[hn] at h; simp at h
  | some n =>
   rw[hn] at h;simp only at h ⊢;have ha:=lt_of_get hn;have hk:=aer (nodes:=nodes) (q:=(a:Int)) (rec:=fun a' t=>bK nodes f a' a (dep+1) t)
    (fun a' t h=>kK nodes f a' a (dep+1) t h) (fun a' t=>mX nodes f a' a (dep+1) t)
    (fun a' t _ ht h=>aes nodes f a' a (dep+1) t ht h) n.next (a+1) ⟨t.p.set a par,t.d.set a dep,t.l⟩ byOmega ⟨by simp[ht.p],by simp[ht.d],ht.l⟩
   simp only[Int.natCast_add,Int.cast_ofNat_Int] at hk;by_cases hng:(dK (fun a' t=>bK nodes f a' a (dep+1) t) n.next ((a:Int)+1) ⟨t.p.set a par,t.d.set a dep,t.l⟩).1 < 0
   ·rw[if_pos hng] at h; omega
   ·rw[if_neg hng] at h ⊢;obtain⟨h1,h2⟩:=hk byOmega;have h1':(a:Int)+1≤(dK (fun a' t=>bK nodes f a' a (dep+1) t) n.next ((a:Int)+1) ⟨t.p.set a par,t.d.set a dep,t.l⟩).1:=by simpa using h1
    refine⟨fun i hi=>?_,fun i h3 h4=>?_⟩
    ·have:=h2.out i (by simp only[] at hi ⊢; omega);simp only at this ⊢;rw[this,List.getElem?_set_ne byOmega]
    ·by_cases hia:i=a
     ·subst hia;have:=h2.out i (.inl byOmega);simp only at this ⊢;refine .inl ⟨aB,?_⟩;rw[this,List.getElem?_set_self (by rw[ht.p]; exact ha)]
     ·rcases h2.inn i byOmega h4 with⟨h5,h6⟩ | h5
      ·exact .inr ⟨a,n,hn,h5,h6⟩
      ·exact .inr h5
theorem ahB (g:Gm):Tri.Len g.nodes.length (walkT g).2:=kK _ _ _ _ _ _ ⟨aB,aB,aB⟩
theorem uM {g:Gm} (h:bP g=0):(walkT g).2.p=eU g.nodes:=by
 have hg:=kX h;have hlen:=ahB g;have hN:(walkT g).1=(g.nodes.length:Int):=by
  rw[← qU] at h;unfold oN at h;split at h
  ·omega
  split at h
  ·rename_i h1; exact absurd h h1
  split at h
  ·omega
  ·rename_i h1; simpa using h1
 have hk:=aes g.nodes (g.nodes.length+1) 0 (-1) 0 ⟨List.replicate g.nodes.length 0,List.replicate g.nodes.length 0,List.replicate g.nodes.length 0⟩ ⟨aB,aB,aB⟩;have hT:walkT g=bK g.nodes (g.nodes.length+1) 0 (-1) 0 ⟨List.replicate g.nodes.length 0,List.replicate g.nodes.length 0,List.replicate g.nodes.length 0⟩:=rfl;rw[← hT,hN] at hk;have hk:=hk byOmega;refine List.ext_getElem? fun i=>?_
 by_cases hi:i < g.nodes.length
 ·rcases hk.inn i (Nat.zero_le _) byOmega with⟨h1,h2⟩ | ⟨m,n,h1,h2,h3⟩
  ·have h0:i=0:=by have:=List.mem_singleton.1 h1;omega
   subst h0;rw[h2];obtain⟨p,hp,⟨_,rfl⟩ | ⟨q,n,_,h3,_⟩⟩:=hg.par hi
   ·exact hp.symm
   ·omega
  ·rw[h3,mW hg hi h1 h2]
 ·rw[List.getElem?_eq_none (by rw[hlen.p]; omega),List.getElem?_eq_none (by rw[jg]; omega)]
def nH (g:Gm) (pl:Int) (l:List Int):Bool:=l.all fun x=>decide (lJ g pl x.toNat=lJ g pl (l.getD 0 0).toNat)
def mD (g:Gm) (pl:Int):Nat→Bool
 | 0=>true
 | i+1=>mD g pl i&&(!decide ((g.infos.getD i default).aC=pl)||nH g pl ((fJ g).getD i []))
def wX (g:Gm) (pl:Int):Bool:=mD g pl g.infos.length
theorem wY {g:Gm} {pl:Int} {i:Nat} (h:mD g pl i=false):∀ k,i≤k→mD g pl k=false
 | 0,hk=>by
  obtain rfl:i=0:=byOmega;exact h
 | k+1,hk=>by
  by_cases e:i=k+1
  ·subst e; exact h
  ·rw[mD,wY h k byOmega,Bool.false_and]
theorem y9 {g:Gm} {pl:Int}:∀ {k:Nat},mD g pl k=true↔∀ i,i < k→(g.infos.getD i default).aC=pl→nH g pl ((fJ g).getD i [])=true
 | 0=>by simp[mD]
 | k+1=>by
  rw[mD,Bool.and_eq_true,y9 (k:=k),Bool.or_eq_true,Bool.not_eq_true',decide_eq_false_iff_not];constructor
  ·rintro⟨h1,h2⟩ i hi hp;by_cases e:i=k
   ·subst e;rcases h2 with h2 | h2
    ·exact absurd hp h2
    ·exact h2
   ·exact h1 i byOmega hp
  ·intro h;refine⟨fun i hi hp=>h i byOmega hp,?_⟩;by_cases hp:(g.infos.getD k default).aC=pl
   ·exact .inr (h k byOmega hp)
   ·exact .inl hp
theorem oz {g:Gm} (h:bP g=0) {i:Nat} (hi:i < g.infos.length):((fJ g).getD i [])=bJ g.nodes i g.nodes.length ∧
  (∀ (j:Nat) (n:Nd),g.nodes[j]? = some n→n.kind=2→n.info=(i:Int)→n.aC=(g.infos.getD i default).aC∧(j:Int)∈(fJ g).getD i []) ∧
  (∀ x∈(fJ g).getD i [],∃ (j:Nat) (n:Nd),x=(j:Int)∧g.nodes[j]? = some n∧n.kind=2∧n.info=(i:Int)):=by
 have hg:=kX h;have h1:=iG hg.infos hi;have h2:((fJ g).getD i [])=bJ g.nodes i g.nodes.length:=by rw[List.getD_eq_getElem?_getD,h1];rfl
 refine⟨h2,fun j n hn hk hin=>⟨?_,?_⟩,fun x hx=>?_⟩
 ·obtain⟨inf,h3,_,h4⟩:=mg h (List.mem_of_getElem? hn) hk;rw[hin,Int.toNat_natCast] at h3;rw[List.getD_eq_getElem?_getD,h3];exact h4.symm
 ·rw[h2];refine pR.2 ⟨j,rfl,lt_of_get hn,?_⟩;unfold mv;rw[hn];simp[hk,hin]
 ·exact(agw hg (l:=(fJ g).getD i []) (by rw[h2]; exact h1)).2 x hx
theorem Span.incr {nodes:List Nd} {cs:List Int} {a b:Nat} (h:Span nodes cs a b):cs.Pairwise (· < ·):=by
 induction h with
 | nil a=>exact List.Pairwise.nil
 | cons hn h1 h2 _ ih2 =>
  refine List.Pairwise.cons (fun c hc=>?_) ih2;have e1:=h1.le;have e2:=(h2.mem c hc).1;omega
theorem Span.nexts {nodes:List Nd} {cs:List Int} {a b:Nat} (h:Span nodes cs a b):∀ p n,a≤p→p < b→nodes[p]? = some n→n.next.Pairwise (· < ·):=by
 induction h with
 | nil a=>intro p n h1 h2; omega
 | @cons a m b n0 cs hn h1 h2 ih1 ih2 =>
  intro p n k1 k2 hp;by_cases e:p=a
  ·subst e;rw[hn] at hp;cases hp;exact h1.incr
  ·by_cases e2:p < m
   ·exact ih1 p n byOmega e2 hp
   ·exact ih2 p n byOmega k2 hp
theorem sV {g:Gm} (hg:Good g) {pl:Int} {q c j:Nat} {n:Nd} (hn:g.nodes[q]? = some n) (h:n.kind=2∧n.aC=pl) (hj:n.next[j]? = some (c:Int)):iR pl n c n.next.length = [(n.info,(j:Int))]:=by
 have hinc:=hg.span.nexts q n (Nat.zero_le _) (lt_of_get hn) hn;have hjl:=lt_of_get hj;have key:∀ k,k≤n.next.length→iR pl n c k=if j < k then [(n.info,(j:Int))] else []:=by
  intro k;induction k with
  | zero=>intro _; rw[acv,if_neg byOmega]
  | succ k ih =>
   intro hk;obtain⟨x,hx⟩:=getSome (l:=n.next) (k:=k) byOmega;by_cases e:k=j
   ·subst e;rw[ae9 h hj,ih byOmega,if_neg byOmega,if_pos byOmega];rfl
   ·have hne:x≠(c:Int):=by
     intro e2;subst e2;have hxe:n.next[k]'byOmega=(c:Int):=by have:=hx;rw[List.getElem?_eq_getElem byOmega] at this;simpa using this
     have hje:n.next[j]'hjl=(c:Int):=by have:=hj;rw[List.getElem?_eq_getElem hjl] at this;simpa using this
     rw[List.pairwise_iff_getElem] at hinc;rcases Nat.lt_or_gt_of_ne e with h1 | h1
     ·have:=hinc k j byOmega hjl h1;omega
     ·have:=hinc j k hjl byOmega h1;omega
    rw[adC hx hne,ih byOmega];by_cases h1:j < k
    ·rw[if_pos h1,if_pos byOmega]
    ·rw[if_neg h1,if_neg byOmega]
 rw[key _ (Nat.le_refl _),if_pos hjl]
def lastStep (l:List (Int×Int)):Int×Int:=l.getLast?.getD (-1,-1)
def kS (g:Gm) (pl:Int) (c:Nat):Int×Int:=lastStep (lJ g pl c)
theorem vK {g:Gm} (hg:Good g) (pl:Int):kS g pl 0=(-1,-1):=by unfold kS; rw[abC hg]; rfl
theorem ab6 {g:Gm} (hg:Good g) {pl:Int} {c q j:Nat} {n:Nd} (hn:g.nodes[q]? = some n) (hj:n.next[j]? = some (c:Int)):kS g pl c=if n.kind=2∧n.aC=pl then (n.info,(j:Int)) else kS g pl q:=by
 have hm:=List.mem_of_getElem? hj;have hqc:=hg.span.kids q n (Nat.zero_le _) (lt_of_get hn) hn _ hm;have hc:c < g.nodes.length:=byOmega;have hp:=mW hg hc hn hm;unfold kS;rw[adD hg hc hp hn byOmega];split
 ·rename_i h
  rw[sV hg hn h hj];simp[lastStep]
 ·rename_i h
  rw[nP h];simp
def iJ (g:Gm) (i:Nat):Nat:=(((fJ g).getD i []).getD 0 0).toNat
def aK (g:Gm):List (Int×Int):=(List.range g.infos.length).map fun i=>kS g (g.infos.getD i default).aC (iJ g i)
theorem sW {g:Gm} {i:Nat} (hi:i < g.infos.length):(aK g)[i]? = some (kS g (g.infos.getD i default).aC (iJ g i)):=by
 unfold aK;rw[List.getElem?_map,List.getElem?_range hi];rfl
theorem dS (g:Gm):(aK g).length=g.infos.length:=by unfold aK; simp
theorem vM {g:Gm} (hg:Good g) (pl:Int):∀ (b c:Nat),c≤b→c < g.nodes.length→kS g pl c=(-1,-1)∨∃ (q j:Nat) (n:Nd),q < c∧g.nodes[q]? = some n∧n.kind=2∧n.aC=pl∧j < n.next.length∧kS g pl c=(n.info,(j:Int))
 | 0,c,hb,_=>by
  obtain rfl:c=0:=byOmega;exact .inl (vK hg pl)
 | b+1,c,hb,hc=>by
  obtain⟨p,hp,h0 | ⟨q,n,rfl,hq,hn,hm⟩⟩:=hg.par hc
  ·rw[h0.1]; exact .inl (vK hg pl)
  ·obtain⟨j,hj⟩:=List.getElem?_of_mem hm;have e:=ab6 hg (pl:=pl) hn hj;by_cases hk:n.kind=2∧n.aC=pl
   ·rw[if_pos hk] at e;exact .inr ⟨q,j,n,hq,hn,hk.1,hk.2,lt_of_get hj,e⟩
   ·rw[if_neg hk] at e;rcases vM hg pl b q byOmega byOmega with h | ⟨q',j',n',h1,h2,h3,h4,h5,h6⟩
    ·exact .inl (by rw[e,h])
    ·exact .inr ⟨q',j',n',byOmega,h2,h3,h4,h5,by rw[e,h6]⟩
theorem kF {g:Gm} (h:bP g=0) {i:Nat} (hi:i < g.infos.length):∃ n,g.nodes[iJ g i]? = some n∧n.kind=2∧n.info=(i:Int)∧n.aC=(g.infos.getD i default).aC∧(fJ g).getD i []≠[]∧((fJ g).getD i []).getD 0 0=(iJ g i:Int):=by
 obtain⟨h2,h3,h4⟩:=oz h hi;obtain⟨_,h5⟩:=iY h;have hm:=iG (kX h).infos hi;have hne:(fJ g).getD i []≠[]:=by
  intro e;unfold nO at h5;have:nN (fJ g)=true:=by
   unfold nN;exact List.any_eq_true.2 ⟨_,List.mem_of_getElem? hm,by rw[← h2,e]; rfl⟩
  rw[this] at h5;split at h5
  ·omega
  ·simp at h5
 have hfo:iJ g i=(((fJ g).getD i []).getD 0 0).toNat:=rfl;generalize (fJ g).getD i []=l at *;cases l with
 | nil=>exact absurd rfl hne
 | cons x t =>
  obtain⟨j,n,rfl,hn,hk,hin⟩:=h4 x aB;have e:iJ g i=j:=by rw[hfo];simp
  rw[e];exact⟨n,hn,hk,hin,(h3 j n hn hk hin).1,hne,aB⟩
theorem uN {nodes:List Nd} {s:Nat}:∀ {k:Nat} {x:Int},x∈bJ nodes s k→(bJ nodes s k).getD 0 0≤x
 | 0,x,h=>by simp[bJ] at h
 | k+1,x,h=>by
  rw[sK] at h ⊢;rcases List.mem_append.1 h with h | h
  ·have h1:=uN h;cases hm:bJ nodes s k with
   | nil=>rw[hm] at h; cases h
   | cons y t=>rw[hm] at h1; exact h1
  ·split at h
   ·rename_i hv
    rw[if_pos hv];rw[List.mem_singleton.1 h];cases hm:bJ nodes s k with
    | nil=>simp
    | cons y t =>
     obtain⟨i,rfl,hi,_⟩:=pR.1 (show y∈bJ nodes s k by rw[hm]; simp);simp; omega
   ·cases h
theorem afY {g:Gm} (h:bP g=0) {i j:Nat} {n:Nd} (hi:i < g.infos.length) (hn:g.nodes[j]? = some n) (hk:n.kind=2) (hin:n.info=(i:Int)):iJ g i≤j:=by
 obtain⟨h2,h3,_⟩:=oz h hi;have h4:=(h3 j n hn hk hin).2;rw[h2] at h4;have h5:=uN h4;obtain⟨_,_,_,_,_,_,h6⟩:=kF h hi;rw[h2] at h6;omega
theorem wZ {g:Gm} (h:bP g=0) {i:Nat}:∀ {k:Nat},i≤k→k < g.infos.length→iJ g i≤iJ g k
 | 0,h1,_=>by
  obtain rfl:i=0:=byOmega;exact Nat.le_refl _
 | k+1,h1,h2=>by
  by_cases e:i=k+1
  ·subst e; exact Nat.le_refl _
  ·refine Nat.le_trans (wZ h (k:=k) byOmega byOmega) ?_;obtain⟨_,h5⟩:=iY h;have h6:jF (fJ g) g.infos.length=false:=by
    unfold nO at h5;split at h5
    ·omega
    ·split at h5
     ·omega
     ·split at h5
      ·omega
      ·rename_i c; simpa using c
   unfold jF at h6;have h7:=List.any_eq_false.1 h6 (k+1) (by rw[List.mem_range'_1]; omega);unfold oH at h7;rw[Nat.add_sub_cancel] at h7;have h8:¬ ((fJ g).getD (k+1) []).getD 0 0 < ((fJ g).getD k []).getD 0 0:=fun e=>h7 (decide_eq_true e)
   unfold iJ;omega
structure Ups (up:List (Int×Int)) (acts:Nat→Int):Prop where
 ok:∀ (k:Nat) (s:Int×Int),up[k]? = some s→s.1 < 0∨(0≤s.1∧s.1 < (k:Int)∧0≤s.2∧s.2 < acts s.1.toNat)
theorem aaR {g:Gm} (h:bP g=0):Ups (aK g) (fun i=>(g.infos.getD i default).actions):=by
 refine⟨fun k s hs=>?_⟩;have hk:k < g.infos.length:=by have:=lt_of_get hs;rwa [dS] at this
 rw[sW hk] at hs;cases hs;have hg:=kX h;obtain⟨n,hn,hkd,hin,hpl,_⟩:=kF h hk;rcases vM hg (g.infos.getD k default).aC _ (iJ g k) (Nat.le_refl _) (lt_of_get hn) with e | ⟨q,j,m,h1,h2,h3,h4,h5,h6⟩
 ·rw[e];exact .inl ay
 ·right
  rw[h6];have hi:=hg.infos m (List.mem_of_getElem? h2) h3;obtain⟨inf,e1,e2,_⟩:=mg h (List.mem_of_getElem? h2) h3;have hm:(m.info.toNat:Int)=m.info:=byOmega;refine⟨hi.1,?_,byOmega,?_⟩
  ·rcases Nat.lt_or_ge m.info.toNat k with h7 | h7
   ·show m.info < _;omega
   ·exfalso
    have a1:=wZ h h7 byOmega;have a2:=afY h (i:=m.info.toNat) byOmega h2 h3 byOmega;omega
  ·show((j:Nat):Int) < (g.infos.getD m.info.toNat default).actions;rw[List.getD_eq_getElem?_getD,e1];simp only[Option.getD_some];omega
def CU (cs:List Value) (N:Nat) (T:Nat→Nat→Int×Int):Prop:=cs.length=N*8∧∀ c p,c < N→p < 4→cs[c*8+p*2]? = some (.int .i64 (T c p).1)∧cs[c*8+p*2+1]? = some (.int .i64 (T c p).2)
theorem CU.zero (N:Nat):CU (List.replicate (N*8) (.int .i64 0)) N (fun _ _=>(0,0)) :=
 ⟨aB,fun c p hc hp=>⟨by rw[List.getElem?_replicate,if_pos byOmega],by rw[List.getElem?_replicate,if_pos byOmega]⟩⟩
def aaS (T:Nat→Nat→Int×Int) (d q:Nat) (x:Int×Int):Nat→Nat→Int×Int:=fun c p=>if c=d∧p=q then x else T c p
def aeu (T:Nat→Nat→Int×Int) (d s:Nat):Nat→Nat→Int×Int:=fun c p=>if c=d then T s p else T c p
theorem CU.put {cs:List Value} {N:Nat} {T:Nat→Nat→Int×Int} (h:CU cs N T) {d q:Nat} (hd:d < N) (hq:q < 4) (x:Int×Int):CU ((cs.set (d*8+q*2) (.int .i64 x.1)).set (d*8+q*2+1) (.int .i64 x.2)) N (aaS T d q x):=by
 refine⟨by simp[h.1],fun c p hc hp=>?_⟩;obtain⟨h1,h2⟩:=h.2 c p hc hp;have hl:=h.1;unfold aaS;by_cases e:c=d∧p=q
 ·obtain⟨rfl,rfl⟩:=e;rw[if_pos ⟨rfl,rfl⟩];refine⟨?_,?_⟩
  ·rw[List.getElem?_set_ne byOmega,List.getElem?_set_self byOmega]
  ·rw[List.getElem?_set_self aF]
 ·rw[if_neg e];refine⟨?_,?_⟩
  ·rw[List.getElem?_set_ne byOmega,List.getElem?_set_ne byOmega,h1]
  ·rw[List.getElem?_set_ne byOmega,List.getElem?_set_ne byOmega,h2]
def set8 (cs:List Value) (d:Nat) (a b c e:Int×Int):List Value :=
 (((((((cs.set (d*8) (.int .i64 a.1)).set (d*8+1) (.int .i64 a.2)).set (d*8+2) (.int .i64 b.1)).set (d*8+3) (.int .i64 b.2)).set (d*8+4) (.int .i64 c.1)).set (d*8+5) (.int .i64 c.2)).set (d*8+6) (.int .i64 e.1)).set (d*8+7) (.int .i64 e.2)
theorem CU.copy {cs:List Value} {N:Nat} {T:Nat→Nat→Int×Int} (h:CU cs N T) {d s:Nat} (hd:d < N):CU (set8 cs d (T s 0) (T s 1) (T s 2) (T s 3)) N (aeu T d s):=by
 have h0:=((((h.put hd (q:=0) byOmega (T s 0)).put hd (q:=1) byOmega (T s 1)).put hd (q:=2) byOmega (T s 2)).put hd (q:=3) byOmega (T s 3));have e:aaS (aaS (aaS (aaS T d 0 (T s 0)) d 1 (T s 1)) d 2 (T s 2)) d 3 (T s 3)=fun c p=>if c=d∧p < 4 then T s p else T c p:=by
  funext c p
  unfold aaS;by_cases hc:c=d
  ·by_cases h3:p=3
   ·subst h3;simp[hc]
   by_cases h2:p=2
   ·subst h2;simp[hc]
   by_cases h1:p=1
   ·subst h1;simp[hc]
   by_cases h0:p=0
   ·subst h0;simp[hc]
   rw[if_neg byOmega,if_neg byOmega,if_neg byOmega,if_neg byOmega,if_neg byOmega]
  ·rw[if_neg byOmega,if_neg byOmega,if_neg byOmega,if_neg byOmega,if_neg byOmega]
 rw[e] at h0;refine⟨h0.1,fun c p hc hp=>?_⟩;have h5:=h0.2 c p hc hp;dsimp only at h5;unfold aeu;by_cases hcd:c=d
 ·rw[if_pos ⟨hcd,hp⟩] at h5;rw[if_pos hcd];exact h5
 ·rw[if_neg byOmega] at h5;rw[if_neg hcd];exact h5
def Ci (g:Gm) (i j:Nat) (T:Nat→Nat→Int×Int):Prop:=∀ c,c < g.nodes.length→(c=0∨(∃ (q:Nat) (n:Nd),q < i∧g.nodes[q]? = some n∧(c:Int)∈n.next)∨(∃ (n:Nd) (k:Nat),g.nodes[i]? = some n∧k < j∧n.next[k]? = some (c:Int)))→∀ p:Nat,p < 4→T c p=kS g p c
theorem Ci.start {g:Gm} (hg:Good g) {T:Nat→Nat→Int×Int} (h:∀ p,p < 4→T 0 p=(-1,-1)):Ci g 0 0 T:=by
 intro c hc hq p hp;rcases hq with rfl | ⟨q,n,h1,_⟩ | ⟨n,k,_,h1,_⟩
 ·rw[h p hp,vK hg]
 ·omega
 ·omega
theorem Ci.next {g:Gm} {i:Nat} {n:Nd} {T:Nat→Nat→Int×Int} (h:Ci g i n.next.length T) (hn:g.nodes[i]? = some n):Ci g (i+1) 0 T:=by
 intro c hc hq p hp;refine h c hc ?_ p hp;rcases hq with rfl | ⟨q,m,h1,h2,h3⟩ | ⟨m,k,_,h1,_⟩
 ·exact .inl rfl
 ·by_cases e:q=i
  ·subst e;rw[hn] at h2;cases h2;obtain⟨k,hk⟩:=List.getElem?_of_mem h3;exact .inr (.inr ⟨n,k,hn,lt_of_get hk,hk⟩)
  ·exact .inr (.inl ⟨q,m,byOmega,h2,h3⟩)
 ·omega
theorem Ci.done {g:Gm} (hg:Good g) {T:Nat→Nat→Int×Int} (h:Ci g g.nodes.length 0 T) {c p:Nat} (hc:c < g.nodes.length) (hp:p < 4):T c p=kS g p c:=by
 refine h c hc ?_ p hp;by_cases h0:c=0
 ·exact .inl h0
 ·obtain⟨q,n,h1,h2,h3⟩:=qP hg byOmega hc;exact .inr (.inl ⟨q,n,byOmega,h2,h3⟩)
theorem Ci.self {g:Gm} (hg:Good g) {i j:Nat} {T:Nat→Nat→Int×Int} (h:Ci g i j T) (hi:i < g.nodes.length) {p:Nat} (hp:p < 4):T i p=kS g p i:=by
 refine h i hi ?_ p hp;by_cases h0:i=0
 ·exact .inl h0
 ·obtain⟨q,n,h1,h2,h3⟩:=qP hg byOmega hi;exact .inr (.inl ⟨q,n,h1,h2,h3⟩)
theorem Ci.kid {g:Gm} (hg:Good g) {i j d:Nat} {n:Nd} {T T':Nat→Nat→Int×Int} (h:Ci g i j T) (hn:g.nodes[i]? = some n) (hd:n.next[j]? = some (d:Int))
  (h1:∀ c p,c≠d→T' c p=T c p) (h2:∀ p:Nat,p < 4→T' d p=if n.kind=2∧n.aC=(p:Int) then (n.info,(j:Int)) else T i p):Ci g i (j+1) T':=by
 intro c hc hq p hp;by_cases e:c=d
 ·subst e;rw[h2 p hp,ab6 hg hn hd,h.self hg (lt_of_get hn) hp]
 ·rw[h1 c p e];refine h c hc ?_ p hp;rcases hq with h3 | h3 | ⟨m,k,h3,h4,h5⟩
  ·exact .inl h3
  ·exact .inr (.inl h3)
  ·rw[hn] at h3;cases h3;by_cases e2:k=j
   ·subst e2;rw[hd] at h5;cases h5;exact absurd rfl e
   ·exact .inr (.inr ⟨n,k,hn,byOmega,h5⟩)
def kT (g:Gm) (s m:Nat):Option Nat:=(List.range' m (g.nodes.length - m)).find? (mv g.nodes s)
theorem abn (g:Gm) (s:Nat):kT g s g.nodes.length=none:=by unfold kT; rw[Nat.sub_self]; rfl
theorem sZ (g:Gm) (s m:Nat) (hm:m < g.nodes.length):kT g s m=if mv g.nodes s m then some m else kT g s (m+1):=by
 unfold kT;rw[show g.nodes.length - m=(g.nodes.length - (m+1))+1 by omega,List.range'_succ,List.find?_cons];cases mv g.nodes s m <;> rfl
theorem aaT {g:Gm} (h:bP g=0) {s:Nat} (hs:s < g.infos.length):kT g s 0=some (iJ g s):=by
 obtain⟨h2,_,_⟩:=oz h hs;obtain⟨_,_,_,_,_,hne,h6⟩:=kF h hs;rw[h2] at hne h6;unfold kT;rw[Nat.sub_zero,← List.range_eq_range',← List.head?_filter];unfold bJ at hne h6;cases hl:(List.range g.nodes.length).filter (mv g.nodes s) with
 | nil=>rw[hl] at hne; exact absurd rfl hne
 | cons x t =>
  rw[hl] at h6;have h7:((x:Nat):Int)=(iJ g s:Int):=h6;show some x=_;congr 1;omega
def BQ (g:Gm) (m:Nat) (O:List (Int×Int)):Prop:=O.length=g.infos.length∧∀ s,s < g.infos.length→O[s]? = some (match kT g s m with | some c=>kS g (g.infos.getD s default).aC c | none=>(0,0))
theorem BQ.start (g:Gm):BQ g g.nodes.length (List.replicate g.infos.length (0,0)) :=
 ⟨aB,fun s hs=>by rw[abn,List.getElem?_replicate,if_pos hs]⟩
theorem BQ.skip {g:Gm} {m:Nat} {n:Nd} {O:List (Int×Int)} (h:BQ g (m+1) O) (hn:g.nodes[m]? = some n) (hk:n.kind≠2):BQ g m O:=by
 refine⟨h.1,fun s hs=>?_⟩;have:mv g.nodes s m=false:=by unfold mv;rw[hn];simp[hk]
 rw[sZ g s m (lt_of_get hn),this];exact h.2 s hs
theorem BQ.put {g:Gm} {m s:Nat} {n:Nd} {O:List (Int×Int)} (h:BQ g (m+1) O) (hn:g.nodes[m]? = some n) (hk:n.kind=2) (hs:n.info=(s:Int)) (hsl:s < g.infos.length) (x:Int×Int) (hx:x=kS g (g.infos.getD s default).aC m):BQ g m (O.set s x):=by
 refine⟨by rw[List.length_set]; exact h.1,fun s' hs'=>?_⟩;rw[sZ g s' m (lt_of_get hn)];by_cases e:s'=s
 ·subst e;have:mv g.nodes s' m=true:=by unfold mv;rw[hn];simp[hk,hs]
  rw[this,List.getElem?_set_self (by rw[h.1]; exact hsl),if_pos rfl,hx]
 ·have:mv g.nodes s' m=false:=by unfold mv;rw[hn];simp[hk,hs];exact Ne.symm e
  rw[this,List.getElem?_set_ne (Ne.symm e)];exact h.2 s' hs'
theorem BQ.done {g:Gm} (hf:bP g=0) {O:List (Int×Int)} (h:BQ g 0 O):O=aK g:=by
 refine List.ext_getElem? fun i=>?_
 by_cases hi:i < g.infos.length
 ·rw[h.2 i hi,aaT hf hi,sW hi]
 ·rw[List.getElem?_eq_none (by rw[h.1]; omega),List.getElem?_eq_none (by rw[dS]; omega)]
def mM (g:Gm) (k:Nat):Bool:=(List.range k).all fun p=>wX g (p:Int)
theorem xg (g:Gm) (k:Nat):mM g (k+1)=(mM g k&&wX g (k:Int)):=by unfold mM; rw[List.range_succ,List.all_append]; simp
theorem abo {g:Gm} {k:Nat} (h:mM g k=false) {m:Nat} (hm:k≤m):mM g m=false:=by
 induction m with
 | zero =>
  obtain rfl:k=0:=byOmega;exact h
 | succ m ih =>
  by_cases e:k=m+1
  ·subst e;exact h
  ·rw[xg,ih byOmega,Bool.false_and]
def o8 (g:Gm):Int:=if mM g g.aA.toNat then 0 else 13
def oQ (g:Gm):List (Int×Int):=if mM g g.aA.toNat then aK g else []
structure CV (w:World) (N0 p:Nat) (g:Gm) (b o c:Nat) (Ai:Option Addr) (ci bp:Nat):Prop where
 hp:p < N0
 hb:b < N0
 hbp:bp < N0
 size:N0≤w.heap.size
 c0:w.cell? ⟨p,0,none⟩=some (.int .i64 g.aA)
 c1:w.cell? ⟨p,1,none⟩=some (.slice (some ⟨b,o,none⟩) g.nodes.length c)
 c2:w.cell? ⟨p,2,none⟩=some (.slice Ai g.infos.length ci)
 c3:w.cell? ⟨p,3,none⟩=some (.slice (some ⟨bp,0,none⟩) g.nodes.length g.nodes.length)
 node:∀ k n,g.nodes[k]? = some n→Dl w (fun b=>b < N0) b (o+k*6) n
 par:∀ (k:Nat) (x:Int),(eU g.nodes)[k]? = some x→w.cell? ⟨bp,k,none⟩=some (.int .i64 x)
 info:Bh w (fun b=>b < N0) (.slice Ai g.infos.length ci) g.infos
theorem Below.alq {N0:Nat} {w w':World} (h:Below N0 w w'):Same (fun b=>b < N0) w w':=⟨h.size,fun b hb _=>h.block b hb⟩
theorem CV.below {w w':World} {N0 p:Nat} {g:Gm} {b o c:Nat} {Ai:Option Addr} {ci bp:Nat} (h:CV w N0 p g b o c Ai ci bp) (k:Below N0 w w'):CV w' N0 p g b o c Ai ci bp :=
 have hs:=Below.alq k;have hz:=h.size;⟨h.hp,h.hb,h.hbp,Nat.le_trans h.size k.size,(aQ k _ _ h.hp).trans h.c0,(aQ k _ _ h.hp).trans h.c1,(aQ k _ _ h.hp).trans h.c2,(aQ k _ _ h.hp).trans h.c3,
  fun j n hn=>(h.node j n hn).keep (fun _ h _=>h) hs h.hb (Nat.lt_of_lt_of_le h.hb hz),fun j x hx=>(aQ k _ _ h.hbp).trans (h.par j x hx),h.info.on hs⟩
def ahC (g:Gm) (i:Nat):Nd:=g.nodes.getD i default
def pX (g:Gm) (pl:Int) (q c:Nat):List (Nat×Nat):=if (ahC g q).kind=2∧(ahC g q).aC=pl then [(q,(ahC g q).next.idxOf (c:Int))] else []
def jC (g:Gm) (pl:Int):Nat→Nat→List (Nat×Nat)
 | 0,_=>[]
 | f+1,c=>match (eU g.nodes)[c]? with
  | some p=>if 0≤p then pX g pl p.toNat c++jC g pl f p.toNat else []
  | none=>[]
def jO (g:Gm) (pl:Int) (c:Nat):List (Nat×Nat):=jC g pl g.nodes.length c
theorem nY {g:Gm} (hg:Good g) {pl:Int}:∀ f,jC g pl f 0 = []
 | 0=>rfl
 | f+1=>by
  obtain⟨p,hp,h | ⟨q,n,_,h,_⟩⟩:=hg.par hg.pos
  ·rw[jC,hp]; simp only; rw[if_neg byOmega]
  ·omega
theorem nZ {g:Gm} {pl:Int} {f c q:Nat} (hp:(eU g.nodes)[c]? = some (q:Int)):jC g pl (f+1) c=pX g pl q c++jC g pl f q:=by
 rw[jC,hp];simp only;rw[if_pos byOmega,Int.toNat_natCast]
def je (g:Gm) (x:Nat×Nat):Int×Int:=((ahC g x.1).info,(x.2:Int))
theorem tq {g:Gm} {q:Nat} {n:Nd} (hn:g.nodes[q]? = some n):ahC g q=n:=by unfold ahC; rw[List.getD_eq_getElem?_getD,hn]; rfl
theorem zf {g:Gm} (hg:Good g) {pl:Int}:∀ (f c:Nat),c < g.nodes.length→(jC g pl f c).map (je g)=kY g pl f c
 | 0,_,_=>rfl
 | f+1,c,hc=>by
  obtain⟨p,hp,h0 | ⟨q,n,rfl,hq,hn,hm⟩⟩:=hg.par hc
  ·rw[h0.1,nY hg,jc hg]; rfl
  ·rw[nZ hp,kZ hg hc hp hn,List.map_append,zf hg f q byOmega];congr 1
   unfold pX;rw[tq hn];by_cases hk:n.kind=2∧n.aC=pl
   ·have hj:n.next[n.next.idxOf (c:Int)]? = some (c:Int):=by
     have hl:=List.idxOf_lt_length_of_mem hm;rw[List.getElem?_eq_getElem hl,List.getElem_idxOf hl]
    rw[if_pos hk,sV hg hn hk hj];show[je g _]=_;unfold je;rw[tq hn]
   ·rw[if_neg hk,nP hk];rfl
theorem afZ {g:Gm} (hg:Good g) {pl:Int} {c:Nat} (hc:c < g.nodes.length):((jO g pl c).map (je g)).reverse=lJ g pl c:=by
 unfold jO lJ;rw[zf hg _ _ hc]
theorem vN {g:Gm} (hg:Good g) {pl:Int}:∀ (f c:Nat),c < g.nodes.length→∀ x∈jC g pl f c,x.1 < g.nodes.length
 | 0,_,_,x,h=>by cases h
 | f+1,c,hc,x,h=>by
  obtain⟨p,hp,h0 | ⟨q,n,rfl,hq,hn,hm⟩⟩:=hg.par hc
  ·rw[h0.1,nY hg] at h; cases h
  ·rw[nZ hp] at h;rcases List.mem_append.1 h with h | h
   ·unfold pX at h;split at h
    ·rw[List.mem_singleton.1 h]; exact lt_of_get hn
    ·cases h
   ·exact vN hg f q byOmega x h
theorem zh {g:Gm} (hg:Good g) {pl:Int}:∀ (f c:Nat),c < g.nodes.length→(jC g pl f c).length≤c
 | 0,_,_=>Nat.zero_le _
 | f+1,c,hc=>by
  obtain⟨p,hp,h0 | ⟨q,n,rfl,hq,hn,hm⟩⟩:=hg.par hc
  ·rw[h0.1,nY hg]; exact Nat.zero_le _
  ·have h1:=zh hg (pl:=pl) f q byOmega;have h2:(pX g pl q c).length≤1:=by unfold pX; split <;> simp
   rw[nZ hp,List.length_append]; omega
structure ED (N0:Nat) (fid:FuncId) (caps:Array Value) (all:List (Nat×Nat)) (J Jx:List (Nat×Nat)→World→Prop):Prop where
 enters:∀ (args:Array Value) (w':World),(callFunc fid args).run Tryz.prog w' = .ok (.enter fid args) w'
 calls:∀ (pre:List (Nat×Nat)) (x:Nat×Nat) (W:World),(∃ rest,pre++x :: rest=all)→J pre W→Calls Tryz.prog fid (#[.int .i64 (x.1:Int),.int .i64 (x.2:Int)]++caps) W fun e W'=>Below N0 W W'∧((e = .returned (.bool true)∧J (pre ++ [x]) W')∨(e = .returned (.bool false)∧Jx (pre ++ [x]) W'))
 keep:∀ (pre:List (Nat×Nat)) (W W':World),J pre W→Below W.heap.size W W'→J pre W'
theorem ab7 (w:World) (N0 p:Nat) (g:Gm) (b o c:Nat) (Ai:Option Addr) (ci bp:Nat) (node:Nat) (pl:Int) (fid:FuncId) (caps:Array Value) (J Jx:List (Nat×Nat)→World→Prop)
  (hw:CV w N0 p g b o c Ai ci bp) (hgd:Good g) (hsm:Small g) (hno:node < g.nodes.length) (hse:ED N0 fid caps (jO g pl node) J Jx) (h0:J [] w) :
  Calls Tryz.prog 176 #[.pointer (some ⟨p,0,none⟩),.int .i64 (node:Int),.int .i64 pl,.func (.func fid) #[] caps] w fun e w'=>e = .returned (.tuple #[])∧Below N0 w w'∧(J (jO g pl node) w'∨∃ pre,Jx pre w'):=by
 have hcf:=hse.enters;have HSE:=Ag hse;have HGD:=Ag hgd;have HSM:=Ag hsm;have HW:=Ag hw;have HJ0:=Ag h0;have hn100:=hsm.nodes;clear hse hgd hsm h0;obtain⟨x0,hx0,ak5⟩:=HGD.out.par hno;have e0:=hw.par node x0 hx0;have c3:=hw.c3;have HX0:=Ag hx0;clear hx0 ak5 hw;go_in;go_wp2_with fail
 go_loopw [1,8] (fun nv av wr=>∃ (ch f:Nat) (at':Int) (pre:List (Nat×Nat)),ch < g.nodes.length∧ch≤f∧nv = .int .i64 (ch:Int)∧av = .int .i64 at'∧(eU g.nodes)[ch]? = some at'∧pre++jC g pl f ch=jO g pl node∧J pre wr∧Below N0 w wr) (fun nv _ _=>(intOf nv).toNat)
 case atStart=>exact⟨node,g.nodes.length,x0,[],hno,byOmega,rfl,rfl,HX0.out,rfl,HJ0.out,Below.refl _ _⟩
 case round =>
  clear e0 c3;obtain⟨ch,f,at',pre,hch,hcf2,rfl,rfl,hpar,hpre,hJ,hB⟩:=hrel;obtain⟨wa,rfl⟩:=named wr;have HWA:=Ag (HW.out.below hB);have HPRE:=Ag hpre;have HJ:=Ag hJ;have HPAR:=Ag hpar;have HB:=Ag hB;clear hpre hJ hB;obtain⟨p',hp',hcase⟩:=HGD.out.par hch;rw[hpar] at hp';cases hp';clear hpar;rcases hcase with⟨rfl,rfl⟩ | ⟨q,n,rfl,hq,hn,hm⟩
  ·have HE:=Ag (show pre=jO g pl node by have:=HPRE.out; rwa [nY HGD.out,List.append_nil] at this);go_wp2
   go_end0
   exact⟨rfl,HB.out,.inl (by rw[← HE.out]; exact HJ.out)⟩
  ·obtain⟨f',rfl⟩:∃ k,f=k+1:=⟨f - 1,byOmega⟩;have hws:=HPRE.out;rw[nZ HPAR.out] at hws;have HWS:=Ag hws;have hne:=HWA.out.node q n hn;have n0:=hne.c0;have n1:=hne.c1;have n2:=hne.c2;obtain⟨v3,n3,h3⟩:=hne.c3;obtain⟨v4,n4,h4⟩:=hne.c4;obtain⟨v5,n5,h5⟩:=hne.c5;have H3:=Ag h3;obtain⟨A3,c3,rfl,_,_⟩:=h3;obtain⟨A4,c4,rfl,_,_⟩:=h4;obtain⟨A5,c5,rfl,_,_⟩:=h5;have c1:=HWA.out.c1;have hqN:=lt_of_get hn;have HM:=Ag hm;have HN:=Ag hn;have hnx:=HSM.out.next n (List.mem_of_getElem? hn);obtain⟨xq,hxq⟩:=getSome (l:=eU g.nodes) (k:=q) (by rw[jg]; exact hqN);have ep:=HWA.out.par q xq hxq;have c3':=HWA.out.c3;have HXQ:=Ag hxq;obtain⟨W1,hW1,rn,hb,hz1⟩:=aO wa 127 #[.int .i64 n.kind,.int .i64 n.aC,.int .i64 n.info,.slice A3 n.next.length c3,.slice A4 n.weights.length c4,.slice A5 n.pay.length c5];have hbN:Below N0 wa W1:=hb.mono HWA.out.size;have HB1:=Ag (HB.out.trans hbN);have HJ1:=Ag (HSE.out.keep _ _ _ HJ.out hb);have ep1:=ak ep hb;have c31:=ak c3' hb;have H31:=Ag (H3.out.on (Below.same' hb _));clear hne hws hm hn hxq hz1;by_cases hk:n.kind=2∧n.aC=pl
   case neg =>
    have HE:=Ag (show pre++jC g pl f' q=jO g pl node by have:=HWS.out; unfold pX at this; rw[tq HN.out,if_neg hk] at this; exact this);by_cases hk2:n.kind=2
    case neg =>
     have t1:(n.kind==2)=false:=by simpa using hk2
     clear hk hk2;go_wp2_with fail
     rw[← hW1];clear c1 c3' ep n0 n1 n2 n3 n4 n5 rn hW1;go_quiet (fail)
     go_wp2
     go_roundw
     case rel=>exact⟨q,f',xq,pre,hqN,byOmega,rfl,rfl,HXQ.out,by rw[show pre=pre from rfl]; exact HE.out,HSE.out.keep _ _ _ HJ1.out (aI (Below.refl _ _) _),aI HB1.out _⟩
     case measure=>simp[intOf]; omega
    have t1:(n.kind==2)=true:=by simp[hk2]
    have t2:(n.aC==pl)=false:=by simp;exact fun e=>hk ⟨hk2,e⟩
    clear hk hk2;go_wp2_with fail
    rw[← hW1];clear c1 c3' ep n0 n1 n2 n3 n4 n5 rn hW1;go_quiet (fail)
    go_wp2
    go_roundw
    case rel=>exact⟨q,f',xq,pre,hqN,byOmega,rfl,rfl,HXQ.out,by rw[show pre=pre from rfl]; exact HE.out,HSE.out.keep _ _ _ HJ1.out (aI (Below.refl _ _) _),aI HB1.out _⟩
    case measure=>simp[intOf]; omega
   have t1:(n.kind==2)=true:=by simp[hk.1]
   have t2:(n.aC==pl)=true:=by simp[hk.2]
   have HE:=Ag (show(pre ++ [(q,n.next.idxOf (ch:Int))])++jC g pl f' q=jO g pl node by have:=HWS.out; unfold pX at this; rw[tq HN.out,if_pos hk,← List.append_assoc] at this; exact this);clear hk;go_wp2_with fail
   rw[← hW1];clear hW1;refine(abB W1 _ _ n.next (ch:Int) H31.out byOmega).mono ?_;rintro e w2 ⟨rfl,rfl⟩;rw[if_pos HM.out];dsimp only;go_wp2_with fail
   refine(HSE.out.calls pre (q,n.next.idxOf (ch:Int)) w2 ⟨jC g pl f' q,by rw[← HE.out,List.append_assoc]; rfl⟩ HJ1.out).mono ?_;have HWB:=Ag (HWA.out.below hbN);clear c1 c3' ep n0 n1 n2 n3 n4 n5 rn ep1 c31;rintro e w3 ⟨hb3,⟨rfl,hJ3⟩ | ⟨rfl,hJ3⟩⟩
   ·have HW3:=Ag (HWB.out.below hb3);have ep:=HW3.out.par q xq HXQ.out;have c3:=HW3.out.c3;have HJ3:=Ag hJ3;have HB3:=Ag (HB1.out.trans hb3);clear hJ3 hb3 hb hbN;dsimp only;go_wp2_with fail
    go_quiet (fail)
    go_wp2
    go_roundw
    case rel=>exact⟨q,f',xq,pre ++ [(q,n.next.idxOf (ch:Int))],hqN,byOmega,rfl,rfl,HXQ.out,HE.out,HSE.out.keep _ _ _ HJ3.out (aI (Below.refl _ _) _),aI HB3.out _⟩
    case measure=>simp[intOf]; omega
   ·have HJ3:=Ag hJ3;have HB3:=Ag (HB1.out.trans hb3);clear hJ3 hb3 hb hbN;dsimp only;go_wp2
    refine bodyPost_ret (results_none rfl _ _ _) rfl ?_;exact⟨rfl,HB3.out,.inr ⟨_,HJ3.out⟩⟩
theorem aev (w:World) (F:Foot) (v1 v2:Value) (l1 l2:List (Int×Int)) (h1:AB w F v1 l1) (h2:AB w F v2 l2) (hb1:l1.length≤1000000) :
  Calls Tryz.prog 204 #[v1,v2] w (Ret w fun v _=>v = .bool (decide (l1=l2))):=by
 have H1:=Ag h1;have H2:=Ag h2;obtain⟨A1,c1,rfl,hc1,hx1⟩:=h1;obtain⟨A2,c2,rfl,hc2,hx2⟩:=h2;have HX1:=Ag hx1;have HX2:=Ag hx2;clear hx1 hx2;by_cases q0:l1.length=l2.length
 case neg =>
  exact ZH
 refine zb9 ?_;intro d0 Q0;clear q0;go_in;go_wp2
 go_loopw [13] (fun i wr=>∃ k:Nat,k≤l1.length∧i = .int .i64 k∧l1.take k=l2.take k∧Below w.heap.size w wr) (fun i _=>l1.length - (intOf i).toNat)
 case atStart=>exact⟨0,byOmega,rfl,aB,Below.refl _ _⟩
 case round =>
  obtain⟨k,hk,rfl,hpre,hbel⟩:=hrel;have HP:=Ag hpre;clear hpre;by_cases hlt:k < l1.length
  ·have hk2:k < l2.length:=by have:=Q0.out;omega
   obtain⟨⟨xp,xa⟩,hr1⟩:=getSome hlt;obtain⟨⟨yp,ya⟩,hr2⟩:=getSome hk2;obtain⟨b1,o1,rfl,_,_,ai7⟩:=HX1.out byOmega;obtain⟨b2,o2,rfl,_,_,ai8⟩:=HX2.out byOmega;obtain⟨x0,x1⟩:=ai7 k _ hr1;obtain⟨y0,y1⟩:=ai8 k _ hr2;replace x0:=ak x0 hbel;replace x1:=ak x1 hbel;replace y0:=ak y0 hbel;replace y1:=ak y1 hbel;dsimp only at x0 x1 y0 y1;have HR1:=Ag hr1;have HR2:=Ag hr2;clear ai7 ai8 hr1 hr2;by_cases he:xp=yp∧xa=ya
   ·obtain⟨rfl,rfl⟩:=he;have heq:=fun w=>sU w xp xa xp xa
    go_wp2
    go_quiet (fail)
    go_wp2
    go_roundw
    case rel=>exact⟨k+1,byOmega,by go_num,by rw[take_snoc HR1.out,take_snoc HR2.out,HP.out],aI hbel _⟩
    case measure=>simp[intOf]; omega
   ·have HF:=Ag (show decide (l1=l2)=false by
     simp only[decide_eq_false_iff_not]; rintro rfl; have h3:=HR1.out; rw[HR2.out] at h3; cases h3; exact he ⟨rfl,rfl⟩)
    by_cases h1:xp=yp
    ·subst h1;have hne:(xa==ya)=false:=by simp;exact fun h2=>he ⟨rfl,h2⟩
     clear he;have heq:=fun w=>sU w xp xa xp ya
     exact YX
    ·have hne:(xp==yp)=false:=by simp[h1]
     clear he h1;have heq:=fun w=>sU w xp xa yp ya
     exact YX
  ·go_wp2
   go_ret;refine zcv ?_;have h3:=HP.out;have h4:=Q0.out;have h5:l1=l2:=by
    exact Ym
   simp[h5]
theorem af0 (w:World) (F:Foot) (v1 v2:Value) (l1 l2:List (Int×Int)) (h1:AB w F v1 l1) (h2:AB w F v2 l2) (hb1:l1.length≤1000000) :
  Calls Tryz.prog 178 #[v1,v2] w (Ret w fun v _=>v = .bool (decide (l1=l2))):=by
 have H1:=Ag h1;have H2:=Ag h2;clear h1 h2;go_in;go_wp2_with fail
 refine(aev w F v1 v2 l1 l2 H1.out H2.out hb1).mono ?_;rintro e w1 ⟨_,rfl,hb,rfl⟩;dsimp only;go_wp2
 go_ret;exact⟨_,rfl,hb,rfl⟩
def Cj (L M:List (Int×Int)) (k:Nat):Prop:=M.length=L.length∧∀ i,i < L.length→M[i]? = if i < k∨L.length≤i+k then L[L.length - 1 - i]? else L[i]?
theorem Cj.start (L:List (Int×Int)):Cj L L 0:=⟨rfl,fun i hi=>by rw[if_neg byOmega]⟩
theorem Cj.done {L M:List (Int×Int)} {k:Nat} (h:Cj L M k) (hk:L.length≤2*k+1):M=L.reverse:=by
 refine List.ext_getElem? fun i=>?_
 by_cases hi:i < L.length
 ·rw[h.2 i hi,List.getElem?_reverse hi];split
  ·rfl
  ·rw[show L.length - 1 - i=i by omega]
 ·rw[List.getElem?_eq_none (by rw[h.1]; omega),List.getElem?_eq_none (by rw[List.length_reverse]; omega)]
theorem Cj.step {L M:List (Int×Int)} {k:Nat} {x y:Int×Int} (h:Cj L M k) (hk:2*k+1 < L.length) (hx:M[k]? = some x) (hy:M[L.length - 1 - k]? = some y):Cj L ((M.set k y).set (L.length - 1 - k) x) (k+1):=by
 refine⟨by rw[List.length_set,List.length_set,h.1],fun i hi=>?_⟩;have e1:=h.2 k byOmega;rw[if_neg byOmega,hx] at e1;have e2:=h.2 (L.length - 1 - k) byOmega;rw[if_neg byOmega,hy] at e2;by_cases h1:i=L.length - 1 - k
 ·subst h1;rw[List.getElem?_set_self (by rw[List.length_set,h.1]; omega),if_pos byOmega,show L.length - 1 - (L.length - 1 - k)=k by omega,← e1]
 ·rw[List.getElem?_set_ne (Ne.symm h1)];by_cases h2:i=k
  ·subst h2;rw[List.getElem?_set_self (by rw[h.1]; omega),if_pos byOmega,← e2]
  ·rw[List.getElem?_set_ne (Ne.symm h2),h.2 i hi];by_cases h3:i < k∨L.length≤i+k
   ·rw[if_pos h3,if_pos byOmega]
   ·rw[if_neg h3,if_neg byOmega]
def lN (L:List (Int×Int)):List Value:=L.flatMap aeh.cells
theorem uy {L:List (Int×Int)} {rest:List Value} {i:Nat} {x:Int×Int} (h:L[i]? = some x):(lN L++rest)[i*2]? = some (.int .i64 x.1)∧(lN L++rest)[i*2+1]? = some (.int .i64 x.2):=by
 induction L generalizing i with
 | nil=>simp at h
 | cons y L ih =>
  cases i with
  | zero=>simp at h; subst h; exact⟨rfl,rfl⟩
  | succ i =>
   have:=ih (i:=i) (by simpa using h);rw[show(i+1)*2=i*2+1+1 by omega];exact this
theorem yu {L:List (Int×Int)} {rest:List Value} {i:Nat} (h:i < L.length) (x:Int×Int):((lN L++rest).set (i*2) (.int .i64 x.1)).set (i*2+1) (.int .i64 x.2)=lN (L.set i x)++rest:=by
 induction L generalizing i with
 | nil=>simp at h
 | cons y L ih =>
  cases i with
  | zero=>rfl
  | succ i =>
   have:=ih (i:=i) (by simpa using h);rw[show(i+1)*2=i*2+1+1 by omega];show _ :: _ :: ((lN L++rest).set (i*2) _).set (i*2+1) _=_ :: _ :: (lN (L.set i x)++rest);rw[this]
theorem aew (w:World) (g cap:Nat) (L:List (Int×Int)) (rest:List Value) (hr:Row w g 141 (lN L++rest)) (hl:L.length≤100000) (hc:L.length≤cap) :
  Calls Tryz.prog 202 #[.slice (some ⟨g,0,none⟩) L.length cap] w fun e w'=>e = .returned (.tuple #[])∧Row w' g 141 (lN L.reverse++rest)∧Wrote (fun b=>b=g) w w':=by
 obtain⟨n,hn⟩:=named L.length;rw[← hn] at hl hc ⊢;have HN:=Ag hn;have HR:=Ag hr;have hw0:IntKind.i64.wrap ((n:Int) - 1)=(n:Int) - 1:=IntWalk.i64_in _ byOmega;clear hn hr;go_in;go_wp2_with fail
 go_loopw [2,3] (fun iv jv wr=>∃ (k:Nat) (jz:Int) (M:List (Int×Int)),k≤n∧iv = .int .i64 (k:Int)∧jv = .int .i64 jz∧jz=(n:Int) - 1 - k∧Cj L M k∧Row wr g 141 (lN M++rest)∧Wrote (fun b=>b=g) w wr) (fun iv _ _=>n - (intOf iv).toNat)
 case atStart=>exact⟨0,(n:Int) - 1,L,Nat.zero_le _,rfl,rfl,byOmega,Cj.start L,HR.out,Wrote.refl _ _⟩
 case round =>
  obtain⟨k,jz,M,hk,rfl,rfl,hjz,hrev,hrow,hwr⟩:=hrel;clear hw0 HR;have HV:=Ag hrev;have HW:=Ag hwr;clear hrev hwr;by_cases hlt:2*k+1 < n
  ·obtain⟨j,hj⟩:∃ j:Nat,j=n - 1 - k:=⟨_,rfl⟩;obtain rfl:jz=(j:Int):=byOmega;have hMl:M.length=n:=by rw[HV.out.1];exact HN.out.symm
   obtain⟨x,hx⟩:=getSome (l:=M) (k:=k) byOmega;obtain⟨y,hy⟩:=getSome (l:=M) (k:=j) byOmega;obtain⟨a0,a1⟩:=uy (rest:=rest) hx;obtain⟨b0,b1⟩:=uy (rest:=rest) hy;have x0:=hrow.cell a0;have x1:=hrow.cell a1;have y0:=hrow.cell b0;have y1:=hrow.cell b1;have f0:=hrow.frozen (k*2);have f1:=hrow.frozen (k*2+1);have g0:=hrow.frozen (j*2);have g1:=hrow.frozen (j*2+1);have HX:=Ag hx;have HY:=Ag hy;have AZ:=Ag hrow;have HML:=Ag hMl;have HJ:=Ag hj;have t0:decide (k < j)=true:=decide_eq_true byOmega;have hjn:j < n:=byOmega;have hkn:k < n:=byOmega;have hne:k≠j:=byOmega;have hwj:IntKind.i64.wrap ((j:Int) - 1)=(j:Int) - 1:=IntWalk.i64_in _ byOmega;clear hx hy a0 a1 b0 b1 hrow hMl hj hjz;go_wp2_with fail
   go_region
   go_wp2
   go_roundw
   case rel =>
    have hj:=HJ.out;have hML:=HML.out;have hLn:=HN.out;have hr:=((((AZ.out.set (k*2) (.int .i64 y.1)).set (k*2+1) (.int .i64 y.2)).set (j*2) (.int .i64 x.1)).set (j*2+1) (.int .i64 x.2)).drew;rw[yu byOmega y,yu (by rw[List.length_set]; omega) x] at hr;refine⟨k+1,(j:Int) - 1,(M.set k y).set j x,byOmega,by go_num,rfl,byOmega,?_,hr,((((HW.out.setCell (p:=⟨g,k*2,none⟩) (.inl rfl) _).setCell (p:=⟨g,k*2+1,none⟩) (.inl rfl) _).setCell (p:=⟨g,j*2,none⟩) (.inl rfl) _).setCell (p:=⟨g,j*2+1,none⟩) (.inl rfl) _).drew⟩;have h5:=HV.out.step (by rw[← hLn]; omega) HX.out (by rw[← hLn,← hj]; exact HY.out);rwa [← hLn,← hj] at h5
   case measure=>simp[intOf]; omega
  ·have t0:decide ((k:Int) < jz)=false:=decide_eq_false byOmega;have HD:=Ag (HV.out.done (by rw[← HN.out]; omega));go_wp2
   go_end0
   exact⟨rfl,by rw[← HD.out]; exact hrow,HW.out⟩
open List renaming getElem_toArray → lq1, getElem_cons_zero → lq2, getElem_cons_succ → lq3, setIfInBounds_toArray → lq4, set_cons_zero → lq5, set_cons_succ → lq6
theorem OwnSl.aj6 {w:World} {base:Nat} {et:TypeId} {F:Foot} {v:Value} {L:List (Int×Int)} (h:OwnSl aeh w base et F v L):(v = .slice none 0 0∧L = [])∨∃ g cap rest,v = .slice (some ⟨g,0,none⟩) L.length cap∧base≤g∧L.length≤cap∧Row w g et (lN L++rest):=by
 rcases h.row.2 with⟨rfl,h0⟩ | ⟨g,cap,cur,rfl,hb,hg,hnc,_,hsz,ht⟩
 ·exact .inl ⟨rfl,List.eq_nil_of_length_eq_zero h0⟩
 ·refine .inr ⟨g,cap,cur.toList.drop (L.length*aeh.n),rfl,hb,hnc,?_⟩;unfold Row lN;rw[hg,← ht,List.take_append_drop]
theorem Row.pairs {w:World} {g:Nat} {et:TypeId} {L:List (Int×Int)} {rest:List Value} (h:Row w g et (lN L++rest)) {G:Foot} (hG:G g) {c:Nat} (hc:L.length≤c):AB w G (.slice (some ⟨g,0,none⟩) L.length c) L :=
 ⟨_,c,rfl,hc,fun _=>⟨g,0,rfl,hG,h.lt,fun k x hk=>by
  obtain⟨h1,h2⟩:=uy (rest:=rest) hk;exact⟨by rw[Nat.zero_add]; exact h.cell h1,by rw[Nat.zero_add]; exact h.cell h2⟩⟩⟩
structure Dt (w0:World) (N0 p:Nat) (g:Gm) (b o c:Nat) (Ai:Option Addr) (ci bp:Nat) (pre:List (Nat×Nat)) (W:World):Prop where
 wk:CV W N0 p g b o c Ai ci bp
 low:N0≤w0.heap.size
 box:W.cell? ⟨w0.heap.size,0,none⟩=some (.pointer (some ⟨p,0,none⟩))
 out:∃ ov,Row W (w0.heap.size+1) 139 [ov]∧OwnSl aeh W (w0.heap.size+2) 141 (fun _=>False) ov (pre.map (je g))
 bel:Below w0.heap.size w0 W
theorem Dt.below {w0 W W':World} {N0 p:Nat} {g:Gm} {b o c:Nat} {Ai:Option Addr} {ci bp:Nat} {pre:List (Nat×Nat)} (h:Dt w0 N0 p g b o c Ai ci bp pre W) (k:Below W.heap.size W W'):Dt w0 N0 p g b o c Ai ci bp pre W':=by
 obtain⟨ov,h1,h2⟩:=h.out;exact⟨h.wk.below (k.mono h.wk.size),h.low,ak h.box k,⟨ov,h1.below k h1.lt,h2.below k⟩,h.bel.trans (k.mono h.bel.size)⟩
theorem ai9 (w0 W:World) (N0 p:Nat) (g:Gm) (b o c:Nat) (Ai:Option Addr) (ci bp:Nat) (pre:List (Nat×Nat)) (x:Nat×Nat) (n:Nd) (hn:g.nodes[x.1]? = some n) (hp:pre.length≤1000) (hJ:Dt w0 N0 p g b o c Ai ci bp pre W) :
  Calls Tryz.prog 201 #[.int .i64 (x.1:Int),.int .i64 (x.2:Int),.pointer (some ⟨w0.heap.size+1,0,none⟩),.pointer (some ⟨w0.heap.size,0,none⟩)] W fun e W'=>Below N0 W W'∧(e = .returned (.bool true)∧Dt w0 N0 p g b o c Ai ci bp (pre ++ [x]) W'):=by
 have HJ:=Ag hJ;obtain⟨k,a⟩:=x;have hk:=lt_of_get hn;have c1:=hJ.wk.c1;have n2:=(hJ.wk.node k n hn).c2;have hbx:=hJ.box;obtain⟨ov,hrow,hown⟩:=hJ.out;have hcu:=hrow.cell (i:=0) rfl;have hcf:=hrow.frozen 0;have HO:=Ag hown;have HN:=Ag hn;have hz:=hJ.bel.size;have hlow:=hJ.low;have hlt:=hrow.lt;have HUB:=Ag (fun b (e:ov.ownBlock=some b)=>HO.out.row.lt b e);clear hown hJ hn;dsimp only at n2 hk;go_in;go_wp2_with fail
 refine aX (fun w'=>w'.cell? ⟨w0.heap.size+1,0,none⟩=some ov∧w'.cell? ⟨w0.heap.size,0,none⟩=some (.pointer (some ⟨p,0,none⟩))∧w'.cell? ⟨p,1,none⟩=some (.slice (some ⟨b,o,none⟩) g.nodes.length c)∧w'.cell? ⟨b,o+k*6+2,none⟩=some (.int .i64 n.info)) 14 1 ah rfl ah ?_;have hHeld:(fun w':World=>w'.cell? ⟨w0.heap.size+1,0,none⟩=some ov∧w'.cell? ⟨w0.heap.size,0,none⟩=some (.pointer (some ⟨p,0,none⟩))∧w'.cell? ⟨p,1,none⟩=some (.slice (some ⟨b,o,none⟩) g.nodes.length c)∧w'.cell? ⟨b,o+k*6+2,none⟩=some (.int .i64 n.info)) W.drew:=⟨hcu,hbx,c1,n2⟩;refine Zq ?_;refine zao ?_;intro hb;obtain⟨wn,hwn⟩:=named W.drew;rw[← hwn] at hb hHeld ⊢;replace HO:=Ag (HO.out.below hb);replace HJ:=Ag (HJ.out.below hb);replace hrow:=hrow.below hb hrow.lt;have hB0:=hb.mono (show N0≤W.heap.size by omega);have hz2:=hb.size;obtain⟨hcu,hbx,c1,n2⟩:=id hHeld;clear hb hwn;refine tkm [0,1,2,3,4,5,6,7,8,9,10,11] ?_;refine tk2 12 ah rfl fun K hK=>?_
 go_simp;refine hK.out _ _ ⟨ak hcu ((Below.refl _ _).alloc (Nat.le_refl _) _),ak hbx ((Below.refl _ _).alloc (Nat.le_refl _) _),ak c1 ((Below.refl _ _).alloc (Nat.le_refl _) _),ak n2 ((Below.refl _ _).alloc (Nat.le_refl _) _)⟩ (fun hHeld=>?_);clear hK K;refine Zb ?_;refine tk2 13 ah rfl fun K hK=>?_
 refine kJ (K:=aeh) (F:=fun _=>False) rfl _ _ 139 141 16 _ Tryz.underlying139 Tryz.infoPair rfl ay rfl (w0.heap.size+2) (by omega:w0.heap.size+2≤wn.heap.size) ov (pre.map (je g)) rfl (n.info,(a:Int)) _ rfl (by rw[List.length_map]; omega) rfl HO.out trivial (Below.refl _ _) ?_;intro gg cap w5 hown5 lK zy iQ;have yU:Row w5 (w0.heap.size+1) _ _:=hrow.of_block (iQ.2 _ (fun e=>by have:=(HUB.out _ e).1; omega) hrow.lt);have hpN:=HJ.out.wk.hp;have hbN:=HJ.out.wk.hb;have hne:∀ blk,blk < w0.heap.size+2→ov.ownBlock≠some blk:=fun blk h e=>by have:=(HUB.out _ e).1;omega
 have aaI:=yU.cell (i:=0) rfl; have aiR:=yU.frozen 0;have hbx5:=(World.cell?_of_block (iQ.2 w0.heap.size (hne _ byOmega) (World.block_lt_of_cell? _ _ hbx))).trans hbx;have c15:=(World.cell?_of_block (iQ.2 p (hne _ byOmega) (World.block_lt_of_cell? _ _ c1))).trans c1;have n25:=(World.cell?_of_block (iQ.2 b (hne _ byOmega) (World.block_lt_of_cell? _ _ n2))).trans n2;have hB5:Below N0 wn w5:=lK.mono byOmega;have HB5:=Ag (hB0.trans hB5);have HJ5:=Ag (show ∀ W6,W6=w5.setCell ⟨w0.heap.size+1,0,none⟩ (.slice (some ⟨gg,0,none⟩) ((pre.map (je g)).length+1) cap)→Below N0 w5 W6∧Dt w0 N0 p g b o c Ai ci bp (pre ++ [(k,a)]) W6 from by
  rintro W6 rfl;have hb6:Below w0.heap.size w5 (w5.setCell ⟨w0.heap.size+1,0,none⟩ (.slice (some ⟨gg,0,none⟩) ((pre.map (je g)).length+1) cap)):=(Below.refl _ _).setCell (p:=⟨w0.heap.size+1,0,none⟩) aB _;have e:(pre ++ [(k,a)]).map (je g)=pre.map (je g) ++ [(n.info,(a:Int))]:=by
   rw[List.map_append];show _ ++ [je g (k,a)]=_;unfold je;rw[tq HN.out]
  refine⟨hb6.mono hlow,(HJ.out.wk.below hB5).below (hb6.mono hlow),hlow,(aQ (((Below.refl (w0.heap.size+1) w5).setCell (p:=⟨w0.heap.size+1,0,none⟩) (Nat.le_refl _) _)) _ _ byOmega).trans hbx5,⟨_,yU.set 0 _,?_⟩,(HJ.out.bel.trans (lK.mono byOmega)).trans hb6⟩;rw[e];exact hown5.same (Same.setCell _ w5 (p:=⟨w0.heap.size+1,0,none⟩) (fun h=>h.elim id fun h=>by have h:w0.heap.size+2≤w0.heap.size+1:=h; omega) _))
 clear hown5 lK zy iQ hcu hbx c1 n2 hrow yU hB5 hB0;refine hK.out _ _ ⟨aaI,hbx5,c15,n25⟩ (fun hHeld=>?_);clear hK K;refine Zb ?_;refine Zw ?_;clear hHeld;go_wp2
 unfold Ba;refine Yb ?_;go_wp2
 go_ret;obtain⟨h1,h2⟩:=HJ5.out _ (by rw[List.length_map]);exact⟨HB5.out.trans h1,rfl,h2⟩
theorem reverse_nil (w:World):Calls Tryz.prog 202 #[.slice none 0 0] w fun e w'=>e = .returned (.tuple #[])∧w'=w:=by
 have hw0:IntKind.i64.wrap ((0:Int) - 1) = -1:=by rfl
 go_in;go_wp2_with fail
 go_loopw [2,3] (fun iv jv wr=>iv = .int .i64 0∧jv = .int .i64 (-1)∧wr=w) (fun _ _ _=>0)
 case atStart=>exact⟨rfl,rfl,rfl⟩
 case round =>
  obtain⟨rfl,rfl,rfl⟩:=hrel;go_wp2
  go_end0
  exact⟨rfl,rfl⟩
theorem aex (w:World) (N0 p:Nat) (g:Gm) (b o c:Nat) (Ai:Option Addr) (ci bp:Nat) (node:Nat) (pl:Int) (hw:CV w N0 p g b o c Ai ci bp) (hgd:Good g) (hsm:Small g) (hno:node < g.nodes.length) :
  Calls Tryz.prog 175 #[.pointer (some ⟨p,0,none⟩),.int .i64 (node:Int),.int .i64 pl] w (Ret w fun u w'=>AB w' (fun b=>w.heap.size≤b) u (lJ g pl node)):=by
 refine ZV ?_;intro hmf;have HW:=Ag hw;have HGD:=Ag hgd;have HSM:=Ag hsm;have hn100:=hsm.nodes;have HWL:=Ag (afZ hgd (pl:=pl) hno);have HLN:=Ag (show(jO g pl node).length≤1000 from by have:=zh hgd (pl:=pl) g.nodes.length node hno; unfold jO; omega);clear hw hgd hsm;go_in;go_wp2_with fail
 obtain⟨W,hW,rx,ry,hB,hz⟩:=alloc2 w 173 #[.pointer (some ⟨p,0,none⟩)] 139 #[.slice none 0 0];rw[← hW];clear hW;have HJ0:=Ag (show Dt w N0 p g b o c Ai ci bp [] W from⟨HW.out.below (hB.mono HW.out.size),HW.out.size,rx.cell (i:=0) rfl,⟨_,ry,OwnSl.nil _ _ _ _ _⟩,hB⟩);have HSE:=Ag (show ED N0 201 #[.pointer (some ⟨w.heap.size+1,0,none⟩),.pointer (some ⟨w.heap.size,0,none⟩)] (jO g pl node) (Dt w N0 p g b o c Ai ci bp) (fun _ _=>False) from
  ⟨enters Tryz.func201 (by decide +kernel) (by decide +kernel),fun pre x W ⟨rest,he⟩ hJ=>by
   have hx:x∈jO g pl node:=by rw[← he];simp
   obtain⟨n,hn⟩:=getSome (vN HGD.out _ _ hno x hx);have hl:pre.length≤1000:=by have h1:=HLN.out;rw[← he,List.length_append] at h1;omega
   exact(ai9 w W N0 p g b o c Ai ci bp pre x n hn hl hJ).mono fun e W' h=>⟨h.1,.inl h.2⟩,
  fun pre W W' h k=>h.below k⟩)
 have hw1:=HW.out.below (hB.mono HW.out.size);clear rx ry hz;refine(ab7 W N0 p g b o c Ai ci bp node pl _ _ _ _ hw1 HGD.out HSM.out hno HSE.out HJ0.out).mono ?_;rintro e w1 ⟨rfl,hb1,hJ | ⟨pre,h⟩⟩
 case inr=>exact h.elim
 obtain⟨ov,hrow,hown⟩:=hJ.out;have hbel:=hJ.bel;have hL:((jO g pl node).map (je g)).reverse=lJ g pl node:=HWL.out;have hln:((jO g pl node).map (je g)).length≤1000:=by rw[List.length_map];exact HLN.out
 generalize (jO g pl node).map (je g)=L at hown hL hln;clear hJ HJ0 HSE HWL HLN hw1 hb1 hB;have hc:=hrow.cell (i:=0) rfl;dsimp only;rcases hown.aj6 with⟨rfl,rfl⟩ | ⟨gb,cap,rest,rfl,hgb,hcap,hr⟩
 ·clear hown;go_wp2_with fail
  refine(reverse_nil w1).mono ?_;rintro e w2 ⟨rfl,rfl⟩;dsimp only;go_wp2
  go_ret;exact⟨_,rfl,hbel,by rw[← hL]; exact AB.nil _ _⟩
 ·have HR:=Ag hr;have HL:=Ag hL;have AZ:=Ag hrow;clear hown hr hL hrow;go_wp2_with fail
  refine(aew w1 gb cap L rest HR.out byOmega hcap).mono ?_;rintro e w2 ⟨rfl,hr2,hw2⟩;have hc2:=(AZ.out.wrote hw2 byOmega).cell (i:=0) rfl;have HB2:=Ag (Wrote.below hbel hw2 (fun b hb=>by omega) hbel.size);have HR2:=Ag hr2;clear hw2 hr2 hc;dsimp only;go_wp2
  go_ret;refine⟨_,rfl,HB2.out,?_⟩;have h5:=HR2.out.pairs (G:=fun b=>w.heap.size≤b) byOmega (c:=cap) (by rw[List.length_reverse]; exact hcap);rw[List.length_reverse,HL.out] at h5;exact h5
theorem aey (w:World) (N0 p:Nat) (g:Gm) (b o c:Nat) (Ai:Option Addr) (ci bp:Nat) (hw:CV w N0 p g b o c Ai ci bp) (hsm:Small g) (hin:BI g) :
  Calls Tryz.prog 149 #[.pointer (some ⟨p,0,none⟩)] w (Ret w fun v w'=>Bd w' (fun b=>w.heap.size≤b) v (fJ g)):=by
 have HN:=Ag hw.node;have c1:=hw.c1;have c2:=hw.c2;have hn:=hsm.nodes;have hni:=hsm.infos;have HIN:=Ag hin;clear hin;have hbw:b < w.heap.size:=Nat.lt_of_lt_of_le hw.hb hw.size;have hpw:p < w.heap.size:=Nat.lt_of_lt_of_le hw.hp hw.size;clear hw;go_in;go_wp2_with (at_make; refine dQ _ rfl _ _ 83 rfl 22 (.slice none 0 0) 24 Tryz.underlying83 Tryz.infoInts rfl g.infos.length rfl rfl byOmega byOmega ?_; intro w1 hb1 hz1 hrow1; have c1':=ak c1 hb1)
 go_loopw [19] (fun i wr=>∃ (k:Nat) (vs:List Value),k≤g.nodes.length∧i = .int .i64 k∧Row wr w.heap.size 22 vs∧OwnRows wr (w.heap.size+1) 3 vs (gq g.nodes g.infos.length k)∧Below w.heap.size w wr) (fun i _=>g.nodes.length - (intOf i).toNat)
 case atStart=>exact⟨0,_,byOmega,rfl,hrow1,OwnRows.start _ _ _ _,hb1⟩
 case round =>
  obtain⟨k,vs,hk,rfl,hrow,hown,hbel⟩:=hrel;clear c1' hrow1 hb1 hz1;by_cases hlt:k < g.nodes.length
  ·obtain⟨n,hn'⟩:=getSome hlt;obtain⟨e0,e1,e2,⟨v3,e3,A3,c3,rfl,hc3,i3⟩,⟨v4,e4,A4,c4,rfl,hc4,i4⟩,⟨v5,e5,A5,c5,rfl,hc5,i5⟩⟩:=HN.out k n hn';clear i3 i4 i5;have HX:=Ag hn';clear hn';have hold:=aQ hbel;have hlr:=hrow.lt;by_cases hkd:n.kind=2
   ·obtain⟨hin0,hin1⟩:=HIN.out n (List.mem_of_getElem? HX.out) hkd;have hd:(n.kind==2)=true:=by simp[hkd]
    have HKD:=Ag hkd;clear hkd;obtain⟨l,hl⟩:=getSome (l:=gq g.nodes g.infos.length k) (k:=n.info.toNat) (by rw[fU]; omega);obtain⟨v,hv⟩:=getSome (l:=vs) (k:=n.info.toNat) (by rw[hown.len,fU]; omega);have hll:=ae3 l (List.mem_of_getElem? hl);have HO:=Ag (hown.own _ v l hv hl);have HL:=Ag hl;clear hl;have HV:=Ag hv;clear hv;go_wp2
    obtain⟨W,hW⟩:∃ W:World,W=wr.alloc (.cells #[.int .i64 n.kind,.int .i64 n.aC,.int .i64 n.info,.slice A3 n.next.length c3,.slice A4 n.weights.length c4,.slice A5 n.pay.length c5] 127):=⟨_,rfl⟩;rw[← hW];have cx:W.cell? ⟨wr.heap.size,2,none⟩=some (.int .i64 n.info):=by rw[hW];simp
    have hWz:W.heap.size=wr.heap.size+1:=by rw[hW];simp
    have hWo:OwnRows W (w.heap.size+1) 3 vs (gq g.nodes g.infos.length k):=by rw[hW];exact hown.alloc _
    have hWw:Row W w.heap.size 22 vs:=by rw[hW];exact hrow.alloc _
    have hWb:Below w.heap.size w W:=by rw[hW];exact hbel.alloc hbel.size _
    have rv:=hWw.cell HV.out;have fv:=hWw.frozen n.info.toNat;have HOW:=Ag (hWo.own _ v l HV.out HL.out);have hWlt:wr.heap.size < W.heap.size:=byOmega;have HHW:=Ag hWz;have hWle:w.heap.size+1 < W.heap.size:=byOmega;clear hW hWz hrow hown hbel hold e0 e1 e2 e3 e4 e5 hlr;have HWR:=Ag (And.intro hWw (And.intro hWo hWb));clear hWw hWo hWb;refine ah8 (fun w'=>w'.cell? ⟨wr.heap.size,2,none⟩=some (.int .i64 n.info)∧w'.cell? ⟨w.heap.size,n.info.toNat,none⟩=some v) 11 ah rfl rfl ah ah ah ah ⟨cx,rv⟩ ?_;have hHeld:(fun w':World=>w'.cell? ⟨wr.heap.size,2,none⟩=some (.int .i64 n.info)∧w'.cell? ⟨w.heap.size,n.info.toNat,none⟩=some v) W.drew:=⟨cx,rv⟩;refine Zq ?_;refine tkm [0,1,2,3,4,5,6,7,8] ?_;refine tk2 9 ah rfl fun K hK=>?_
    go_simp;refine hK.out _ _ ⟨by rw[World.cell?_drew,World.cell?_alloc_lt _ _ _ aF]; exact cx,by rw[World.cell?_drew,World.cell?_alloc_lt _ _ _ aF]; exact rv⟩ (fun hHeld=>?_);clear hK K;try simp only[Act.put,List.setIfInBounds_toArray,List.set_cons_zero,List.set_cons_succ]
    refine tk2 10 ah rfl fun K hK=>?_
    refine aco (by rfl) _ _ (by rfl) (w.heap.size+1) v l (by rfl) (HOW.out.alloc _) W.heap.size k (by rfl) (heap_alloc_new W _) byOmega aF ?_;intro gg cap w1 hown1 hgrow hat hlt1;have hnb:∀ b,v.ownBlock=some b→w.heap.size+1≤b:=fun b hb=>(HOW.out.lt b hb).1
    have hHG:∀ b,b < w.heap.size+1→w1.heap[b]? = W.heap[b]?:=fun b hb=>by
     rw[hgrow.block b aF (fun e=>by have:=hnb b e.symm; omega)];exact Below.heap_alloc W _ b byOmega
    obtain⟨hWw,hWo,hWb⟩:=HWR.out;have k2:Row w1 w.heap.size _ _:=hWw.of_block (hHG _ byOmega);have k3:=((hWo.alloc _).drew).put HV.out hown1 hgrow rfl hat;have k4:Below w.heap.size w w1:=((hWb.alloc byOmega _).drew).grown hgrow aF (fun k hk=>by have:=hnb k hk; omega);have rv1:=k2.cell HV.out;have fv1:=k2.frozen n.info.toNat;have KK:=Ag (And.intro k2 (And.intro k3 k4));refine hK.out _ _ ⟨?_,rv1⟩ (fun hHeld=>?_)
    ·rw[hgrow.cell_far _ aF (fun e=>by have:=(HO.out.lt _ e.symm).2; simp at this),World.cell?_drew,World.cell?_alloc_lt _ _ _ aF];exact cx
    clear hK K k2 k3 k4 hWw hWo hWb hHG hgrow hown1 hat cx rv fv;try simp only[Act.put,List.setIfInBounds_toArray,List.set_cons_zero,List.set_cons_succ]
    refine Yp ?_;refine Y2 ?_;go_wp2
    refine Y2 ?_;go_wp2
    go_roundw
    case rel =>
     obtain⟨k2,k3,k4⟩:=KK.out;refine⟨k+1,_,byOmega,by go_num,k2.set _ _,?_,k4.setCell aB _⟩;rw[yH HX.out HKD.out HL.out];exact k3.setCell aB _
    case measure=>simp[intOf]; omega
   ·have hd:(n.kind==2)=false:=by simp[hkd]
    have HKD:=Ag hkd;clear hkd;go_wp2
    go_roundw
    case rel =>
     refine⟨k+1,vs,byOmega,by go_num,hrow.alloc _,?_,hbel.alloc hbel.size _⟩;rw[yI HX.out HKD.out];exact hown.alloc _
    case measure=>simp[intOf]; omega
  ·go_wp2
   go_ret;refine zcv ?_;have hke:k=g.nodes.length:=byOmega;subst hke;have:=OwnRows.rows (F:=fun b=>w.heap.size≤b) hown hrow byOmega (fun _ _=>by omega) (c:=g.infos.length) (by rw[fU]; omega);rw[fU] at this;exact this
theorem aaU (W:World) (bq:Nat) (b0:Bool) (k a b c:Int) (hq:Row W bq 4 [.bool b0]) :
  Calls Tryz.prog 148 #[.agg #[.int .i64 k,.int .i64 a,.int .i64 b,.int .i64 c],.pointer (some ⟨bq,0,none⟩)] W fun e W'=>e = .returned (.bool (k != 2))∧Row W' bq 4 [.bool (k != 2)]∧Wrote (fun x=>x=bq) W W':=by
 have q0:=hq.cell (i:=0) rfl;have f0:=hq.frozen 0;have hlt:=hq.lt;have HQ:=Ag hq;clear hq;go_in;go_wp2
 go_ret;exact⟨rfl,(HQ.out.set 0 _).alloc _,((Wrote.refl (fun x=>x=bq) W).setCell (p:=⟨bq,0,none⟩) (.inl rfl) _).alloc _⟩
structure BM (wi:World) (N0 p:Nat) (g:Gm) (b o c:Nat) (Ai:Option Addr) (ci bp bs bi bd:Nat) (info d:Int) (W:World):Prop where
 wk:CV W N0 p g b o c Ai ci bp
 low:N0≤wi.heap.size
 hbd:wi.heap.size≤bd
 box:W.cell? ⟨bs,0,none⟩=some (.pointer (some ⟨p,0,none⟩))
 inf:W.cell? ⟨bi,0,none⟩=some (.int .i64 info)
 hbs:bs < wi.heap.size
 hbi:bi < wi.heap.size
 row:Row W bd 3 [.int .i64 d]
 bel:Below wi.heap.size wi W
theorem BM.below {wi:World} {N0 p:Nat} {g:Gm} {b o c:Nat} {Ai:Option Addr} {ci bp bs bi bd:Nat} {info d:Int} {W W':World} (h:BM wi N0 p g b o c Ai ci bp bs bi bd info d W) (k:Below W.heap.size W W'):BM wi N0 p g b o c Ai ci bp bs bi bd info d W' :=
 ⟨h.wk.below (k.mono h.wk.size),h.low,h.hbd,ak h.box k,ak h.inf k,h.hbs,h.hbi,h.row.below k h.row.lt,h.bel.trans (k.mono h.bel.size)⟩
theorem BM.put {wi:World} {N0 p:Nat} {g:Gm} {b o c:Nat} {Ai:Option Addr} {ci bp bs bi bd:Nat} {info d:Int} {W:World} (h:BM wi N0 p g b o c Ai ci bp bs bi bd info d W) (d':Int):BM wi N0 p g b o c Ai ci bp bs bi bd info d' (W.setCell ⟨bd,0,none⟩ (.int .i64 d')):=by
 have hb:Below wi.heap.size W (W.setCell ⟨bd,0,none⟩ (.int .i64 d')):=(Below.refl _ _).setCell (p:=⟨bd,0,none⟩) h.hbd _;exact⟨h.wk.below (hb.mono h.low),h.low,h.hbd,(aQ hb _ _ h.hbs).trans h.box,(aQ hb _ _ h.hbi).trans h.inf,h.hbs,h.hbi,h.row.set 0 _,h.bel.trans hb⟩
theorem ahD (wi W:World) (N0 p:Nat) (g:Gm) (b o c:Nat) (Ai:Option Addr) (ci bp bs bi bd:Nat) (info:Int) (x:Nat×Nat) (n:Nd) (hn:g.nodes[x.1]? = some n) (hJ:BM wi N0 p g b o c Ai ci bp bs bi bd info (-1) W) :
  Calls Tryz.prog 177 #[.int .i64 (x.1:Int),.int .i64 (x.2:Int),.pointer (some ⟨bs,0,none⟩),.pointer (some ⟨bi,0,none⟩),.pointer (some ⟨bd,0,none⟩)] W fun e W'=>Below N0 W W' ∧
   ((e = .returned (.bool true)∧BM wi N0 p g b o c Ai ci bp bs bi bd info (-1) W')∨(e = .returned (.bool false)∧∃ d,BM wi N0 p g b o c Ai ci bp bs bi bd info d W')):=by
 obtain⟨k,a⟩:=x;have HJ:=Ag hJ;have hk:=lt_of_get hn;have c1:=hJ.wk.c1;have n2:=(hJ.wk.node k n hn).c2;have hbx:=hJ.box;have hin:=hJ.inf;have hd0:=hJ.row.cell (i:=0) rfl;have hdf:=hJ.row.frozen 0;have hz:=hJ.bel.size;have hlow:=hJ.low;have hbd:=hJ.hbd;dsimp only at n2 hk;clear hJ hn;by_cases he:n.info=info
 ·subst he;have t0:(n.info==n.info)=true:=aB;have t1:decide ((k:Int) < 0)=false:=decide_eq_false byOmega;go_in;go_wp2_with fail
  go_quiet (fail)
  go_wp2
  go_ret;exact⟨(aI (Below.refl N0 W) _).setCell (p:=⟨bd,0,none⟩) (by show N0≤bd; omega) _,.inr ⟨rfl,(k:Int),(HJ.out.below (aI (Below.refl _ W) _)).put _⟩⟩
 ·have t0:(n.info==info)=false:=by simpa using he
  clear he;go_in;go_wp2_with fail
  go_quiet (fail)
  go_wp2
  go_ret;exact⟨aI (Below.refl N0 W) _,.inl ⟨rfl,HJ.out.below (aI (Below.refl _ W) _)⟩⟩
theorem CV.infoAt {w:World} {N0 p:Nat} {g:Gm} {b o c:Nat} {Ai:Option Addr} {ci bp:Nat} (h:CV w N0 p g b o c Ai ci bp) {i:Nat} {inf:Inf} (hi:g.infos[i]? = some inf):∃ bI oI,Ai=some ⟨bI,oI,none⟩∧bI < N0∧bI < w.heap.size∧w.cell? ⟨bI,oI+i*2,none⟩=some (.int .i64 inf.aC)∧w.cell? ⟨bI,oI+i*2+1,none⟩=some (.int .i64 inf.actions):=by
 obtain⟨A',c',e,_,hx⟩:=h.info;injection e with e1 e2 e3
 subst e1;obtain⟨bI,oI,rfl,hF,hb,hc⟩:=hx (by have:=lt_of_get hi; omega);exact⟨bI,oI,rfl,hF,hb,(hc i inf hi).c0,(hc i inf hi).c1⟩
theorem aez {g:Gm} {pl:Int} {l:List Int} (h:∀ x∈l,lJ g pl x.toNat=lJ g pl (l.getD 0 0).toNat):nH g pl l=true:=by
 unfold nH;rw[List.all_eq_true];exact fun x hx=>decide_eq_true (h x hx)
theorem ac0 {g:Gm} {pl:Int} {l:List Int} {x:Int} (hx:x∈l) (h:lJ g pl x.toNat≠lJ g pl (l.getD 0 0).toNat):nH g pl l=false:=by
 cases hw:nH g pl l with
 | false=>rfl
 | true =>
  unfold nH at hw;rw[List.all_eq_true] at hw;exact absurd (of_decide_eq_true (hw x hx)) h
theorem aja (w:World) (N0 p:Nat) (g:Gm) (b o c:Nat) (Ai:Option Addr) (ci bp bq i:Nat) (inf:Inf) (pl:Int) (F:Foot) (vl:Value) (l:List Int) (hw:CV w N0 p g b o c Ai ci bp) (hgd:Good g) (hsm:Small g)
  (hi:g.infos[i]? = some inf) (hpl:inf.aC=pl) (hq:Row w bq 4 [.bool true]) (hq0:N0≤bq) (hF:¬ F bq) (hl:AA w F vl l) (hne:l≠[]) (hin:∀ x∈l,∃ j:Nat,x=(j:Int)∧j < g.nodes.length) (hll:l.length≤1000) :
  Calls Tryz.prog 150 #[.agg #[.pointer (some ⟨p,0,none⟩),.func (.func 148) #[] #[.pointer (some ⟨bq,0,none⟩)]],.int .i64 (i:Int),vl] w fun e w'=>e = .returned (.bool (nH g pl l))∧Row w' bq 4 [.bool (nH g pl l)]∧Wrote (fun x=>x=bq) w w':=by
 refine ZV ?_;intro hmf;have hcr:=fun args w=>enters Tryz.func148 (by decide +kernel) (by decide +kernel) args w
 subst hpl;have HW:=Ag hw;have HGD:=Ag hgd;have HSM:=Ag hsm;have HQ:=Ag hq;have HL:=Ag hl;have HIN:=Ag hin;have HI:=Ag hi;have HF:=Ag hF;have HNE:=Ag hne;have hil:=lt_of_get hi;have hni:=hsm.infos;have hbq:=hq.lt;clear hw hgd hsm hq hin hi hF hne;obtain⟨Al,cl,rfl,hcl,hx⟩:=hl;have hlp:0 < l.length:=by
  cases l with
  | nil=>exact absurd rfl HNE.out
  | cons x t=>simp
 obtain⟨bl,ol,rfl,hFl,hbl,hlc⟩:=hx hlp;have HLC:=Ag hlc;have hlq:bl≠bq:=fun e=>HF.out (e▸hFl)
 clear hx hlc;go_in
 go_upto_region 1 with(fail)
 obtain⟨W,hW,rs,ri,hB,hz⟩:=alloc2 w 205 #[.pointer (some ⟨p,0,none⟩),.func (.func 148) #[] #[.pointer (some ⟨bq,0,none⟩)]] 3 #[.int .i64 (i:Int)];rw[← hW];clear hW;have s0:=rs.cell (i:=0) rfl;have i0:=ri.cell (i:=0) rfl;have hWW:=HW.out.below (hB.mono HW.out.size);obtain⟨bI,oI,rfl,hbI,hbI2,p0,_⟩:=hWW.infoAt HI.out;have c2:=hWW.c2;obtain⟨x0,hx0⟩:=getSome hlp;obtain⟨j0,hxj,hj0⟩:=HIN.out x0 (List.mem_of_getElem? hx0);subst hxj;have l0:=HLC.out 0 _ hx0;unfold o7 at l0;rw[Nat.zero_mul,Nat.add_zero] at l0;replace l0:=ak l0 hB;have HX0:=Ag (show l.getD 0 0=(j0:Int) by rw[List.getD_eq_getElem?_getD,hx0]; rfl);have HWW:=Ag hWW;have HRS:=Ag rs;have HRI:=Ag ri;have HB:=Ag hB;clear rs ri hWW hB hx0;go_wp2_with fail
 go_quiet (fail)
 go_wp2_with fail
 obtain⟨wd,hwd⟩:=named (W.drewN nq);have hbd:Below W.heap.size W wd:=by rw[hwd];exact aI (Below.refl _ W) nq
 rw[← hwd];clear hwd;replace s0:=ak s0 hbd;replace i0:=ak i0 hbd;replace l0:=ak l0 hbd;replace HWW:=Ag (HWW.out.below (hbd.mono HWW.out.size));replace HRS:=Ag (HRS.out.below hbd HRS.out.lt);replace HRI:=Ag (HRI.out.below hbd HRI.out.lt);replace HB:=Ag (HB.out.trans (hbd.mono HB.out.size));have hzd:=hbd.size;clear hbd p0 c2;refine wp_region_held_drew (S:=fun w'=>w'.cell? ⟨w.heap.size,0,none⟩=some (.pointer (some ⟨p,0,none⟩))∧w'.cell? ⟨bl,ol,none⟩=some (.int .i64 (j0:Int))) ah ⟨s0,l0⟩ (fun hHeld=>?_);have hb:Below wd.heap.size wd wd.drew:=aI (Below.refl _ wd) 1;replace s0:=ak s0 hb;replace i0:=ak i0 hb;replace l0:=ak l0 hb;replace HWW:=Ag (HWW.out.below (hb.mono HWW.out.size));replace HRS:=Ag (HRS.out.below hb HRS.out.lt);replace HRI:=Ag (HRI.out.below hb HRI.out.lt);replace HB:=Ag (HB.out.trans (hb.mono HB.out.size));replace hzd:=Nat.le_trans hzd hb.size;clear hb;generalize wd.drew=wn at *;refine tkm [0,1,2,3,4,5] ?_;refine tk2 6 ah rfl fun K hK=>?_
 go_simp;refine(aex _ N0 p g b o c _ ci bp j0 inf.aC HWW.out HGD.out HSM.out hj0).mono ?_;rintro e wn ⟨u1,rfl,hb,hu1⟩;have HU1:=Ag (AB.keep (G:=fun b=>w.heap.size < b) hu1 (fun b hb _=>by omega) (Same.refl _ _));obtain⟨A1,c1,rfl⟩:=hu1.open;clear hu1;replace s0:=ak s0 hb;replace i0:=ak i0 hb;replace l0:=ak l0 hb;replace HWW:=Ag (HWW.out.below (hb.mono HWW.out.size));replace HRS:=Ag (HRS.out.below hb HRS.out.lt);replace HRI:=Ag (HRI.out.below hb HRI.out.lt);replace HB:=Ag (HB.out.trans (hb.mono HB.out.size));replace hzd:=Nat.le_trans hzd hb.size;clear hb;dsimp only;clear hHeld;refine hK.out _ _ ⟨s0,l0⟩ (fun hHeld=>?_);clear hK K;refine Zb ?_
 refine tkm [7] ?_;refine wpAnyH_done ah ?_ _;clear hHeld;obtain⟨w1,rfl⟩:=named wn;have s1:=HRS.out.cell (i:=1) rfl;have HQ1:=Ag (HQ.out.below HB.out hbq);have HLC1:=Ag (show ∀ (k:Nat) (x:Int),l[k]? = some x→w1.cell? ⟨bl,ol+k,none⟩=some (.int .i64 x) from fun k x hx=>by
  have h1:=HLC.out k x hx;unfold o7 at h1;rw[Nat.mul_one] at h1;exact(HB.out.cell (p:=⟨bl,ol+k,none⟩) hbl).trans h1)
 have hzw:=HB.out.size;have hN0:=HW.out.size;clear l0;go_wp2_with fail
 go_loopw [31] (fun iv wr=>∃ k:Nat,k≤l.length∧iv = .int .i64 (k:Int)∧(∀ x∈l.take k,lJ g inf.aC x.toNat=lJ g inf.aC j0)∧Row wr bq 4 [.bool true]∧Wrote (fun x=>x=bq) w1 wr) (fun iv _=>l.length - (intOf iv).toNat)
 case atStart=>exact⟨0,Nat.zero_le _,rfl,fun x hx=>by simp at hx,HQ1.out,Wrote.refl _ _⟩
 case round =>
  obtain⟨k,hk,rfl,hall,hqa,hwr⟩:=hrel;obtain⟨wa,rfl⟩:=named wr;have HALL:=Ag hall;have HWR:=Ag hwr;have HQA:=Ag hqa;have HLOW:=Ag (Wrote.below (Below.refl N0 w1) hwr (fun b hb=>by omega) byOmega);clear hall hwr hqa HQ1;have s0a:=(HWR.out.cell w.heap.size 0 byOmega byOmega).trans s0;have s1a:=(HWR.out.cell w.heap.size 1 byOmega byOmega).trans s1;have i0a:=(HWR.out.cell (w.heap.size+1) 0 byOmega byOmega).trans i0;have hza:=HWR.out.size;by_cases hlt:k < l.length
  ·obtain⟨x,hx⟩:=getSome hlt;obtain⟨j,hxj,hj⟩:=HIN.out x (List.mem_of_getElem? hx);subst hxj;have lx:=(HWR.out.cell bl (ol+k) byOmega byOmega).trans (HLC1.out k _ hx);have HX:=Ag hx;have HS0:=Ag s0;have HI0:=Ag i0;have HS1:=Ag s1;clear hx s0 i0 s1;have s0o:=fun ob=>fO s0a ob
   go_wp2_with fail
   clear s0o;obtain⟨W1,hW1,rd,hbd,hz1⟩:=aO wa 3 #[.int .i64 (-1)];rw[← hW1];clear hW1;have HSJ:=Ag (show BM wa N0 p g b o c (some ⟨bI,oI,none⟩) ci bp w.heap.size (w.heap.size+1) wa.heap.size (i:Int) (-1) W1 from⟨(HWW.out.below HLOW.out).below (hbd.mono byOmega),byOmega,Nat.le_refl _,ak s0a hbd,ak i0a hbd,byOmega,byOmega,rd,hbd⟩);have HSE:=Ag (show ED N0 177 #[.pointer (some ⟨w.heap.size,0,none⟩),.pointer (some ⟨w.heap.size+1,0,none⟩),.pointer (some ⟨wa.heap.size,0,none⟩)] (jO g inf.aC j) (fun _ V=>BM wa N0 p g b o c (some ⟨bI,oI,none⟩) ci bp w.heap.size (w.heap.size+1) wa.heap.size (i:Int) (-1) V) (fun _ V=>∃ d,BM wa N0 p g b o c (some ⟨bI,oI,none⟩) ci bp w.heap.size (w.heap.size+1) wa.heap.size (i:Int) d V) from
    ⟨enters Tryz.func177 (by decide +kernel) (by decide +kernel),fun pre x V ⟨rest,he⟩ hJ=>by
     have hx:x∈jO g inf.aC j:=by rw[← he];simp
     obtain⟨n,hn⟩:=getSome (vN HGD.out _ _ hj x hx);exact ahD wa V N0 p g b o c _ ci bp _ _ _ _ x n hn hJ,fun pre V V' h k=>h.below k⟩)
   clear rd hz1;refine(ab7 W1 N0 p g b o c _ ci bp j inf.aC _ _ _ _ HSJ.out.wk HGD.out HSM.out hj HSE.out HSJ.out).mono ?_;rintro e w2 ⟨rfl,hb2,hJ⟩;obtain⟨d,hJ⟩:∃ d,BM wa N0 p g b o c (some ⟨bI,oI,none⟩) ci bp w.heap.size (w.heap.size+1) wa.heap.size (i:Int) d w2:=hJ.elim (fun h=>⟨_,h⟩) (fun ⟨_,h⟩=>h);have d0:=hJ.row.cell (i:=0) rfl;have i02:=hJ.inf;have s12:=ak s1a hJ.bel;have HQ2:=Ag (HQA.out.below hJ.bel HQA.out.lt);have HW2:=Ag (HWR.out.trans (show Wrote (fun x=>x=bq) wa w2 from⟨hJ.bel.os,hJ.bel.tape,hJ.bel.output,hJ.bel.size,fun b hb _=>hJ.bel.block b hb⟩));clear hJ hb2 HSE HSJ hbd s0a s1a i0a lx HQA HWR HLOW;dsimp only;go_upto_region 8 with(fail)
   go_cut [52] from 41 to 52 (fun v52 wx=>v52 = .bool false∧Row wx bq 4 [.bool true]∧Wrote (fun x=>x=bq) w1 wx)
   case first =>
    by_cases hd:0≤d
    ·have t0:decide (0≤d)=true:=decide_eq_true hd;clear hd;go_wp2_with fail
     refine(aaU w2 bq true 1 (j:Int) (i:Int) d HQ2.out).mono ?_;rintro e w3 ⟨rfl,hq3,hw3⟩;have HQ3:=Ag (show Row w3 bq 4 [.bool true] from hq3);have HW3:=Ag (HW2.out.trans hw3);clear hq3 hw3 HQ2 HW2;dsimp only;go_wp2_with fail
     go_meet
     exact⟨rfl,HQ3.out,HW3.out⟩
    ·have t0:decide (0≤d)=false:=decide_eq_false hd;clear hd;go_wp2_with fail
     go_meet
     exact⟨rfl,HQ2.out,HW2.out⟩
   case rest =>
    obtain⟨rfl,hqc,hwc⟩:=hcut;have s0c:=(hwc.cell w.heap.size 0 byOmega byOmega).trans HS0.out;have s1c:=(hwc.cell w.heap.size 1 byOmega byOmega).trans HS1.out;have i0c:=(hwc.cell (w.heap.size+1) 0 byOmega byOmega).trans HI0.out;have HWC:=Ag (HWW.out.below (Wrote.below (Below.refl N0 w1) hwc (fun b hb=>by omega) byOmega));have HUC:=Ag (AB.on HU1.out (hwc.same (fun b hb=>by omega)));have HQC:=Ag hqc;have HWRC:=Ag hwc;have hzc:=hwc.size;clear HQ2 HW2 d0 i02 s12 hqc hwc;go_wp2_with fail
    refine(aex wc N0 p g b o c _ ci bp j inf.aC HWC.out HGD.out HSM.out hj).mono ?_;rintro e w4 ⟨u2,rfl,hb4,hu2⟩;have HU2:=Ag (AB.keep (G:=fun b=>w.heap.size < b) hu2 (fun b hb _=>by omega) (Same.refl _ _));obtain⟨A2,c2,rfl⟩:=hu2.open;have HB4:=Ag hb4;clear hu2 hb4;dsimp only;go_wp2_with fail
    refine(af0 w4 (fun b=>w.heap.size < b) _ _ (lJ g inf.aC j) (lJ g inf.aC j0) HU2.out (AB.on HUC.out (Below.same' HB4.out _)) (by have:=aia HGD.out HSM.out inf.aC hj; omega)).mono ?_;rintro e w5 ⟨_,rfl,hb5,rfl⟩;have hb:=HB4.out.trans (hb5.mono HB4.out.size);have HQ5:=Ag (HQC.out.below hb HQC.out.lt);have HW5:=Ag (HWRC.out.trans (show Wrote (fun x=>x=bq) wc w5 from⟨hb.os,hb.tape,hb.output,hb.size,fun b' hb' _=>hb.block b' hb'⟩));clear hb hb5 HB4 HU2 HUC HWRC HQC s0c s1c i0c;dsimp only;by_cases ahE:lJ g inf.aC j=lJ g inf.aC j0
    ·rw[decide_eq_true ahE];have HWE:=Ag ahE;clear ahE;go_wp2_with fail
     go_roundw
     case rel =>
      refine⟨k+1,byOmega,by go_num,fun y hy=>?_,HQ5.out,HW5.out⟩;rw[take_snoc HX.out] at hy;rcases List.mem_append.1 hy with hy | hy
      ·exact HALL.out y hy
      ·rw[List.mem_singleton.1 hy,Int.toNat_natCast];exact HWE.out
     case measure=>simp[intOf]; omega
    ·have hwf:=ac0 (List.mem_of_getElem? HX.out) (show lJ g inf.aC ((j:Int)).toNat≠lJ g inf.aC (l.getD 0 0).toNat by rw[HX0.out,Int.toNat_natCast,Int.toNat_natCast]; exact ahE);have HWF:=Ag hwf;rw[decide_eq_false ahE];have s1e:=(HW5.out.cell w.heap.size 1 byOmega byOmega).trans HS1.out;have i0e:=(HW5.out.cell (w.heap.size+1) 0 byOmega byOmega).trans HI0.out;have l0e:=(HW5.out.cell bl ol byOmega byOmega).trans (show w1.cell? ⟨bl,ol,none⟩=some (.int .i64 (j0:Int)) by
      have h1:=HLC1.out 0 (j0:Int) (by obtain⟨y,hy⟩:=getSome hlp; have h2:=HX0.out; rw[List.getD_eq_getElem?_getD,hy] at h2; rw[hy]; exact congrArg some h2);rwa [Nat.add_zero] at h1)
     clear ahE hwf;go_wp2_with fail
     refine wp_region_held_drew (S:=fun w'=>w'.cell? ⟨w.heap.size,1,none⟩=some (.func (.func 148) #[] #[.pointer (some ⟨bq,0,none⟩)])∧w'.cell? ⟨w.heap.size+1,0,none⟩=some (.int .i64 (i:Int))∧w'.cell? ⟨bl,ol,none⟩=some (.int .i64 (j0:Int))) ah ⟨s1e,i0e,l0e⟩ (fun hHeld=>?_);obtain⟨w6,hw6⟩:=named w5.drew;have HQ6:=Ag (show Row w6 bq 4 [.bool true] by rw[hw6]; exact HQ5.out.drew);have HW6:=Ag (show Wrote (fun x=>x=bq) w1 w6 by rw[hw6]; exact HW5.out.drew);rw[← hw6] at hHeld ⊢;obtain⟨s1f,i0f,l0f⟩:=id hHeld;clear hw6 HQ5 HW5 s1e i0e l0e;refine tkm [0,1,2,3,4,5,6,7] ?_;refine tk2 8 ah rfl fun K hK=>?_
     go_simp;refine(aaU w6 bq true 2 (j:Int) (i:Int) (j0:Int) HQ6.out).mono ?_;rintro e w7 ⟨rfl,hq7,hw7⟩;have hz6:=HW6.out.size;have HQ7:=Ag (show Row w7 bq 4 [.bool false] from hq7);have HW7:=Ag (HW6.out.trans hw7);dsimp only;clear hHeld;refine hK.out _ _ ⟨(hw7.cell w.heap.size 1 byOmega byOmega).trans s1f,(hw7.cell (w.heap.size+1) 0 byOmega byOmega).trans i0f,(hw7.cell bl ol byOmega byOmega).trans l0f⟩ (fun hHeld=>?_);clear hK K;refine Zb ?_;clear s1f i0f l0f hq7 hw7 HQ6 HW6;refine tkm [9] ?_;refine Yp ?_;clear hHeld;go_wp2
     go_ret;exact⟨by rw[HWF.out]; rfl,by rw[HWF.out]; exact HQ7.out,(show Wrote (fun x=>x=bq) w w1 from⟨HB.out.os,HB.out.tape,HB.out.output,HB.out.size,fun b' hb' _=>HB.out.block b' hb'⟩).trans HW7.out⟩
  ·have hwt:=aez (g:=g) (pl:=inf.aC) (l:=l) (fun x hx=>by rw[HX0.out,Int.toNat_natCast]; exact HALL.out x (by rw[List.take_of_length_le byOmega]; exact hx));have HWT:=Ag hwt;clear hwt s0 s1 i0 s0a s1a i0a;go_wp2
   go_ret;exact⟨by rw[HWT.out]; rfl,by rw[HWT.out]; exact HQA.out,(show Wrote (fun x=>x=bq) w w1 from⟨HB.out.os,HB.out.tape,HB.out.output,HB.out.size,fun b' hb' _=>HB.out.block b' hb'⟩).trans HWR.out⟩
theorem Bd.at {w:World} {F:Foot} {v:Value} {m:List (List Int)} (h:Bd w F v m) {k:Nat} {l:List Int} (hk:m[k]? = some l):∃ b o c u,v = .slice (some ⟨b,o,none⟩) m.length c∧F b∧b < w.heap.size∧w.cell? ⟨b,o+k,none⟩=some u∧AA w F u l:=by
 exact zas
theorem alr {w w1:World} {F:Foot} {g:Gm} {v:Value} (hf:bP g=0) (hg:Bl w F v g.nodes) (hN:∃ A c,v = .slice A g.nodes.length c) {vi:Value} (hi:Bh w F vi g.infos) (hb:Below w.heap.size w w1) {p bp bd bl:Nat} {A:Option Addr} {c:Nat} {Ai:Option Addr} {ci:Nat}
  (hv:v = .slice A g.nodes.length c) (hvi:vi = .slice Ai g.infos.length ci) (hw:Bv w1 p bp bd bl g.aA A g.nodes.length c Ai g.infos.length ci (walkT g).2):∃ b o,A=some ⟨b,o,none⟩∧CV w1 w1.heap.size p g b o c Ai ci bp:=by
 have hgd:=kX hf;subst hv;subst hvi;obtain⟨A',c',e,_,hx⟩:=hg;injection e with e1 e2 e3
 subst e1;obtain⟨b,o,rfl,hF,hbl,hc⟩:=hx hgd.pos;have hz:=hb.size;refine⟨b,o,rfl,⟨hw.head.lt,byOmega,hw.rp.lt,Nat.le_refl _,hw.head.cell (i:=0) rfl,hw.head.cell (i:=1) rfl,hw.head.cell (i:=2) rfl,hw.head.cell (i:=3) rfl,fun k n hn=>(hc k n hn).keep (fun b _ hl=>by omega) (Below.same' hb F) hF hbl,fun k x hx=>?_,hi.keep (fun b _ hl=>by omega) (Below.same' hb F)⟩⟩;rw[← uM hf] at hx;exact hw.rp.cell (by unfold kL; rw[List.getElem?_map,hx]; rfl)
theorem ac1 (w:World) (F:Foot) (u:Value) (g:Gm) (pl:Int) (hg:AO w F u g) (hsm:Small g) (hf:bP g=0) (hp0:0≤pl) (hp1:pl < g.aA) :
  Calls Tryz.prog 114 #[u,.int .i64 pl] w (Ret w fun v _=>v = .tuple #[.bool (wX g pl),.int .i64 0]):=by
 refine ZV ?_;intro hmf;have HG:=Ag hg;have HSM:=Ag hsm;have HF:=Ag hf;have hni:=hsm.infos;have hgd:=kX hf;have HGD:=Ag hgd;have hwr:IntKind.i64.wrap (g.aA - 1)=g.aA - 1:=IntWalk.i64_in _ (by have:=(nT hf).2; have:=(nT hf).1; omega);obtain⟨vn,vi,rfl,hN,hI⟩:=hg;have HN:=Ag hN;have HI:=Ag hI;obtain⟨A,c,rfl,hc,_⟩:=hN;obtain⟨Ai,ci,rfl,hci,_⟩:=hI;clear hsm hf hgd;go_in;go_wp2_with fail
 refine Z8 ?_;intro W hW rx hB hz;clear hW hz;replace HG:=Ag (HG.out.on (Below.same' hB F));replace HN:=Ag (HN.out.on (Below.same' hB F));replace HI:=Ag (HI.out.on (Below.same' hB F));refine Zi ?_;intro x0 x1 x2;go_wp2_with fail
 clear x0 x1 x2;refine(vF W F _ g HG.out HSM.out).mono ?_;rintro e w1 ⟨_,rfl,hb,vp,rfl,hok⟩;have he:oN g=0:=by rw[qU];exact HF.out
 obtain⟨p,bp,bd,bl,A',c',Ai',ci',rfl,e,hwk,h1,h2,h3,h4⟩:=hok he;injection e with e
 obtain⟨e1,e2⟩:Value.slice A g.nodes.length c = .slice A' g.nodes.length c'∧Value.slice Ai g.infos.length ci = .slice Ai' g.infos.length ci':=by simpa using e
 injection e1 with e11 _ e13
 injection e2 with e21 _ e23
 subst e11;subst e13;subst e21;subst e23;obtain⟨b,o,rfl,hWK⟩:=alr HF.out HN.out ⟨_,_,rfl⟩ HI.out hb rfl rfl hwk;rw[he];refine zaA ?_;clear rx hB;intro rx hB;have HWK:=Ag hWK;obtain⟨N0,hN0⟩:=named w1.heap.size;rw[← hN0] at HWK;have hN1:N0≤w1.heap.size:=byOmega;have hN2:w1.heap.size≤N0:=byOmega;have hxl:=rx.lt;have x0:=rx.cell (i:=0) rfl;clear hb hok e hwk h1 h2 h3 h4 hWK he hN0;dsimp only;go_wp2_with fail
 obtain⟨W2,hW2,ry,hb2,_⟩:=aO w1 3 #[.int .i64 pl];rw[← hW2];have hwi:iE 0 (g.aA - 1) [pl]=0:=by
  unfold iE outside;rw[if_neg];simp;omega
 refine(oG W2 (fun _=>True) _ 0 (g.aA - 1) [pl] (Row.ints (l:=[pl]) ry trivial (Nat.le_refl _)) aB).mono ?_;rintro e w3 ⟨_,rfl,hb3,rfl⟩;rw[hwi];have hb:=hb2.trans (hb3.mono hb2.size);refine zaA ?_;clear rx hB;intro rx hB;replace HWK:=Ag (HWK.out.below (hb.mono hN1));have hz3:=hb.size;have hxl3:=rx.lt;clear hb hb2 hb3 ry hW2 hwi x0;dsimp only;go_wp2_with fail
 obtain⟨W4,hW4,rq,rs,hb4,hz4⟩:=alloc2 w3 4 #[.bool true] 205 #[.pointer (some ⟨p,0,none⟩),.func (.func 148) #[] #[.pointer (some ⟨w3.heap.size,0,none⟩)]];rw[← hW4];obtain⟨bq,hbq⟩:=named w3.heap.size;obtain⟨bk,hbk⟩:=named (w3.heap.size+1);rw[← hbk,← hbq] at rs;rw[← hbq] at rq;rw[← hbk,← hbq];have hqk:bq < bk:=byOmega;have hqN:N0≤bq:=byOmega;have hxq:w.heap.size < bq:=byOmega;have hkW:bk < W4.heap.size:=byOmega;replace rx:=rx.below hb4 rx.lt;replace hB:=hB.trans (hb4.mono hB.size);replace HWK:=Ag (HWK.out.below (hb4.mono byOmega));clear hW4 hb4 hz4 hbq hbk;refine(aey W4 N0 p g b o c Ai ci bp HWK.out HSM.out HGD.out.infos).mono ?_;rintro e w5 ⟨vs,rfl,hb,hvs⟩;replace rx:=rx.below hb rx.lt;replace rq:=rq.below hb rq.lt;replace rs:=rs.below hb rs.lt;replace hB:=hB.trans (hb.mono hB.size);replace HWK:=Ag (HWK.out.below (hb.mono byOmega));have hz5:=hb.size;have HVS:=Ag (Bd.keep (G:=fun b=>bk < b) hvs (fun b hb _=>by omega) (Same.refl _ _));obtain⟨As,cs,rfl,hcs,_⟩:=hvs;have hsl:(fJ g).length=g.infos.length:=fU _ _ _;rw[hsl] at hcs;rw[hsl];have HRQ:=Ag rq;have HRS:=Ag rs;have HSL:=Ag hsl;clear hb rx rq hsl hcs;dsimp only;go_wp2_with fail
 go_loopw [36] (fun iv wr=>∃ k:Nat,k≤g.infos.length∧iv = .int .i64 (k:Int)∧mD g pl k=true∧Row wr bq 4 [.bool true]∧Wrote (fun x=>x=bq) w5 wr) (fun iv _=>g.infos.length - (intOf iv).toNat)
 case atStart=>exact⟨0,Nat.zero_le _,rfl,rfl,HRQ.out,Wrote.refl _ _⟩
 case round =>
  obtain⟨k,hk,rfl,hpt,hqa,hwr⟩:=hrel;obtain⟨wa,rfl⟩:=named wr;have HPT:=Ag hpt;have HQA:=Ag hqa;have HWR:=Ag hwr;have HBA:=Ag (Wrote.below hB hwr (fun b hb=>by omega) hB.size);have q0:=hqa.cell (i:=0) rfl;clear hpt hqa hwr HRQ;by_cases hlt:k < g.infos.length
  ·obtain⟨inf,gU⟩:=getSome hlt;have HWA:=Ag (HWK.out.below (Wrote.below (Below.refl N0 w5) HWR.out (fun b hb=>by omega) byOmega));obtain⟨bI,oI,rfl,hbI,hbI2,p0,_⟩:=HWA.out.infoAt gU;have c2:=HWA.out.c2;obtain⟨l,hl⟩:=getSome (l:=fJ g) (k:=k) (by rw[HSL.out]; exact hlt);obtain⟨bs,os,cs',uv,e,hFs,hbs,hcell,hints⟩:=HVS.out.at hl;injection e with e1 e2 e3
   subst e1;clear e2 e3;have s0:=(HWR.out.cell bs (os+k) hbs byOmega).trans hcell;have k0:=(HWR.out.cell bk 0 byOmega byOmega).trans (rs.cell (i:=0) rfl);have k1:=(HWR.out.cell bk 1 byOmega byOmega).trans (rs.cell (i:=1) rfl);have HINT:=Ag (hints.on (HWR.out.same (F:=fun b=>bk < b) (fun b hb=>by omega)));have hld:(fJ g).getD k []=l:=by rw[List.getD_eq_getElem?_getD,hl];rfl
   obtain⟨_,_,hsn⟩:=oz HF.out hlt;obtain⟨_,_,_,_,_,hne,_⟩:=kF HF.out hlt;rw[hld] at hsn hne;have HLN:=Ag (show l.length≤1000 by have h1:=(agw HGD.out hl).1; have h2:=HSM.out.nodes; omega);have HSN:=Ag hsn;have HNE:=Ag hne;have Dc:=Ag gU;have HLD:=Ag hld;obtain⟨Al,cl,rfl,_,_⟩:=hints;clear hcell hl hld hsn hne gU;by_cases hpl:inf.aC=pl
   ·have t0:(inf.aC==pl)=true:=by simp[hpl]
    have HPL:=Ag hpl;clear hpl;go_wp2_with fail
    refine(aja wa N0 p g b o c _ ci bp bq k inf pl (fun b=>bk < b) _ l HWA.out HGD.out HSM.out Dc.out HPL.out HQA.out hqN byOmega HINT.out HNE.out (fun x hx=>by obtain⟨j,n,rfl,hn,_⟩:=HSN.out x hx; exact⟨j,rfl,lt_of_get hn⟩) HLN.out).mono ?_;rintro e w6 ⟨rfl,hq6,hw6⟩;have hpn:mD g pl (k+1)=nH g pl l:=by
     rw[mD,HPT.out,Bool.true_and,List.getD_eq_getElem?_getD,Dc.out,HLD.out];simp[HPL.out]
    have HW6:=Ag (HWR.out.trans hw6);clear c2 p0 s0 k0 k1 q0 hw6;dsimp only;generalize nH g pl l=wo at *;cases wo
    ·have Dz:=Ag (show wX g pl=false from wY hpn _ byOmega);have HB6:=Ag (Wrote.below hB HW6.out (fun b hb=>by omega) hB.size);have q6:=hq6.cell (i:=0) rfl;clear hpn;go_wp2_with fail
     go_ret2;exact⟨_,rfl,HB6.out,by rw[Dz.out]; rfl⟩
    ·have HPN:=Ag hpn;have HQ6:=Ag hq6;clear hpn;go_wp2_with fail
     go_roundw
     case rel=>exact⟨k+1,byOmega,by go_num,HPN.out,HQ6.out,HW6.out⟩
     case measure=>simp[intOf]; omega
   ·have t0:(inf.aC==pl)=false:=by simpa using hpl
    have hpn:mD g pl (k+1)=true:=by
     rw[mD,HPT.out,Bool.true_and,List.getD_eq_getElem?_getD,Dc.out];simp[hpl]
    have HPN:=Ag hpn;clear hpl hpn;go_wp2_with fail
    go_roundw
    case rel=>exact⟨k+1,byOmega,by go_num,HPN.out,HQA.out,HWR.out⟩
    case measure=>simp[intOf]; omega
  ·have hfin:wX g pl=true:=by unfold wX;rw[← HPT.out];congr 1;omega
   have Dz:=Ag hfin;clear hfin;go_wp2
   go_ret2;exact⟨_,rfl,HBA.out,by rw[Dz.out]; rfl⟩
theorem ac2 (w:World) (p bp N:Nat) (h:w.cell? ⟨p,3,none⟩=some (.slice (some ⟨bp,0,none⟩) N N)) :
  Calls Tryz.prog 152 #[.pointer (some ⟨p,0,none⟩)] w fun e w'=>e = .returned (.slice (some ⟨bp,0,none⟩) N N)∧w'=w:=by
 exact zat
theorem ahF (w:World) (F:Foot) (u:Value) (g:Gm) (hg:AO w F u g) (hsm:Small g) (hf:bP g=0) :
  Calls Tryz.prog 151 #[u,.func (.func 152) #[] #[]] w (Ret w fun v w'=>∃ vp,v = .tuple #[vp,.int .i64 0]∧AA w' (fun b=>w.heap.size≤b) vp (eU g.nodes)):=by
 have hc1:=fun args w=>enters Tryz.func152 (by decide +kernel) (by decide +kernel) args w
 have HG:=Ag hg;have HSM:=Ag hsm;have HF:=Ag hf;obtain⟨vn,vi,rfl,⟨A,c,rfl,hc,_⟩,⟨Ai,ci,rfl,hci,_⟩⟩:=hg;clear hsm hf;go_in;go_wp2_with fail
 refine(vF _ F _ g (HG.out.on (Same.alloc _ _ _)) HSM.out).mono ?_;rintro e w1 ⟨_,rfl,hb,vp,rfl,hok⟩;have he:oN g=0:=by rw[qU];exact HF.out
 have hB:Below w.heap.size w w1:=((Below.refl w.heap.size w).alloc (Nat.le_refl _) _).trans (hb.mono aB);obtain⟨p,bp,bd,bl,A',c',Ai',ci',rfl,_,hwk,h1,h2,h3,h4⟩:=hok he;rw[he];have p3:=hwk.head.cell (i:=3) rfl;have hlen:=jg g.nodes;have hfin:AA w1 (fun b=>w.heap.size≤b) (.slice (some ⟨bp,0,none⟩) g.nodes.length g.nodes.length) (eU g.nodes):=by
  have h5:=hwk.rp;rw[uM HF.out] at h5;have h6:=Row.ints (F:=fun b=>w.heap.size≤b) h5 (by simp at h2; omega) (c:=g.nodes.length) byOmega;rwa [hlen] at h6
 have Dz:=Ag hfin;clear hok hwk hb h1 h2 h3 h4 he hlen hfin;dsimp only;go_wp2_with fail
 refine(ac2 w1 p bp _ p3).mono ?_;rintro e w2 ⟨rfl,rfl⟩;dsimp only;go_wp2
 go_ret2;exact⟨_,rfl,hB,_,rfl,Dz.out⟩
theorem ac3 (w:World) (F:Foot) (u:Value) (g:Gm) (hg:AO w F u g) (hsm:Small g) (hf:bP g=0) :
  Calls Tryz.prog 115 #[u] w (Ret w fun v w'=>∃ vp,v = .tuple #[vp,.int .i64 0]∧AA w' (fun b=>w.heap.size≤b) vp (eU g.nodes)):=by
 have HG:=Ag hg;have HSM:=Ag hsm;have HF:=Ag hf;obtain⟨vn,vi,rfl,⟨A,c,rfl,hc,_⟩,⟨Ai,ci,rfl,hci,_⟩⟩:=hg;clear hsm hf;go_in;go_wp2_with fail
 refine(ahF _ F _ g (HG.out.on (Same.alloc _ _ _)) HSM.out HF.out).mono ?_;rintro e w1 ⟨_,rfl,hb,vp,rfl,hvp⟩;have hB:Below w.heap.size w w1:=((Below.refl w.heap.size w).alloc (Nat.le_refl _) _).trans (hb.mono aB);have HVP:=Ag (AA.keep (G:=fun b=>w.heap.size≤b) hvp (fun b hb' _=>by simp at hb'; omega) (Same.refl _ _));obtain⟨Ap,cp,rfl,_,_⟩:=hvp;clear hb;dsimp only;go_wp2
 go_ret2;exact⟨_,rfl,hB,_,rfl,HVP.out⟩
theorem Tryz.infoSeq4:(Tryz.prog.info? 164).map (fun i=>(i.zero,i.size,i.bytes))=some (some (.agg #[.int .i64 0,.int .i64 0,.int .i64 0,.int .i64 0,.int .i64 0,.int .i64 0,.int .i64 0,.int .i64 0]),8,64):=ah
theorem Tryz.infoSeq:(Tryz.prog.info? 60).map (fun i=>(i.zero,i.size,i.bytes))=some (some (.agg #[.int .i64 0,.int .i64 0]),2,16):=ah
theorem af2 {w:World} {b:Nat} {t:TypeId} {cs:List Value} (h:Row w b t cs) (d:Nat) (x y z v:Int×Int):∃ W,W=((((((((w.setCell ⟨b,d*8,none⟩ (.int .i64 x.1)).setCell ⟨b,d*8+1,none⟩ (.int .i64 x.2)).setCell ⟨b,d*8+2,none⟩ (.int .i64 y.1)).setCell ⟨b,d*8+3,none⟩ (.int .i64 y.2)).setCell ⟨b,d*8+4,none⟩ (.int .i64 z.1)).setCell ⟨b,d*8+5,none⟩ (.int .i64 z.2)).setCell ⟨b,d*8+6,none⟩ (.int .i64 v.1)).setCell ⟨b,d*8+7,none⟩ (.int .i64 v.2)) ∧
  Row W b t (set8 cs d x y z v)∧Wrote (fun k=>k=b) w W:=by
 refine⟨_,rfl,?_,?_⟩
 ·exact(((((((h.set _ _).set _ _).set _ _).set _ _).set _ _).set _ _).set _ _).set _ _
 ·have h0:Wrote (fun k=>k=b) w w:=Wrote.refl _ _;exact(((((((h0.setCell (p:=⟨b,d*8,none⟩) (.inl rfl) _).setCell (p:=⟨b,d*8+1,none⟩) (.inl rfl) _).setCell (p:=⟨b,d*8+2,none⟩) (.inl rfl) _).setCell (p:=⟨b,d*8+3,none⟩) (.inl rfl) _).setCell (p:=⟨b,d*8+4,none⟩) (.inl rfl) _).setCell (p:=⟨b,d*8+5,none⟩) (.inl rfl) _).setCell (p:=⟨b,d*8+6,none⟩) (.inl rfl) _).setCell (p:=⟨b,d*8+7,none⟩) (.inl rfl) _
theorem nI (w:World) (F:Foot) (u:Value) (g:Gm) (hg:AO w F u g) (hsm:Small g) (hf:bP g=0) :
  Calls Tryz.prog 63 #[u] w (Ret w fun v w'=>∃ vp,v = .tuple #[vp,.int .i64 (o8 g)]∧AB w' (fun b=>w.heap.size≤b) vp (oQ g)):=by
 have HG:=Ag hg;have HSM:=Ag hsm;have HF:=Ag hf;have hni:=hsm.infos;have hn100:=hsm.nodes;have hgd:=kX hf;have HGD:=Ag hgd;have hpos:=hgd.pos;obtain⟨hp1,hp4⟩:=nT hf;obtain⟨P,hP⟩:∃ P:Nat,g.aA=(P:Int):=⟨g.aA.toNat,byOmega⟩;have HP:=Ag hP;have hPP:P≤4:=byOmega;have HPT:=Ag (show g.aA.toNat=P by omega);obtain⟨vn,vi,rfl,hN,hI⟩:=hg;have HN:=Ag hN;obtain⟨A,c,rfl,hc,hN2⟩:=hN;obtain⟨Ai,ci,rfl,hci,_⟩:=hI;obtain⟨b,o,rfl,hFb,hbl0,hcell⟩:=hN2 hpos;have HC:=Ag hcell;clear hsm hf hgd hp1 hp4 hcell hN2 hP;go_in;go_wp2_with fail
 obtain⟨W,hW,rx,hB,hz⟩:=aO w 27 #[.int .i64 g.aA,.slice (some ⟨b,o,none⟩) g.nodes.length c,.slice Ai g.infos.length ci];rw[← hW];have HX:=Ag rx;have HB:=Ag hB;have x0:=rx.cell (i:=0) rfl;clear hW hz rx hB;go_wp2_with fail
 go_loopw [20] (fun iv wr=>∃ k:Nat,k≤P∧iv = .int .i64 (k:Int)∧mM g k=true∧Row wr w.heap.size 27 [.int .i64 g.aA,.slice (some ⟨b,o,none⟩) g.nodes.length c,.slice Ai g.infos.length ci]∧Below w.heap.size w wr) (fun iv _=>P - (intOf iv).toNat)
 case atStart=>exact⟨0,Nat.zero_le _,rfl,rfl,HX.out,HB.out⟩
 case round =>
  clear HX HB x0;obtain⟨k,hk,rfl,hpa,rx,hB⟩:=hrel;obtain⟨wa,rfl⟩:=named wr;have HPA:=Ag hpa;refine Zi ?_;intro x0 x1 x2;clear hpa;by_cases hlt:k < P
  ·have t0:decide ((k:Int) < g.aA)=true:=decide_eq_true (by rw[HP.out]; omega);go_wp2_with fail
   clear t0 x0 x1 x2;refine(ac1 wa F _ g (k:Int) (HG.out.on (Below.same' hB F)) HSM.out HF.out byOmega (by rw[HP.out]; omega)).mono ?_;rintro e w1 ⟨_,rfl,hb,rfl⟩;have hs:=xg g k;rw[HPA.out,Bool.true_and] at hs;refine zaA ?_;clear rx hB;intro rx hB;have HRX:=Ag rx;clear hb rx;dsimp only;generalize wX g (k:Int)=pf at *;cases pf
   ·have hpf:=abo hs (show k+1≤P by omega);have HE:=Ag (show o8 g=13 by unfold o8; rw[HPT.out,hpf]; rfl);have HO:=Ag (show oQ g = [] by unfold oQ; rw[HPT.out,hpf]; rfl);clear hs hpf;go_wp2_with fail
    go_ret2;exact⟨_,rfl,hB,_,by rw[HE.out]; rfl,by rw[HO.out]; exact AB.nil _ _⟩
   ·have HS:=Ag hs;clear hs;go_wp2_with fail
    go_roundw
    case rel=>exact⟨k+1,byOmega,by go_num,HS.out,HRX.out,hB⟩
    case measure=>simp[intOf]; omega
  ·have t0:decide ((k:Int) < g.aA)=false:=decide_eq_false (by rw[HP.out]; omega);have hpf:mM g P=true:=by rw[← HPA.out];congr 1;omega
   have HE:=Ag (show o8 g=0 by unfold o8; rw[HPT.out,hpf]; rfl);have HO:=Ag (show oQ g=aK g by unfold oQ; rw[HPT.out,hpf]; rfl);clear hpf hlt;go_wp2_with fail
   clear t0 x0 x1 x2;refine(ac3 wa F _ g (HG.out.on (Below.same' hB F)) HSM.out HF.out).mono ?_;rintro e w1 ⟨_,rfl,hb,vp,rfl,hvp⟩;refine zaA ?_;clear rx hB;intro rx hB;obtain⟨Ap,cp,rfl,_,_⟩:=hvp;refine Zi ?_;intro x0 x1 x2;have hpl:(eU g.nodes).length=g.nodes.length:=jg _;rw[hpl];have x1':=x1;clear hb hpl;dsimp only;go_wp2_with (at_make; refine abM _ rfl _ _ 163 rfl 164 _ 8 64 Tryz.underlying163 Tryz.infoSeq4 rfl byOmega g.nodes.length rfl rfl byOmega ?_; intro w2 hb2 hz2 hm2)
   obtain⟨bl,hbl⟩:=named w1.heap.size;have hrx2:=rx.below hb2 rx.lt;have HB2:=Ag (hB.trans (hb2.mono hB.size));have hxl:=rx.lt;rw[← hbl] at hm2 ⊢;have hlw:w.heap.size < bl:=byOmega;have HRX:=Ag hrx2;have HM2:=Ag hm2;have hbl2:=hm2.lt;clear x0 x1 x2 x1' rx hB hb2 hz2 hm2 hbl hrx2 hxl;go_loopw [47] (fun iv wr=>∃ (k:Nat) (cs:List Value) (T:Nat→Nat→Int×Int),k≤4∧iv = .int .i64 (k:Int)∧CU cs g.nodes.length T∧(∀ p,p < k→T 0 p=(-1,-1))∧Row wr bl 164 cs∧Wrote (fun x=>x=bl) w2 wr) (fun iv _=>4 - (intOf iv).toNat)
   case atStart=>exact⟨0,_,_,byOmega,rfl,CU.zero _,fun p hp=>by omega,HM2.out,Wrote.refl _ _⟩
   case round =>
    clear HM2;obtain⟨k,cs,T,hk,rfl,htab,hT,hrow,hwr⟩:=hrel;obtain⟨wb,rfl⟩:=named wr;have HTAB:=Ag htab;have HT:=Ag hT;have AZ:=Ag hrow;have HWR:=Ag hwr;by_cases hlt:k < 4
    ·have hk4:(k:Int) < 4:=byOmega;obtain⟨h1,h2⟩:=htab.2 0 k hpos hlt;rw[Nat.zero_mul,Nat.zero_add] at h1 h2;have y0:=hrow.cell h1;have y1:=hrow.cell h2;have f0:=hrow.frozen (k*2);have f1:=hrow.frozen (k*2+1);clear htab hT hrow hwr h1 h2;go_wp2_with fail
     go_roundw
     case rel =>
      have h5:=HTAB.out.put hpos hlt (-1,-1);rw[Nat.zero_mul,Nat.zero_add] at h5;refine⟨k+1,_,_,byOmega,by go_num,h5,fun p hp=>?_,(AZ.out.set (k*2) _).set (k*2+1) _,(HWR.out.setCell (p:=⟨bl,k*2,none⟩) (.inl rfl) _).setCell (p:=⟨bl,k*2+1,none⟩) (.inl rfl) _⟩;unfold aaS;by_cases e:p=k
      ·rw[if_pos ⟨rfl,e⟩]
      ·rw[if_neg (fun h=>e h.2)];exact HT.out p byOmega
     case measure=>simp[intOf]; omega
    ·have hk4:k=4:=byOmega;subst hk4;have HIN:=Ag (Ci.start HGD.out HT.out);have hcl:∀ b' o',b' < w2.heap.size→b'≠bl→wb.cell? ⟨b',o',none⟩=w2.cell? ⟨b',o',none⟩:=HWR.out.cell;have hxl:=HRX.out.lt;have x1:=(hcl w.heap.size 1 hxl byOmega).trans (HRX.out.cell (i:=1) rfl);clear htab hT hrow hwr hcl;go_wp2_with fail
     clear x1;go_loopw [59] (fun iv wr=>∃ (i:Nat) (cs:List Value) (T:Nat→Nat→Int×Int),i≤g.nodes.length∧iv = .int .i64 (i:Int)∧CU cs g.nodes.length T∧Ci g i 0 T∧Row wr bl 164 cs∧Wrote (fun x=>x=bl) w2 wr) (fun iv _=>g.nodes.length - (intOf iv).toNat)
     case atStart=>exact⟨0,cs,T,byOmega,rfl,HTAB.out,HIN.out,AZ.out,HWR.out⟩
     case round =>
      clear HTAB HIN AZ HWR HT;obtain⟨i,cs,T,hi,rfl,htab,hin,hrow,hwr⟩:=hrel;obtain⟨wd,rfl⟩:=named wr;have HTAB:=Ag htab;have HIN:=Ag hin;have AZ:=Ag hrow;have HWR:=Ag hwr;have hzd:=hwr.size;have HBD:=Ag (Wrote.below HB2.out hwr (fun b hb=>by omega) HB2.out.size);clear htab hin hrow hwr;by_cases hlt:i < g.nodes.length
      ·obtain⟨n,hn⟩:=getSome hlt;have hne:=HC.out i n hn;have n0:=hne.c0;have n1:=hne.c1;have n2:=hne.c2;obtain⟨v3,n3,h3⟩:=hne.c3;obtain⟨v4,n4,h4⟩:=hne.c4;obtain⟨v5,n5,h5⟩:=hne.c5;have H3:=Ag h3;obtain⟨A3,c3,rfl,_,_⟩:=h3;obtain⟨A4,c4,rfl,_,_⟩:=h4;obtain⟨A5,c5,rfl,_,_⟩:=h5;replace n0:=ak n0 HBD.out;replace n1:=ak n1 HBD.out;replace n2:=ak n2 HBD.out;replace n3:=ak n3 HBD.out;replace n4:=ak n4 HBD.out;replace n5:=ak n5 HBD.out;have HNN:=Ag hn;have hnx:=HSM.out.next n (List.mem_of_getElem? hn);clear hn hne;go_wp2_with fail
       obtain⟨W1,hW1,rn,hbn,hz1⟩:=aO wd 127 #[.int .i64 n.kind,.int .i64 n.aC,.int .i64 n.info,.slice A3 n.next.length c3,.slice A4 n.weights.length c4,.slice A5 n.pay.length c5];rw[← hW1];obtain⟨nb,hnb⟩:=named wd.heap.size;rw[← hnb] at rn ⊢;have ak6:bl < nb:=byOmega;have HRN:=Ag rn;have En:=Ag (AZ.out.below hbn AZ.out.lt);have HWR1:=Ag (HWR.out.trans (show Wrote (fun x=>x=bl) wd W1 from⟨hbn.os,hbn.tape,hbn.output,hbn.size,fun b' hb' _=>hbn.block b' hb'⟩));clear hW1 hz1 hnb rn hbn n0 n1 n2 n3 n4 n5;go_loopw [67] (fun iv wr=>∃ (j:Nat) (cs:List Value) (T:Nat→Nat→Int×Int),j≤n.next.length∧iv = .int .i64 (j:Int)∧CU cs g.nodes.length T∧Ci g i j T∧Row wr bl 164 cs∧Row wr nb 127 [.int .i64 n.kind,.int .i64 n.aC,.int .i64 n.info,.slice A3 n.next.length c3,.slice A4 n.weights.length c4,.slice A5 n.pay.length c5]∧Wrote (fun x=>x=bl) w2 wr) (fun iv _=>n.next.length - (intOf iv).toNat)
       case atStart=>exact⟨0,cs,T,byOmega,rfl,HTAB.out,HIN.out,En.out,HRN.out,HWR1.out⟩
       case round =>
        clear HTAB HIN AZ HWR En HWR1 HRN HBD hzd;obtain⟨j,cs,T,hj,rfl,htab,hin,hrow,rn,hwr⟩:=hrel;obtain⟨we,rfl⟩:=named wr;have HTAB:=Ag htab;have HIN:=Ag hin;have AZ:=Ag hrow;have HWR:=Ag hwr;have HRN:=Ag rn;have HBD:=Ag (Wrote.below HB2.out hwr (fun b hb=>by omega) HB2.out.size);by_cases hjt:j < n.next.length
        ·obtain⟨x,hx⟩:=getSome hjt;have hk:=HGD.out.span.kids i n (Nat.zero_le _) hlt HNN.out x (List.mem_of_getElem? hx);obtain⟨d,rfl⟩:∃ d:Nat,x=(d:Int):=⟨x.toNat,byOmega⟩;have hdN:d < g.nodes.length:=byOmega;have hdi:i < d:=byOmega;obtain⟨b3,o3,e3,_,hb3,ajb⟩:=abX H3.out byOmega;subst e3;have ec:=ak (ajb j _ hx) HBD.out;have HXD:=Ag hx;have y0:we.cell? ⟨bl,i*8,none⟩=some (.int .i64 (T i 0).1):=hrow.cell (htab.2 i 0 hlt ay).1;have f0:=hrow.frozen (d*8);have z0:we.cell? ⟨bl,d*8,none⟩=some (.int .i64 (T d 0).1):=hrow.cell (htab.2 d 0 hdN ay).1;have y1:we.cell? ⟨bl,i*8+1,none⟩=some (.int .i64 (T i 0).2):=hrow.cell (htab.2 i 0 hlt ay).2;have f1:=hrow.frozen (d*8+1);have z1:we.cell? ⟨bl,d*8+1,none⟩=some (.int .i64 (T d 0).2):=hrow.cell (htab.2 d 0 hdN ay).2;have y2:we.cell? ⟨bl,i*8+2,none⟩=some (.int .i64 (T i 1).1):=hrow.cell (htab.2 i 1 hlt ay).1;have f2:=hrow.frozen (d*8+2);have z2:we.cell? ⟨bl,d*8+2,none⟩=some (.int .i64 (T d 1).1):=hrow.cell (htab.2 d 1 hdN ay).1;have y3:we.cell? ⟨bl,i*8+3,none⟩=some (.int .i64 (T i 1).2):=hrow.cell (htab.2 i 1 hlt ay).2;have f3:=hrow.frozen (d*8+3);have z3:we.cell? ⟨bl,d*8+3,none⟩=some (.int .i64 (T d 1).2):=hrow.cell (htab.2 d 1 hdN ay).2;have y4:we.cell? ⟨bl,i*8+4,none⟩=some (.int .i64 (T i 2).1):=hrow.cell (htab.2 i 2 hlt ay).1;have f4:=hrow.frozen (d*8+4);have z4:we.cell? ⟨bl,d*8+4,none⟩=some (.int .i64 (T d 2).1):=hrow.cell (htab.2 d 2 hdN ay).1;have y5:we.cell? ⟨bl,i*8+5,none⟩=some (.int .i64 (T i 2).2):=hrow.cell (htab.2 i 2 hlt ay).2;have f5:=hrow.frozen (d*8+5);have z5:we.cell? ⟨bl,d*8+5,none⟩=some (.int .i64 (T d 2).2):=hrow.cell (htab.2 d 2 hdN ay).2;have y6:we.cell? ⟨bl,i*8+6,none⟩=some (.int .i64 (T i 3).1):=hrow.cell (htab.2 i 3 hlt ay).1;have f6:=hrow.frozen (d*8+6);have z6:we.cell? ⟨bl,d*8+6,none⟩=some (.int .i64 (T d 3).1):=hrow.cell (htab.2 d 3 hdN ay).1;have y7:we.cell? ⟨bl,i*8+7,none⟩=some (.int .i64 (T i 3).2):=hrow.cell (htab.2 i 3 hlt ay).2;have f7:=hrow.frozen (d*8+7);have z7:we.cell? ⟨bl,d*8+7,none⟩=some (.int .i64 (T d 3).2):=hrow.cell (htab.2 d 3 hdN ay).2;have n0:=rn.cell (i:=0) rfl;have n1:=rn.cell (i:=1) rfl;have n2:=rn.cell (i:=2) rfl;have n3:=rn.cell (i:=3) rfl;clear htab hin hrow hwr rn hk ajb hx;go_upto_region 26 with(fail)
         obtain⟨W5,hW5,hr5,hw5⟩:=af2 AZ.out d (T i 0) (T i 1) (T i 2) (T i 3);rw[← hW5];have hnlt:=HRN.out.lt;have m0:=(hw5.cell nb 0 hnlt byOmega).trans n0;have m1:=(hw5.cell nb 1 hnlt byOmega).trans n1;have m2:=(hw5.cell nb 2 hnlt byOmega).trans n2;have HT5:=Ag (HTAB.out.copy (s:=i) hdN);have HRN5:=Ag (HRN.out.wrote hw5 byOmega);have HW5:=Ag (HWR.out.trans hw5);have HR5:=Ag hr5;clear hW5 hr5 hw5 n0 n1 n2 n3 ec hnlt HWR HRN AZ HBD y0 y1 y2 y3 y4 y5 y6 y7 z0 z1 z2 z3 z4 z5 z6 z7 f0 f1 f2 f3 f4 f5 f6 f7;by_cases hk2:n.kind=2
         case neg =>
          have t1:(n.kind==2)=false:=by simpa using hk2
          have Ec:=Ag (HIN.out.kid HGD.out HNN.out HXD.out (T':=aeu T d i) (fun c p h=>if_neg h) (fun p hp=>by unfold aeu; rw[if_pos rfl,if_neg (fun h=>hk2 h.1)]));clear hk2;go_wp2_with fail
          go_roundw
          case rel=>exact⟨j+1,_,_,byOmega,by go_num,HT5.out,Ec.out,HR5.out,HRN5.out,HW5.out⟩
          case measure=>simp[intOf]; omega
         have t1:(n.kind==2)=true:=by simp[hk2]
         obtain⟨pp,hpp,ahG⟩:∃ pp:Nat,n.aC=(pp:Int)∧pp < 4:=by
          exact zbE
         have Ec:=Ag (HIN.out.kid HGD.out HNN.out HXD.out (T':=aaS (aeu T d i) d pp (n.info,(j:Int))) (fun c p h=>by unfold aaS; rw[if_neg (fun e=>h e.1)]; exact if_neg h) (fun p hp=>by
          unfold aaS;by_cases e:p=pp
          ·rw[if_pos ⟨rfl,e⟩,if_pos ⟨hk2,by rw[hpp,e]⟩]
          ·rw[if_neg (fun h=>e h.2),if_neg (fun h=>e (by have:=h.2; omega))]; exact if_pos rfl))
         have HPE:=Ag hpp;rw[hpp] at m1;have q0:=HR5.out.cell (HT5.out.2 d pp hdN ahG).1;have q1:=HR5.out.cell (HT5.out.2 d pp hdN ahG).2;have g0:=HR5.out.frozen (d*8+pp*2);have g1:=HR5.out.frozen (d*8+pp*2+1);have hpi:(pp:Int) < 4:=byOmega;clear hk2 hpp;go_wp2_with fail
         refine aX (fun w'=>w'.cell? ⟨nb,1,none⟩=some (.int .i64 (pp:Int))∧w'.cell? ⟨nb,2,none⟩=some (.int .i64 n.info)) 10 1 ah rfl ah ?_;have hHeld:(fun w':World=>w'.cell? ⟨nb,1,none⟩=some (.int .i64 (pp:Int))∧w'.cell? ⟨nb,2,none⟩=some (.int .i64 n.info)) W5.drew:=⟨m1,m2⟩;refine Zq ?_;refine tkm [0,1,2,3,4,5,6,7,8,9] ?_;refine Zw ?_;clear hHeld;go_wp2
         refine YM ?_;go_wp2
         go_roundw
         case rel =>
          (repeat apply Exists.intro)
          refine⟨⟨j+1,_,_,byOmega,by go_num,HT5.out.put hdN ahG (n.info,(j:Int)),Ec.out,(HR5.out.drew.set _ _).set _ _,(HRN5.out.drew.other (a:=⟨bl,d*8+pp*2,none⟩) (by show nb≠bl; omega) _).other (a:=⟨bl,d*8+pp*2+1,none⟩) (by show nb≠bl; omega) _,(HW5.out.drew.setCell (p:=⟨bl,d*8+pp*2,none⟩) (.inl rfl) _).setCell (p:=⟨bl,d*8+pp*2+1,none⟩) (.inl rfl) _⟩,rfl⟩
         case measure=>simp[intOf]; omega
        ·have hje:j=n.next.length:=byOmega;subst hje;have Ec:=Ag (HIN.out.next HNN.out);clear htab hin hrow rn hwr;go_wp2_with fail
         go_roundw
         case rel=>exact⟨i+1,cs,T,byOmega,by go_num,HTAB.out,Ec.out,AZ.out,HWR.out⟩
         case measure=>simp[intOf]; omega
      ·have hie:i=g.nodes.length:=byOmega;subst hie;have hxl:=HRX.out.lt;have x1:=(HWR.out.cell w.heap.size 1 hxl byOmega).trans (HRX.out.cell (i:=1) rfl);have x2:=(HWR.out.cell w.heap.size 2 hxl byOmega).trans (HRX.out.cell (i:=2) rfl);have hwN:IntKind.i64.wrap ((g.nodes.length:Int) - 1)=(g.nodes.length:Int) - 1:=IntWalk.i64_in _ byOmega;go_wp2_with (at_make; refine abM _ rfl _ _ 55 rfl 60 _ 2 16 Tryz.underlying55 Tryz.infoSeq rfl byOmega g.infos.length rfl rfl byOmega ?_; intro w5 hb5 hz5 hm5)
       obtain⟨b2,hb2⟩:=named wd.heap.size;rw[← hb2] at hm5 ⊢;have HM5:=Ag hm5;have EX:=Ag (AZ.out.below hb5 AZ.out.lt);have HX5:=Ag ((HRX.out.wrote HWR.out byOmega).below hb5 byOmega);have HB5:=Ag (HBD.out.trans (hb5.mono HBD.out.size));have hbb:bl < b2:=byOmega;have hb25:=hm5.lt;have hTd:=HIN.out;have HTD:=Ag (fun c p (hc:c < g.nodes.length) (hp:p < 4)=>hTd.done HGD.out hc hp);clear x1 x2 hm5 hb5 hz5 hb2 hTd hwN;go_loopw [16] (fun iv wr=>∃ (m:Nat) (z:Int) (O:List (Int×Int)),m≤g.nodes.length∧iv = .int .i64 z∧z=(m:Int) - 1∧BQ g m O∧Row wr b2 60 (lN O)∧Wrote (fun x=>x=b2) w5 wr) (fun iv _=>(intOf iv+1).toNat)
       case atStart =>
        refine⟨g.nodes.length,_,List.replicate g.infos.length (0,0),Nat.le_refl _,rfl,rfl,BQ.start g,?_,Wrote.refl _ _⟩;have e:lN (List.replicate g.infos.length (0,0))=List.replicate (g.infos.length*2) (.int .i64 0):=by
         have:∀ n,lN (List.replicate n (0,0))=List.replicate (n*2) (.int .i64 0):=by
          intro n;induction n with
          | zero=>rfl
          | succ n ih =>
           rw[List.replicate_succ];show _ :: _ :: lN (List.replicate n (0,0))=_;rw[ih,show(n+1)*2=n*2+1+1 by omega,List.replicate_succ,List.replicate_succ]
         exact this _
        rw[e];exact HM5.out
       case round =>
        clear HM5;obtain⟨m,z,O,hm,rfl,hz,hout,hrow,hwr⟩:=hrel;obtain⟨wg,rfl⟩:=named wr;have DT:=Ag hout;have HRO:=Ag hrow;have HW:=Ag hwr;clear hout hrow hwr;rcases Nat.eq_zero_or_pos m with h0 | h0
        ·subst h0;have t0:decide (0≤z)=false:=decide_eq_false byOmega;have HD:=Ag (DT.out.done HF.out);have HBG:=Ag (Wrote.below HB5.out HW.out (fun b hb=>by omega) HB5.out.size);have hln:=DT.out.1;clear hz;go_wp2
         go_ret2;refine⟨_,rfl,HBG.out,_,by rw[HE.out]; rfl,?_⟩;rw[HO.out,← HD.out];have h1:=Row.pairs (rest:=[]) (G:=fun b=>w.heap.size≤b) (by rw[List.append_nil]; exact HRO.out) (show w.heap.size≤b2 by omega) (c:=g.infos.length) byOmega;rw[hln] at h1;exact h1
        ·obtain⟨i,rfl⟩:∃ i,m=i+1:=⟨m - 1,byOmega⟩;obtain rfl:z=(i:Int):=byOmega;have t0:decide (0≤(i:Int))=true:=decide_eq_true byOmega;have hwi:IntKind.i64.wrap ((i:Int) - 1)=(i:Int) - 1:=IntWalk.i64_in _ byOmega;have HBG:=Ag (Wrote.below HB5.out HW.out (fun b hb=>by omega) HB5.out.size);obtain⟨n,hn⟩:=getSome (l:=g.nodes) (k:=i) byOmega;have hne:=HC.out i n hn;have n0:=hne.c0;have n1:=hne.c1;have n2:=hne.c2;obtain⟨v3,n3,h3⟩:=hne.c3;obtain⟨v4,n4,h4⟩:=hne.c4;obtain⟨v5,n5,h5⟩:=hne.c5;obtain⟨A3,c3,rfl,_,_⟩:=h3;obtain⟨A4,c4,rfl,_,_⟩:=h4;obtain⟨A5,c5,rfl,_,_⟩:=h5;replace n0:=ak n0 HBG.out;replace n1:=ak n1 HBG.out;replace n2:=ak n2 HBG.out;replace n3:=ak n3 HBG.out;replace n4:=ak n4 HBG.out;replace n5:=ak n5 HBG.out;have HXG:=Ag (HX5.out.wrote HW.out (by have:=HX5.out.lt; have:=HRX.out.lt; omega));have x1:=HXG.out.cell (i:=1) rfl;have HRG:=Ag (EX.out.wrote HW.out byOmega);have HNN:=Ag hn;have hiN:i < g.nodes.length:=byOmega;clear hn hne hz;go_upto_region 35 with(fail)
         obtain⟨W1,hW1,rn,hbn,hz1⟩:=aO wg 127 #[.int .i64 n.kind,.int .i64 n.aC,.int .i64 n.info,.slice A3 n.next.length c3,.slice A4 n.weights.length c4,.slice A5 n.pay.length c5];rw[← hW1];obtain⟨nb,hnb⟩:=named wg.heap.size;rw[← hnb] at rn ⊢;have DU:=Ag (HRO.out.below hbn HRO.out.lt);have HRG1:=Ag (HRG.out.below hbn HRG.out.lt);have HW1:=Ag (HW.out.trans (show Wrote (fun x=>x=b2) wg W1 from⟨hbn.os,hbn.tape,hbn.output,hbn.size,fun b' hb' _=>hbn.block b' hb'⟩));have m0:=rn.cell (i:=0) rfl;have m1:=rn.cell (i:=1) rfl;have m2:=rn.cell (i:=2) rfl;clear hW1 hz1 hnb rn hbn n0 n1 n2 n3 n4 n5 x1;by_cases hk2:n.kind=2
         case neg =>
          have t1:(n.kind==2)=false:=by simpa using hk2
          have HO2:=Ag (DT.out.skip HNN.out hk2);clear hk2;go_wp2_with fail
          go_roundw
          case rel=>exact⟨i,_,O,byOmega,rfl,rfl,HO2.out,DU.out,HW1.out⟩
          case measure=>simp[intOf] <;> omega
         have t1:(n.kind==2)=true:=by simp[hk2]
         obtain⟨pp,hpp,ahG⟩:∃ pp:Nat,n.aC=(pp:Int)∧pp < 4:=by
          exact zbE
         have hin:=HGD.out.infos n (List.mem_of_getElem? HNN.out) hk2;obtain⟨s,hs⟩:∃ s:Nat,n.info=(s:Int):=⟨n.info.toNat,byOmega⟩;have hsl:s < g.infos.length:=byOmega;obtain⟨inf,hi1,_,hi2⟩:=mg HF.out (List.mem_of_getElem? HNN.out) hk2;have HLP:=Ag (show kS g (pp:Int) i=kS g (g.infos.getD s default).aC i by
          rw[hs,Int.toNat_natCast] at hi1;rw[List.getD_eq_getElem?_getD,hi1,Option.getD_some,hi2,hpp])
         have HO2:=Ag (DT.out.put HNN.out hk2 hs hsl (kS g (pp:Int) i) HLP.out);obtain⟨lp,hlp⟩:=named (kS g (pp:Int) i);have hTc:=HTD.out i pp hiN ahG;obtain⟨y0,y1⟩:=HTAB.out.2 i pp hiN ahG;rw[hTc,← hlp] at y0 y1;rw[← hlp] at HO2;replace y0:=HRG1.out.cell y0;replace y1:=HRG1.out.cell y1;rw[hpp] at m1;rw[hs] at m2;obtain⟨ox,hox⟩:=getSome (l:=O) (k:=s) (by rw[DT.out.1]; exact hsl);obtain⟨z0,z1⟩:=uy (rest:=[]) hox;rw[List.append_nil] at z0 z1;replace z0:=DU.out.cell z0;replace z1:=DU.out.cell z1;have g0:=DU.out.frozen (s*2);have g1:=DU.out.frozen (s*2+1);have hpi:(pp:Int) < 4:=byOmega;clear hk2 hpp hin hs hi1 hi2 hlp hTc hox;go_wp2_with fail
         refine aX (fun w'=>w'.cell? ⟨nb,1,none⟩=some (.int .i64 (pp:Int))∧w'.cell? ⟨nb,2,none⟩=some (.int .i64 (s:Int))∧w'.cell? ⟨bl,i*8+pp*2,none⟩=some (.int .i64 lp.1)∧w'.cell? ⟨bl,i*8+pp*2+1,none⟩=some (.int .i64 lp.2)) 11 1 ah rfl ah ?_;have hHeld:(fun w':World=>w'.cell? ⟨nb,1,none⟩=some (.int .i64 (pp:Int))∧w'.cell? ⟨nb,2,none⟩=some (.int .i64 (s:Int))∧w'.cell? ⟨bl,i*8+pp*2,none⟩=some (.int .i64 lp.1)∧w'.cell? ⟨bl,i*8+pp*2+1,none⟩=some (.int .i64 lp.2)) W1.drew:=⟨m1,m2,y0,y1⟩;refine Zq ?_;refine tkm [0,1,2,3,4,5,6,7,8,9,10] ?_;refine Zw ?_;clear hHeld;go_wp2
         refine YM ?_;go_wp2
         go_roundw
         case rel =>
          have h1:=(DU.out.set (s*2) (.int .i64 lp.1)).set (s*2+1) (.int .i64 lp.2);have h2:=yu (rest:=[]) (show s < O.length by rw[DT.out.1]; exact hsl) lp;rw[List.append_nil,List.append_nil] at h2;rw[h2] at h1;exact⟨i,_,O.set s lp,byOmega,rfl,rfl,HO2.out,h1.drew,((HW1.out.setCell (p:=⟨b2,s*2,none⟩) (.inl rfl) _).setCell (p:=⟨b2,s*2+1,none⟩) (.inl rfl) _).drew⟩
         case measure=>simp[intOf] <;> omega
def fF (p:List (List Rat)) (s:Int×Int):Rat:=if s.1 < 0 then 1 else (p.getD s.1.toNat []).getD s.2.toNat 0
def bT (up:List (Int×Int)) (m:List (List Rat)):Nat→List (List Rat)
 | 0=>[]
 | k+1=>bT up m k ++ [(m.getD k []).map fun x=>fF (bT up m k) (up.getD k (-1,-1))*x]
def aV (up:List (Int×Int)) (m:List (List Rat)):List (List Rat):=bT up m m.length
theorem bV (up:List (Int×Int)) (m:List (List Rat)):∀ k,(bT up m k).length=k
 | 0=>rfl
 | k+1=>by rw[bT,List.length_append,bV up m k]; rfl
theorem iK {up:List (Int×Int)} {m:List (List Rat)} {i:Nat}:∀ {k:Nat},i < k→(bT up m k).getD i []=(m.getD i []).map fun x=>fF (bT up m i) (up.getD i (-1,-1))*x
 | 0,h=>by omega
 | k+1,h=>by
  rw[bT,List.getD_eq_getElem?_getD];by_cases e:i < k
  ·rw[List.getElem?_append_left (by rw[bV]; exact e),← List.getD_eq_getElem?_getD,iK e]
  ·obtain rfl:i=k:=byOmega;rw[List.getElem?_append_right (by rw[bV]; exact Nat.le_refl _),bV,Nat.sub_self]; rfl
theorem aeA {up:List (Int×Int)} {m:List (List Rat)} {s:Int×Int} {k k':Nat} (h:s.1 < 0∨(s.1 < (k:Int))) (hk:k≤k'):fF (bT up m k) s=fF (bT up m k') s:=by
 unfold fF;by_cases h0:s.1 < 0
 ·rw[if_pos h0,if_pos h0]
 ·rw[if_neg h0,if_neg h0,iK byOmega,iK byOmega]
structure Dj (up:List (Int×Int)) (m:List (List Rat)):Prop where
 len:up.length=m.length
 ok:∀ (k:Nat) (s:Int×Int),up[k]? = some s→s.1 < 0∨(0≤s.1∧s.1 < (k:Int)∧0≤s.2∧s.2 < ((m.getD s.1.toNat []).length:Int))
theorem ac4 (l:List Rat) (a:Rat) (k:Nat):(l.map fun x=>a*x).getD k 0=a*l.getD k 0:=by
 rw[List.getD_eq_getElem?_getD,List.getD_eq_getElem?_getD,List.getElem?_map];cases l[k]? with
 | none=>simp[Rat.mul_zero]
 | some x=>rfl
def mO (l:List Rat):List Rat:=if jD l=0 then gZ l.length else l.map (· / jD l)
def eG (p:List (List Rat)):List (List Rat):=p.map mO
def iL (p q:List (List Rat)) (s t:Rat):List (List Rat):=List.zipWith (List.zipWith fun a b=>a*s+b*t) p q
theorem Tryz.infoNumRow:(Tryz.prog.info? 96).map (fun i=>(i.zero,i.size,i.bytes))=some (some (.slice none 0 0),1,24):=ah
def zi (g:Gm):Int:=if bP g≠0 then bP g else o8 g
def pY (g:Gm):List (Int×Int):=if bP g≠0 then [] else oQ g
theorem lH (w:World) (F:Foot) (u:Value) (g:Gm) (hg:AO w F u g) (hsm:Small g) :
  Calls Tryz.prog 23 #[u] w (Ret w fun v w'=>∃ vp,v = .tuple #[vp,.int .i64 (zi g)]∧AB w' (fun b=>w.heap.size≤b) vp (pY g)):=by
 have HG:=Ag hg;have HSM:=Ag hsm;obtain⟨vn,vi,rfl,⟨A,c,rfl,hc,_⟩,⟨Ai,ci,rfl,hci,_⟩⟩:=hg;clear hsm;go_in;go_wp2_with fail
 refine Z8 ?_;intro W hW rx hB hz;replace HG:=Ag (HG.out.on (Below.same' hB F));refine Zi ?_;intro x0 x1 x2;clear hW hz;go_wp2_with fail
 clear x0 x1 x2;refine(um W F _ g HG.out HSM.out).mono ?_;rintro e w1 ⟨_,rfl,hb,rfl⟩;rw[qU];replace HG:=Ag (HG.out.on (Below.same' hb F));refine zaA ?_;clear rx hB;intro rx hB;refine Zi ?_;intro x0 x1 x2;have hPE:zi g=if bP g≠0 then bP g else o8 g:=rfl
 have hPO:pY g=if bP g≠0 then [] else oQ g:=rfl
 have HPE:=Ag hPE;have HPO:=Ag hPO;have HF:=Ag (fun h:bP g=0=>h);obtain⟨fe,hfe⟩:=named (bP g);rw[← hfe] at HPE HPO HF ⊢;have HFE:=Ag hfe;clear hb hPE hPO hfe rx;dsimp only;by_cases h0:fe=0
 ·subst h0;go_wp2_with fail
  clear x0 x1 x2;refine(nI w1 F _ g HG.out HSM.out HFE.out.symm).mono ?_;rintro e w2 ⟨_,rfl,hb,vp,rfl,hvp⟩;have HB2:=Ag (hB.trans (hb.mono hB.size));have HVP:=Ag (AB.keep (G:=fun b=>w.heap.size≤b) hvp (fun b h _=>by have:=hB.size; omega) (Same.refl _ _));obtain⟨Ap,cp,rfl⟩:=hvp.open;clear hb hvp;dsimp only;go_wp2_with fail
  go_ret2;exact⟨_,rfl,HB2.out,_,by rw[HPE.out,if_neg ay]; rfl,by rw[HPO.out,if_neg ay]; exact HVP.out⟩
 ·have t0:(fe != 0)=true:=by simp[h0]
  have H0:=Ag h0;clear h0;go_wp2_with fail
  go_ret2;exact⟨_,rfl,hB,_,by rw[HPE.out,if_pos H0.out]; rfl,by rw[HPO.out,if_pos H0.out]; exact AB.nil _ _⟩
def vO (g:Gm):List (List Rat):=g.infos.map fun i=>gZ i.actions.toNat
def ac5 (g:Gm):List (List Raw):=if bP g≠0 then [] else (vO g).map (List.map aG)
theorem xk {g:Gm} (hf:bP g=0) {i:Nat} {inf:Inf} (hi:g.infos[i]? = some inf):1≤inf.actions∧inf.actions≤10:=by
 obtain⟨n,hn,hk,hin,_⟩:=kF hf (lt_of_get hi);obtain⟨inf',h1,h2,_⟩:=mg hf (List.mem_of_getElem? hn) hk;have h3:=qX (iY hf).1 (List.mem_of_getElem? hn) hk;rw[hin,Int.toNat_natCast,hi] at h1;cases h1;omega
theorem ac6 {n:Nat} (h1:1≤n) (h2:n≤10):∀ x∈gZ n,rl x≤4:=by
 intro x hx;unfold gZ at hx;rw[List.eq_of_mem_replicate hx];exact agz ⟨byOmega,byOmega⟩ ⟨byOmega,byOmega⟩
theorem ac7 {g:Gm} (hf:bP g=0):∀ l∈vO g,l.length≤10∧∀ x∈l,rl x≤4:=by
 intro l hl;unfold vO at hl;obtain⟨inf,hi,rfl⟩:=List.mem_map.1 hl;obtain⟨i,hi⟩:=List.getElem?_of_mem hi;obtain⟨h1,h2⟩:=xk hf hi;exact⟨by unfold gZ; rw[List.length_replicate]; omega,ac6 byOmega byOmega⟩
theorem oU {xs:List Rat} (h:∀ x∈xs,rl x≤1024):l9 xs=0:=by
 unfold l9;rw[if_neg];intro he;obtain⟨x,hx,h1⟩:=List.any_eq_true.1 he;have:=h x hx;have h2:=of_decide_eq_true h1;omega
theorem aeB (w:World) (F:Foot) (u:Value) (g:Gm) (hg:AO w F u g) (hsm:Small g) :
  Calls Tryz.prog 112 #[u] w (Ret w fun v w'=>∃ t,v = .tuple #[t,.int .i64 (bP g)]∧RawRowsAt w' (fun b=>w.heap.size≤b) t (ac5 g)):=by
 have HG:=Ag hg;have HSM:=Ag hsm;have hni:=hsm.infos;obtain⟨vn,vi,rfl,⟨A,c,rfl,hc,_⟩,hI⟩:=hg;have HI:=Ag hI;obtain⟨Ai,ci,rfl,hci,_⟩:=hI;clear hsm;go_in;go_wp2_with fail
 refine Z8 ?_;intro W hW rx hB hz;replace HG:=Ag (HG.out.on (Below.same' hB F));refine Zi ?_;intro x0 x1 x2;clear hW hz;go_wp2_with fail
 clear x0 x1 x2;refine(um W F _ g HG.out HSM.out).mono ?_;rintro e w1 ⟨_,rfl,hb,rfl⟩;rw[qU];refine zaA ?_;clear rx hB;intro rx hB;have HU:=Ag (show ac5 g=if bP g≠0 then [] else (vO g).map (List.map aG) from rfl);obtain⟨fe,hfe⟩:=named (bP g);rw[← hfe] at HU ⊢;have HFE:=Ag hfe;clear hb hfe;dsimp only;by_cases h0:fe=0
 case neg =>
  have t0:(fe != 0)=true:=by simp[h0]
  have H0:=Ag h0;clear h0;go_wp2_with fail
  go_ret2;exact⟨_,rfl,hB,_,by rw[← HFE.out]; rfl,by rw[HU.out,if_pos H0.out]; exact RawRowsAt.nil _ _⟩
 subst h0;go_wp2_with fail
 refine(abU w1).mono ?_;rintro e w2 ⟨_,rfl,hb,vs,rfl,hev⟩;have hz12:=hb.size;have x2:=ak (rx.cell (i:=2) rfl) hb;have hxl:=rx.lt;refine zaA ?_;clear rx hB;intro rx hB;have HEV:=Ag (hev.keep (G:=fun b=>w.heap.size < b) (fun b h _=>by omega) (Same.refl _ _));obtain⟨a0,a1,a2,a3,a4,a5,a6,a7,a8,a9,a10,rfl⟩:=afI hev.1;clear hev hb;obtain⟨A0,C0,e0,-,-⟩:=HEV.out.2 0 a0 _ rfl rfl;obtain rfl:a0 = .slice A0 0 C0:=e0;obtain⟨A1,C1,e1,-,-⟩:=HEV.out.2 1 a1 _ rfl rfl;obtain rfl:a1 = .slice A1 1 C1:=e1;obtain⟨A2,C2,e2,-,-⟩:=HEV.out.2 2 a2 _ rfl rfl;obtain rfl:a2 = .slice A2 2 C2:=e2;obtain⟨A3,C3,e3,-,-⟩:=HEV.out.2 3 a3 _ rfl rfl;obtain rfl:a3 = .slice A3 3 C3:=e3;obtain⟨A4,C4,e4,-,-⟩:=HEV.out.2 4 a4 _ rfl rfl;obtain rfl:a4 = .slice A4 4 C4:=e4;obtain⟨A5,C5,e5,-,-⟩:=HEV.out.2 5 a5 _ rfl rfl;obtain rfl:a5 = .slice A5 5 C5:=e5;obtain⟨A6,C6,e6,-,-⟩:=HEV.out.2 6 a6 _ rfl rfl;obtain rfl:a6 = .slice A6 6 C6:=e6;obtain⟨A7,C7,e7,-,-⟩:=HEV.out.2 7 a7 _ rfl rfl;obtain rfl:a7 = .slice A7 7 C7:=e7;obtain⟨A8,C8,e8,-,-⟩:=HEV.out.2 8 a8 _ rfl rfl;obtain rfl:a8 = .slice A8 8 C8:=e8;obtain⟨A9,C9,e9,-,-⟩:=HEV.out.2 9 a9 _ rfl rfl;obtain rfl:a9 = .slice A9 9 C9:=e9;obtain⟨A10,C10,e10,-,-⟩:=HEV.out.2 10 a10 _ rfl rfl;obtain rfl:a10 = .slice A10 10 C10:=e10;have x2o:=fun ob=>fO x2 ob
 dsimp only;go_wp2_with fail
 clear x2o;obtain⟨W3,hW3,re,hb,hz⟩:=aO w2 171 #[.slice A0 0 C0,.slice A1 1 C1,.slice A2 2 C2,.slice A3 3 C3,.slice A4 4 C4,.slice A5 5 C5,.slice A6 6 C6,.slice A7 7 C7,.slice A8 8 C8,.slice A9 9 C9,.slice A10 10 C10];rw[← hW3];obtain⟨vs,hvl,hE,hre⟩:∃ vs:List Value,vs.length=11∧DoneRows W3 (fun b=>w.heap.size < b∧b < w2.heap.size) vs ((List.range 11).map fun n=>(gZ n).map au)∧Row W3 w2.heap.size 171 vs:=⟨_,rfl,HEV.out.keep (fun b h hl=>⟨h,byOmega⟩) (Below.same' hb _),re⟩;have HE:=Ag hE;have HRE:=Ag hre;have HVL:=Ag hvl;have HI3:=Ag (HI.out.on (Below.same' (hB.trans (hb.mono hB.size)) F));have HB3:=Ag (hB.trans (hb.mono hB.size));have hbew:w.heap.size < w2.heap.size:=byOmega;have hbeW:=re.lt;clear hE re hre hb hz hW3 rx hB x2 HEV hvl;go_loopw [6,18] (fun ov iv wr=>∃ (k:Nat) (L:List (Value×List Raw)),k≤g.infos.length∧iv = .int .i64 (k:Int)∧L.length=k∧L.map Prod.snd=((vO g).take k).map (List.map au)∧OwnSl yP wr W3.heap.size 96 (fun b=>w.heap.size < b∧b < w2.heap.size) ov L∧Below W3.heap.size W3 wr) (fun _ iv _=>g.infos.length - (intOf iv).toNat)
 case atStart=>exact⟨0,[],byOmega,rfl,rfl,rfl,OwnSl.nil _ _ _ _ _,Below.refl _ _⟩
 case round =>
  obtain⟨k,L,hk,rfl,hLl,hLm,hown,hbel⟩:=hrel;have HLL:=Ag hLl;have HLM:=Ag hLm;have HO:=Ag hown;obtain⟨wa,rfl⟩:=named wr;clear hLl hLm hown;by_cases hlt:k < g.infos.length
  ·obtain⟨inf,gU⟩:=getSome hlt;obtain⟨ha1,ha2⟩:=xk HFE.out.symm gU;obtain⟨a,ha⟩:∃ a:Nat,inf.actions=(a:Int):=⟨inf.actions.toNat,byOmega⟩;have ha11:a < 11:=byOmega;obtain⟨va,hva⟩:=getSome (l:=vs) (k:=a) (by rw[HVL.out]; exact ha11);have hra:=HE.out.2 a va ((gZ a).map au) hva (by rw[List.getElem?_map,List.getElem?_range ha11]; rfl);have ec:=ak (HRE.out.cell hva) hbel;have HRA:=Ag (RawsAt.keep (G:=fun b=>w.heap.size < b∧b < w2.heap.size) hra (fun _ h _=>h) (Below.same' hbel _));obtain⟨Au,cu,e,_,_⟩:=hra;have hla:((gZ a).map au).length=a:=by rw[List.length_map];exact List.length_replicate ..
   rw[hla] at e;subst e;have hi4:=HI3.out.on (Below.same' hbel F);obtain⟨A',c',e,_,hx⟩:=hi4;injection e with e1 e2 e3
   subst e1;obtain⟨bI,oI,rfl,_,hbI,hcI⟩:=hx byOmega;have p0:=(hcI k inf gU).c0;have p1:=(hcI k inf gU).c1;rw[ha] at p1;have Dc:=Ag gU;have HA:=Ag ha;have hai:(a:Int) < 11:=byOmega;have hbz:=hbel.size;clear gU ha ha1 ha2 hva hla e2 e3 hx hcI;go_upto_region 9 with(fail)
   obtain⟨W4,hW4,ri,hb4,hz4⟩:=aO wa 37 #[.int .i64 inf.aC,.int .i64 (a:Int)];rw[← hW4];have i1:=ri.cell (i:=1) rfl;have ec4:=ak ec hb4;have HO4:=Ag (HO.out.below hb4);have HRA4:=Ag (RawsAt.keep (G:=Apart (fun b=>w.heap.size < b∧b < w2.heap.size) u6) HRA.out (fun b h _=>⟨h,fun e=>by have:=(HO.out.row.lt b e).1; omega⟩) (Below.same' hb4 _));have als:=hbel.trans (hb4.mono hbz);clear hW4 hz4 ri hb4 p0 p1 ec hbel;go_wp2_with (at_builtin; refine afh (K:=yP) (F:=fun b=>w.heap.size < b∧b < w2.heap.size) rfl _ _ 106 96 24 _ Tryz.underlying106 Tryz.infoNumRow rfl ay rfl W3.heap.size (Nat.le_refl _) u6 L rfl (.slice Au a cu,(gZ a).map au) _ rfl (by have:=HLL.out; omega) rfl HO4.out HRA4.out als ?_; intro g' cap w' hown' fQ hlt' _; have HO':=Ag hown'; clear hown')
   go_roundw
   case rel =>
    refine⟨k+1,_,byOmega,by go_num,by rw[List.length_append,HLL.out]; rfl,?_,HO'.out,fQ⟩;have hu:(vO g)[k]? = some (gZ a):=by unfold vO;rw[List.getElem?_map,Dc.out,Option.map_some,HA.out,Int.toNat_natCast]
    rw[take_snoc hu,List.map_append,List.map_append,HLM.out];rfl
   case measure=>simp[intOf]; omega
  ·have hke:k=g.infos.length:=byOmega;subst hke;have hul:(vO g).length=g.infos.length:=by unfold vO;simp
   have hrows:=HO.out.rows (G:=fun b=>w.heap.size < b) (fun b h=>h.1) (fun b h=>by omega);rw[HLM.out,List.take_of_length_le byOmega] at hrows;have HRW:=Ag hrows;obtain⟨Ar,cr,e,_,_⟩:=hrows;subst e;have hrl:((vO g).map (List.map au)).length=g.infos.length:=by rw[List.length_map,hul]
   rw[hrl] at HRW ⊢;have hbz:=hbel.size;clear hrl HO;go_wp2_with fail
   refine(qG wa (fun b=>w.heap.size < b) _ (vO g) HRW.out byOmega (fun l hl=>by have:=(ac7 HFE.out.symm l hl).1; omega) (fun l hl x hx=>by have:=(ac7 HFE.out.symm l hl).2 x hx; omega)).mono ?_;rintro e w6 ⟨_,rfl,hb6,t,rfl,ht⟩;have he0:l9 (vO g).flatten=0:=oU fun x hx=>by
    obtain⟨l,hl,hx⟩:=List.mem_flatten.1 hx;have:=(ac7 HFE.out.symm l hl).2 x hx;omega
   have hbl:=HB3.out.trans (hbel.mono HB3.out.size);have HB6:=Ag (hbl.trans (hb6.mono hbl.size));have hmx:qx (vO g)=(vO g).map (List.map aG):=by unfold qx;rw[he0];rfl
   rw[hmx] at ht;rw[he0];have HT:=Ag (RawRowsAt.keep (G:=fun b=>w.heap.size≤b) ht (fun b h _=>by have:=hbl.size; omega) (Same.refl _ _));obtain⟨At,ct,e,-,-⟩:=ht;rw[List.length_map,hul] at e;subst e;clear hb6 hbel hbl hmx he0;dsimp only;go_wp2_with fail
   go_ret2;exact⟨_,rfl,HB6.out,_,by rw[← HFE.out]; rfl,by rw[HU.out,if_neg ay]; exact HT.out⟩
def oD (g:Gm) (choice:List Int) (i:Nat):Bool:=decide (choice.getD i 0 < 0)||decide ((g.infos.getD i default).actions≤choice.getD i 0)
def jQ (g:Gm) (choice:List Int) (k:Nat):Bool:=(List.range k).any (oD g choice)
theorem aaV (g:Gm) (choice:List Int) (k:Nat):jQ g choice (k+1)=(jQ g choice k||oD g choice k):=by unfold jQ; rw[List.range_succ,List.any_append]; simp
theorem xu {g:Gm} {choice:List Int} {k m:Nat} (h:oD g choice k=true) (hk:k < m):jQ g choice m=true:=by
 unfold jQ;exact List.any_eq_true.2 ⟨k,List.mem_range.2 hk,h⟩
def tu (g:Gm) (choice:List Int):Int:=if bP g≠0 then bP g else if choice.length≠g.infos.length then 3 else if jQ g choice choice.length then 2 else 0
def zk (n a:Nat):List Rat:=(List.replicate n 0).set a 1
def zI (g:Gm) (choice:List Int) (i:Nat):List Rat:=zk (g.infos.getD i default).actions.toNat (choice.getD i 0).toNat
def qc (g:Gm) (choice:List Int):List (List Rat):=(List.range choice.length).map (zI g choice)
def rC (g:Gm) (choice:List Int):List (List Raw):=if tu g choice≠0 then [] else (qc g choice).map (List.map aG)
theorem ahH {n a:Nat}:∀ x∈zk n a,x=0∨x=1:=by
 intro x hx;unfold zk at hx;rcases List.mem_or_eq_of_mem_set hx with h | h
 ·exact .inl (List.eq_of_mem_replicate h)
 ·exact .inr h
theorem ajc {n a:Nat}:∀ x∈zk n a,rl x≤4:=by
 intro x hx;rcases ahH x hx with rfl | rfl
 ·rw[vY];omega
 ·have:=zZ 1;have h1:(dig (1:Int).natAbs).length≤1:=aS (by unfold LB; decide);rw[show((1:Int):Rat)=1 from rfl] at this;omega
theorem ajd {g:Gm} {choice:List Int} (hf:bP g=0) (hc:choice.length=g.infos.length):∀ l∈qc g choice,l.length≤10∧∀ x∈l,rl x≤4:=by
 intro l hl;unfold qc at hl;obtain⟨i,hi,rfl⟩:=List.mem_map.1 hl;have hi:=List.mem_range.1 hi;obtain⟨inf,gU⟩:=getSome (l:=g.infos) (k:=i) byOmega;obtain⟨h1,h2⟩:=xk hf gU;refine⟨?_,ajc⟩;unfold zI zk;rw[List.length_set,List.length_replicate,List.getD_eq_getElem?_getD,gU,Option.getD_some];omega
theorem tC (w:World) (F:Foot) (u vc:Value) (g:Gm) (choice:List Int) (hg:AO w F u g) (hsm:Small g) (hch:AA w F vc choice) (hcl:choice.length≤1000) :
  Calls Tryz.prog 60 #[u,vc] w (Ret w fun v w'=>∃ t,v = .tuple #[t,.int .i64 (tu g choice)]∧RawRowsAt w' (fun b=>w.heap.size≤b) t (rC g choice)):=by
 have HG:=Ag hg;have HSM:=Ag hsm;have HCH:=Ag hch;have hni:=hsm.infos;obtain⟨vn,vi,rfl,⟨A,c,rfl,hc,-⟩,hI⟩:=hg;have HI:=Ag hI;obtain⟨Ai,ci,rfl,hci,-⟩:=hI;obtain⟨Ac,cc,rfl,hcc,-⟩:=hch;clear hsm;go_in;go_wp2_with fail
 refine Z8 ?_;intro W hW rx hB hz;replace HG:=Ag (HG.out.on (Below.same' hB F));refine Zi ?_;intro x0 x1 x2;clear hW hz;go_wp2_with fail
 clear x0 x1 x2;refine(um W F _ g HG.out HSM.out).mono ?_;rintro e w1 ⟨_,rfl,hb,rfl⟩;rw[qU];refine zaA ?_;clear rx hB;intro rx hB;have HU:=Ag (show rC g choice=if tu g choice≠0 then [] else (qc g choice).map (List.map aG) from rfl);have HE:=Ag (show tu g choice=if bP g≠0 then bP g else if choice.length≠g.infos.length then 3 else if jQ g choice choice.length then 2 else 0 from rfl);obtain⟨fe,hfe⟩:=named (bP g);rw[← hfe] at HE ⊢;have HFE:=Ag hfe;have x2:=rx.cell (i:=2) rfl;clear hb hfe;dsimp only;by_cases h0:fe=0
 case neg =>
  have t0:(fe != 0)=true:=by simp[h0]
  have hpe:=HE.out;rw[if_pos h0] at hpe;have HPE:=Ag hpe;have H0:=Ag h0;clear h0 hpe;go_wp2_with fail
  go_ret2;exact⟨_,rfl,hB,_,by rw[HPE.out]; rfl,by rw[HU.out,if_pos (by rw[HPE.out]; exact H0.out)]; exact RawRowsAt.nil _ _⟩
 subst h0;by_cases hl:choice.length=g.infos.length
 case neg =>
  have t0:((choice.length:Int) != (g.infos.length:Int))=true:=aF;have hpe:=HE.out;rw[if_neg ay,if_pos hl] at hpe;have HPE:=Ag hpe;clear hl hpe;go_wp2_with fail
  go_ret2;exact⟨_,rfl,hB,_,by rw[HPE.out]; rfl,by rw[HU.out,if_pos (by rw[HPE.out]; decide)]; exact RawRowsAt.nil _ _⟩
 have hpe:=HE.out;rw[if_neg ay,if_neg (by simpa using hl)] at hpe;have HPE:=Ag hpe;obtain⟨n,hn⟩:=named choice.length;have hn2:n=g.infos.length:=byOmega;have HN:=Ag hn;have HN2:=Ag hn2;have HX:=Ag rx;have HI1:=Ag (HI.out.on (Below.same' hB F));have HC1:=Ag (HCH.out.on (Below.same' hB F));rw[← hn] at HC1;have hn100:n≤1000:=byOmega;have hwlt:=HX.out.lt;rw[show(choice.length:Nat)=n from HN.out.symm];have t0:((n:Int) != (g.infos.length:Int))=false:=aF;have x2k:=fun (W':World) (h:Below w1.heap.size w1 W')=>ak x2 h
 clear hl hpe rx hn hn2 hc hcc hci hcl;go_wp2_with (at_make; refine dQ _ rfl _ _ 106 rfl 96 (.slice none 0 0) 24 Tryz.underlying106 Tryz.infoNumRow rfl n rfl rfl byOmega byOmega ?_; intro w2 hb2 hz2 hm2)
 have HM:=Ag (MkO.begin (F:=fun _=>False) (B1:=w2.heap.size) hm2 (hB.trans (hb2.mono hB.size)) hB.size byOmega (Nat.le_refl _));have HX2:=Ag (HX.out.below hb2 hwlt);have HI2:=Ag (HI1.out.on (Below.same' hb2 F));have HC2:=Ag (HC1.out.on (Below.same' hb2 F));clear x2k t0 x2;go_loopw [26] (fun iv wr=>∃ (k:Nat) (vs:List Value),k≤n∧iv = .int .i64 (k:Int)∧vs.length=k∧jQ g choice k=false∧MkO (fun _=>False) w w1.heap.size 96 n w2.heap.size vs (((qc g choice).take k).map (List.map au)) wr∧Below w1.heap.size w1 wr) (fun iv _=>n - (intOf iv).toNat)
 case atStart=>exact⟨0,[],byOmega,rfl,rfl,rfl,HM.out,hb2⟩
 case round =>
  obtain⟨k,vs,hk,rfl,hvl,hbad,hmk,hbw⟩:=hrel;obtain⟨wa,rfl⟩:=named wr;have HVL:=Ag hvl;have HBAD:=Ag hbad;have HM:=Ag hmk;have HBW:=Ag hbw;clear hvl hbad hmk hbw hb2;by_cases hlt:k < n
  ·obtain⟨inf,gU⟩:=getSome (l:=g.infos) (k:=k) (by rw[← HN2.out]; exact hlt);obtain⟨ch,hch⟩:=getSome (l:=choice) (k:=k) (by rw[← HN.out]; exact hlt);obtain⟨ha1,ha2⟩:=xk HFE.out.symm gU;obtain⟨a,ha⟩:∃ a:Nat,inf.actions=(a:Int):=⟨inf.actions.toNat,byOmega⟩;have x2:=ak (HX.out.cell (i:=2) rfl) HBW.out;obtain⟨bC,oC,rfl,_,hbC,hcC⟩:=abX HC1.out (by have:=HN.out; omega);have ec:=ak (hcC k ch hch) HBW.out;obtain⟨A',c',e,-,hx⟩:=HI1.out;injection e with e1 e2 e3
   subst e1;obtain⟨bI,oI,rfl,_,hbI,hcI⟩:=hx (by have:=HN2.out; omega);have p1:=ak (hcI k inf gU).c1 HBW.out;rw[ha] at p1;have hgl:(k:Nat) < g.infos.length:=by rw[← HN2.out];exact hlt
   have HBD:=Ag (show oD g choice k=(decide (ch < 0)||decide ((a:Int)≤ch)) by unfold oD; rw[List.getD_eq_getElem?_getD,List.getD_eq_getElem?_getD,hch,gU,Option.getD_some,Option.getD_some,ha]);have Dc:=Ag gU;have HCH2:=Ag hch;have HA:=Ag ha;have ha10:a≤10:=byOmega;clear gU hch ha ha1 ha2 hx hcI hcC e2 e3;by_cases hc0:ch < 0
   ·have d0:decide (ch < 0)=true:=decide_eq_true hc0;have hb1:=xu (m:=n) (by rw[HBD.out,d0,Bool.true_or]) hlt;have hpe:=HPE.out;rw[← HN.out,hb1,if_pos rfl] at hpe;have Du:=Ag hpe;have HBF:=Ag HM.out.bel;clear hc0 hb1 hpe;go_wp2_with fail
    go_ret2;exact zbB
   obtain⟨x,rfl⟩:∃ x:Nat,ch=(x:Int):=⟨ch.toNat,byOmega⟩;by_cases hca:a≤x
   ·have d0:decide ((x:Int) < 0)=false:=decide_eq_false hc0;have d1:decide (a≤x)=true:=decide_eq_true hca;have hb1:=xu (m:=n) (show oD g choice k=true by rw[HBD.out,d0,Bool.false_or]; exact decide_eq_true byOmega) hlt;have hpe:=HPE.out;rw[← HN.out,hb1,if_pos rfl] at hpe;have Du:=Ag hpe;have HBF:=Ag HM.out.bel;clear hca hb1 hpe hc0;go_wp2_with fail
    go_ret2;exact zbB
   have hxa:x < a:=byOmega;have d0:decide ((x:Int) < 0)=false:=decide_eq_false hc0;have d1:decide (a≤x)=false:=decide_eq_false hca;have HBN:=Ag (show jQ g choice (k+1)=false by rw[aaV,HBAD.out,HBD.out,d0,Bool.false_or,Bool.false_or]; exact decide_eq_false byOmega);have hgk:(restN vs n)[k]? = some (.slice none 0 0):=by have:=restN_get (vs:=vs) (n:=n) (by rw[HVL.out]; exact hlt);rwa [HVL.out] at this
   have HGK:=Ag hgk;clear hca hc0 hgk;go_wp2_with (at_make; refine ag8 _ rfl _ _ 96 rfl 114 Tryz.underlying96 Tryz.infoNum a rfl rfl byOmega ?_; intro w3 hb3 hz3 hm3; have HM3:=Ag (HM.out.below hb3); have hcf:=HM3.out.row.frozen k; have hcu:=HM3.out.row.cell HGK.out)
   obtain⟨bm,hbm⟩:=named wa.heap.size;rw[← hbm] at hm3 ⊢;have hsz:=HM.out.size; have hhi:=HM.out.hi; have hlo:=HM.out.lo;have hbm2:w2.heap.size≤bm:=byOmega;have hbmo:w1.heap.size < bm:=byOmega;have hm4:=hm3 (fun b=>w2.heap.size≤b);have HD3:=Ag (HM.out.done.keep (G:=fun b=>w2.heap.size≤b∧b < bm) (fun b h hl=>h.elim (fun h=>h.1.elim) fun h=>⟨h,byOmega⟩) (Below.same' hb3 _));obtain⟨W4,hW4⟩:=named (w3.setCell ⟨w1.heap.size,k,none⟩ (.slice (some ⟨bm,0,none⟩) a a));rw[← hW4];have HR4:=Ag (show Row W4 w1.heap.size 96 (restN (vs ++ [.slice (some ⟨bm,0,none⟩) a a]) n) by
    have h1:=HM3.out.row.set k (.slice (some ⟨bm,0,none⟩) a a);rw[← hW4] at h1;have h2:=restN_set (vs:=vs) (n:=n) (by rw[HVL.out]; exact hlt) (.slice (some ⟨bm,0,none⟩) a a);rw[HVL.out] at h2;rwa [h2] at h1)
   have hw4:Wrote (fun x=>x=w1.heap.size) w3 W4:=by rw[hW4];exact(Wrote.refl (fun x=>x=w1.heap.size) w3).setCell (p:=⟨w1.heap.size,k,none⟩) (.inl rfl) _
   have HMR:=Ag (hm4.on (w':=W4) (hw4.block bm hm4.row.lt byOmega) (hw4.same fun b hb=>by omega));have HD4:=Ag (HD3.out.keep (fun _ h _=>h) (hw4.same fun b hb=>by omega));have HB4:=Ag (show Below w.heap.size w W4 from Wrote.below HM3.out.bel hw4 (fun b hb=>by omega) HM3.out.bel.size);have DC:=Ag (show Below w1.heap.size w1 W4 from Wrote.below (HBW.out.trans (hb3.mono HBW.out.size)) hw4 (fun b hb=>by omega) (by have:=hb3.size; omega));have hz4:=hw4.size;have hbmW:bm < W4.heap.size:=HMR.out.row.lt;have hc4:=HR4.out.cell (i:=k) (v:=.slice (some ⟨bm,0,none⟩) a a) (by unfold restN; rw[List.append_assoc,List.getElem?_append_right (by rw[HVL.out]; exact Nat.le_refl _),HVL.out,Nat.sub_self]; rfl);clear hm3 hm4 hW4 hw4 hcf hcu hbm hb3 x2 ec p1;go_wp2_with fail
   refine aX (fun w'=>w'.cell? ⟨w1.heap.size,k,none⟩=some (.slice (some ⟨bm,0,none⟩) a a)) 7 1 ah rfl ah ?_;have hHeld:(fun w':World=>w'.cell? ⟨w1.heap.size,k,none⟩=some (.slice (some ⟨bm,0,none⟩) a a)) W4.drew:=hc4;refine Zq ?_;have hb:Below W4.heap.size W4 W4.drew:=aI (Below.refl _ W4) 1;obtain⟨wn,hwn⟩:=named W4.drew;rw[← hwn] at hb hHeld ⊢;have hzn:=hb.size;refine zcs ?_;clear HR4 HMR HD4 HB4 DC hc4 hz4;intro HR4 HMR HD4 HB4 DC hc4 hz4;clear hb hwn;refine tkm [0,1,2,3,4] ?_;refine tk2 5 ah rfl fun K hK=>?_
   go_simp;refine(mZ wn 1 byOmega byOmega).mono ?_;rintro e wm ⟨u1,rfl,hb,hu⟩;obtain⟨fr,hfr⟩:=named (((1:Int):Rat));rw[← hfr] at hu;have HFR:=Ag (show fr=1 by rw[hfr]; rfl);obtain⟨A1,c1,B1,d1,rfl,jh⟩:=hu.opened;have HFN:=Ag (RV.fine.keep (G:=fun b=>bm < b) jh (fun b h _=>by omega) (Same.refl _ _));refine zcs ?_;clear HR4 HMR HD4 HB4 DC hc4 hz4;intro HR4 HMR HD4 HB4 DC hc4 hz4;clear hb hu jh hfr hHeld;dsimp only;refine hK.out _ _ hc4 (fun hHeld=>?_);clear hK K;refine Zb ?_;refine tkm [6] ?_;refine Yp ?_;clear hHeld;have hget:(List.replicate a rv0)[x]? = some rv0:=by rw[List.getElem?_replicate,if_pos hxa]
   have q0:wm.cell? ⟨bm,x*3,none⟩=some (.bool false):=HMR.out.cell (j:=0) hget byOmega rfl;have q1:=HMR.out.cell (j:=1) hget byOmega rfl;have q2:=HMR.out.cell (j:=2) hget byOmega rfl;have f0:=HMR.out.row.frozen (x*3);have f1:=HMR.out.row.frozen (x*3+1);have f2:=HMR.out.row.frozen (x*3+2);obtain⟨W5,hW5,hm5,hB5,hS5,hz5,hne5⟩:=HMR.out.set x ⟨au fr,.slice A1 (au fr).num.length c1,.slice B1 (au fr).den.length d1⟩ (RV.fine.keep HFN.out (fun b h _=>⟨byOmega,byOmega⟩) (Same.refl _ _));have HM5:=Ag hm5;have HD5:=Ag (HD4.out.keep (fun _ h _=>h) (hS5 _ (fun h=>by omega)));have HB5:=Ag (hB5 w.heap.size w byOmega HB4.out);have HBW5:=Ag (hB5 w1.heap.size w1 byOmega DC.out);have HR5:=Ag (HR4.out.of_block (hne5 _ byOmega));have HW5:=Ag hW5;clear hget hm5 hB5 hS5 hne5 hc4 hW5;refine Y2 ?_;go_wp2
   rw[← HW5.out];refine YM ?_;go_wp2
   go_roundw
   case rel =>
    refine⟨k+1,vs ++ [.slice (some ⟨bm,0,none⟩) a a],byOmega,by go_num,by rw[List.length_append,HVL.out]; rfl,HBN.out,?_,HBW5.out⟩;have hpr:(qc g choice)[k]? = some (zk a x):=by
     unfold qc;rw[List.getElem?_map,List.getElem?_range (by have:=HN.out; omega)];show some (zI g choice k)=_;unfold zI;rw[List.getD_eq_getElem?_getD,List.getD_eq_getElem?_getD,Dc.out,HCH2.out,Option.getD_some,Option.getD_some,HA.out,Int.toNat_natCast,Int.toNat_natCast]
    have hraw:=HM5.out.raws (G:=fun b=>w2.heap.size≤b) (fun c h=>h) hbm2 (c:=a) (by rw[List.length_set,List.length_replicate]; exact Nat.le_refl _);have hmap:((List.replicate a rv0).set x ⟨au fr,.slice A1 (au fr).num.length c1,.slice B1 (au fr).den.length d1⟩).map RV.r=(zk a x).map au:=by
     unfold zk;rw[List.map_set,List.map_set,List.map_replicate,List.map_replicate,aiv,HFR.out]
    rw[hmap,List.length_set,List.length_replicate] at hraw;rw[take_snoc hpr,List.map_append];exact⟨HR5.out,(HD5.out.keep (G:=GoF (fun _=>False) w w2.heap.size) (fun b h _=>.inr h.1) (Same.refl _ _)).snoc (hraw.keep (fun b h _=>.inr h) (Same.refl _ _)),HB5.out,hlo,hhi,byOmega⟩
   case measure=>simp[intOf]; omega
  ·have hke:k=n:=byOmega;subst hke;have hpl:(qc g choice).length=k:=by unfold qc;rw[List.length_map,List.length_range];exact HN.out.symm
   have hpe:=HPE.out;rw[← HN.out,HBAD.out] at hpe;have Du:=Ag (show tu g choice=0 from hpe);have hrows:=HM.out.rows (G:=fun b=>w.heap.size≤b) (by rw[HVL.out]; exact Nat.le_refl _) (fun b h=>h.elim (fun h=>h.1.elim) id) (c:=k) (by rw[List.length_map,List.length_take,hpl]; omega);rw[List.take_of_length_le byOmega,List.length_map,hpl] at hrows;have HRW:=Ag hrows;have HBF:=Ag HM.out.bel;have hmm:=ajd (choice:=choice) HFE.out.symm (by rw[← HN.out]; exact HN2.out);have HMM:=Ag hmm;have HPL:=Ag hpl;clear hrows hpe hpl hmm;go_wp2_with fail
   refine(qG wa (fun b=>w.heap.size≤b) _ (qc g choice) HRW.out (by rw[HPL.out]; omega) (fun l hl=>by have:=(HMM.out l hl).1; omega) (fun l hl x hx=>by have:=(HMM.out l hl).2 x hx; omega)).mono ?_;rintro e w6 ⟨_,rfl,hb6,t,rfl,ht⟩;have he0:l9 (qc g choice).flatten=0:=oU fun x hx=>by
    obtain⟨l,hl,hx⟩:=List.mem_flatten.1 hx;have:=(HMM.out l hl).2 x hx;omega
   have HB6:=Ag (HBF.out.trans (hb6.mono HBF.out.size));have hmx:qx (qc g choice)=(qc g choice).map (List.map aG):=by unfold qx;rw[he0];rfl
   rw[hmx] at ht;rw[he0];have HT:=Ag (RawRowsAt.keep (G:=fun b=>w.heap.size≤b) ht (fun b h _=>by have:=HBF.out.size; omega) (Same.refl _ _));obtain⟨At,ct,e,-,-⟩:=ht;rw[List.length_map,HPL.out] at e;subst e;clear hb6 hmx he0;dsimp only;go_wp2_with fail
   go_ret2;exact⟨_,rfl,HB6.out,_,by rw[Du.out]; rfl,by rw[HU.out,if_neg (by rw[Du.out]; decide)]; exact HT.out⟩
theorem vP {g:Gm} {m:List (List Rat)} (h:dM g (m.map (List.map aG))=0):Dj (aK g) m:=by
 have hf:=kP h;obtain⟨hlen,hrows⟩:=qW (ng h);rw[List.length_map,List.length_map] at hlen;refine⟨by rw[dS,hlen],fun k s hs=>?_⟩;rcases (aaR hf).ok k s hs with h1 | ⟨h1,h2,h3,h4⟩
 ·exact .inl h1
 ·have hk:k < g.infos.length:=by have:=lt_of_get hs;rwa [dS] at this
  obtain⟨inf,hi⟩:=getSome (l:=g.infos) (k:=s.1.toNat) byOmega;obtain⟨l,hl⟩:=getSome (l:=m) (k:=s.1.toNat) byOmega;have hr:=hrows s.1.toNat inf.actions (l.map aG) (by rw[List.getElem?_map,hi]; rfl) (by rw[List.getElem?_map,hl]; rfl);have hll:=(wS hr).1;rw[List.length_map] at hll;rw[List.getD_eq_getElem?_getD,hi] at h4;refine .inr ⟨h1,h2,h3,?_⟩;rw[List.getD_eq_getElem?_getD,hl];simp only[Option.getD_some] at h4 ⊢;omega
theorem xw {m:List (List Rat)} (h:BO (m.map (List.map aG))):∀ l∈m,∀ x∈l,rl x≤4:=fun l hl x hx =>
 Nat.max_le.2 (h (l.map aG) (List.mem_map_of_mem hl) (aG x) (List.mem_map_of_mem hx))
def ofE (g:Gm) (mr:List (List Raw)):Int:=if dM g mr≠0 then dM g mr else o8 g
def xE (g:Gm) (mr:List (List Raw)):List (List Raw):=if ofE g mr≠0 then [] else (aV (aK g) (mr.map (List.map rY))).map (List.map aG)
theorem qg (m:List (List Rat)):(m.map (List.map aG)).map (List.map rY)=m:=by
 rw[List.map_map];conv=>rhs;rw[← List.map_id m]
 refine List.map_congr_left fun l _=>?_
 show(l.map aG).map rY=l;rw[List.map_map];conv=>rhs;rw[← List.map_id l]
 exact List.map_congr_left fun x _=>oJ x
theorem yw {up:List (Int×Int)} {m:List (List Rat)} (hf:Dj up m) (hm:∀ l∈m,∀ x∈l,rl x≤4) (hrl:∀ k,k≤m.length→∀ s:Int×Int,(s.1 < 0∨s.1 < (k:Int))→rl (fF (bT up m k) s)≤1+4*k) (hl:∀ l∈m,l.length≤1000) :
  ∀ l∈aV up m,l.length≤1000∧∀ x∈l,rl x≤5+4*m.length:=by
 intro l hl';obtain⟨k,hk⟩:=List.getElem?_of_mem hl';have hkm:k < m.length:=by have:=lt_of_get hk;unfold aV at this;rwa [bV] at this
 obtain⟨row,hrow⟩:=getSome (l:=m) (k:=k) hkm;obtain⟨s,hs⟩:=getSome (l:=up) (k:=k) (by rw[hf.len]; exact hkm);have e:(aV up m).getD k []=l:=by rw[List.getD_eq_getElem?_getD,hk];rfl
 have e2:m.getD k []=row:=by rw[List.getD_eq_getElem?_getD,hrow];rfl
 have e3:up.getD k (-1,-1)=s:=by rw[List.getD_eq_getElem?_getD,hs];rfl
 unfold aV at e;rw[iK hkm,e2,e3] at e;subst e;have h1:=hrl k byOmega s (by have:=hf.ok k s hs; omega);refine⟨by rw[List.length_map]; exact hl row (List.mem_of_getElem? hrow),fun x hx=>?_⟩;obtain⟨y,hy,rfl⟩:=List.mem_map.1 hx;have h2:=hm row (List.mem_of_getElem? hrow) y hy;have h3:=qj (fF (bT up m k) s) y;omega
theorem oV (g:Gm):(o8 g=0∧oQ g=aK g)∨o8 g≠0:=by
 unfold o8 oQ;split
 ·exact .inl ⟨rfl,rfl⟩
 ·exact .inr ay
section
variable {F:Foot} {w wr w':World} {bo n B1 B2 qb:Nat} {vs:List Value} {ls:List (List Raw)} {u v:Value} {L:List RV} {x:Rat} {A B:Option Addr} {c d:Nat}
theorem MkO.lay {t:TypeId} {l:List Raw} (h:MkO F w bo t n B1 vs ls wr) (hn:vs.length < n) (hv:RawsAt wr (GoF F w B1) v l) {k:Nat} (hk:vs.length=k):MkO F w bo t n B1 (vs ++ [v]) (ls ++ [l]) (wr.setCell ⟨bo,k,none⟩ v):=by
 subst hk;have h1:=h.lo; have h2:=h.hi;have hS:Same (GoF F w B1) wr (wr.setCell ⟨bo,vs.length,none⟩ v):=Same.setCell _ wr (p:=⟨bo,vs.length,none⟩) (fun e=>by
  have e:GoF F w B1 bo:=e;rcases e with e | e <;> omega) _
 refine⟨?_,(h.done.snoc hv).keep (fun _ h _=>h) hS,h.bel.setCell (p:=⟨bo,vs.length,none⟩) h.lo _,h.lo,h.hi,by simpa using h.size⟩;have:=h.row.set vs.length v;rwa [restN_set hn] at this
structure BA (F:Foot) (w:World) (bo n B1 B2 qb:Nat) (vs:List Value) (ls:List (List Raw)) (x:Rat) (A:Option Addr) (c:Nat) (B:Option Addr) (d:Nat) (u v:Value) (L:List RV) (wr:World):Prop where
 made:Mk F w bo 96 114 n B1 B2 vs ls u v L wr
 ac8:Row wr qb 114 [.bool (au x).neg,.slice A (au x).num.length c,.slice B (au x).den.length d]
 tot:NmV wr (GdF F w B1 B2) (.agg #[.bool (au x).neg,.slice A (au x).num.length c,.slice B (au x).den.length d]) x
 ne:bo < qb∧qb < B2
theorem BA.below (h:BA F w bo n B1 B2 qb vs ls x A c B d u v L wr) (hb:Below wr.heap.size wr w'):BA F w bo n B1 B2 qb vs ls x A c B d u v L w' :=
 ⟨h.made.below hb,h.ac8.below hb h.ac8.lt,h.tot.below hb,h.ne⟩
theorem BA.size (h:BA F w bo n B1 B2 qb vs ls x A c B d u v L wr):B2≤wr.heap.size:=h.made.size
theorem BA.own (h:BA F w bo n B1 B2 qb vs ls x A c B d u v L wr):OwnSl ratK wr B2 114 (GoF F w B1) v L:=h.made.own
theorem BA.cell (h:BA F w bo n B1 B2 qb vs ls x A c B d u v L wr) {k:Nat} (hk:vs.length=k):wr.cell? ⟨bo,k,none⟩=some u:=h.made.cell hk
theorem BA.frozen (h:BA F w bo n B1 B2 qb vs ls x A c B d u v L wr) (k:Nat):wr.frozen? ⟨bo,k,none⟩=false:=h.made.frozen k
theorem BA.grow {v':Value} {L':List RV} (h:BA F w bo n B1 B2 qb vs ls x A c B d u v L wr) (ho:OwnSl ratK w' B2 114 (GoF F w B1) v' L') (hs:Same (fun b=>v.ownBlock≠some b) wr w') (hb:Below B2 wr w'):BA F w bo n B1 B2 qb vs ls x A c B d u v' L' w':=by
 have hlt:=fun b (e:v.ownBlock=some b)=>(h.made.own.row.lt b e).1
 have h1:=h.made.lo;have h2:=h.made.hi;have h3:=h.made.mid;have h4:=h.ne;refine⟨h.made.grow ho hs hb,h.ac8.of_block (hs.2 qb (fun e=>by have:=hlt qb e; omega) h.ac8.lt),Ak.keep h.tot (fun _ h _=>h) (hs.mono fun b hb' e=>?_),h.ne⟩;have:=hlt b e;rcases hb' with hb' | hb' <;> omega
theorem BA.put (h:BA F w bo n B1 B2 qb vs ls x A c B d u v L wr) {k:Nat} (hk:vs.length=k):BA F w bo n B1 B2 qb vs ls x A c B d v v L (wr.setCell ⟨bo,k,none⟩ v):=by
 have h1:=h.made.lo;have h2:=h.made.hi;have h3:=h.made.mid;have h4:=h.ne;refine zbF ?_;intro hS;refine⟨h.made.put hk,h.ac8.of_block ((hS (fun b=>b=qb) fun b hb=>by omega).2 qb rfl h.ac8.lt),Ak.keep h.tot (fun _ h _=>h) (hS _ fun b hb=>?_),h.ne⟩;rcases hb with hb | hb <;> omega
end
theorem ac9 {l:List Rat} (h:jD l=0):mO l=gZ l.length:=by unfold mO; rw[if_pos h]
theorem aeC {l:List Rat} (h:jD l≠0):mO l=l.map (· / jD l):=by unfold mO; rw[if_neg h]
theorem aaW {p:List (List Rat)} {k:Nat} {l:List Rat} (h:p[k]? = some l):(eG p).take (k+1)=(eG p).take k ++ [mO l]:=by
 unfold eG;exact take_snoc (by rw[List.getElem?_map,h]; rfl)
theorem aeD (w:World) (F:Foot) (v:Value) (p:List (List Rat)) (hv:RawRowsAt w F v (p.map (List.map au))) (hl:p.length≤100) (hr:∀ l∈p,l.length≤10) (hf:∀ l∈p,∀ x∈l,rl x≤20000) (hs:∀ l∈p,∀ k,rl (jD (l.take k))≤20000) :
  Calls Tryz.prog 72 #[v] w (Ret w fun u w'=>RawRowsAt w' (Ext F w.heap.size) u ((eG p).map (List.map au))):=by
 have HV:=Ag hv;have HR:=Ag hr;have HFX:=Ag hf;have HS:=Ag hs;obtain⟨n,hn⟩:=named p.length;obtain⟨A,c,e,-,-⟩:=hv;rw[List.length_map,← hn] at e;subst e;have HN:=Ag hn;have hn100:n≤100:=byOmega;clear hr hf hs hl hn;go_in;go_wp2_with fail
 refine(abU w).mono ?_;rintro e w1 ⟨_,rfl,hb,vs,rfl,hev⟩;have HEV:=Ag (hev.keep (G:=fun b=>w.heap.size≤b) (fun b h _=>h) (Same.refl _ _));obtain⟨a0,a1,a2,a3,a4,a5,a6,a7,a8,a9,a10,rfl⟩:=afI hev.1;have hB1:=hb;clear hev hb;obtain⟨A0,C0,e0,-,-⟩:=HEV.out.2 0 a0 _ rfl rfl;obtain rfl:a0 = .slice A0 0 C0:=e0;obtain⟨A1,C1,e1,-,-⟩:=HEV.out.2 1 a1 _ rfl rfl;obtain rfl:a1 = .slice A1 1 C1:=e1;obtain⟨A2,C2,e2,-,-⟩:=HEV.out.2 2 a2 _ rfl rfl;obtain rfl:a2 = .slice A2 2 C2:=e2;obtain⟨A3,C3,e3,-,-⟩:=HEV.out.2 3 a3 _ rfl rfl;obtain rfl:a3 = .slice A3 3 C3:=e3;obtain⟨A4,C4,e4,-,-⟩:=HEV.out.2 4 a4 _ rfl rfl;obtain rfl:a4 = .slice A4 4 C4:=e4;obtain⟨A5,C5,e5,-,-⟩:=HEV.out.2 5 a5 _ rfl rfl;obtain rfl:a5 = .slice A5 5 C5:=e5;obtain⟨A6,C6,e6,-,-⟩:=HEV.out.2 6 a6 _ rfl rfl;obtain rfl:a6 = .slice A6 6 C6:=e6;obtain⟨A7,C7,e7,-,-⟩:=HEV.out.2 7 a7 _ rfl rfl;obtain rfl:a7 = .slice A7 7 C7:=e7;obtain⟨A8,C8,e8,-,-⟩:=HEV.out.2 8 a8 _ rfl rfl;obtain rfl:a8 = .slice A8 8 C8:=e8;obtain⟨A9,C9,e9,-,-⟩:=HEV.out.2 9 a9 _ rfl rfl;obtain rfl:a9 = .slice A9 9 C9:=e9;obtain⟨A10,C10,e10,-,-⟩:=HEV.out.2 10 a10 _ rfl rfl;obtain rfl:a10 = .slice A10 10 C10:=e10;dsimp only;go_upto_region 2 with(fail)
 obtain⟨W3,hW3,re,hb,hz⟩:=aO w1 171 #[.slice A0 0 C0,.slice A1 1 C1,.slice A2 2 C2,.slice A3 3 C3,.slice A4 4 C4,.slice A5 5 C5,.slice A6 6 C6,.slice A7 7 C7,.slice A8 8 C8,.slice A9 9 C9,.slice A10 10 C10];rw[← hW3];obtain⟨vs,hvl,hE,hre⟩:∃ vs:List Value,vs.length=11∧DoneRows W3 (fun b=>w.heap.size≤b∧b < W3.heap.size) vs ((List.range 11).map fun n=>(gZ n).map au)∧Row W3 w1.heap.size 171 vs:=⟨_,rfl,HEV.out.keep (fun b h hl=>⟨h,byOmega⟩) (Below.same' hb _),re⟩;have HE:=Ag hE;have HRE:=Ag hre;have HVL:=Ag hvl;have hB3:=hB1.trans (hb.mono hB1.size);obtain⟨eb,heb⟩:=named w1.heap.size;rw[← heb] at HRE ⊢;have hebW:=HRE.out.lt;have hebw:w.heap.size≤eb:=by have:=hB1.size;omega
 have HB3:=Ag hB3;have hz3:=hB3.size;clear hE hre hb hz hW3 re hB1 HEV hvl hB3 heb;go_wp2_with (at_make; refine dQ _ rfl _ _ 106 rfl 96 (.slice none 0 0) 24 Tryz.underlying106 Tryz.infoNumRow rfl n rfl rfl byOmega byOmega ?_; intro w2 hb2 hz2 hm2)
 have HM0:=Ag (MkO.begin (F:=Ext F w.heap.size) (B1:=w2.heap.size) hm2 hb2 (Nat.le_refl _) byOmega (Nat.le_refl _));obtain⟨bo,hbo⟩:=named W3.heap.size;have hbo1:W3.heap.size≤bo:=byOmega;have hbo2:bo≤W3.heap.size:=byOmega;have hb3w:=hb2.size;rw[← hbo] at HM0 ⊢;clear hm2 hb2 hz2 hbo;go_loopw [16] (fun iv wr=>∃ (k:Nat) (vs':List Value),k≤n∧iv = .int .i64 (k:Int)∧vs'.length=k∧MkO (Ext F w.heap.size) W3 bo 96 n w2.heap.size vs' (((eG p).take k).map (List.map au)) wr) (fun iv _=>n - (intOf iv).toNat)
 case atStart=>exact⟨0,[],byOmega,rfl,rfl,HM0.out⟩
 case round =>
  clear HM0;obtain⟨k,vs',hk,rfl,aje,hmk⟩:=hrel;obtain⟨wa,rfl⟩:=named wr;have HM:=Ag hmk;have CG:=Ag aje;have hB:=HB3.out.trans (hmk.bel.mono hz3);have haz:=hmk.size;have hhi:=hmk.hi;clear hmk aje;by_cases hlt:k < n
  ·obtain⟨row,hrow⟩:=getSome (l:=p) (k:=k) (by rw[← HN.out]; exact hlt);obtain⟨A',c',e,_,hxm⟩:=HV.out;rw[List.length_map,← HN.out] at e;injection e with e1 e2 e3
   subst e1;obtain⟨mb,mo,rfl,_,tH,hcm⟩:=hxm (by rw[List.length_map,← HN.out]; omega);obtain⟨vr,hvr,hra⟩:=hcm k (row.map au) (by rw[List.getElem?_map,hrow]; rfl);have AZ:=Ag hrow;have hmem:=List.mem_of_getElem? hrow;have HRV:=Ag (show RawsAt w (Old F w.heap.size) vr (row.map au) from hra.keep (fun b hb hl=>⟨hb,hl⟩) (Same.refl _ _));obtain⟨Ar,cr,rfl,-,-⟩:=hra;rw[List.length_map,Nat.mul_one] at hvr;rw[List.length_map] at HRV;have m1:=(hB.cell (p:=⟨mb,mo+k,none⟩) tH).trans hvr;have hr10:=HR.out row hmem;have HRX:=Ag (HFX.out row hmem);have HRS:=Ag (HS.out row hmem);clear hxm hcm hrow e2 e3 hvr tH hmem;go_wp2_with fail
   clear m1;refine(sum_any wa (Old F w.heap.size) _ row (HRV.out.on (Below.same' hB _)) byOmega HRX.out HRS.out).mono ?_;rintro e w4 ⟨vt,rfl,hb4,hu⟩;obtain⟨tt,htt⟩:=named (jD row);rw[← htt] at hu;have HTL:=Ag (show rl tt≤20000 by rw[htt]; have:=HRS.out row.length; rwa [List.take_of_length_le (Nat.le_refl _)] at this);have HTT:=Ag htt;obtain⟨At,ct,Bt,dt,rfl,-⟩:=hu.opened;have HU:=Ag hu;replace HM:=Ag (HM.out.below hb4);replace hB:=hB.trans (hb4.mono hB.size);have hz4:=hb4.size;clear hu htt hb4;dsimp only;go_upto_region 7 with(fail)
   obtain⟨W5,hW5,rq,hb,hzq⟩:=aO w4 114 #[.bool (au tt).neg,.slice At (au tt).num.length ct,.slice Bt (au tt).den.length dt];rw[← hW5];obtain⟨qb,hqb⟩:=named w4.heap.size;have HT5:=Ag (show NmV W5 (GdF (Ext F w.heap.size) W3 w2.heap.size W5.heap.size) _ tt from Ak.keep HU.out (fun b hb hl=>hb.elim (fun h=>.inl ⟨.inl h.1,by have:=h.2; omega⟩) fun h=>.inr ⟨byOmega,byOmega⟩) (Below.same' hb _));replace HM:=Ag (HM.out.below hb);replace hB:=hB.trans (hb.mono hB.size);rw[← hqb] at rq ⊢;have hqw:wa.heap.size≤qb:=byOmega;have hq5:qb < W5.heap.size:=byOmega;clear hb hzq hqb hW5 HU hz4;have t0:=rq.cell (i:=0) rfl;have t1:=rq.cell (i:=1) rfl;have t2:=rq.cell (i:=2) rfl;go_wp2_with fail
   clear t0 t1 t2;refine(ig W5 _ _ tt HT5.out).mono ?_;rintro e w6 ⟨_,rfl,hb6,rfl⟩;replace HM:=Ag (HM.out.below hb6);replace HT5:=Ag (Ak.below HT5.out hb6);replace rq:=rq.below hb6 rq.lt;replace hB:=hB.trans (hb6.mono hB.size);have hz6:=hb6.size;clear hb6;dsimp only;by_cases ht0:tt=0
   ·have d0:decide (tt=0)=true:=decide_eq_true ht0;have HBR:=Ag (show mO row=gZ row.length from ac9 (by rw[← HTT.out]; exact ht0));have ha11:row.length < 11:=byOmega;obtain⟨va,hva⟩:=getSome (l:=vs) (k:=row.length) (by rw[HVL.out]; exact ha11);have hbm:=HM.out.bel;have hra:=HE.out.2 row.length va ((gZ row.length).map au) hva (by rw[List.getElem?_map,List.getElem?_range ha11]; rfl);have ec:=ak (HRE.out.cell hva) hbm;have HEA:=Ag (show RawsAt w6 (GoF (Ext F w.heap.size) W3 w2.heap.size) va ((gZ row.length).map au) from RawsAt.keep hra (fun b hb _=>.inl ⟨.inr hb.1,hb.2⟩) (Below.same' hbm _));obtain⟨Ae,ce,e,-,-⟩:=hra;rw[List.length_map,show(gZ row.length).length=row.length from List.length_replicate ..] at e;subst e;have hcu:w6.cell? ⟨bo,k,none⟩=some (.slice none 0 0):=HM.out.row.cell (by rw[← CG.out]; exact restN_get (by rw[CG.out]; exact hlt));have hfz:=HM.out.row.frozen k;have hai:(row.length:Int) < 11:=byOmega;rw[d0];clear ht0 d0 hva hbm HT5 rq;go_wp2_with fail
    go_roundw
    case rel=>exact⟨k+1,vs' ++ [.slice Ae row.length ce],byOmega,by go_num,by rw[List.length_append,CG.out]; rfl,by rw[aaW AZ.out,HBR.out,List.map_append]; exact HM.out.lay (by rw[CG.out]; exact hlt) HEA.out CG.out⟩
    case measure=>simp[intOf]; omega
   ·have d0:decide (tt=0)=false:=decide_eq_false ht0;have HT0:=Ag ht0;have HBR:=Ag (show mO row=row.map (· / tt) by rw[aeC (by rw[← HTT.out]; exact ht0),← HTT.out]);have HK:=Ag (show BA (Ext F w.heap.size) W3 bo n w2.heap.size w6.heap.size qb vs' (((eG p).take k).map (List.map au)) tt At ct Bt dt (.slice none 0 0) (.slice none 0 0) [] w6 from⟨HM.out.start (by rw[CG.out]; exact hlt) _,rq,Ak.keep HT5.out (fun b hb hl=>hb.elim .inl fun h=>.inr ⟨h.1,hl⟩) (Same.refl _ _),byOmega,byOmega⟩);rw[d0];clear ht0 d0 HM HT5 rq;go_wp2_with fail
    go_loopw [34] (fun i wr=>∃ (j:Nat) (L:List RV) (u:Value),j≤row.length∧i = .int .i64 (j:Int)∧L.length=j∧L.map RV.r=((row.take j).map (· / tt)).map au∧BA (Ext F w.heap.size) W3 bo n w2.heap.size w6.heap.size qb vs' (((eG p).take k).map (List.map au)) tt At ct Bt dt u u L wr) (fun i _=>row.length - (intOf i).toNat)
    case atStart=>exact⟨0,[],_,Nat.zero_le _,rfl,rfl,rfl,HK.out⟩
    case round =>
     clear HK;obtain⟨j,L,u,hj,rfl,hLl,hLm,hmk⟩:=hrel;obtain⟨wb,rfl⟩:=named wr;by_cases hjt:j < row.length
     ·obtain⟨x,hx⟩:=getSome hjt;have HM:=Ag hmk;have HLL:=Ag hLl;have HLM:=Ag hLm;refine zbU ?_;intro HUB;have hmid:=HM.out.made.mid;have hsz0:=HM.out.size;have hqne:=HM.out.ne;have hBb:=HB3.out.trans (HM.out.made.bel.mono hz3);have hrx:=HRX.out x (List.mem_of_getElem? hx);have hra:=HRV.out.on (Below.same' hBb (Old F w.heap.size));obtain⟨rb,ro,rc,vn,vd,e,_,_,y0,y1,y2,hn,hd⟩:=RawsAt.at hra (show(row.map au)[j]? = some (au x) by rw[List.getElem?_map,hx]; rfl);injection e with e1 e2 e3
      subst e1;have HXV:=Ag (Ak.make (r:=au x) rfl hn hd);obtain⟨An,cn,rfl,-,-⟩:=hn;obtain⟨Ad,cd,rfl,-,-⟩:=hd;have HXX:=Ag hx;have hKX:=HM.out.made.bel.size;clear hmk hLl hLm hra e2 e3 hx hBb;go_upto_region 12 with(fail)
      obtain⟨W7,hW7,r7,hb,hz7⟩:=aO wb 114 #[.bool (au x).neg,.slice An (au x).num.length cn,.slice Ad (au x).den.length cd];rw[← hW7];clear hW7 y0 y1 y2;obtain⟨xb,hxb⟩:=named wb.heap.size;replace HM:=Ag (HM.out.below hb);replace HXV:=Ag (Ak.below HXV.out hb);rw[← hxb] at r7 HUB hz7 hsz0 hKX ⊢;clear hb hxb;have hcu:=HM.out.cell CG.out;have f0:=HM.out.ac8.cell (i:=0) rfl;have f1:=HM.out.ac8.cell (i:=1) rfl;have f2:=HM.out.ac8.cell (i:=2) rfl;refine zby ?_;intro x0 x1 x2;clear r7;go_wp2_with fail
      refine aX (fun w'=>w'.cell? ⟨bo,k,none⟩=some (u)∧w'.cell? ⟨qb,0,none⟩=some (.bool (au tt).neg)∧w'.cell? ⟨qb,1,none⟩=some (.slice At (au tt).num.length ct)∧w'.cell? ⟨qb,2,none⟩=some (.slice Bt (au tt).den.length dt)∧w'.cell? ⟨xb,0,none⟩=some (.bool (au x).neg)∧w'.cell? ⟨xb,1,none⟩=some (.slice An (au x).num.length cn)∧w'.cell? ⟨xb,2,none⟩=some (.slice Ad (au x).den.length cd)) 12 1 ah rfl ah ?_;have hHeld:(fun w':World=>w'.cell? ⟨bo,k,none⟩=some (u)∧w'.cell? ⟨qb,0,none⟩=some (.bool (au tt).neg)∧w'.cell? ⟨qb,1,none⟩=some (.slice At (au tt).num.length ct)∧w'.cell? ⟨qb,2,none⟩=some (.slice Bt (au tt).den.length dt)∧w'.cell? ⟨xb,0,none⟩=some (.bool (au x).neg)∧w'.cell? ⟨xb,1,none⟩=some (.slice An (au x).num.length cn)∧w'.cell? ⟨xb,2,none⟩=some (.slice Ad (au x).den.length cd)) W7.drew:=⟨hcu,f0,f1,f2,x0,x1,x2⟩;refine za3 ?_;clear hHeld HM;intro wn hwn hb hHeld hzn HM;replace HXV:=Ag (Ak.below HXV.out hb);refine zbr ?_;clear hcu f0 f1 f2 x0 x1 x2;intro hcu f0 f1 f2;intro x0 x1 x2;clear hb hwn;refine tkm [0,1,2,3,4,5,6,7] ?_;refine tk2 8 ah rfl fun K hK=>?_
      go_simp;refine(adX wn (GdF (Ext F w.heap.size) W3 w2.heap.size w6.heap.size) _ _ x tt (HXV.out.mono fun b hb _=>.inl ⟨.inl hb.1,by have:=hb.2; omega⟩) HM.out.tot hrx HTL.out HT0.out).mono ?_;rintro e wn ⟨vq,rfl,hb,hu⟩;replace HM:=Ag (HM.out.below hb);replace HXV:=Ag (Ak.below HXV.out hb);refine zbr ?_;clear hcu f0 f1 f2 x0 x1 x2;intro hcu f0 f1 f2;intro x0 x1 x2;obtain⟨pr,hpr⟩:=named (x / tt);rw[← hpr] at hu;obtain⟨A4,c4,B4,d4,rfl,jh⟩:=hu.opened;have HPR:=Ag hpr;have HFN:=Ag (RV.fine.keep (G:=fun b=>GoF (Ext F w.heap.size) W3 w2.heap.size b∧(b < w6.heap.size∨xb≤b)) jh (fun b hb _=>hb.elim (fun h=>h.elim (fun h=>⟨.inl h,.inl byOmega⟩) fun h=>⟨.inr h.1,.inl h.2⟩) fun h=>⟨.inr byOmega,.inr byOmega⟩) (Same.refl _ _));clear hu jh hpr;replace hzn:=Nat.le_trans hzn hb.size;clear hb hHeld;dsimp only;refine hK.out _ _ ⟨hcu,f0,f1,f2,x0,x1,x2⟩ (fun hHeld=>?_);clear hK K;refine Zb ?_;refine tk2 9 ah rfl fun K hK=>?_
      go_simp;refine hK.out _ _ ⟨ak hcu ((Below.refl _ _).alloc (Nat.le_refl _) _),ak f0 ((Below.refl _ _).alloc (Nat.le_refl _) _),ak f1 ((Below.refl _ _).alloc (Nat.le_refl _) _),ak f2 ((Below.refl _ _).alloc (Nat.le_refl _) _),ak x0 ((Below.refl _ _).alloc (Nat.le_refl _) _),ak x1 ((Below.refl _ _).alloc (Nat.le_refl _) _),ak x2 ((Below.refl _ _).alloc (Nat.le_refl _) _)⟩ (fun hHeld=>?_);clear hK K;refine Zb ?_;refine tk2 10 ah rfl fun K hK=>?_
      have hsz:=HM.out.size;refine kJ (K:=ratK) (F:=GoF (Ext F w.heap.size) W3 w2.heap.size) rfl _ _ 96 114 56 _ Tryz.underlying96 Tryz.infoNum1 rfl ay rfl w6.heap.size hsz u L rfl ⟨au pr,.slice A4 (au pr).num.length c4,.slice B4 (au pr).den.length d4⟩ _ rfl (by have:=HLL.out; omega) rfl HM.out.own (RV.fine.keep HFN.out (fun b hb _=>⟨hb.1,fun e=>by have:=HUB.out b e; omega⟩) (Same.refl _ _)) (Below.refl _ _) ?_;intro gg cap w5 hown5 lK zy iQ;have HM5:=Ag (HM.out.grow hown5 iQ lK);have aaI:=HM5.out.cell CG.out;have f05:=(World.cell?_of_block (iQ.2 _ (fun e=>by have:=HUB.out qb e; omega) (World.block_lt_of_cell? _ _ f0))).trans f0;have f15:=(World.cell?_of_block (iQ.2 _ (fun e=>by have:=HUB.out qb e; omega) (World.block_lt_of_cell? _ _ f1))).trans f1;have f25:=(World.cell?_of_block (iQ.2 _ (fun e=>by have:=HUB.out qb e; omega) (World.block_lt_of_cell? _ _ f2))).trans f2;have x05:=(World.cell?_of_block (iQ.2 _ (fun e=>by have:=HUB.out xb e; omega) (World.block_lt_of_cell? _ _ x0))).trans x0;have x15:=(World.cell?_of_block (iQ.2 _ (fun e=>by have:=HUB.out xb e; omega) (World.block_lt_of_cell? _ _ x1))).trans x1;have x25:=(World.cell?_of_block (iQ.2 _ (fun e=>by have:=HUB.out xb e; omega) (World.block_lt_of_cell? _ _ x2))).trans x2;have aiR:=HM5.out.frozen k;clear hown5 lK zy iQ hsz hzn HM hcu f0 f1 f2 x0 x1 x2;refine hK.out _ _ ⟨aaI,f05,f15,f25,x05,x15,x25⟩ (fun hHeld=>?_);clear hK K;refine Zb ?_;refine tkm [11] ?_;refine Zw ?_;clear hHeld;go_wp2
      refine YM ?_;go_wp2
      go_roundw
      case rel =>
       exact⟨j+1,L ++ [⟨au pr,.slice A4 (au pr).num.length c4,.slice B4 (au pr).den.length d4⟩],_,byOmega,by go_num,by rw[List.length_append,HLL.out]; rfl,by rw[List.map_append,HLM.out,take_snoc HXX.out,List.map_append,List.map_append,HPR.out]; rfl,HM5.out.put CG.out⟩
      case measure=>simp[intOf]; omega
     ·have hje:j=row.length:=byOmega;subst hje;have hmn:=hmk.made.next;rw[hLm,List.take_of_length_le (Nat.le_refl _)] at hmn;have AL:=Ag (show MkO (Ext F w.heap.size) W3 bo 96 n w2.heap.size (vs' ++ [u]) (((eG p).take (k+1)).map (List.map au)) wb by rw[aaW AZ.out,HBR.out,List.map_append]; exact hmn);clear hmk hLm hLl hmn;go_wp2
      go_roundw
      case rel=>exact⟨k+1,vs' ++ [u],byOmega,by go_num,by rw[List.length_append,CG.out]; rfl,AL.out⟩
      case measure=>simp[intOf]; omega
  ·have hke:k=n:=byOmega;subst hke;have hbl:(eG p).length=k:=by unfold eG;rw[List.length_map,HN.out]
   have hrw:=HM.out.rows (by rw[CG.out]; exact Nat.le_refl _) (G:=Ext F w.heap.size) (fun b hb=>hb.elim (fun h=>h.1) fun h=>.inr byOmega) (c:=k) (by rw[List.length_map,List.length_take]; omega);exact za9
def uO (g:Gm) (a b:List (List Raw)) (t:Raw):Int:=if dM g a≠0 then dM g a else if lD (g.infos.map Inf.actions) b≠0 then lD (g.infos.map Inf.actions) b else if fG t≠0 then fG t else o8 g
def abp (g:Gm) (a b:List (List Raw)) (t:Raw):List (List Rat):=eG (iL (aV (aK g) (a.map (List.map rY))) (aV (aK g) (b.map (List.map rY))) (1 - rY t) (rY t))
def ahI (g:Gm) (a b:List (List Raw)) (t:Raw):Int:=if uO g a b t≠0 then uO g a b t else l9 (abp g a b t).flatten
def yA (g:Gm) (a b:List (List Raw)) (t:Raw):List (List Raw):=if uO g a b t≠0 then [] else qx (abp g a b t)
theorem ajf {g:Gm} {b:List (List Raw)} (hf:bP g=0) (h:lD (g.infos.map Inf.actions) b=0):dM g b=0:=by
 unfold dM;rw[if_neg (by rw[hf]; decide),h]
theorem fV (up:List (Int×Int)) (m:List (List Rat)):(aV up m).length=m.length:=by unfold aV; rw[bV]
theorem aaX {up:List (Int×Int)} {m:List (List Rat)} {k:Nat} {l row:List Rat} (h:(aV up m)[k]? = some l) (hm:m[k]? = some row):l.length=row.length:=by
 have hk:k < m.length:=lt_of_get hm;have e:(aV up m).getD k []=l:=by rw[List.getD_eq_getElem?_getD,h];rfl
 unfold aV at e;rw[iK hk] at e;rw[← e,List.length_map,List.getD_eq_getElem?_getD,hm];rfl
theorem ab8 {g:Gm} {m:List (List Rat)} (h:dM g (m.map (List.map aG))=0) {k:Nat} {l:List Rat} (hl:m[k]? = some l):∃ inf,g.infos[k]? = some inf∧(l.length:Int)=inf.actions∧l.length≤10:=by
 have hf:=kP h;obtain⟨hlen,hrows⟩:=qW (ng h);rw[List.length_map,List.length_map] at hlen;obtain⟨inf,hi⟩:=getSome (l:=g.infos) (k:=k) (by have:=lt_of_get hl; omega);have hr:=hrows k inf.actions (l.map aG) (by rw[List.getElem?_map,hi]; rfl) (by rw[List.getElem?_map,hl]; rfl);have hll:=(wS hr).1;rw[List.length_map] at hll;obtain⟨_,h2⟩:=xk hf hi;exact⟨inf,hi,hll,byOmega⟩
theorem ab9 {g:Gm} {m:List (List Rat)} (h:dM g (m.map (List.map aG))=0):m.length=g.infos.length:=by
 have:=(qW (ng h)).1;rwa [List.length_map,List.length_map] at this
theorem af4 {g:Gm} {a b:List (List Rat)} (ha:dM g (a.map (List.map aG))=0) (hb:dM g (b.map (List.map aG))=0):(aV (aK g) b).length=(aV (aK g) a).length∧∀ (k:Nat) (l m:List Rat),(aV (aK g) a)[k]? = some l→(aV (aK g) b)[k]? = some m→l.length≤10∧m.length=l.length:=by
 refine⟨by rw[fV,fV,ab9 ha,ab9 hb],fun k l m hl hm=>?_⟩;obtain⟨r1,h1⟩:=getSome (l:=a) (k:=k) (by have:=lt_of_get hl; rwa [fV] at this);obtain⟨r2,h2⟩:=getSome (l:=b) (k:=k) (by have:=lt_of_get hm; rwa [fV] at this);obtain⟨i1,hi1,ha1,hb1⟩:=ab8 ha h1;obtain⟨i2,hi2,ha2,_⟩:=ab8 hb h2;rw[hi1] at hi2;cases hi2;rw[aaX hl h1,aaX hm h2];exact⟨hb1,byOmega⟩
theorem aj7 {f:Rat→Rat→Rat} {l m:List Rat} {x:Rat} (h:x∈List.zipWith f l m):∃ a∈l,∃ b∈m,x=f a b:=by
 obtain⟨i,hi⟩:=List.getElem?_of_mem h;rw[List.getElem?_zipWith] at hi;cases ha:l[i]? with
 | none=>rw[ha] at hi; cases m[i]? <;> simp at hi
 | some a =>
  cases hb:m[i]? with
  | none=>rw[ha,hb] at hi; simp at hi
  | some b =>
   rw[ha,hb] at hi;simp only[Option.some.injEq] at hi;exact⟨a,List.mem_of_getElem? ha,b,List.mem_of_getElem? hb,hi.symm⟩
theorem af5 {p q:List (List Rat)} {s t:Rat} {B:Nat} (hpq:∀ (k:Nat) (l m:List Rat),p[k]? = some l→q[k]? = some m→l.length≤10∧m.length=l.length) (hp:∀ l∈p,∀ x∈l,rl x≤B) (hq:∀ l∈q,∀ x∈l,rl x≤B) (hs:rl s≤B) (ht:rl t≤B) :
  ∀ l∈iL p q s t,l.length≤10∧∀ x∈l,rl x≤4*B+1:=by
 intro l hl;obtain⟨k,hk⟩:=List.getElem?_of_mem hl;unfold iL at hk;rw[List.getElem?_zipWith] at hk;cases ha:p[k]? with
 | none=>rw[ha] at hk; cases q[k]? <;> simp at hk
 | some r1 =>
  cases hb:q[k]? with
  | none=>rw[ha,hb] at hk; simp at hk
  | some r2 =>
   rw[ha,hb] at hk;simp only[Option.some.injEq] at hk;subst hk;obtain⟨h1,h2⟩:=hpq k r1 r2 ha hb;refine⟨by rw[List.length_zipWith]; omega,fun x hx=>?_⟩;obtain⟨a,ha',b,hb',rfl⟩:=aj7 hx;have e1:=hp r1 (List.mem_of_getElem? ha) a ha';have e2:=hq r2 (List.mem_of_getElem? hb) b hb';have e3:=qj a s;have e4:=qj b t;have e5:=aci (a*s) (b*t);omega
theorem uz {l:List Rat} (hl:l.length≤10) (h:∀ x∈l,rl x≤1024) (k:Nat):rl (jD (l.take k))≤20000:=by
 have h1:=acC (l.take k) (fun x hx=>h x (List.mem_of_mem_take hx));have h2:(l.take k).length≤l.length:=aF;have:=Nat.mul_le_mul_left 1025 (Nat.le_trans h2 hl);omega
theorem back_mem {p:List (List Rat)} (h:∀ l∈p,l.length≤10∧∀ x∈l,rl x≤1024):∀ l∈eG p,l.length≤10∧∀ x∈l,rl x≤30000:=by
 intro l hl;unfold eG at hl;obtain⟨r,hr,rfl⟩:=List.mem_map.1 hl;obtain⟨h1,h2⟩:=h r hr;unfold mO;split
 ·refine⟨by unfold gZ; rw[List.length_replicate]; exact h1,fun x hx=>?_⟩;rcases Nat.eq_zero_or_pos r.length with h0 | h0
  ·rw[h0] at hx;unfold gZ at hx;simp at hx
  ·have:=ac6 h0 h1 x hx;omega
 ·rename_i hz
  refine⟨by rw[List.length_map]; exact h1,fun x hx=>?_⟩;obtain⟨y,hy,rfl⟩:=List.mem_map.1 hx;have e1:=h2 y hy;have e2:=uz h1 h2 r.length;rw[List.take_of_length_le (Nat.le_refl _)] at e2;rw[Rat.div_def];have e3:=qj y (jD r)⁻¹;rw[ae0 hz] at e3;omega
theorem ahJ {t:Raw} (h:fG t=0):t=aG (rY t):=by
 obtain⟨x,rfl,_,_⟩:=xP h;rw[oJ]
theorem af6 {t:Rat} {B:Nat} (h:rl t≤B):rl (1 - t)≤B+2:=by
 rw[Rat.sub_eq_add_neg];have h1:=aci 1 (-t);rw[ah5] at h1;have h2:=sF;omega
def aeE (s t:Rat) (a b:Rat):Rat:=a*s+b*t
theorem zl {α β γ:Type} {f:α→β→γ} {l:List α} {m:List β} {k:Nat} {a:α} {b:β} (ha:l[k]? = some a) (hb:m[k]? = some b):(List.zipWith f l m)[k]? = some (f a b):=by
 rw[List.getElem?_zipWith,ha,hb]
theorem ada {p q:List (List Rat)} {s t:Rat} {k:Nat} {l m:List Rat} (hl:p[k]? = some l) (hm:q[k]? = some m):(iL p q s t).take (k+1)=(iL p q s t).take k ++ [List.zipWith (aeE s t) l m]:=by
 unfold iL;exact take_snoc (zl hl hm)
theorem ahK (args:Array Value) (w:World):(callFunc 127 args).run Tryz.prog w = .ok (.enter 127 args) w:=enters' Tryz.func127 ah ah args w
theorem af7 (w:World) (F:Foot) (vp vq:Value) (p q:List (List Rat)) (sb tb:Nat) (s t:Rat) (As Bs Au Bu:Option Addr) (cs ds cu du:Nat) (hp:RawRowsAt w F vp (p.map (List.map au))) (hq:RawRowsAt w F vq (q.map (List.map au)))
  (hs:Row w sb 114 [.bool (au s).neg,.slice As (au s).num.length cs,.slice Bs (au s).den.length ds]) (hsv:NmV w F (.agg #[.bool (au s).neg,.slice As (au s).num.length cs,.slice Bs (au s).den.length ds]) s)
  (ht:Row w tb 114 [.bool (au t).neg,.slice Au (au t).num.length cu,.slice Bu (au t).den.length du]) (htv:NmV w F (.agg #[.bool (au t).neg,.slice Au (au t).num.length cu,.slice Bu (au t).den.length du]) t)
  (hl:p.length≤100) (hlq:q.length=p.length) (hr:∀ (k:Nat) (l m:List Rat),p[k]? = some l→q[k]? = some m→l.length≤1000∧m.length=l.length) (hfp:∀ l∈p,∀ x∈l,rl x≤5000) (hfq:∀ l∈q,∀ x∈l,rl x≤5000) (hls:rl s≤5000) (hlt:rl t≤5000) :
  Calls Tryz.prog 80 #[vp,vq,.func (.func 127) #[] #[.pointer (some ⟨sb,0,none⟩),.pointer (some ⟨tb,0,none⟩)]] w (Ret w fun u w'=>RawRowsAt w' (Ext F w.heap.size) u ((iL p q s t).map (List.map au))):=by
 have HP:=Ag hp;have HQ:=Ag hq;have HR:=Ag hr;have HFP:=Ag hfp;have HFQ:=Ag hfq;have HSR:=Ag hs;have HTR:=Ag ht;have HSV:=Ag hsv.old;have HTV:=Ag htv.old;have HLS:=Ag hls;have HLT:=Ag hlt;obtain⟨n,hn⟩:=named p.length;obtain⟨A,c,e,-,-⟩:=hp;rw[List.length_map,← hn] at e;subst e;obtain⟨A',c',e,-,-⟩:=hq;rw[List.length_map,hlq,← hn] at e;subst e;have HN:=Ag hn;have HNQ:=Ag (hlq.trans hn.symm);have hn100:n≤100:=byOmega;clear hr hfp hfq hl hn hlq hs ht hsv htv hls hlt;go_in;go_wp2_with (at_make; refine dQ _ rfl _ _ 106 rfl 96 (.slice none 0 0) 24 Tryz.underlying106 Tryz.infoNumRow rfl n rfl rfl byOmega byOmega ?_; intro w2 hb2 hz2 hm2)
 have HM0:=Ag (MkO.begin (F:=F) (B1:=w2.heap.size) hm2 hb2 (Nat.le_refl _) byOmega (Nat.le_refl _));obtain⟨bo,hbo⟩:=named w.heap.size;have hbo1:w.heap.size≤bo:=byOmega;have hbo2:bo≤w.heap.size:=byOmega;have hb3w:=hb2.size;rw[← hbo] at HM0 ⊢;clear hm2 hb2 hz2 hbo;go_loopw [17] (fun iv wr=>∃ (k:Nat) (vs':List Value),k≤n∧iv = .int .i64 (k:Int)∧vs'.length=k∧MkO F w bo 96 n w2.heap.size vs' (((iL p q s t).take k).map (List.map au)) wr) (fun iv _=>n - (intOf iv).toNat)
 case atStart=>exact⟨0,[],byOmega,rfl,rfl,HM0.out⟩
 case round =>
  clear HM0;obtain⟨k,vs',hk,rfl,aje,hmk⟩:=hrel;obtain⟨wa,rfl⟩:=named wr;have HM:=Ag hmk;have HVL:=Ag aje;have hB:=hmk.bel;have haz:=hmk.size;have hhi:=hmk.hi;clear hmk aje;by_cases hlt:k < n
  ·obtain⟨row,hrow⟩:=getSome (l:=p) (k:=k) (by rw[← HN.out]; exact hlt);obtain⟨abq,hrow2⟩:=getSome (l:=q) (k:=k) (by rw[HNQ.out]; exact hlt);obtain⟨hr10,hrl⟩:=HR.out k row abq hrow hrow2;obtain⟨A'm,c'm,e,_,hxm⟩:=HP.out;rw[List.length_map,← HN.out] at e;injection e with e1 e2 e3
   subst e1;obtain⟨mb,mo,rfl,_,aks,hcm⟩:=hxm (by rw[List.length_map,← HN.out]; omega);obtain⟨vr,hvr,hra⟩:=hcm k (row.map au) (by rw[List.getElem?_map,hrow]; rfl);have HRV:=Ag (show RawsAt w (Old F w.heap.size) vr (row.map au) from hra.keep (fun b hb hl=>⟨hb,hl⟩) (Same.refl _ _));obtain⟨Ar,cr,rfl,-,-⟩:=hra;rw[List.length_map,Nat.mul_one] at hvr;rw[List.length_map] at HRV;have M10:=Ag hvr;clear hxm hcm e2 e3 hvr;obtain⟨A'g,c'g,e,_,hxm⟩:=HQ.out;rw[List.length_map,HNQ.out] at e;injection e with e1 e2 e3
   subst e1;obtain⟨gb,go,rfl,_,alu,hcm⟩:=hxm (by rw[List.length_map,HNQ.out]; omega);obtain⟨vr,hvr,hra⟩:=hcm k (abq.map au) (by rw[List.getElem?_map,hrow2]; rfl);have HRW:=Ag (show RawsAt w (Old F w.heap.size) vr (abq.map au) from hra.keep (fun b hb hl=>⟨hb,hl⟩) (Same.refl _ _));obtain⟨Aw,cw,rfl,-,-⟩:=hra;rw[List.length_map,Nat.mul_one] at hvr;rw[List.length_map] at HRW;have G10:=Ag hvr;clear hxm hcm e2 e3 hvr;have AZ:=Ag hrow;have CQ:=Ag hrow2;have HRL:=Ag hrl;have HRX:=Ag (HFP.out row (List.mem_of_getElem? hrow));have HRY:=Ag (HFQ.out abq (List.mem_of_getElem? hrow2));have m1:=(hB.cell (p:=⟨mb,mo+k,none⟩) aks).trans M10.out;clear hrow hrow2 hrl aks;have HK:=Ag (HM.out.start (by rw[HVL.out]; exact hlt) 114);clear HM;go_wp2_with fail
   clear m1;go_loopw [24] (fun i wr=>∃ (j:Nat) (L:List RV) (u:Value),j≤row.length∧i = .int .i64 (j:Int)∧L.length=j∧L.map RV.r=((List.zipWith (aeE s t) row abq).take j).map au∧Mk F w bo 96 114 n w2.heap.size wa.heap.size vs' (((iL p q s t).take k).map (List.map au)) u u L wr) (fun i _=>row.length - (intOf i).toNat)
   case atStart=>exact⟨0,[],_,Nat.zero_le _,rfl,rfl,rfl,HK.out⟩
   case round =>
    clear HK;obtain⟨j,L,u,hj,rfl,hLl,hLm,hmk⟩:=hrel;obtain⟨wb,rfl⟩:=named wr;by_cases hjt:j < row.length
    ·obtain⟨x,hx⟩:=getSome hjt;obtain⟨y,hy⟩:=getSome (l:=abq) (k:=j) (by rw[HRL.out]; exact hjt);have HM:=Ag hmk;have HLL:=Ag hLl;have HLM:=Ag hLm;refine zbU ?_;intro HUB;have hmid:=HM.out.mid;have hsz0:=HM.out.size;have hBb:=HM.out.bel;have HXL:=Ag (HRX.out x (List.mem_of_getElem? hx));have HYL:=Ag (HRY.out y (List.mem_of_getElem? hy));obtain⟨rb,ro,rc,vn,vd,e,_,_,x0,x1,x2,hn,hd⟩:=RawsAt.at (HRV.out.on (Below.same' hBb (Old F w.heap.size))) (show(row.map au)[j]? = some (au x) by rw[List.getElem?_map,hx]; rfl);injection e with e1 e2 e3
     subst e1;have HXV:=Ag (Ak.make (r:=au x) rfl hn hd);obtain⟨An,cn,rfl,-,-⟩:=hn;obtain⟨Ad,cd,rfl,-,-⟩:=hd;obtain⟨zb,zo,zc,vn,vd,e,hzF,_,z0,z1,z2,hn,hd⟩:=RawsAt.at (HRW.out.on (Below.same' hBb (Old F w.heap.size))) (show(abq.map au)[j]? = some (au y) by rw[List.getElem?_map,hy]; rfl);injection e with e1 e4 e5
     subst e1;have HYV:=Ag (Ak.make (r:=au y) rfl hn hd);obtain⟨Am,cm,rfl,-,-⟩:=hn;obtain⟨Ae,ce,rfl,-,-⟩:=hd;have hzl:=hzF.2;have g1:=(hBb.cell (p:=⟨gb,go+k,none⟩) alu).trans G10.out;rw[HRL.out] at g1;have HZZ:=Ag (zl (f:=aeE s t) hx hy);have hKX:=hBb.size;have hjr:(j:Int) < row.length:=byOmega;clear hmk hLl hLm e2 e3 e4 e5 hx hy hzF;go_upto_region 8 with(fail)
     obtain⟨W7,hW7,r7,hb,hz7⟩:=aO wb 114 #[.bool (au x).neg,.slice An (au x).num.length cn,.slice Ad (au x).den.length cd];rw[← hW7];clear hW7 x0 x1 x2;obtain⟨xb,hxb⟩:=named wb.heap.size;replace HM:=Ag (HM.out.below hb);replace HXV:=Ag (Ak.below HXV.out hb);replace HYV:=Ag (Ak.below HYV.out hb);replace z0:=ak z0 hb;replace z1:=ak z1 hb;replace z2:=ak z2 hb;replace g1:=ak g1 hb;have HBW:=Ag (hBb.trans (hb.mono hKX));rw[← hxb] at r7 HUB hz7 hsz0 hKX ⊢;clear hb hxb hBb;have hcu:=HM.out.cell HVL.out;refine zby ?_;intro x0 x1 x2;have hen:=ahK;clear r7;go_wp2_with fail
     refine aX (fun w'=>w'.cell? ⟨bo,k,none⟩=some (u)∧w'.cell? ⟨xb,0,none⟩=some (.bool (au x).neg)∧w'.cell? ⟨xb,1,none⟩=some (.slice An (au x).num.length cn)∧w'.cell? ⟨xb,2,none⟩=some (.slice Ad (au x).den.length cd)∧w'.cell? ⟨gb,go+k,none⟩=some (.slice (some ⟨zb,zo,none⟩) row.length cw)∧w'.cell? ⟨zb,zo+j*3,none⟩=some (.bool (au y).neg)∧w'.cell? ⟨zb,zo+j*3+1,none⟩=some (.slice Am (au y).num.length cm)∧w'.cell? ⟨zb,zo+j*3+2,none⟩=some (.slice Ae (au y).den.length ce)) 19 1 ah rfl ah ?_;have hHeld:(fun w':World=>w'.cell? ⟨bo,k,none⟩=some (u)∧w'.cell? ⟨xb,0,none⟩=some (.bool (au x).neg)∧w'.cell? ⟨xb,1,none⟩=some (.slice An (au x).num.length cn)∧w'.cell? ⟨xb,2,none⟩=some (.slice Ad (au x).den.length cd)∧w'.cell? ⟨gb,go+k,none⟩=some (.slice (some ⟨zb,zo,none⟩) row.length cw)∧w'.cell? ⟨zb,zo+j*3,none⟩=some (.bool (au y).neg)∧w'.cell? ⟨zb,zo+j*3+1,none⟩=some (.slice Am (au y).num.length cm)∧w'.cell? ⟨zb,zo+j*3+2,none⟩=some (.slice Ae (au y).den.length ce)) W7.drew:=⟨hcu,x0,x1,x2,g1,z0,z1,z2⟩;refine za3 ?_;clear hHeld HM;intro wn hwn hb hHeld hzn HM;replace HXV:=Ag (Ak.below HXV.out hb);replace HYV:=Ag (Ak.below HYV.out hb);replace hcu:=ak hcu hb;refine Yg ?_;clear x0 x1 x2;intro x0 x1 x2;replace g1:=ak g1 hb;replace z0:=ak z0 hb;replace z1:=ak z1 hb;replace z2:=ak z2 hb;clear hb hwn;refine tkm [0,1,2,3,4,5,6,7,8,9,10,11,12,13,14] ?_;refine tk2 15 ah rfl fun K hK=>?_
     go_simp;refine(afw wn (Old F w.heap.size) _ _ sb tb x y s t As Bs Au Bu cs ds cu du HXV.out HYV.out (HSR.out.below HM.out.bel HSR.out.lt) (HSV.out.on (Below.same' HM.out.bel _)) (HTR.out.below HM.out.bel HTR.out.lt) (HTV.out.on (Below.same' HM.out.bel _)) HXL.out HYL.out HLS.out HLT.out).mono ?_;rintro e wn ⟨vq,rfl,hb,hu⟩;replace HM:=Ag (HM.out.below hb);replace HXV:=Ag (Ak.below HXV.out hb);replace HYV:=Ag (Ak.below HYV.out hb);replace hcu:=ak hcu hb;refine Yg ?_;clear x0 x1 x2;intro x0 x1 x2;replace g1:=ak g1 hb;replace z0:=ak z0 hb;replace z1:=ak z1 hb;replace z2:=ak z2 hb;obtain⟨pr,hpr⟩:∃ y',y'=aeE s t x y:=⟨_,rfl⟩;rw[show x*s+y*t=aeE s t x y from rfl,← hpr] at hu;obtain⟨A4,c4,B4,d4,rfl,jh⟩:=hu.opened;have HPR:=Ag hpr;have HFN:=Ag (RV.fine.keep (G:=fun b=>GoF F w w2.heap.size b∧(b < w.heap.size∨xb≤b)) jh (fun b hb _=>hb.elim (fun h=>⟨.inl h,.inl h.2⟩) fun h=>⟨.inr byOmega,.inr byOmega⟩) (Same.refl _ _));clear hu jh hpr;replace hzn:=Nat.le_trans hzn hb.size;clear hb hHeld;dsimp only;refine hK.out _ _ ⟨hcu,x0,x1,x2,g1,z0,z1,z2⟩ (fun hHeld=>?_);clear hK K;refine Zb ?_;refine tk2 16 ah rfl fun K hK=>?_
     go_simp;refine hK.out _ _ ⟨ak hcu ((Below.refl _ _).alloc (Nat.le_refl _) _),ak x0 ((Below.refl _ _).alloc (Nat.le_refl _) _),ak x1 ((Below.refl _ _).alloc (Nat.le_refl _) _),ak x2 ((Below.refl _ _).alloc (Nat.le_refl _) _),ak g1 ((Below.refl _ _).alloc (Nat.le_refl _) _),ak z0 ((Below.refl _ _).alloc (Nat.le_refl _) _),ak z1 ((Below.refl _ _).alloc (Nat.le_refl _) _),ak z2 ((Below.refl _ _).alloc (Nat.le_refl _) _)⟩ (fun hHeld=>?_);clear hK K;refine Zb ?_;refine tk2 17 ah rfl fun K hK=>?_
     have hsz:=HM.out.size;refine kJ (K:=ratK) (F:=GoF F w w2.heap.size) rfl _ _ 96 114 56 _ Tryz.underlying96 Tryz.infoNum1 rfl ay rfl wa.heap.size hsz u L rfl ⟨au pr,.slice A4 (au pr).num.length c4,.slice B4 (au pr).den.length d4⟩ _ rfl (by have:=HLL.out; omega) rfl HM.out.own (RV.fine.keep HFN.out (fun b hb _=>⟨hb.1,fun e=>by have:=HUB.out b e; omega⟩) (Same.refl _ _)) (Below.refl _ _) ?_;intro gg cap w5 hown5 lK zy iQ;have HM5:=Ag (HM.out.grow hown5 iQ lK);have aaI:=HM5.out.cell HVL.out;have x05:=(World.cell?_of_block (iQ.2 _ (fun e=>by have:=HUB.out xb e; omega) (World.block_lt_of_cell? _ _ x0))).trans x0;have x15:=(World.cell?_of_block (iQ.2 _ (fun e=>by have:=HUB.out xb e; omega) (World.block_lt_of_cell? _ _ x1))).trans x1;have x25:=(World.cell?_of_block (iQ.2 _ (fun e=>by have:=HUB.out xb e; omega) (World.block_lt_of_cell? _ _ x2))).trans x2;have g15:=(World.cell?_of_block (iQ.2 _ (fun e=>by have:=HUB.out gb e; omega) (World.block_lt_of_cell? _ _ g1))).trans g1;have z05:=(World.cell?_of_block (iQ.2 _ (fun e=>by have:=HUB.out zb e; omega) (World.block_lt_of_cell? _ _ z0))).trans z0;have z15:=(World.cell?_of_block (iQ.2 _ (fun e=>by have:=HUB.out zb e; omega) (World.block_lt_of_cell? _ _ z1))).trans z1;have z25:=(World.cell?_of_block (iQ.2 _ (fun e=>by have:=HUB.out zb e; omega) (World.block_lt_of_cell? _ _ z2))).trans z2;have aiR:=HM5.out.frozen k;clear hown5 lK zy iQ hsz hzn HM hcu x0 x1 x2 g1 z0 z1 z2;refine hK.out _ _ ⟨aaI,x05,x15,x25,g15,z05,z15,z25⟩ (fun hHeld=>?_);clear hK K;refine Zb ?_;refine tkm [18] ?_;refine Zw ?_;clear hHeld;go_wp2
     refine YM ?_;go_wp2
     go_roundw
     case rel =>
      exact⟨j+1,L ++ [⟨au pr,.slice A4 (au pr).num.length c4,.slice B4 (au pr).den.length d4⟩],_,byOmega,by go_num,by rw[List.length_append,HLL.out]; rfl,by rw[List.map_append,HLM.out,take_snoc HZZ.out,List.map_append,HPR.out]; rfl,HM5.out.put HVL.out⟩
     case measure=>simp[intOf]; omega
    ·have hje:j=row.length:=byOmega;subst hje;have hmn:=hmk.next;have hzl:(List.zipWith (aeE s t) row abq).length=row.length:=by rw[List.length_zipWith,HRL.out,Nat.min_self]
     have htk:(List.zipWith (aeE s t) row abq).take row.length=List.zipWith (aeE s t) row abq:=List.take_of_length_le byOmega;rw[hLm,htk] at hmn;have AL:=Ag (show MkO F w bo 96 n w2.heap.size (vs' ++ [u]) (((iL p q s t).take (k+1)).map (List.map au)) wb by rw[ada AZ.out CQ.out,List.map_append]; exact hmn);clear hmk hLm hLl hmn hzl htk;go_wp2
     go_roundw
     case rel=>exact⟨k+1,vs' ++ [u],byOmega,by go_num,by rw[List.length_append,HVL.out]; rfl,AL.out⟩
     case measure=>simp[intOf]; omega
  ·have hke:k=n:=byOmega;subst hke;have hbl:(iL p q s t).length=k:=by unfold iL;rw[List.length_zipWith,HNQ.out,← HN.out,Nat.min_self]
   have hrw:=HM.out.rows (by rw[HVL.out]; exact Nat.le_refl _) (G:=Ext F w.heap.size) (fun b hb=>hb.imp (fun h=>h.1) id) (c:=k) (by rw[List.length_map,List.length_take]; omega);exact za9
end Go.Proofs.YtnmeejofpkhlkaaGreatDoor
