/- parlourkit.Mod, Draws.Next: numbers drawn from a list. -/
import Derived.Test.YtnmeejofpkhlkaaGreatDoorR22
import Derived.Test.YtnmeejofpkhlkaaGreatDoorR27
set_option linter.all false
set_option maxRecDepth 100000
set_option maxHeartbeats 12800000
namespace Go.Proofs.YtnmeejofpkhlkaaGreatDoor
open Lib renaming hid → Ag
open List renaming getElem_toArray → lq1, getElem_cons_zero → lq2, getElem_cons_succ → lq3, setIfInBounds_toArray → lq4, set_cons_zero → lq5, set_cons_succ → lq6
open Go.RowKit
theorem aiS (x n:Int) (hn:0 < n):(if x.tmod n < 0 then x.tmod n+n else x.tmod n)=x % n:=by
 have h2:=Int.emod_nonneg x (by omega:n≠0);have h3:=Int.emod_lt_of_pos x hn;have h5:=Int.lt_tmod_of_pos x hn;have h6:x.tmod n < n:=Int.tmod_lt_of_pos x hn;have h7:n ∣ x - x.tmod n:=Int.dvd_self_sub_tmod;have h8:n ∣ x - x % n:=Int.dvd_self_sub_emod;have h9:n ∣ x % n - x.tmod n:=by
  have:=Int.dvd_sub h7 h8;rwa [show x - x.tmod n - (x - x % n)=x % n - x.tmod n by omega] at this
 obtain⟨k,hk⟩:=h9;have hkk:k=0∨k=1:=by
  rcases Int.lt_trichotomy k 0 with h | h | h
  ·exfalso
   have:n*k≤n*(-1):=Int.mul_le_mul_of_nonneg_left byOmega byOmega;omega
  ·exact .inl h
  ·by_cases h1:k=1
   ·exact .inr h1
   ·exfalso
    have:n*2≤n*k:=Int.mul_le_mul_of_nonneg_left byOmega byOmega;omega
 rcases hkk with rfl | rfl
 ·rw[if_neg byOmega];omega
 ·by_cases h:x.tmod n < 0
  ·rw[if_pos h];omega
  ·exfalso; omega
theorem agA (w:World) (x n:Int) (hn:0 < n) (hn2:n≤1000000):Calls Tryz.prog 9 #[.int .i64 x,.int .i64 n] w fun e w'=>e = .returned (.int .i64 (x % n))∧w=w':=by
 have HE:=Ag (aiS x n hn);have h5:=Int.lt_tmod_of_pos x hn;have h6:x.tmod n < n:=Int.tmod_lt_of_pos x hn;have hn0:n≠0:=byOmega;by_cases h:x.tmod n < 0
 ·have d:decide (x.tmod n < 0)=true:=decide_eq_true h;have hw2:IntKind.i64.wrap (x.tmod n+n)=x.tmod n+n:=IntWalk.i64_in _ byOmega;have HF:=Ag (show x.tmod n+n=x % n by have:=HE.out; rw[if_pos h] at this; exact this);have HW:=Ag hw2;go_in;go_wp2
  go_ret;exact⟨by rw[← HF.out]; simp[HW.out],rfl⟩
 ·have d:decide (x.tmod n < 0)=false:=decide_eq_false h;have HF:=Ag (show x.tmod n=x % n by have:=HE.out; rw[if_neg h] at this; exact this);go_in;go_wp2
  go_ret;exact⟨by rw[← HF.out]; simp,rfl⟩
def dw (L:List Int) (a:Nat) (n:Int):Int:=if L.length≤a then 0 else L.getD a 0 % n
def cZ (L:List Int) (a:Nat):Nat:=if L.length≤a then a else a+1
theorem iw (L:List Int) (a:Nat) {n:Int} (hn:1≤n):0≤dw L a n∧dw L a n < n:=by
 unfold dw;split
 ·omega
 ·exact⟨Int.emod_nonneg _ byOmega,Int.emod_lt_of_pos _ byOmega⟩
theorem sO {L:List Int} {a:Nat} (h:a≤L.length):cZ L a≤L.length:=by
 unfold cZ;split <;> omega
theorem next_any (w:World) (F:Foot) (db:Nat) (A:Option Addr) (c:Nat) (L:List Int) (a:Nat) (n:Int) (hr:Row w db 34 [.slice A L.length c,.int .i64 (a:Int)]) (hL:AA w F (.slice A L.length c) L) (hF:¬ F db) (hn:1≤n) (hn2:n≤1000) (hl:L.length≤9223372036854775807) :
  Calls Tryz.prog 36 #[.pointer (some ⟨db,0,none⟩),.int .i64 n] w fun e w'=>e = .returned (.int .i64 (dw L a n))∧Row w' db 34 [.slice A L.length c,.int .i64 (cZ L a:Int)]∧Wrote (fun b=>b=db) w w':=by
 have x0:=hr.cell (i:=0) rfl;have x1:=hr.cell (i:=1) rfl;by_cases h:L.length≤a
 ·have t1:decide (L.length≤a)=true:=decide_eq_true h;have HV:=Ag (show dw L a n=0 by unfold dw; rw[if_pos h]);have HA:=Ag (show cZ L a=a by unfold cZ; rw[if_pos h]);have HR:=Ag hr;clear hL h hr;go_in;go_wp2
  go_quiet (fail)
  go_wp2
  go_ret;exact⟨by rw[HV.out]; rfl,by rw[HA.out]; exact HR.out.dN _,(Wrote.refl _ _).dN _⟩
 ·have t1:decide (L.length≤a)=false:=decide_eq_false h;have t2:decide (n < 1)=false:=decide_eq_false byOmega;obtain⟨x,hx⟩:=getSome (l:=L) (k:=a) byOmega;have HV:=Ag (show dw L a n=x % n by unfold dw; rw[if_neg h,List.getD_eq_getElem?_getD,hx]; rfl);have HA:=Ag (show cZ L a=a+1 by unfold cZ; rw[if_neg h]);obtain⟨A',c',he,_,hcell⟩:=hL;simp only[Value.slice.injEq] at he;obtain⟨rfl,_,rfl⟩:=he;obtain⟨b,o,rfl,hFb,hbl,hc⟩:=hcell byOmega;have e1:=hc a x hx;unfold o7 at e1;rw[Nat.mul_one] at e1;have hne:b≠db:=fun e=>hF (e▸hFb)
  have hlt:a < L.length:=byOmega;have hw1:IntKind.i64.wrap ((a:Int)+1)=(a:Int)+1:=IntWalk.i64_in _ byOmega;have hw2:IntKind.i64.wrap ((a:Int)+1 - 1)=(a:Int):=by rw[Int.add_sub_cancel];exact IntWalk.i64_in _ byOmega
  have hw3:IntKind.i64.wrap (a:Int)=(a:Int):=IntWalk.i64_in _ byOmega;have HR:=Ag hr;clear hc hcell hx h hr;go_in;go_wp2
  go_quiet (fail)
  obtain⟨W0,hW0⟩:=named (w.drewN nq);have hr0:Row W0 db 34 [.slice (some ⟨b,o,none⟩) L.length c,.int .i64 (a:Int)]:=by rw[hW0];exact HR.out.dN _
  have hwr:Wrote (fun b=>b=db) w W0:=by rw[hW0];exact(Wrote.refl _ _).dN _
  rw[← hW0];have y0:=hr0.cell (i:=0) rfl;have y1:=hr0.cell (i:=1) rfl;have f1:=hr0.frozen 1;have e2:W0.cell? ⟨b,o+a,none⟩=some (.int .i64 x):=(hwr.cell b _ hbl (fun e=>hne e)).trans e1;clear hW0 x0 x1 e1;go_wp2_with fail
  obtain⟨W1,hW1⟩:=named (W0.setCell ⟨db,1,none⟩ (.int .i64 ((a:Int)+1)));rw[← hW1];have hr1:Row W1 db 34 [.slice (some ⟨b,o,none⟩) L.length c,.int .i64 ((a:Int)+1)]:=ste hW1 hr0;have hwr1:Wrote (fun b=>b=db) w W1:=by rw[hW1];exact hwr.setCell (.inl rfl) _
  have z0:=hr1.cell (i:=0) rfl;have z1:=hr1.cell (i:=1) rfl;have e3:W1.cell? ⟨b,o+a,none⟩=some (.int .i64 x):=by rw[hW1];exact(World.cell?_of_block (Below.heap_setCell _ _ _ _ hne)).trans e2
  have HR1:=Ag hr1;have HW1:=Ag hwr1;clear hW1 hr0 hwr y0 y1 f1 e2 hr1 hwr1 hw1;refine wp_region_held_drew (S:=fun w'=>w'.cell? ⟨db,0,none⟩=some (.slice (some ⟨b,o,none⟩) L.length c)∧w'.cell? ⟨db,1,none⟩=some (.int .i64 ((a:Int)+1))∧w'.cell? ⟨b,o+a,none⟩=some (.int .i64 x)) ah ⟨z0,z1,e3⟩ (fun hHeld=>?_);obtain⟨W2,hW2⟩:=named W1.drew;replace HR1:=Ag (show Row W2 db _ _ from hW2▸HR1.out.drew);replace HW1:=Ag (show Wrote _ w W2 from hW2▸HW1.out.drew);have z0':W2.cell? ⟨db,0,none⟩=some (.slice (some ⟨b,o,none⟩) L.length c):=hW2▸z0;have z1':W2.cell? ⟨db,1,none⟩=some (.int .i64 ((a:Int)+1)):=hW2▸z1;have e3':W2.cell? ⟨b,o+a,none⟩=some (.int .i64 x):=hW2▸e3;rw[← hW2] at hHeld ⊢;clear hW2 z0 z1 e3;refine tkm [0,1,2,3,4,5,6,7,8,9,10,11] ?_;refine tk2 12 ah rfl fun K hK=>?_
  go_simp;refine(agA W2 x n byOmega byOmega).mono ?_;rintro e w' ⟨rfl,rfl⟩;clear hHeld;refine hK.out _ _ ⟨z0',z1',e3'⟩ (fun hHeld=>?_);clear hK K;refine Zb ?_;refine tkm [13] ?_;refine Yp ?_;clear hHeld;go_wp2
  go_ret;exact⟨by rw[HV.out]; rfl,by rw[HA.out]; exact HR1.out,HW1.out⟩
structure Place where
 aC:Int
 many:Int
 seen:Int
 deriving Inhabited
structure View where
 aC:Int
 level:Int
 seen:List Int
 info:Int
structure MC where
 L:List Int
 levels:List Place
 aA:Int
 most:Int
 zero:Bool
structure MS where
 at':Nat
 views:List View
 pending:Int
 nodes:List Nd
 infos:List Inf
def jE:Nd:=⟨0,0,0,[],[],[]⟩
def MS.draw (C:MC) (s:MS) (n:Int):Int×MS:=(dw C.L s.at' n,{ s with at':=cZ C.L s.at' })
def gI (C:MC):Nat→MS→List Int×MS
 | 0,s=>([],s)
 | k+1,s=>let r:=gI C k s; let d:=r.2.draw C 7; (r.1 ++ [d.1 - 3],d.2)
def lM (C:MC) (l:List Int):List Int:=if C.zero=true∧C.aA=2 then l.set 1 (-(l.getD 0 0)) else l
def ny (C:MC) (i:Nat) (s:MS):MS:=let r:=gI C C.aA.toNat s; { r.2 with nodes:=r.2.nodes.set i ⟨3,0,0,[],[],lM C r.1⟩ }
def dH (aC level:Int) (seen:List Int) (v:View):Bool:=decide (v.aC=aC)&&decide (v.level=level)&&decide (v.seen=seen)
def jB (C:MC) (aC level:Int) (seen:List Int) (s:MS):Int×MS :=
 match s.views.find? (dH aC level seen) with
 | some v=>(v.info,s)
 | none =>
  let s1:MS:={ s with views:=s.views ++ [⟨aC,level,seen,s.infos.length⟩] }
  let d:=s1.draw C 3
  ((s.infos.length:Int),{ d.2 with infos:=s.infos ++ [⟨aC,1+d.1⟩] })
def jI (info:Int) (n:Nd):Bool:=decide (n.kind=2)&&decide (n.info=info)
def jR (info aC:Int) (s:MS):MS :=
 if aC < 0∨info≠(s.infos.length:Int) - 1 then s
 else if s.nodes.any (jI info) then s
 else { s with infos:=s.infos.take info.toNat,views:=s.views.dropLast }
def gV (p:Place) (i:Nat) (seen:List (List Int)):List (List Int) :=
 seen.mapIdx fun q l=>l ++ [if (q:Int)=p.aC∨(p.seen.toNat >>> q) % 2=1 then (i:Int) else -1]
structure KS where
 weights:List Int
 next:List Int
 s:MS
def dA (C:MC) (rec:List (List Int)→MS→Nat×MS) (p:Place) (seen:List (List Int)):Nat→MS→KS
 | 0,s=>⟨[],[],s⟩
 | k+1,s =>
  let r:=dA C rec p seen k s
  let d:=if p.aC < 0 then (r.weights ++ [1+(r.s.draw C 3).1],(r.s.draw C 3).2) else (r.weights,r.s)
  let c:=rec (gV p k seen) d.2
  ⟨d.1,r.next ++ [(c.1:Int)],c.2⟩
def kQ (C:MC) (p:Place) (level:Int) (seen:List (List Int)) (s:MS):Int×Int×MS :=
 if p.aC < 0 then (0,p.many,s)
 else
  let r:=jB C p.aC level (seen.getD p.aC.toNat []) s
  (r.1,(r.2.infos.getD r.1.toNat default).actions,r.2)
def iV (p:Place) (info:Int) (weights next:List Int):Nd:=if p.aC < 0 then ⟨1,0,0,next,weights,[]⟩ else ⟨2,p.aC,info,next,weights,[]⟩
def bQ (C:MC):Nat→Nat→List (List Int)→MS→Nat×MS
 | 0,_,_,s=>(s.nodes.length,s)
 | f+1,level,seen,s =>
  let i:=s.nodes.length
  let s1:MS:={ s with pending:=s.pending - 1,nodes:=s.nodes ++ [jE] }
  if level=C.levels.length then (i,ny C i s1)
  else
   let d:=s1.draw C 8
   if d.1=1 then (i,ny C i d.2)
   else
    let p:=C.levels.getD level default
    let o:=kQ C p level seen d.2
    if C.most < (i:Int)+1+o.2.2.pending+o.2.1 then (i,ny C i (jR o.1 p.aC o.2.2))
    else
     let s4:MS:={ o.2.2 with pending:=o.2.2.pending+o.2.1 }
     let r:=dA C (bQ C f (level+1)) p seen o.2.1.toNat s4
     (i,{ r.s with nodes:=r.s.nodes.set i (iV p o.1 r.weights r.next) })
def dR (L:List Int) (aA:Int):Nat→Nat→List Place×Nat
 | 0,a=>([],a)
 | k+1,a =>
  let r:=dR L aA k a
  (r.1 ++ [⟨dw L r.2 (aA+1) - 1,2+dw L (cZ L r.2) 2,dw L (cZ L (cZ L r.2)) 16⟩],cZ L (cZ L (cZ L r.2)))
def pW (L:List Int) (aA most:Int) (zero:Bool):Gm :=
 let n:=(1+dw L 0 5).toNat
 let r:=dR L aA n (cZ L 0)
 let C:MC:=⟨L,r.1,aA,most,zero⟩
 let s:=(bQ C (n+1) 0 (List.replicate aA.toNat []) ⟨r.2,[],1,[],[]⟩).2
 ⟨aA,s.nodes,s.infos⟩
structure JM (C:MC) (d:Nat) (s:MS):Prop where
 vl:s.views.length=s.infos.length
 vi:∀ (i:Nat) (v:View),s.views[i]? = some v→v.info=(i:Int)
 il:s.infos.length+d≤s.nodes.length
 np:(s.nodes.length:Int)+s.pending≤C.most
 p0:0≤s.pending
 vs:∀ v∈s.views,v.seen.length≤100
 ac:∀ x∈s.infos,1≤x.actions∧x.actions≤3
theorem vG (C:MC) (s:MS):∀ k,∃ a,(gI C k s).2 = { s with at':=a }
 | 0=>⟨s.at',rfl⟩
 | k+1=>by
  obtain⟨a,h⟩:=vG C s k;refine⟨cZ C.L a,?_⟩;have e:(gI C (k+1) s).2=((gI C k s).2.draw C 7).2:=rfl;rw[e,h]; rfl
theorem abV (C:MC) (i:Nat) (s:MS):∃ a n,ny C i s = { s with at':=a,nodes:=s.nodes.set i n }:=by
 obtain⟨a,h⟩:=vG C s C.aA.toNat;refine⟨a,⟨3,0,0,[],[],lM C (gI C C.aA.toNat s).1⟩,?_⟩;unfold ny;simp only[h]
theorem JM.at {C:MC} {d:Nat} {s:MS} (h:JM C d s) (a:Nat):JM C d { s with at':=a }:=⟨h.vl,h.vi,h.il,h.np,h.p0,h.vs,h.ac⟩
theorem JM.less {C:MC} {d:Nat} {s:MS} (h:JM C d s):JM C 0 s:=⟨h.vl,h.vi,by have:=h.il; omega,h.np,h.p0,h.vs,h.ac⟩
theorem JM.node {C:MC} {d:Nat} {s:MS} (h:JM C d s) (i:Nat) (n:Nd):JM C d { s with nodes:=s.nodes.set i n }:=⟨h.vl,h.vi,by have:=h.il; simpa using this,by have:=h.np; simpa using this,h.p0,h.vs,h.ac⟩
theorem JM.ny {C:MC} {d:Nat} {s:MS} (h:JM C d s) (i:Nat):JM C d (ny C i s)∧(ny C i s).pending=s.pending∧(ny C i s).nodes.length=s.nodes.length:=by
 obtain⟨a,n,e⟩:=abV C i s;rw[e];exact⟨(h.node i n).at a,rfl,aB⟩
theorem JM.push {C:MC} {s:MS} (h:JM C 0 s) (hp:1≤s.pending):JM C 1 { s with pending:=s.pending - 1,nodes:=s.nodes ++ [jE] }:=⟨h.vl,h.vi,by have:=h.il; simp; omega,by have:=h.np; simp; omega,by show 0≤s.pending - 1; omega,h.vs,h.ac⟩
theorem JM.find {C:MC} {s:MS} (h:JM C 1 s) (aC level:Int) (seen:List Int) (hs:seen.length≤100) :
  JM C 0 (jB C aC level seen s).2∧(jB C aC level seen s).2.pending=s.pending∧(jB C aC level seen s).2.nodes=s.nodes∧0≤(jB C aC level seen s).1∧(jB C aC level seen s).1 < ((jB C aC level seen s).2.infos.length:Int):=by
 unfold jB;cases hf:s.views.find? (dH aC level seen) with
 | some v =>
  simp only;refine⟨h.less,trivial,trivial,?_⟩;have hm:=List.mem_of_find?_eq_some hf;obtain⟨i,hi,e⟩:=List.mem_iff_getElem.1 hm;have:=h.vi i v (by rw[← e]; exact List.getElem?_eq_getElem hi);have:=h.vl;omega
 | none =>
  simp only;have hd:=iw C.L s.at' (n:=3) ay;refine⟨⟨?_,?_,?_,h.np,h.p0,?_,?_⟩,rfl,rfl,byOmega,?_⟩
  ·have:=h.vl;simp[MS.draw,this]
  ·intro i v hv;have hv:(s.views ++ [⟨aC,level,seen,(s.infos.length:Int)⟩])[i]? = some v:=hv;rcases Nat.lt_trichotomy i s.views.length with hl | hl | hl
   ·rw[List.getElem?_append_left hl] at hv;exact h.vi i v hv
   ·subst hl;rw[List.getElem?_append_right (Nat.le_refl _),Nat.sub_self] at hv;simp at hv;subst hv;simp[h.vl]
   ·rw[List.getElem?_append_right byOmega] at hv;have:1≤i - s.views.length:=byOmega;rw[List.getElem?_eq_none (by simpa using this)] at hv;cases hv
  ·have:=h.il;simp[MS.draw];omega
  ·intro v hv;have hv:v∈s.views ++ [⟨aC,level,seen,(s.infos.length:Int)⟩]:=hv;rcases List.mem_append.1 hv with hv | hv
   ·exact h.vs v hv
   ·rw[List.mem_singleton.1 hv];exact hs
  ·intro x hx;have hx:x∈s.infos ++ [⟨aC,1+dw C.L s.at' 3⟩]:=hx;rcases List.mem_append.1 hx with hx | hx
   ·exact h.ac x hx
   ·rw[List.mem_singleton.1 hx];show 1≤1+dw C.L s.at' 3∧1+dw C.L s.at' 3≤3;omega
  ·simp[MS.draw];omega
theorem JM.drop {C:MC} {s:MS} (h:JM C 0 s) (info aC:Int) (h0:0≤info):JM C 0 (jR info aC s)∧(jR info aC s).pending=s.pending∧(jR info aC s).nodes=s.nodes:=by
 unfold jR;split
 ·exact⟨h,rfl,rfl⟩
 rename_i hn
 split
 ·exact⟨h,rfl,rfl⟩
 refine⟨⟨?_,?_,?_,h.np,h.p0,?_,?_⟩,rfl,rfl⟩
 ·have:=h.vl;simp;omega
 ·intro i v hv;have hv:s.views.dropLast[i]? = some v:=hv;rw[List.dropLast_eq_take,List.getElem?_take] at hv;split at hv
  ·exact h.vi i v hv
  ·cases hv
 ·have:=h.il;simp;omega
 ·intro v hv;exact h.vs v (List.dropLast_subset _ hv)
 ·intro x hx;exact h.ac x (List.mem_of_mem_take hx)
theorem getD_mem {α:Type} [Inhabited α] {L:List α} {k:Nat} (h:k < L.length):L.getD k default∈L:=by
 rw[List.getD_eq_getElem?_getD,List.getElem?_eq_getElem h];exact List.getElem_mem h
structure BH (C:MC):Prop where
 len:C.levels.length≤5
 pl:∀ p∈C.levels,p.aC < C.aA∧-1≤p.aC∧2≤p.many∧p.many≤3∧0≤p.seen∧p.seen≤15
theorem JM.open {C:MC} {s:MS} (h:JM C 1 s) (p:Place) (hp:1≤p.many∧p.many≤3) (level:Int) (seen:List (List Int)) (hs:∀ l∈seen,l.length≤100) :
  JM C 0 (kQ C p level seen s).2.2∧(kQ C p level seen s).2.2.pending=s.pending∧(kQ C p level seen s).2.2.nodes=s.nodes∧0≤(kQ C p level seen s).1∧1≤(kQ C p level seen s).2.1∧(kQ C p level seen s).2.1≤3:=by
 unfold kQ;split
 ·exact⟨h.less,rfl,rfl,aB,hp⟩
 ·have hl:(seen.getD p.aC.toNat []).length≤100:=by
   rw[List.getD_eq_getElem?_getD];cases he:seen[p.aC.toNat]? with
   | none=>simp
   | some l=>exact hs l (List.mem_of_getElem? he)
  obtain⟨h1,h2,h3,h4,h5⟩:=h.find p.aC level _ hl;have:=h1.ac _ (getD_mem (L:=(jB C p.aC level (seen.getD p.aC.toNat []) s).2.infos) (k:=(jB C p.aC level (seen.getD p.aC.toNat []) s).1.toNat) byOmega);exact⟨h1,h2,h3,h4,this.1,this.2⟩
theorem uo {p:Place} {i n:Nat} {seen:List (List Int)} (h:∀ l∈seen,l.length=n):∀ l∈gV p i seen,l.length=n+1:=by
 intro l hl;unfold gV at hl;obtain⟨j,hj,rfl⟩:=List.mem_mapIdx.1 hl;simp[h _ (List.getElem_mem hj)]
theorem acR {C:MC} {rec:List (List Int)→MS→Nat×MS} {p:Place} {seen:List (List Int)} {n:Nat} (hs:∀ l∈seen,l.length=n)
  (hrec:∀ sn s,(∀ l∈sn,l.length=n+1)→JM C 0 s→1≤s.pending→JM C 0 (rec sn s).2∧(rec sn s).2.pending=s.pending - 1∧s.nodes.length≤(rec sn s).2.nodes.length) :
  ∀ (k:Nat) (s:MS),JM C 0 s→(k:Int)≤s.pending→JM C 0 (dA C rec p seen k s).s∧(dA C rec p seen k s).s.pending=s.pending - k∧s.nodes.length≤(dA C rec p seen k s).s.nodes.length
 | 0,s,h,hk=>⟨h,by simp[dA],Nat.le_refl _⟩
 | k+1,s,h,hk=>by
  obtain⟨h1,h2,h3⟩:=acR hs hrec k s h byOmega;have e:(dA C rec p seen (k+1) s).s=(rec (gV p k seen) (if p.aC < 0 then ((dA C rec p seen k s).weights ++ [1+((dA C rec p seen k s).s.draw C 3).1],((dA C rec p seen k s).s.draw C 3).2) else ((dA C rec p seen k s).weights,(dA C rec p seen k s).s)).2).2:=rfl;rw[e];have key:∀ t:MS,JM C 0 t→t.pending=s.pending - k→s.nodes.length≤t.nodes.length→JM C 0 (rec (gV p k seen) t).2∧(rec (gV p k seen) t).2.pending=s.pending - ((k+1:Nat):Int)∧s.nodes.length≤(rec (gV p k seen) t).2.nodes.length:=fun t ht hp hn=>by
   obtain⟨a,b,c⟩:=hrec _ t (uo hs) ht byOmega;exact⟨a,byOmega,byOmega⟩
  by_cases hp:p.aC < 0
  ·rw[if_pos hp]; exact key _ (h1.at _) h2 h3
  ·rw[if_neg hp]; exact key _ h1 h2 h3
theorem zF {C:MC} (hC:BH C):∀ (f level:Nat) (seen:List (List Int)) (s:MS),level+f=C.levels.length+1→level≤C.levels.length→(∀ l∈seen,l.length=level)→JM C 0 s→1≤s.pending →
  JM C 0 (bQ C f level seen s).2∧(bQ C f level seen s).2.pending=s.pending - 1∧s.nodes.length < (bQ C f level seen s).2.nodes.length
 | 0,level,seen,s,hf,hl,_,_,_=>by omega
 | f+1,level,seen,s,hf,hl,hs,h,hp=>by
  have h1:=h.push hp;have hn1:(s.nodes ++ [jE]).length=s.nodes.length+1:=aB;unfold bQ;simp only;split
  ·obtain⟨a,b,c⟩:=h1.ny s.nodes.length;exact⟨a.less,b,by rw[c]; simp⟩
  rename_i hne
  split
  ·obtain⟨a,b,c⟩:=(h1.at (cZ C.L s.at')).ny s.nodes.length;exact⟨a.less,b,by have c':=c; rw[show(ny C s.nodes.length (MS.draw C { s with pending:=s.pending - 1,nodes:=s.nodes ++ [jE] } 8).2).nodes.length=_ from c']; simp⟩
  have hpl:=hC.pl _ (getD_mem (L:=C.levels) (k:=level) byOmega);have h5:=hC.len;obtain⟨o1,o2,o3,o4,o5,o6⟩:=JM.open (h1.at (cZ C.L s.at')) (C.levels.getD level default) byOmega (level:Int) seen (fun l hl=>by rw[hs l hl]; omega);split
  ·obtain⟨a,b,c⟩:=o1.drop _ (C.levels.getD level default).aC o4;obtain⟨a2,b2,c2⟩:=a.ny s.nodes.length;rw[c,o3] at c2;exact⟨a2,(b2.trans b).trans o2,Nat.lt_of_lt_of_eq (show s.nodes.length < (s.nodes ++ [jE]).length by simp) c2.symm⟩
  rename_i hm
  obtain⟨S,hS⟩:=named (kQ C (C.levels.getD level default) (level:Int) seen { s with at':=cZ C.L s.at',pending:=s.pending - 1,nodes:=s.nodes ++ [jE] });have e:kQ C (C.levels.getD level default) (level:Int) seen (MS.draw C { s with pending:=s.pending - 1,nodes:=s.nodes ++ [jE] } 8).2=S:=hS.symm;rw[e] at hm ⊢;rw[← hS] at o1 o2 o3 o4 o5 o6;have o2:S.2.2.pending=s.pending - 1:=o2;have o3:S.2.2.nodes=s.nodes ++ [jE]:=o3;rw[o2] at hm;have j4:JM C 0 { S.2.2 with pending:=S.2.2.pending+S.2.1 }:=⟨o1.vl,o1.vi,o1.il,by
   show(S.2.2.nodes.length:Int)+(S.2.2.pending+S.2.1)≤C.most;rw[o3,o2]; simp; omega,by
   show 0≤S.2.2.pending+S.2.1;have:=o1.p0; omega,o1.vs,o1.ac⟩
  obtain⟨k1,k2,k3⟩:=acR (C:=C) (rec:=bQ C f (level+1)) (p:=C.levels.getD level default) hs (fun sn t hsn ht hpt=>by
   obtain⟨a,b,c⟩:=zF hC f (level+1) sn t byOmega byOmega hsn ht hpt;exact⟨a,b,byOmega⟩) S.2.1.toNat _ j4 (by show(S.2.1.toNat:Int)≤S.2.2.pending+S.2.1; have:=o1.p0; omega)
  refine⟨k1.node _ _,?_,?_⟩
  ·have k2:(dA C (bQ C f (level+1)) (C.levels.getD level default) seen S.2.1.toNat { S.2.2 with pending:=S.2.2.pending+S.2.1 }).s.pending=S.2.2.pending+S.2.1 - S.2.1.toNat:=k2;show(dA C (bQ C f (level+1)) (C.levels.getD level default) seen S.2.1.toNat { S.2.2 with pending:=S.2.2.pending+S.2.1 }).s.pending=s.pending - 1;rw[k2]; omega
  ·have k3:S.2.2.nodes.length≤_:=k3;rw[o3,hn1] at k3;rw[List.length_set];exact k3
theorem OwnSl.same' {α:Type} {K:Knd α} {w w':World} {base:Nat} {et:TypeId} {F:Foot} {v:Value} {L:List α} (h:OwnSl K w base et F v L) (hs:Same (fun b=>F b∨v.ownBlock=some b) w w'):OwnSl K w' base et F v L:=by
 refine⟨⟨h.row.1,?_⟩,fun q hq=>K.keep (h.fine q hq) (fun _ h _=>h) ⟨hs.size,fun b hb hl=>hs.2 b (.inl hb.1) hl⟩⟩;rcases h.row.2 with hn | ⟨g,cap,cur,rfl,hg,hc,r⟩
 ·exact .inl hn
 ·exact .inr ⟨g,cap,cur,rfl,hg,by rw[hs.2 g (.inr rfl) (Array.getElem?_eq_some_iff.1 hc).1]; exact hc,r⟩
theorem OwnSl.widen {α:Type} {K:Knd α} {w:World} {base:Nat} {et:TypeId} {F G:Foot} {v:Value} {L:List α} (h:OwnSl K w base et F v L) (hF:∀ b,F b→b < w.heap.size→G b):OwnSl K w base et G v L :=
 ⟨h.row,fun q hq=>K.keep (h.fine q hq) (fun b hb hl=>⟨hF b hb.1 hl,hb.2⟩) (Same.refl _ _)⟩
theorem jJ {α:Type} {K:Knd α} {w W:World} {F:Foot} {ops:Array Oper} {rest:List Oper} {o:Oper} {a:Act} {Q:Exit→Act→World→Prop} (hgd:o.guard=none) (s x:Operand) (t et:TypeId) (bytes:Nat) (z:Value) (ht:Tryz.prog.underlying t=some (.slice et))
  (hi0:(Tryz.prog.info? et).map (fun i=>(i.zero,i.size,i.bytes))=some (some z,K.n,bytes)) (hzc:z.cells.size=K.n) (hby:bytes≤1000)
  (ho:o.op = .call { callee:=.builtin .append,args:=#[s,x],argTypes:=#[t,t] })
  (base:Nat) (hbase:base≤w.heap.size) (v:Value) (L:List α) (hs:a.eval s=v) (q:α) (c:Array Value) (hc:c=(K.cells q).toArray) (hlen:L.length≤1000000)
  (hx:a.eval x = .slice (some ⟨w.heap.size,0,none⟩) 1 1) (hown:OwnSl K w base et F v L) (hq:K.fine w (Apart F v) q)
  (h:∀ g cap w',OwnSl K w' base et F (.slice (some ⟨g,0,none⟩) (L.length+1) cap) (L ++ [q])→Wrote (fun b=>v.ownBlock=some b) w w'→(v.ownBlock=some g∨w.heap.size≤g)→w.heap.size < w'.heap.size →
   wpList Tryz.prog ops Q rest (a.put o.dst (.slice (some ⟨g,0,none⟩) (L.length+1) cap)) w') :
  wpList Tryz.prog ops Q (o :: rest) a (w.alloc (.cells c et)):=by
 subst hc;refine zbw ?_;intro hm i0 hi hz0 hz1 hz2;refine wpList_append_lies (w.alloc (.cells (K.cells q).toArray et)) hgd s x t ho base et i0 z K.n bytes ht hi hz0 hz1 hz2 hzc K.pos v L.length _ hs (hown.row.alloc _) ⟨w.heap.size,0,none⟩ 1 1 (K.cells q) hx (by rw[Nat.one_mul]; exact K.len q) (World.news_of_block (heap_alloc_new _ _)) (K.one hq) byOmega (by unfold maxLen; omega) byOmega aF (w.alloc (.cells (K.cells q).toArray et)).heap.size rfl ?_;intro g cap w' h1 h2 h3 h4;have h5:=h2.size;simp only[World.size_alloc] at h5 h3;refine YC ?_;intro hw e1 e2 p hp;have hp':K.fine w (Apart F v) p:=by
  rcases List.mem_append.1 hp with hp | hp
  ·exact hown.fine p hp
  ·rw[List.mem_singleton.1 hp];exact hq
 refine K.keep hp' (fun b hb hl=>⟨hb.1,fun e=>?_⟩) (hw.same fun b hb=>hb.2);have e:some g=some b:=e;cases e
 rcases h3 with h3 | h3
 ·exact hb.2 h3
 ·omega
theorem kR {α:Type} {K:Knd α} {w W:World} {F:Foot} {ops:Array Oper} {o:Oper} {a:Act} {K':Act→World→Prop} {Q:Exit→Act→World→Prop} {E:Prop} (hgd:o.guard=none) (s x:Operand) (t et:TypeId) (bytes:Nat) (z:Value) (ht:Tryz.prog.underlying t=some (.slice et))
  (hi0:(Tryz.prog.info? et).map (fun i=>(i.zero,i.size,i.bytes))=some (some z,K.n,bytes)) (hzc:z.cells.size=K.n) (hby:bytes≤1000)
  (ho:o.op = .call { callee:=.builtin .append,args:=#[s,x],argTypes:=#[t,t] })
  (base:Nat) (hbase:base≤w.heap.size) (v:Value) (L:List α) (hs:a.eval s=v) (q:α) (c:Array Value) (hc:c=(K.cells q).toArray) (hlen:L.length≤1000000)
  (hx:a.eval x = .slice (some ⟨w.heap.size,0,none⟩) 1 1) (hown:OwnSl K w base et F v L) (hq:K.fine w (Apart F v) q)
  (h:∀ g cap w',OwnSl K w' base et F (.slice (some ⟨g,0,none⟩) (L.length+1) cap) (L ++ [q])→Wrote (fun b=>v.ownBlock=some b) w w'→(v.ownBlock=some g∨w.heap.size≤g)→w.heap.size < w'.heap.size →
   K' (a.put o.dst (.slice (some ⟨g,0,none⟩) (L.length+1) cap)) w') :
  if Region.wanted o (yielded ops a.tmps)=true then Oper.wp Tryz.prog o a (w.alloc (.cells c et)) K' Q else E:=by
 subst hc;refine zbw ?_;intro hm i0 hi hz0 hz1 hz2;refine step_append_lies (w.alloc (.cells (K.cells q).toArray et)) hgd s x t ho base et i0 z K.n bytes ht hi hz0 hz1 hz2 hzc K.pos v L.length _ hs (hown.row.alloc _) ⟨w.heap.size,0,none⟩ 1 1 (K.cells q) hx (by rw[Nat.one_mul]; exact K.len q) (World.news_of_block (heap_alloc_new _ _)) (K.one hq) byOmega (by unfold maxLen; omega) byOmega aF (w.alloc (.cells (K.cells q).toArray et)).heap.size rfl ?_;intro g cap w' h1 h2 h3 h4;have h5:=h2.size;simp only[World.size_alloc] at h5 h3;refine YC ?_;intro hw e1 e2 p hp;have hp':K.fine w (Apart F v) p:=by
  rcases List.mem_append.1 hp with hp | hp
  ·exact hown.fine p hp
  ·rw[List.mem_singleton.1 hp];exact hq
 refine K.keep hp' (fun b hb hl=>⟨hb.1,fun e=>?_⟩) (hw.same fun b hb=>hb.2);have e:some g=some b:=e;cases e
 rcases h3 with h3 | h3
 ·exact hb.2 h3
 ·omega
structure VV where
 v:View
 vs:Value
def aea:Knd VV where
 n:=4
 cells q:=[.int .i64 q.v.aC,.int .i64 q.v.level,q.vs,.int .i64 q.v.info]
 fine w F q:=AA w F q.vs q.v.seen
 len _:=rfl
 pos:=ay
 one h u hu:=by
  obtain⟨A,c,hv,_⟩:=h;simp only[List.mem_cons,List.not_mem_nil,or_false] at hu;rcases hu with rfl | rfl | rfl | rfl
  ·rfl
  ·rfl
  ·rw[hv];rfl
  ·rfl
 keep h hFG hs:=h.keep hFG hs
def wV:Knd NV where
 n:=6
 cells q:=q.cells
 fine w F q:=q.fine w F
 len _:=rfl
 pos:=ay
 one h u hu:=by
  obtain⟨⟨A3,c3,h3,_⟩,⟨A4,c4,h4,_⟩,⟨A5,c5,h5,_⟩⟩:=h;simp only[NV.cells,List.mem_cons,List.not_mem_nil,or_false] at hu;rcases hu with rfl | rfl | rfl | rfl | rfl | rfl
  ·rfl
  ·rfl
  ·rfl
  ·rw[h3];rfl
  ·rw[h4];rfl
  ·rw[h5];rfl
 keep h hFG hs:=h.keep hFG hs
def aiT:Knd Inf where
 n:=2
 cells q:=rU q
 fine _ _ _:=True
 len _:=rfl
 pos:=ay
 one _ u hu:=by
  simp only[rU,List.mem_cons,List.not_mem_nil,or_false] at hu;rcases hu with rfl | rfl <;> rfl
 keep _ _ _:=trivial
def aaJ:Knd Place where
 n:=3
 cells q:=[.int .i64 q.aC,.int .i64 q.many,.int .i64 q.seen]
 fine _ _ _:=True
 len _:=rfl
 pos:=ay
 one _ u hu:=by
  simp only[List.mem_cons,List.not_mem_nil,or_false] at hu;rcases hu with rfl | rfl | rfl <;> rfl
 keep _ _ _:=trivial
def Mut (mb db:Nat) (vv vn vi:Value):Foot:=fun b=>b=mb∨b=db∨vv.ownBlock=some b∨vn.ownBlock=some b∨vi.ownBlock=some b
structure ML where
 base:Nat
 mb:Nat
 db:Nat
 F:Foot
 A:Option Addr
 c:Nat
 vl:Value
structure MAt (C:MC) (M:ML) (Fd:Foot) (vv vn vi:Value) (Lv:List VV) (Ln:List NV) (s:MS) (W:World):Prop where
 box:Row W M.mb 78 [.pointer (some ⟨M.db,0,none⟩),M.vl,vv,.int .i64 C.most,.int .i64 s.pending,.bool C.zero,.bool false,.int .i64 C.aA,vn,vi]
 dr:Row W M.db 34 [.slice M.A C.L.length M.c,.int .i64 (s.at':Int)]
 list:AA W M.F (.slice M.A C.L.length M.c) C.L
 lev:OwnSl aaJ W M.base 81 Fd M.vl C.levels
 views:OwnSl aea W M.base 184 Fd vv Lv
 nodes:OwnSl wV W M.base 127 Fd vn Ln
 infos:OwnSl aiT W M.base 37 Fd vi s.infos
 nU:Lv.map VV.v=s.views
 oO:Ln.map NV.n=s.nodes
 out:∀ b,M.F b→b < M.base
 foot:∀ b,Fd b→M.base≤b∧b < W.heap.size∧¬ Mut M.mb M.db vv vn vi b
 dL:M.base≤M.mb∧M.base≤M.db∧M.mb≠M.db
 jK:∀ b,M.vl.ownBlock=some b→¬ Mut M.mb M.db vv vn vi b
 cO:∀ b,vv.ownBlock=some b→b≠M.mb∧b≠M.db∧vn.ownBlock≠some b∧vi.ownBlock≠some b
 dD:∀ b,vn.ownBlock=some b→b≠M.mb∧b≠M.db∧vi.ownBlock≠some b
 fA:∀ b,vi.ownBlock=some b→b≠M.mb∧b≠M.db
 draws:s.at'≤C.L.length∧C.L.length≤9223372036854775807
section
variable {C:MC} {M:ML} {Fd:Foot} {vv vn vi:Value} {Lv:List VV} {Ln:List NV} {s:MS} {W W':World}
def MAt.All (_:MAt C M Fd vv vn vi Lv Ln s W):Foot:=fun b=>M.F b∨Fd b∨Mut M.mb M.db vv vn vi b∨M.vl.ownBlock=some b
theorem MAt.on (h:MAt C M Fd vv vn vi Lv Ln s W) (hs:Same h.All W W'):MAt C M Fd vv vn vi Lv Ln s W' where
 box:=h.box.of_block (hs.2 _ (.inr (.inr (.inl (.inl rfl)))) h.box.lt)
 dr:=h.dr.of_block (hs.2 _ (.inr (.inr (.inl (.inr (.inl rfl))))) h.dr.lt)
 list:=h.list.on ⟨hs.size,fun b hb=>hs.2 b (.inl hb)⟩
 lev:=h.lev.same' ⟨hs.size,fun b hb=>hs.2 b (hb.elim (fun h=>.inr (.inl h)) fun h=>.inr (.inr (.inr h)))⟩
 views:=h.views.same' ⟨hs.size,fun b hb=>hs.2 b (hb.elim (fun h=>.inr (.inl h)) fun h=>.inr (.inr (.inl (.inr (.inr (.inl h))))))⟩
 nodes:=h.nodes.same' ⟨hs.size,fun b hb=>hs.2 b (hb.elim (fun h=>.inr (.inl h)) fun h=>.inr (.inr (.inl (.inr (.inr (.inr (.inl h)))))))⟩
 infos:=h.infos.same' ⟨hs.size,fun b hb=>hs.2 b (hb.elim (fun h=>.inr (.inl h)) fun h=>.inr (.inr (.inl (.inr (.inr (.inr (.inr h)))))))⟩
 nU:=h.nU
 oO:=h.oO
 out:=h.out
 foot b hb:=⟨(h.foot b hb).1,by have:=(h.foot b hb).2.1; have:=hs.size; omega,(h.foot b hb).2.2⟩
 dL:=h.dL
 jK:=h.jK
 cO:=h.cO
 dD:=h.dD
 fA:=h.fA
 draws:=h.draws
theorem MAt.below (h:MAt C M Fd vv vn vi Lv Ln s W) (hb:Below W.heap.size W W'):MAt C M Fd vv vn vi Lv Ln s W':=h.on (Below.same' hb _)
theorem OwnSl.wrote {α:Type} {K:Knd α} {K':Foot} {base:Nat} {et:TypeId} {F:Foot} {v:Value} {L:List α} (h:OwnSl K W base et F v L) (hw:Wrote K' W W') (hK:∀ b,(F b∨v.ownBlock=some b)→¬ K' b):OwnSl K W' base et F v L:=h.same' (hw.same hK)
theorem agB {mb db b:Nat} {vv vn vi:Value} (h:¬ Mut mb db vv vn vi b):b≠mb∧b≠db∧vv.ownBlock≠some b∧vn.ownBlock≠some b∧vi.ownBlock≠some b :=
 ⟨fun e=>h (.inl e),fun e=>h (.inr (.inl e)),fun e=>h (.inr (.inr (.inl e))),fun e=>h (.inr (.inr (.inr (.inl e)))),fun e=>h (.inr (.inr (.inr (.inr e))))⟩
theorem qY {mb db b:Nat} {vv vn vi:Value} (h1:b≠mb) (h2:b≠db) (h3:vv.ownBlock≠some b) (h4:vn.ownBlock≠some b) (h5:vi.ownBlock≠some b):¬ Mut mb db vv vn vi b:=by
 rintro(h | h | h | h | h)
 ·exact h1 h
 ·exact h2 h
 ·exact h3 h
 ·exact h4 h
 ·exact h5 h
theorem MAt.fdn (h:MAt C M Fd vv vn vi Lv Ln s W) {b:Nat} (hb:Fd b):b≠M.mb∧b≠M.db∧vv.ownBlock≠some b∧vn.ownBlock≠some b∧vi.ownBlock≠some b:=agB (h.foot b hb).2.2
theorem MAt.lvn (h:MAt C M Fd vv vn vi Lv Ln s W) {b:Nat} (hb:M.vl.ownBlock=some b):b≠M.mb∧b≠M.db∧vv.ownBlock≠some b∧vn.ownBlock≠some b∧vi.ownBlock≠some b:=agB (h.jK b hb)
theorem MAt.zA (h:MAt C M Fd vv vn vi Lv Ln s W) {b:Nat} (hb:M.F b):b < M.base:=h.out b hb
theorem MAt.drawn (h:MAt C M Fd vv vn vi Lv Ln s W) (hr:Row W' M.db 34 [.slice M.A C.L.length M.c,.int .i64 (cZ C.L s.at':Int)]) (hw:Wrote (fun b=>b=M.db) W W'):MAt C M Fd vv vn vi Lv Ln { s with at':=cZ C.L s.at' } W' where
 box:=h.box.wrote hw h.dL.2.2
 dr:=hr
 list:=h.list.on (hw.same fun b hb e=>by have:=h.zA hb; have:=h.dL.2.1; subst e; omega)
 lev:=h.lev.wrote hw fun b hb=>hb.elim (fun hb=>(h.fdn hb).2.1) fun hb=>(h.lvn hb).2.1
 views:=h.views.wrote hw fun b hb=>hb.elim (fun hb=>(h.fdn hb).2.1) fun hb=>(h.cO b hb).2.1
 nodes:=h.nodes.wrote hw fun b hb=>hb.elim (fun hb=>(h.fdn hb).2.1) fun hb=>(h.dD b hb).2.1
 infos:=h.infos.wrote hw fun b hb=>hb.elim (fun hb=>(h.fdn hb).2.1) fun hb=>(h.fA b hb).2
 nU:=h.nU
 oO:=h.oO
 out:=h.out
 foot b hb:=⟨(h.foot b hb).1,by have:=(h.foot b hb).2.1; have:=hw.size; omega,(h.foot b hb).2.2⟩
 dL:=h.dL
 jK:=h.jK
 cO:=h.cO
 dD:=h.dD
 fA:=h.fA
 draws:=⟨sO h.draws.1,h.draws.2⟩
theorem aeb (h:MAt C M Fd vv vn vi Lv Ln s W) (n:Int) (hn:1≤n) (hn2:n≤1000) :
  Calls Tryz.prog 36 #[.pointer (some ⟨M.db,0,none⟩),.int .i64 n] W fun e w'=>e = .returned (.int .i64 (s.draw C n).1)∧MAt C M Fd vv vn vi Lv Ln (s.draw C n).2 w'∧Wrote (fun b=>b=M.db) W w':=by
 refine(next_any W M.F M.db M.A M.c C.L s.at' n h.dr h.list (fun hb=>by have:=h.zA hb; have:=h.dL.2.1; omega) hn hn2 h.draws.2).mono ?_;rintro e w' ⟨rfl,hr,hw⟩;exact⟨rfl,h.drawn hr hw,hw⟩
theorem MAt.aaK (h:MAt C M Fd vv vn vi Lv Ln s W) (z:Int):MAt C M Fd vv vn vi Lv Ln { s with pending:=z } (W.setCell ⟨M.mb,4,none⟩ (.int .i64 z)):=by
 have hw:Wrote (fun b=>b=M.mb) W (W.setCell ⟨M.mb,4,none⟩ (.int .i64 z)):=Wrote.setCell (K:=fun b=>b=M.mb) (p:=⟨M.mb,4,none⟩) (Wrote.refl _ _) (.inl rfl) _;exact {
  box:=h.box.set 4 _
  dr:=h.dr.wrote hw (fun e=>h.dL.2.2 e.symm)
  list:=h.list.on (hw.same fun b hb e=>by have:=h.zA hb; have:=h.dL.1; subst e; omega)
  lev:=h.lev.wrote hw fun b hb=>hb.elim (fun hb=>(h.fdn hb).1) fun hb=>(h.lvn hb).1
  views:=h.views.wrote hw fun b hb=>hb.elim (fun hb=>(h.fdn hb).1) fun hb=>(h.cO b hb).1
  nodes:=h.nodes.wrote hw fun b hb=>hb.elim (fun hb=>(h.fdn hb).1) fun hb=>(h.dD b hb).1
  infos:=h.infos.wrote hw fun b hb=>hb.elim (fun hb=>(h.fdn hb).1) fun hb=>(h.fA b hb).1
  nU:=h.nU
  oO:=h.oO
  out:=h.out
  foot:=fun b hb=>⟨(h.foot b hb).1,by have:=(h.foot b hb).2.1; have:=hw.size; omega,(h.foot b hb).2.2⟩
  dL:=h.dL
  jK:=h.jK
  cO:=h.cO
  dD:=h.dD
  fA:=h.fA
  draws:=h.draws
 }
theorem MAt.widen {Fe:Foot} (h:MAt C M Fd vv vn vi Lv Ln s W) (hF:∀ b,Fd b→Fe b) (hfe:∀ b,Fe b→M.base≤b∧b < W.heap.size∧¬ Mut M.mb M.db vv vn vi b):MAt C M Fe vv vn vi Lv Ln s W :=
 { h with lev:=h.lev.widen fun b hb _=>hF b hb,views:=h.views.widen fun b hb _=>hF b hb,nodes:=h.nodes.widen fun b hb _=>hF b hb,infos:=h.infos.widen fun b hb _=>hF b hb,foot:=hfe }
theorem MAt.afK (h:MAt C M Fd vv vn vi Lv Ln s W) {g cap:Nat} {q:VV} (hown:OwnSl aea W' M.base 184 Fd (.slice (some ⟨g,0,none⟩) (Lv.length+1) cap) (Lv ++ [q])) (hw:Wrote (fun b=>vv.ownBlock=some b) W W') (hat:vv.ownBlock=some g∨W.heap.size≤g) (hsz:W.heap.size < W'.heap.size) :
  ∃ W2,W2=W'.setCell ⟨M.mb,2,none⟩ (.slice (some ⟨g,0,none⟩) (Lv.length+1) cap)∧MAt C M Fd (.slice (some ⟨g,0,none⟩) (Lv.length+1) cap) vn vi (Lv ++ [q]) Ln { s with views:=s.views ++ [q.v] } W2∧Wrote (Mut M.mb M.db vv vn vi) W W2:=by
 have hb':=h.box.wrote hw fun e=>(h.cO _ e).1 rfl
 have hd':=h.dr.wrote hw fun e=>(h.cO _ e).2.1 rfl
 have hl':=h.list.on (hw.same fun b hb e=>by have:=h.zA hb; have:=(h.views.row.lt b e).1; omega);have aec:=h.lev.wrote hw fun b hb=>hb.elim (fun hb=>(h.fdn hb).2.2.1) fun hb=>(h.lvn hb).2.2.1
 have akR:=h.nodes.wrote hw fun b hb=>hb.elim (fun hb=>(h.fdn hb).2.2.1) fun hb=>fun e=>(h.cO b e).2.2.1 hb
 have akS:=h.infos.wrote hw fun b hb=>hb.elim (fun hb=>(h.fdn hb).2.2.1) fun hb=>fun e=>(h.cO b e).2.2.2 hb
 have gne:∀ b,b < W.heap.size→vv.ownBlock≠some b→g≠b:=fun b hb hn e=>by
  subst e;rcases hat with hat | hat
  ·exact hn hat
  ·omega
 have gmb:g≠M.mb:=gne _ h.box.lt fun e=>(h.cO _ e).1 rfl
 have gdb:g≠M.db:=gne _ h.dr.lt fun e=>(h.cO _ e).2.1 rfl
 have gfd:∀ b,Fd b→g≠b:=fun b hb=>gne b (h.foot b hb).2.1 (h.fdn hb).2.2.1
 have gvl:∀ b,M.vl.ownBlock=some b→g≠b:=fun b hb=>gne b (h.lev.row.lt b hb).2 (h.lvn hb).2.2.1
 have gvn:∀ b,vn.ownBlock=some b→g≠b:=fun b hb=>gne b (h.nodes.row.lt b hb).2 (fun e=>(h.cO b e).2.2.1 hb)
 have gvi:∀ b,vi.ownBlock=some b→g≠b:=fun b hb=>gne b (h.infos.row.lt b hb).2 (fun e=>(h.cO b e).2.2.2 hb)
 have hw2:Wrote (fun b=>b=M.mb) W' (W'.setCell ⟨M.mb,2,none⟩ (.slice (some ⟨g,0,none⟩) (Lv.length+1) cap)):=Wrote.setCell (K:=fun b=>b=M.mb) (p:=⟨M.mb,2,none⟩) (Wrote.refl _ _) (.inl rfl) _;have own:∀ b,(Value.slice (some ⟨g,0,none⟩) (Lv.length+1) cap).ownBlock=some b→b=g:=fun b hb=>by
  exact zbD
 refine⟨_,rfl,?_,?_⟩
 ·exact {
   box:=hb'.set 2 _
   dr:=hd'.wrote hw2 (fun e=>h.dL.2.2 e.symm)
   list:=hl'.on (hw2.same fun b hb e=>by have:=h.zA hb; have:=h.dL.1; subst e; omega)
   lev:=aec.wrote hw2 fun b hb=>hb.elim (fun hb=>(h.fdn hb).1) fun hb=>(h.lvn hb).1
   views:=hown.wrote hw2 fun b hb=>hb.elim (fun hb=>(h.fdn hb).1) fun hb e=>gmb ((own b hb)▸e)
   nodes:=akR.wrote hw2 fun b hb=>hb.elim (fun hb=>(h.fdn hb).1) fun hb=>(h.dD b hb).1
   infos:=akS.wrote hw2 fun b hb=>hb.elim (fun hb=>(h.fdn hb).1) fun hb=>(h.fA b hb).1
   nU:=by rw[List.map_append,h.nU]; rfl
   oO:=h.oO
   out:=h.out
   foot:=fun b hb=>⟨(h.foot b hb).1,by have:=(h.foot b hb).2.1; simp; omega,qY (h.fdn hb).1 (h.fdn hb).2.1 (fun e=>gfd b hb (own b e).symm) (h.fdn hb).2.2.2.1 (h.fdn hb).2.2.2.2⟩
   dL:=h.dL
   jK:=fun b hb=>qY (h.lvn hb).1 (h.lvn hb).2.1 (fun e=>gvl b hb (own b e).symm) (h.lvn hb).2.2.2.1 (h.lvn hb).2.2.2.2
   cO:=fun b hb=>by
    have:=own b hb;subst this;exact⟨gmb,gdb,fun e=>gvn b e rfl,fun e=>gvi b e rfl⟩
   dD:=h.dD
   fA:=h.fA
   draws:=h.draws
  }
 ·exact Wrote.trans ⟨hw.os,hw.tape,hw.output,hw.size,fun b hl hb=>hw.block b hl fun e=>hb (.inr (.inr (.inl e)))⟩ ⟨hw2.os,hw2.tape,hw2.output,hw2.size,fun b hl hb=>hw2.block b hl fun e=>hb (.inl e)⟩
theorem MAt.afL (h:MAt C M Fd vv vn vi Lv Ln s W) {g cap:Nat} {q:NV} (hown:OwnSl wV W' M.base 127 Fd (.slice (some ⟨g,0,none⟩) (Ln.length+1) cap) (Ln ++ [q])) (hw:Wrote (fun b=>vn.ownBlock=some b) W W') (hat:vn.ownBlock=some g∨W.heap.size≤g) (hsz:W.heap.size < W'.heap.size) :
  ∃ W2,W2=W'.setCell ⟨M.mb,8,none⟩ (.slice (some ⟨g,0,none⟩) (Ln.length+1) cap)∧MAt C M Fd vv (.slice (some ⟨g,0,none⟩) (Ln.length+1) cap) vi Lv (Ln ++ [q]) { s with nodes:=s.nodes ++ [q.n] } W2∧Wrote (Mut M.mb M.db vv vn vi) W W2:=by
 have hb':=h.box.wrote hw fun e=>(h.dD _ e).1 rfl
 have hd':=h.dr.wrote hw fun e=>(h.dD _ e).2.1 rfl
 have hl':=h.list.on (hw.same fun b hb e=>by have:=h.zA hb; have:=(h.nodes.row.lt b e).1; omega);have aec:=h.lev.wrote hw fun b hb=>hb.elim (fun hb=>(h.fdn hb).2.2.2.1) fun hb=>(h.lvn hb).2.2.2.1
 have akT:=h.views.wrote hw fun b hb=>hb.elim (fun hb=>(h.fdn hb).2.2.2.1) fun hb=>(h.cO b hb).2.2.1
 have akS:=h.infos.wrote hw fun b hb=>hb.elim (fun hb=>(h.fdn hb).2.2.2.1) fun hb=>fun e=>(h.dD b e).2.2 hb
 have gne:∀ b,b < W.heap.size→vn.ownBlock≠some b→g≠b:=fun b hb hn e=>by
  subst e;rcases hat with hat | hat
  ·exact hn hat
  ·omega
 have gmb:g≠M.mb:=gne _ h.box.lt fun e=>(h.dD _ e).1 rfl
 have gdb:g≠M.db:=gne _ h.dr.lt fun e=>(h.dD _ e).2.1 rfl
 have gfd:∀ b,Fd b→g≠b:=fun b hb=>gne b (h.foot b hb).2.1 (h.fdn hb).2.2.2.1
 have gvl:∀ b,M.vl.ownBlock=some b→g≠b:=fun b hb=>gne b (h.lev.row.lt b hb).2 (h.lvn hb).2.2.2.1
 have gvv:∀ b,vv.ownBlock=some b→g≠b:=fun b hb=>gne b (h.views.row.lt b hb).2 ((h.cO b hb).2.2.1)
 have gvi:∀ b,vi.ownBlock=some b→g≠b:=fun b hb=>gne b (h.infos.row.lt b hb).2 (fun e=>(h.dD b e).2.2 hb)
 have hw2:Wrote (fun b=>b=M.mb) W' (W'.setCell ⟨M.mb,8,none⟩ (.slice (some ⟨g,0,none⟩) (Ln.length+1) cap)):=Wrote.setCell (K:=fun b=>b=M.mb) (p:=⟨M.mb,8,none⟩) (Wrote.refl _ _) (.inl rfl) _;have own:∀ b,(Value.slice (some ⟨g,0,none⟩) (Ln.length+1) cap).ownBlock=some b→b=g:=fun b hb=>by
  exact zbD
 refine⟨_,rfl,?_,?_⟩
 ·exact {
   box:=hb'.set 8 _
   dr:=hd'.wrote hw2 (fun e=>h.dL.2.2 e.symm)
   list:=hl'.on (hw2.same fun b hb e=>by have:=h.zA hb; have:=h.dL.1; subst e; omega)
   lev:=aec.wrote hw2 fun b hb=>hb.elim (fun hb=>(h.fdn hb).1) fun hb=>(h.lvn hb).1
   views:=akT.wrote hw2 fun b hb=>hb.elim (fun hb=>(h.fdn hb).1) fun hb=>(h.cO b hb).1
   nodes:=hown.wrote hw2 fun b hb=>hb.elim (fun hb=>(h.fdn hb).1) fun hb e=>gmb ((own b hb)▸e)
   infos:=akS.wrote hw2 fun b hb=>hb.elim (fun hb=>(h.fdn hb).1) fun hb=>(h.fA b hb).1
   nU:=h.nU
   oO:=by rw[List.map_append,h.oO]; rfl
   out:=h.out
   foot:=fun b hb=>⟨(h.foot b hb).1,by have:=(h.foot b hb).2.1; simp; omega,qY (h.fdn hb).1 (h.fdn hb).2.1 (h.fdn hb).2.2.1 (fun e=>gfd b hb (own b e).symm) (h.fdn hb).2.2.2.2⟩
   dL:=h.dL
   jK:=fun b hb=>qY (h.lvn hb).1 (h.lvn hb).2.1 (h.lvn hb).2.2.1 (fun e=>gvl b hb (own b e).symm) (h.lvn hb).2.2.2.2
   cO:=fun b hb=>⟨(h.cO b hb).1,(h.cO b hb).2.1,fun e=>gvv b hb (own b e).symm,(h.cO b hb).2.2.2⟩
   dD:=fun b hb=>by
    have:=own b hb;subst this;exact⟨gmb,gdb,fun e=>gvi b e rfl⟩
   fA:=h.fA
   draws:=h.draws
  }
 ·exact Wrote.trans ⟨hw.os,hw.tape,hw.output,hw.size,fun b hl hb=>hw.block b hl fun e=>hb (.inr (.inr (.inr (.inl e))))⟩ ⟨hw2.os,hw2.tape,hw2.output,hw2.size,fun b hl hb=>hw2.block b hl fun e=>hb (.inl e)⟩
theorem MAt.afM (h:MAt C M Fd vv vn vi Lv Ln s W) {g cap:Nat} {q:Inf} (hown:OwnSl aiT W' M.base 37 Fd (.slice (some ⟨g,0,none⟩) (s.infos.length+1) cap) (s.infos ++ [q])) (hw:Wrote (fun b=>vi.ownBlock=some b) W W') (hat:vi.ownBlock=some g∨W.heap.size≤g) (hsz:W.heap.size < W'.heap.size) :
  ∃ W2,W2=W'.setCell ⟨M.mb,9,none⟩ (.slice (some ⟨g,0,none⟩) (s.infos.length+1) cap)∧MAt C M Fd vv vn (.slice (some ⟨g,0,none⟩) (s.infos.length+1) cap) Lv Ln { s with infos:=s.infos ++ [q] } W2∧Wrote (Mut M.mb M.db vv vn vi) W W2:=by
 have hb':=h.box.wrote hw fun e=>(h.fA _ e).1 rfl
 have hd':=h.dr.wrote hw fun e=>(h.fA _ e).2 rfl
 have hl':=h.list.on (hw.same fun b hb e=>by have:=h.zA hb; have:=(h.infos.row.lt b e).1; omega);have aec:=h.lev.wrote hw fun b hb=>hb.elim (fun hb=>(h.fdn hb).2.2.2.2) fun hb=>(h.lvn hb).2.2.2.2
 have akT:=h.views.wrote hw fun b hb=>hb.elim (fun hb=>(h.fdn hb).2.2.2.2) fun hb=>(h.cO b hb).2.2.2
 have akR:=h.nodes.wrote hw fun b hb=>hb.elim (fun hb=>(h.fdn hb).2.2.2.2) fun hb=>(h.dD b hb).2.2
 have gne:∀ b,b < W.heap.size→vi.ownBlock≠some b→g≠b:=fun b hb hn e=>by
  subst e;rcases hat with hat | hat
  ·exact hn hat
  ·omega
 have gmb:g≠M.mb:=gne _ h.box.lt fun e=>(h.fA _ e).1 rfl
 have gdb:g≠M.db:=gne _ h.dr.lt fun e=>(h.fA _ e).2 rfl
 have gfd:∀ b,Fd b→g≠b:=fun b hb=>gne b (h.foot b hb).2.1 (h.fdn hb).2.2.2.2
 have gvl:∀ b,M.vl.ownBlock=some b→g≠b:=fun b hb=>gne b (h.lev.row.lt b hb).2 (h.lvn hb).2.2.2.2
 have gvv:∀ b,vv.ownBlock=some b→g≠b:=fun b hb=>gne b (h.views.row.lt b hb).2 ((h.cO b hb).2.2.2)
 have gvn:∀ b,vn.ownBlock=some b→g≠b:=fun b hb=>gne b (h.nodes.row.lt b hb).2 ((h.dD b hb).2.2)
 have hw2:Wrote (fun b=>b=M.mb) W' (W'.setCell ⟨M.mb,9,none⟩ (.slice (some ⟨g,0,none⟩) (s.infos.length+1) cap)):=Wrote.setCell (K:=fun b=>b=M.mb) (p:=⟨M.mb,9,none⟩) (Wrote.refl _ _) (.inl rfl) _;have own:∀ b,(Value.slice (some ⟨g,0,none⟩) (s.infos.length+1) cap).ownBlock=some b→b=g:=fun b hb=>by
  exact zbD
 refine⟨_,rfl,?_,?_⟩
 ·exact {
   box:=hb'.set 9 _
   dr:=hd'.wrote hw2 (fun e=>h.dL.2.2 e.symm)
   list:=hl'.on (hw2.same fun b hb e=>by have:=h.zA hb; have:=h.dL.1; subst e; omega)
   lev:=aec.wrote hw2 fun b hb=>hb.elim (fun hb=>(h.fdn hb).1) fun hb=>(h.lvn hb).1
   views:=akT.wrote hw2 fun b hb=>hb.elim (fun hb=>(h.fdn hb).1) fun hb=>(h.cO b hb).1
   nodes:=akR.wrote hw2 fun b hb=>hb.elim (fun hb=>(h.fdn hb).1) fun hb=>(h.dD b hb).1
   infos:=hown.wrote hw2 fun b hb=>hb.elim (fun hb=>(h.fdn hb).1) fun hb e=>gmb ((own b hb)▸e)
   nU:=h.nU
   oO:=h.oO
   out:=h.out
   foot:=fun b hb=>⟨(h.foot b hb).1,by have:=(h.foot b hb).2.1; simp; omega,qY (h.fdn hb).1 (h.fdn hb).2.1 (h.fdn hb).2.2.1 (h.fdn hb).2.2.2.1 (fun e=>gfd b hb (own b e).symm)⟩
   dL:=h.dL
   jK:=fun b hb=>qY (h.lvn hb).1 (h.lvn hb).2.1 (h.lvn hb).2.2.1 (h.lvn hb).2.2.2.1 (fun e=>gvl b hb (own b e).symm)
   cO:=fun b hb=>⟨(h.cO b hb).1,(h.cO b hb).2.1,(h.cO b hb).2.2.1,fun e=>gvv b hb (own b e).symm⟩
   dD:=fun b hb=>⟨(h.dD b hb).1,(h.dD b hb).2.1,fun e=>gvn b hb (own b e).symm⟩
   fA:=fun b hb=>by
    have:=own b hb;subst this;exact⟨gmb,gdb⟩
   draws:=h.draws
  }
 ·exact Wrote.trans ⟨hw.os,hw.tape,hw.output,hw.size,fun b hl hb=>hw.block b hl fun e=>hb (.inr (.inr (.inr (.inr e))))⟩ ⟨hw2.os,hw2.tape,hw2.output,hw2.size,fun b hl hb=>hw2.block b hl fun e=>hb (.inl e)⟩
theorem OwnSl.short {α:Type} {K:Knd α} {w:World} {base:Nat} {et:TypeId} {F:Foot} {g n cap:Nat} {L:List α} {q:α} (h:OwnSl K w base et F (.slice (some ⟨g,0,none⟩) n cap) (L ++ [q])):OwnSl K w base et F (.slice (some ⟨g,0,none⟩) L.length cap) L:=by
 have e1:(L ++ [q]).length=L.length+1:=aB;have e2:(L ++ [q]).flatMap K.cells=L.flatMap K.cells++K.cells q:=by simp[List.flatMap_append]
 have hr:=h.row;have hfl:(L.flatMap K.cells).length=L.length*K.n:=by
  have h1:=hr.1;rw[e1,e2,List.length_append,K.len,Nat.add_mul] at h1;omega
 refine⟨⟨hfl,?_⟩,fun p hp=>h.fine p (List.mem_append_left _ hp)⟩;rcases hr.2 with⟨h',_⟩ | ⟨g',cap',cur,h',hb,hg,hnc,hm,hsz,htake⟩
 ·simp at h'
 ·simp only[Value.slice.injEq,Option.some.injEq,Addr.mk.injEq,and_true,true_and] at h';obtain⟨rfl,_,rfl⟩:=h';refine .inr ⟨g,cap,cur,rfl,hb,hg,byOmega,hm,hsz,?_⟩;have hmin:L.length*K.n≤(L ++ [q]).length*K.n:=Nat.mul_le_mul_right _ byOmega;have h2:=congrArg (List.take (L.length*K.n)) htake;rw[e2,List.take_take,Nat.min_eq_left hmin,List.take_append_of_le_length byOmega] at h2;rw[h2,List.take_of_length_le byOmega]
theorem akU (A:List Value):∀ (x0 x1 x2 x3 x4 x5:Value) (B:List Value) (y0 y1 y2 y3 y4 y5:Value),((((((A++x0 :: x1 :: x2 :: x3 :: x4 :: x5 :: B).set A.length y0).set (A.length+1) y1).set (A.length+2) y2).set (A.length+3) y3).set (A.length+4) y4).set (A.length+5) y5=A++y0 :: y1 :: y2 :: y3 :: y4 :: y5 :: B:=by
 induction A with
 | nil=>intros; rfl
 | cons a A ih =>
  intro x0 x1 x2 x3 x4 x5 B y0 y1 y2 y3 y4 y5;have:=ih x0 x1 x2 x3 x4 x5 B y0 y1 y2 y3 y4 y5;simp only[List.length_cons,List.cons_append,Nat.add_right_comm _ 1 _,List.set_cons_succ];rw[this]
theorem aho {L:List NV} {i:Nat} {x:NV} (hx:L[i]? = some x) (q:NV):(L.set i q).flatMap NV.cells=((((((L.flatMap NV.cells).set (i*6) (.int .i64 q.n.kind)).set (i*6+1) (.int .i64 q.n.aC)).set (i*6+2) (.int .i64 q.n.info)).set (i*6+3) q.v3).set (i*6+4) q.v4).set (i*6+5) q.v5:=by
 have hl:=lt_of_get hx;have e:L=L.take i++x :: L.drop (i+1):=by
  have h:=List.getElem?_eq_some_iff.1 hx;obtain⟨h1,h2⟩:=h;rw[← h2,List.getElem_cons_drop,List.take_append_drop]
 have hlen:((L.take i).flatMap NV.cells).length=i*6:=by rw[aiO,List.length_take];omega
 have e2:L.set i q=L.take i++q :: L.drop (i+1):=by rw[List.set_eq_take_append_cons_drop,if_pos hl]
 have e3:L.flatMap NV.cells=(L.take i).flatMap NV.cells++(.int .i64 x.n.kind) :: (.int .i64 x.n.aC) :: (.int .i64 x.n.info) :: x.v3 :: x.v4 :: x.v5 :: (L.drop (i+1)).flatMap NV.cells:=by
  conv=>lhs; rw[e]
  rw[List.flatMap_append,List.flatMap_cons];rfl
 rw[e2,e3,List.flatMap_append,List.flatMap_cons,← hlen,akU];rfl
theorem MAt.setNode (h:MAt C M Fd vv vn vi Lv Ln s W) {i g cap:Nat} (hv:vn = .slice (some ⟨g,0,none⟩) Ln.length cap) (hi:i < Ln.length) (q:NV) (hq:q.fine W Fd) :
  ∃ W',W'=((((((W.setCell ⟨g,i*6,none⟩ (.int .i64 q.n.kind)).setCell ⟨g,i*6+1,none⟩ (.int .i64 q.n.aC)).setCell ⟨g,i*6+2,none⟩ (.int .i64 q.n.info)).setCell ⟨g,i*6+3,none⟩ q.v3).setCell ⟨g,i*6+4,none⟩ q.v4).setCell ⟨g,i*6+5,none⟩ q.v5) ∧
   MAt C M Fd vv vn vi Lv (Ln.set i q) { s with nodes:=s.nodes.set i q.n } W'∧Wrote (fun b=>b=g) W W':=by
 subst hv;obtain⟨x,hx⟩:=getSome hi;have hw:Wrote (fun b=>b=g) W ((((((W.setCell ⟨g,i*6,none⟩ (.int .i64 q.n.kind)).setCell ⟨g,i*6+1,none⟩ (.int .i64 q.n.aC)).setCell ⟨g,i*6+2,none⟩ (.int .i64 q.n.info)).setCell ⟨g,i*6+3,none⟩ q.v3).setCell ⟨g,i*6+4,none⟩ q.v4).setCell ⟨g,i*6+5,none⟩ q.v5):=by
  have h0:Wrote (fun b=>b=g) W W:=Wrote.refl _ _;exact(((((h0.setCell (p:=⟨g,i*6,none⟩) (.inl rfl) _).setCell (p:=⟨g,i*6+1,none⟩) (.inl rfl) _).setCell (p:=⟨g,i*6+2,none⟩) (.inl rfl) _).setCell (p:=⟨g,i*6+3,none⟩) (.inl rfl) _).setCell (p:=⟨g,i*6+4,none⟩) (.inl rfl) _).setCell (p:=⟨g,i*6+5,none⟩) (.inl rfl) _
 have hfd:∀ b,Fd b→b≠g:=fun b hb e=>(h.fdn hb).2.2.2.1 (by rw[e]; rfl)
 have hrow:=((((((h.nodes.row.stored (i*6) (.int .i64 q.n.kind)).1.stored (i*6+1) (.int .i64 q.n.aC)).1.stored (i*6+2) (.int .i64 q.n.info)).1.stored (i*6+3) q.v3).1.stored (i*6+4) q.v4).1.stored (i*6+5) q.v5).1;refine⟨_,rfl,?_,hw⟩;exact {
  box:=h.box.wrote hw fun e=>(h.dD g rfl).1 e.symm
  dr:=h.dr.wrote hw fun e=>(h.dD g rfl).2.1 e.symm
  list:=h.list.on (hw.same fun b hb e=>by have:=h.zA hb; have:=(h.nodes.row.lt g rfl).1; subst e; omega)
  lev:=h.lev.wrote hw fun b hb=>hb.elim (fun hb=>hfd b hb) fun hb e=>(h.lvn hb).2.2.2.1 (by rw[e]; rfl)
  views:=h.views.wrote hw fun b hb=>hb.elim (fun hb=>hfd b hb) fun hb e=>(h.cO b hb).2.2.1 (by rw[e]; rfl)
  nodes:=by
   have hl:(Ln.set i q).length=Ln.length:=List.length_set;refine⟨?_,fun p hp=>?_⟩
   ·rw[hl];have:=aho hx q;rw[show(Ln.set i q).flatMap wV.cells=(Ln.set i q).flatMap NV.cells from rfl,this];exact hrow
   ·have hp':wV.fine W (Apart Fd (.slice (some ⟨g,0,none⟩) Ln.length cap)) p:=by
     rcases List.mem_or_eq_of_mem_set hp with hp | rfl
     ·exact h.nodes.fine p hp
     ·exact wV.keep (q:=p) hq (fun b hb _=>⟨hb,fun e=>hfd b hb (by have e':some g=some b:=e; cases e'; rfl)⟩) (Same.refl _ _)
    exact wV.keep hp' (fun _ h _=>h) (hw.same fun b hb=>hfd b hb.1)
  infos:=h.infos.wrote hw fun b hb=>hb.elim (fun hb=>hfd b hb) fun hb e=>(h.dD g rfl).2.2 (by rw[← e]; exact hb)
  nU:=h.nU
  oO:=by rw[List.map_set,h.oO]
  out:=h.out
  foot:=fun b hb=>⟨(h.foot b hb).1,by have:=(h.foot b hb).2.1; simp; omega,(h.foot b hb).2.2⟩
  dL:=h.dL
  jK:=h.jK
  cO:=h.cO
  dD:=h.dD
  fA:=h.fA
  draws:=h.draws
 }
theorem MAt.abW (h:MAt C M Fd vv vn vi Lv Ln s W) {b:Nat} (hb:Mut M.mb M.db vv vn vi b):b < W.heap.size:=by
 rcases hb with rfl | rfl | hb | hb | hb
 ·exact h.box.lt
 ·exact h.dr.lt
 ·exact(h.views.row.lt b hb).2
 ·exact(h.nodes.row.lt b hb).2
 ·exact(h.infos.row.lt b hb).2
theorem MAt.afN (h:MAt C M Fd vv vn vi Lv Ln s W) {b:Nat} (hb:h.All b):b < W.heap.size:=by
 rcases hb with hb | hb | hb | hb
 ·have:=h.out b hb;have:=h.dL.1;have:=h.box.lt;omega
 ·exact(h.foot b hb).2.1
 ·exact h.abW hb
 ·exact(h.lev.row.lt b hb).2
theorem MAt.fresh (h:MAt C M Fd vv vn vi Lv Ln s W) {B:Nat} (hB:∀ b,Mut M.mb M.db vv vn vi b→b < B) (hb:M.base≤B):MAt C M (fun b=>Fd b∨(B≤b∧b < W.heap.size)) vv vn vi Lv Ln s W :=
 h.widen (fun b hb=>.inl hb) fun b hb'=>hb'.elim (fun hb=>h.foot b hb) fun hb''=>⟨byOmega,hb''.2,fun e=>by have:=hB b e; omega⟩
def oP:Knd Int where
 n:=1
 cells q:=[.int .i64 q]
 fine _ _ _:=True
 len _:=rfl
 pos:=ay
 one _ u hu:=by rw[List.mem_singleton.1 hu]; rfl
 keep _ _ _:=trivial
theorem OwnSl.ints {w:World} {base:Nat} {et:TypeId} {F G:Foot} {v:Value} {L:List Int} (h:OwnSl oP w base et F v L) (hG:∀ b,v.ownBlock=some b→G b):AA w G v L:=by
 rcases h.at with⟨rfl,rfl⟩ | ⟨g,cap,rfl,hb,hg,hcap,hf,hx⟩
 ·exact Yv
 ·refine⟨_,cap,rfl,hcap,fun _=>⟨g,0,rfl,hG g rfl,hg,fun k x hk=>?_⟩⟩;have:=hx k x hk 0 _ rfl;unfold o7;exact this
theorem Tryz.infoIntK:(Tryz.prog.info? 3).map (fun i=>(i.zero,i.size,i.bytes))=some (some (.int .i64 0),oP.n,8):=ah
theorem Wrote.step {K K':Foot} {a b c:World} (h:Wrote K a b) (k:Wrote K' b c) (hK:∀ i,i < a.heap.size→K' i→K i):Wrote K a c :=
 ⟨k.os.trans h.os,k.tape.trans h.tape,k.output.trans h.output,Nat.le_trans h.size k.size,fun i hi hn=>(k.block i (Nat.lt_of_lt_of_le hi h.size) (fun e=>hn (hK i hi e))).trans (h.block i hi hn)⟩
theorem dh {K:Foot} {w w':World} {b o:Nat} {v:Value} (h:w.cell? ⟨b,o,none⟩=some v) (hw:Wrote K w w') (hb:¬ K b):w'.cell? ⟨b,o,none⟩=some v:=(hw.cell b o (World.block_lt_of_cell? w _ h) hb).trans h
end
end Go.Proofs.YtnmeejofpkhlkaaGreatDoor
