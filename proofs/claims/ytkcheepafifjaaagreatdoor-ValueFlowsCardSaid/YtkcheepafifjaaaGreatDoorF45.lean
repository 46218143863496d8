/- what games and strategies that numbers select are like: in the form in which the walks ask for it. -/
import Derived.Test.YtkcheepafifjaaaGreatDoorF44
import Derived.Test.YtkcheepafifjaaaGreatDoorF39
set_option linter.all false
namespace Go.Proofs.YtkcheepafifjaaaGreatDoor
open Go.RowKit
section
variable {C:MC} {V:List View} {cr:List Nat} {g:Gm}
theorem BI.small (h:BI C V cr g) (hp4:g.au≤4) (hm:C.most≤100):Small g:=by
 have h1:=h.most;have h2:=h.many;have key:∀ n∈g.nodes,n.next.length≤100∧n.weights.length≤100∧n.pay.length≤100:=fun n hn=>by
  rcases h.node hn with⟨_,_,_,e4,e5,e6,_⟩ | ⟨l,seen,_,_,m3,m4,m5⟩
  ·rw[e4,e5];have:=h.au;exact⟨by simp,by simp,by omega⟩
  ·rw[m4];rcases m5 with⟨_,_,_,_,a4,_⟩ | ⟨_,_,_,a3,_⟩
   ·exact⟨by omega,by omega,by simp⟩
   ·rw[a3]; exact⟨by omega,by simp,by simp⟩
 exact⟨by omega,by omega,fun n hn=>(key n hn).1,fun n hn=>(key n hn).2.1,fun n hn=>(key n hn).2.2⟩
theorem BI.actions (h:BI C V cr g):∀ i∈g.infos,1≤i.actions∧i.actions≤3:=by
 intro i hi;obtain⟨x,hx⟩:=List.getElem?_of_mem hi;obtain⟨c,hc⟩:=aB (l:=cr) (k:=x) (by rw[h.len]; exact aF hx);obtain⟨n,n1,n2,n3⟩:=(h.km.has x c hc).resolve_right (by simp);rcases h.node (List.mem_of_getElem? n1) with he | ⟨l,seen,_,m2,m3,_,m5⟩
 ·have:=he.1; omega
 ·rcases m5 with⟨_,a1,_⟩ | ⟨_,_,_,_,y,a4,a5,_⟩
  ·omega
  ·have:y=x:=by omega
   subst this;rw[hx] at a5; cases a5;dsimp only;omega
end
structure BL (g:Gm) (au:Int) (zero:Bool) (most:Int):Prop where
 form:jG g=0
 small:Small g
 acts:∀ i∈g.infos,1≤i.actions∧i.actions≤10
 hpl:g.au=au
 hmo:(g.nodes.length:Int)≤most
 hz:zero=true→au=2→∀ n∈g.nodes,n.kind=3→∃ x,n.pay = [x,-x]
theorem aee (L:List Int) {au most:Int} (zero:Bool) (hp1:1≤au) (hp4:au≤4) (hm1:1≤most) (hm:most≤100):BL (aaz L au most zero) au zero most:=by
 obtain⟨C,V,cr,h,hz,hmo⟩:=ah9 L zero hp1 hm1;have hpl:(aaz L au most zero).au=au:=rfl;refine⟨h.form (by rw[hpl]; exact hp1) (by rw[hpl]; exact hp4) (by omega),h.small (by rw[hpl]; exact hp4) (by omega),fun i hi=>?_,hpl,by have:=h.most; omega,fun z0 p2 n hn hk=>?_⟩
 ·have:=h.actions i hi; omega
 ·rcases h.node hn with he | ⟨l,seen,_,_,_,_,m5⟩
  ·exact he.2.2.2.2.2.2.2 (by rw[hz]; exact z0) (by rw[h.au,hpl]; exact p2)
  ·rcases m5 with⟨_,a1,_⟩ | ⟨_,a1,_⟩ <;> omega
structure AO (g:Gm) (m:List (List Rat)):Prop where
 rows:BU g m
 wR:jl g (m.map (List.map ay))=0
 fit:Fit g m
 fine:Bd (m.map (List.map ay))
 len:m.length≤100000
theorem ai3 (x:Rat):U32 (ay x):=⟨fun y hy=>by have:=aJ x.num.natAbs y hy; unfold LB at this; omega,fun y hy=>by have:=aJ x.den y hy; unfold LB at this; omega⟩
theorem BU.facts {g:Gm} {m:List (List Rat)} (hf:jG g=0) (hs:Small g) (hr:BU g m):AO g m:=by
 have hl4:=hr.limbs;refine⟨hr,hr.wR hf,hr.fit hf,fun l hl=>?_,by have:=hr.1; have:=hs.infos; omega⟩;obtain⟨l',hl',rfl⟩:=List.mem_map.1 hl;obtain⟨k,hk⟩:=List.getElem?_of_mem hl';obtain⟨i,hi⟩:=aB (l:=g.infos) (k:=k) (by have:=aF hk; have:=hr.1; omega);have h1:=(hr.2 k i l' hi hk).1;have h2:=aaw hf i (List.mem_of_getElem? hi);refine⟨by rw[List.length_map]; omega,fun r hr'=>?_⟩;have h4:=hl4 _ hl r hr';obtain⟨x,_,rfl⟩:=List.mem_map.1 hr';exact⟨ai3 x,by omega,by omega⟩
theorem acQ (L:List Int) (a:Nat) {g:Gm} {au:Int} {zero:Bool} {most:Int} (h:BL g au zero most):AO g (acK L a g):=(adW L a h.acts).facts h.form h.small
theorem AO.zero {g:Gm} {m:List (List Rat)} (h:AO g m) {most:Int} (hg:BL g 2 true most):∃ a:Rat,bW g m 0 = [a,-a]∧qE (bW g m 0)=0∧fitsV (bW g m 0) = [ay a,ay (-a)]∧rl a≤1024∧rl (-a)≤1024:=by
 obtain⟨a,ha⟩:=h.fit.anti hg.hpl (hg.hz rfl rfl) _ 0 (Nat.le_refl _) h.fit.good.pos;have hr:=h.fit.xQ h.fit.good.pos;have hn:=hg.small.nodes;rw[ha] at hr;have h1:=hr a (by simp); have h2:=hr (-a) (by simp);have he:qE (bW g m 0)=0:=kF fun x hx=>by rw[ha] at hx; have:=hr x hx; omega
 exact⟨a,ha,he,by unfold fitsV; rw[he,if_neg (by simp),ha]; rfl,by omega,by omega⟩
theorem AZ.wr {K:Ag} {w w':World} (h:AZ w) (hw:Wrote K w w') (hK:¬ K 0):AZ w':=fun j hj=>cO (h j hj) hw hK
theorem foldl_add (l:List Rat) (a:Rat):l.foldl (· + ·) a=a+jY l:=by
 unfold jY;suffices H:∀ (l:List Rat) (a b:Rat),l.foldl (· + ·) (a+b)=a+l.foldl (· + ·) b by
  have:=H l a 0;rwa [Rat.add_zero] at this
 intro l;induction l with
 | nil=>intro a b; rfl
 | cons x l ih=>intro a b; rw[List.foldl_cons,List.foldl_cons,Rat.add_assoc,ih]
theorem yB (x:Rat) (l:List Rat):jY (x :: l)=x+jY l:=by
 have e:jY (x :: l)=l.foldl (· + ·) (0+x):=rfl;rw[e,Rat.zero_add,foldl_add]
theorem wX:jY []=0:=rfl
theorem ajY {α β:Type} {l:List α} {r:List β} {k:Nat} {a:α} {b:β} (h1:l[k]? = some a) (h2:r[k]? = some b):(l.zip r)[k]? = some (a,b):=by
 rw[List.getElem?_zip_eq_some]; exact⟨h1,h2⟩
theorem abU:∀ (bs:List Rat) (cs:List Int) (a:Rat),bs.length=cs.length→rH (fun _=>1) a (bs.zip cs)=bs.foldl (· + ·) a
 | [],_,a,_=>rfl
 | b :: bs,[],a,h=>by simp at h
 | b :: bs,c :: cs,a,h=>by
  have e:rH (fun _=>1) a ((b :: bs).zip (c :: cs))=rH (fun _=>1) (a+b*1) (bs.zip cs):=rfl;rw[e,Rat.mul_one,List.foldl_cons];exact abU bs cs (a+b) (by simpa using h)
theorem AO.chan {g:Gm} {m:List (List Rat)} (h:AO g m) {n:Nd} (hn:n∈g.nodes) (hk:n.kind≠3):jY (bU m n)=1:=by
 have hf:=pR h.wR;obtain⟨hne,_⟩:=pO hf;rcases kinds hne hn with k1 | k1 | k1
 ·obtain⟨c1,c2,c3,c4⟩:=nZ hne hn k1;have hs:=rE c4;unfold bU;rw[if_neg (by omega)];obtain⟨S,hS⟩:∃ S:Nat,lK n.weights=(S:Int):=⟨(lK n.weights).toNat,by omega⟩;have e:(n.weights.map fun x:Int=>(x:Rat) / ((lK n.weights:Int):Rat))=n.weights.map fun x=>mkRat x S:=List.map_congr_left fun x _=>by
   rw[hS,Rat.intCast_natCast,← Rat.mkRat_eq_div]
  rw[e];exact acH (by omega) hS
 ·obtain⟨inf,hi,_,_⟩:=aax hf hn k1;obtain⟨l,hl⟩:=aB (l:=m) (k:=n.info.toNat) (by have:=aF hi; have:=h.rows.1; omega);unfold bU;rw[if_pos k1,List.getD_eq_getElem?_getD,hl,Option.getD_some];exact(h.rows.2 n.info.toNat inf l hi hl).2.1
 ·exact absurd k1 hk
section
variable {g:Gm} {m:List (List Rat)}
theorem yC (hg:Good g) {i:Nat} {n:Nd} (hn:g.nodes[i]? = some n) (hin:aX n=true) (hl:(bU m n).length=n.next.length) (W:Nat→Rat):∀ k,k≤n.next.length →
  jY ((n.next.take k).map fun c=>bC aX g.nodes m c.toNat*W c.toNat)=bC aX g.nodes m i*rH W 0 (((bU m n).zip n.next).take k)
 | 0,_=>by
  show(0:Rat)=_*0;rw[Rat.mul_zero]
 | k+1,hk=>by
  obtain⟨c,hc⟩:=aB (l:=n.next) (k:=k) (by omega);obtain⟨b,hb⟩:=aB (l:=bU m n) (k:=k) (by omega);have hcb:=hg.span.kids i n (Nat.zero_le _) (aF hn) hn c (List.mem_of_getElem? hc);obtain⟨j,rfl⟩:∃ j:Nat,c=(j:Int):=⟨c.toNat,by omega⟩;rw[take_snoc hc,List.map_append,List.map_cons,List.map_nil,xE,yC hg hn hin hl W k (by omega),take_snoc (ajY hb hc),aeP,Int.toNat_natCast,mP hg aX m hn hc,if_pos hin,List.getD_eq_getElem?_getD,hb,Option.getD_some,Rat.mul_add,Rat.mul_assoc]
def dS (g:Gm) (f:Nat→Rat):Nat→Rat
 | 0=>0
 | k+1=>match g.nodes[k]? with
  | some n=>if n.kind=3 then dS g f k+f k else dS g f k
  | none=>dS g f k
theorem mW {f:Nat→Rat} {k:Nat} {n:Nd} (hn:g.nodes[k]? = some n) (hk:n.kind=3):dS g f (k+1)=dS g f k+f k:=by
 rw[dS,hn]; exact if_pos hk
theorem kG {f:Nat→Rat} {k:Nat} {n:Nd} (hn:g.nodes[k]? = some n) (hk:n.kind≠3):dS g f (k+1)=dS g f k:=by
 rw[dS,hn]; exact if_neg hk
theorem lW {f f':Nat→Rat}:∀ k,(∀ (i:Nat) (n:Nd),g.nodes[i]? = some n→n.kind=3→i < k→f i=f' i)→dS g f k=dS g f' k
 | 0,_=>rfl
 | k+1,h=>by
  have ih:=lW (f:=f) (f':=f') k fun i n h1 h2 h3=>h i n h1 h2 (by omega)
  cases hn:g.nodes[k]? with
  | none=>rw[dS,dS,hn]; exact ih
  | some n =>
   by_cases hk:n.kind=3
   ·rw[mW hn hk,mW hn hk,ih,h k n hn hk (by omega)]
   ·rw[kG hn hk,kG hn hk,ih]
theorem agZ (h:AO g m) {W:Nat→Rat} (hW:∀ (i:Nat) (n:Nd),g.nodes[i]? = some n→n.kind≠3→W i=rH W 0 ((bU m n).zip n.next)) {cs:List Int} {a b:Nat} (hs:Span g.nodes cs a b) :
  dS g (fun i=>bC aX g.nodes m i*W i) b=dS g (fun i=>bC aX g.nodes m i*W i) a+jY (cs.map fun c=>bC aX g.nodes m c.toNat*W c.toNat):=by
 induction hs with
 | nil a=>rw[List.map_nil,wX,Rat.add_zero]
 | @cons a k b n cs hn h1 h2 ih1 ih2 =>
  rw[List.map_cons,yB,Int.toNat_natCast,ih2,ih1];by_cases hk:n.kind=3
  ·have hnx:=(nY h.fit.nodes (List.mem_of_getElem? hn) hk).2.2;rw[hnx,List.map_nil,wX,Rat.add_zero,mW hn hk,Rat.add_assoc]
  ·have hin:aX n=true:=by unfold aX; simpa using hk
   have hf:=yC h.fit.good hn hin (h.fit.chan n (List.mem_of_getElem? hn) hk).1 W n.next.length (Nat.le_refl _);rw[List.take_of_length_le (Nat.le_refl _),List.take_of_length_le (by rw[List.length_zip]; omega),← hW a n hn hk] at hf;rw[kG hn hk,hf,Rat.add_assoc]
theorem AO.flow (h:AO g m) {W:Nat→Rat} (hW:∀ (i:Nat) (n:Nd),g.nodes[i]? = some n→n.kind≠3→W i=rH W 0 ((bU m n).zip n.next)):dS g (fun i=>bC aX g.nodes m i*W i) g.nodes.length=W 0:=by
 have:=agZ h hW h.fit.good.span;rw[this];show(0:Rat)+jY [bC aX g.nodes m 0*W 0]=W 0;rw[yB,wX,Rat.add_zero,Rat.zero_add,nG,Rat.one_mul]
theorem aef (h:AO g m):∀ (i:Nat) (n:Nd),g.nodes[i]? = some n→n.kind≠3→(1:Rat)=rH (fun _=>1) 0 ((bU m n).zip n.next):=fun i n hn hk=>by
 have hm:=List.mem_of_getElem? hn;rw[abU _ _ _ (h.fit.chan n hm hk).1];exact(h.chan hm hk).symm
theorem AO.ends (h:AO g m):dS g (bC aX g.nodes m) g.nodes.length=1:=by
 have:=h.flow (W:=fun _=>1) (aef h);rw[← this];exact lW _ fun i n _ _ _=>(Rat.mul_one _).symm
theorem AO.kids (h:AO g m) {i:Nat} {n:Nd} (hn:g.nodes[i]? = some n) (hk:n.kind≠3):jY (n.next.map fun c=>bC aX g.nodes m c.toNat)=bC aX g.nodes m i:=by
 have hin:aX n=true:=by unfold aX; simpa using hk
 have hl:=(h.fit.chan n (List.mem_of_getElem? hn) hk).1;have hf:=yC h.fit.good hn hin hl (fun _=>1) n.next.length (Nat.le_refl _);rw[List.take_of_length_le (Nat.le_refl _),List.take_of_length_le (by rw[List.length_zip]; omega),← aef h i n hn hk,Rat.mul_one] at hf;rw[← hf];congr 1
 exact List.map_congr_left fun c _=>(Rat.mul_one _).symm
theorem AO.worth (h:AO g m) {p:Nat} (hp:p < g.au.toNat):dS g (fun i=>bC aX g.nodes m i*(((g.nodes.getD i default).pay.getD p 0:Int):Rat)) g.nodes.length=(bW g m 0).getD p 0:=by
 rw[← h.flow (W:=fun i=>(bW g m i).getD p 0) fun i n hn hk=>h.fit.aiN hn hk hp];refine lW _ fun i n hn hk _=>?_
 have hpay:=(nY h.fit.nodes (List.mem_of_getElem? hn) hk).1;obtain⟨x,hx⟩:=aB (l:=n.pay) (k:=p) (by omega);rw[pJ h.fit.good m hn];unfold valOf;rw[if_pos hk,List.getD_eq_getElem?_getD (l:=g.nodes),hn,Option.getD_some,List.getD_eq_getElem?_getD,hx,List.getD_eq_getElem?_getD,List.getElem?_map,hx];rfl
theorem aeg (hg:Good g) (hend:∀ n∈g.nodes,n.kind=3→n.next = []) (pl:Int):∀ c,c < g.nodes.length→bC aX g.nodes m c=bC (ownB pl) g.nodes m c*bC (fD pl) g.nodes m c:=by
 intro c;induction c using Nat.strongRecOn with
 | _ c ih =>
  intro hc;by_cases h0:c=0
  ·subst h0;rw[nG,nG,nG,Rat.mul_one]
  ·obtain⟨i,k,n,hn,hk⟩:=hg.wG (Nat.pos_of_ne_zero h0) hc;have hl:=hg.sK ⟨n,hn,hk⟩;have hi:=ih i hl.1 hl.2.2;have hk3:n.kind≠3:=fun e=>by rw[hend n (List.mem_of_getElem? hn) e] at hk; simp at hk
   rw[mP hg aX m hn hk,mP hg (ownB pl) m hn hk,mP hg (fD pl) m hn hk,hi,if_pos (by unfold aX; simpa using hk3)];by_cases h2:n.kind=2∧n.aA=pl
   ·rw[if_pos (by unfold ownB; simp[h2]),if_neg (by unfold fD; simp[h2])];rw[Rat.mul_assoc,Rat.mul_assoc,Rat.mul_comm (bC (fD pl) g.nodes m i)]
   ·rw[if_neg (by unfold ownB; simp; omega),if_pos (by unfold fD; simp; omega)];rw[Rat.mul_assoc]
end
theorem yD {g:Gm} {f:Nat→Rat} {c:Nat}:∀ k,(∀ (i:Nat) (n:Nd),g.nodes[i]? = some n→n.kind=3→i < k→rl (f i)≤c)→rl (dS g f k)≤1+k*(c+1)
 | 0,_=>by
  show rl 0≤_;rw[nU]; omega
 | k+1,h=>by
  have ih:=yD k fun i n h1 h2 h3=>h i n h1 h2 (by omega)
  rw[Nat.succ_mul];cases hn:g.nodes[k]? with
  | none=>rw[dS,hn]; dsimp only; omega
  | some n =>
   by_cases hk:n.kind=3
   ·rw[mW hn hk];have h1:=zH (dS g f k) (f k);have h2:=h k n hn hk (by omega);omega
   ·rw[kG hn hk]; omega
def uN (g:Gm) (rs:List Rat) (k:Nat):Rat:=dS g (fun i=>rs.getD i 0) k
def yE (g:Gm) (rs:List Rat) (p i:Nat):Rat:=rs.getD i 0*(((g.nodes.getD i default).pay.getD p 0:Int):Rat)
def fE (g:Gm) (rs:List Rat) (P k:Nat):List Rat:=(List.range P).map fun p=>dS g (yE g rs p) k
def lX (g:Gm) (rs:List Rat) (P k p:Nat):List Rat:=(fE g rs P (k+1)).take p++(fE g rs P k).drop p
def oZ (rs:List Rat) (n:Nd) (j:Nat):Rat:=jY ((n.next.take j).map fun c=>rs.getD c.toNat 0)
theorem jW {g:Gm} {rs:List Rat} {P k:Nat}:(fE g rs P k).length=P:=by unfold fE; simp
theorem pX {g:Gm} {rs:List Rat} {P k p:Nat} (hp:p < P):(fE g rs P k)[p]? = some (dS g (yE g rs p) k):=by
 unfold fE;rw[List.getElem?_map,List.getElem?_range hp]; rfl
theorem aeh {g:Gm} {rs:List Rat} {P:Nat}:fE g rs P 0=List.replicate P 0:=by
 refine List.eq_replicate_iff.2 ⟨jW,fun x hx=>?_⟩;obtain⟨p,_,rfl⟩:=List.mem_map.1 hx;rfl
theorem aa7 {g:Gm} {rs:List Rat} {P k:Nat} {n:Nd} (hn:g.nodes[k]? = some n) (hk:n.kind≠3):fE g rs P (k+1)=fE g rs P k:=by
 unfold fE;exact List.map_congr_left fun p _=>kG hn hk
theorem acR {g:Gm} {rs:List Rat} {P k:Nat}:lX g rs P k 0=fE g rs P k:=rfl
theorem acS {g:Gm} {rs:List Rat} {P k p:Nat} (hp:p=P):lX g rs P k p=fE g rs P (k+1):=by
 subst hp;unfold lX;rw[List.take_of_length_le (by rw[jW]; exact Nat.le_refl _),List.drop_eq_nil_of_le (by rw[jW]; exact Nat.le_refl _),List.append_nil]
theorem acT {g:Gm} {rs:List Rat} {P k p:Nat} (hp:p < P):(lX g rs P k p)[p]? = some (dS g (yE g rs p) k):=by
 unfold lX;have hl:((fE g rs P (k+1)).take p).length=p:=by rw[List.length_take,jW]; omega
 rw[List.getElem?_append_right (by omega),hl,Nat.sub_self,List.getElem?_drop,Nat.add_zero,pX hp]
theorem acU {g:Gm} {rs:List Rat} {P k p:Nat} (hp:p < P):(lX g rs P k p).set p (dS g (yE g rs p) (k+1))=lX g rs P k (p+1):=by
 unfold lX;have hl:((fE g rs P (k+1)).take p).length=p:=by rw[List.length_take,jW]; omega
 have h1:(fE g rs P k).drop p=dS g (yE g rs p) k :: (fE g rs P k).drop (p+1):=by
  have h2:p < (fE g rs P k).length:=by rw[jW]; exact hp
  rw[List.drop_eq_getElem_cons h2];have h3:=pX (g:=g) (rs:=rs) (k:=k) hp;rw[List.getElem?_eq_getElem h2] at h3;injection h3 with h3
  rw[h3]
 rw[List.set_append_right _ _ (by omega),hl,Nat.sub_self,h1,List.set_cons_zero,take_snoc (pX (k:=k+1) hp),List.append_assoc];rfl
theorem aei {rs:List Rat} {n:Nd} {j c:Nat} {x:Rat} (hc:n.next[j]? = some (c:Int)) (hx:rs[c]? = some x):oZ rs n (j+1)=oZ rs n j+x:=by
 unfold oZ;rw[take_snoc hc,List.map_append,List.map_cons,List.map_nil,xE,Int.toNat_natCast,List.getD_eq_getElem?_getD,hx]; rfl
theorem acV {rs:List Rat} {c:Nat} (h:∀ x∈rs,rl x≤c) (hc:1≤c) (i:Nat):rl (rs.getD i 0)≤c:=by
 rw[List.getD_eq_getElem?_getD];cases hi:rs[i]? with
 | none=>show rl 0≤c; rw[nU]; exact hc
 | some x=>exact h x (List.mem_of_getElem? hi)
theorem afS {c:Nat}:∀ l:List Rat,(∀ x∈l,rl x≤c)→rl (jY l)≤1+l.length*(c+1)
 | [],_=>by rw[wX,nU]; omega
 | x :: l,h=>by
  have ih:=afS l fun y hy=>h y (List.mem_cons_of_mem _ hy)
  have h1:=h x (by simp);rw[yB,List.length_cons,Nat.succ_mul];have:=zH x (jY l);omega
theorem ag0 {rs:List Rat} {n:Nd} {j c:Nat} (h:∀ x∈rs,rl x≤c) (hc:1≤c) (hj:j≤n.next.length):rl (oZ rs n j)≤1+j*(c+1):=by
 unfold oZ;have:=afS (c:=c) ((n.next.take j).map fun c=>rs.getD c.toNat 0) fun x hx=>by
  obtain⟨i,_,rfl⟩:=List.mem_map.1 hx;exact acV h hc _
 rwa [List.length_map,List.length_take,Nat.min_eq_left hj] at this
section
variable {g:Gm} {m:List (List Rat)}
theorem pY {cnt:Nd→Bool} {i:Nat} (h:i < g.nodes.length):(bJ cnt g m).getD i 0=bC cnt g.nodes m i:=by
 unfold bJ;rw[List.getD_eq_getElem?_getD,List.getElem?_map,List.getElem?_range h]; rfl
theorem uo {cnt:Nd→Bool} {i:Nat} {x:Rat} (h:(bJ cnt g m)[i]? = some x):x=bC cnt g.nodes m i:=by
 have hl:i < g.nodes.length:=by have:=aF h; unfold bJ at this; simpa using this
 rw[← pY (cnt:=cnt) (m:=m) hl,List.getD_eq_getElem?_getD,h]; rfl
theorem AO.ai4 (h:AO g m):uN g (bJ aX g m) g.nodes.length=1:=by
 rw[← h.ends];exact lW _ fun i n _ _ hi=>pY hi
theorem AO.ag1 (h:AO g m) {P:Nat} (hP:g.au=(P:Int)):fE g (bJ aX g m) P g.nodes.length=bW g m 0:=by
 have hl:(bW g m 0).length=P:=by rw[h.fit.jO _ 0 (Nat.le_refl _) h.fit.good.pos,hP]; simp
 refine List.ext_getElem? fun p=>?_
 by_cases hp:p < P
 ·rw[pX hp];obtain⟨x,hx⟩:=aB (l:=bW g m 0) (k:=p) (by omega);have hw:=h.worth (p:=p) (by rw[hP]; simpa using hp);rw[List.getD_eq_getElem?_getD,hx,Option.getD_some] at hw;rw[hx,← hw];congr 1
  exact lW _ fun i n _ _ hi=>by unfold yE; rw[pY hi]
 ·rw[List.getElem?_eq_none (by rw[jW]; omega),List.getElem?_eq_none (by omega)]
theorem AO.ai5 (h:AO g m) {i:Nat} {n:Nd} {r:Rat} (hn:g.nodes[i]? = some n) (hk:n.kind≠3) (hr:(bJ aX g m)[i]? = some r):oZ (bJ aX g m) n n.next.length=r:=by
 rw[uo hr,← h.kids hn hk];unfold oZ;rw[List.take_of_length_le (Nat.le_refl _)];congr 1
 refine List.map_congr_left fun c hc=>?_
 have:=h.fit.good.span.kids i n (Nat.zero_le _) (aF hn) hn c hc;exact pY (by omega)
theorem AO.split (h:AO g m) (pl:Int) {i:Nat} {r s t:Rat} (hr:(bJ aX g m)[i]? = some r) (hs:(bJ (ownB pl) g m)[i]? = some s) (ht:(bJ (fD pl) g m)[i]? = some t):s*t=r:=by
 have hl:i < g.nodes.length:=by have:=aF hr; unfold bJ at this; simpa using this
 rw[uo hr,uo hs,uo ht];exact(aeg h.fit.good (fun n hn hk=>(nY h.fit.nodes hn hk).2.2) pl i hl).symm
end
theorem ag2 {g:Gm} {rs:List Rat} {k:Nat} {n:Nd} {r:Rat} (hn:g.nodes[k]? = some n) (hk:n.kind=3) (hr:rs[k]? = some r):uN g rs (k+1)=uN g rs k+r:=by
 unfold uN;rw[mW hn hk,List.getD_eq_getElem?_getD,hr]; rfl
theorem aej {g:Gm} {rs:List Rat} {k:Nat} {n:Nd} (hn:g.nodes[k]? = some n) (hk:n.kind≠3):uN g rs (k+1)=uN g rs k:=kG hn hk
theorem ag3 {g:Gm} {rs:List Rat} {k p:Nat} {n:Nd} {r:Rat} {x:Int} (hn:g.nodes[k]? = some n) (hk:n.kind=3) (hr:rs[k]? = some r) (hx:n.pay[p]? = some x):dS g (yE g rs p) (k+1)=dS g (yE g rs p) k+r*(x:Rat):=by
 rw[mW hn hk];unfold yE;rw[List.getD_eq_getElem?_getD (l:=rs),hr,List.getD_eq_getElem?_getD (l:=g.nodes),hn,Option.getD_some,Option.getD_some,List.getD_eq_getElem?_getD,hx,Option.getD_some]
theorem aii {g:Gm} {rs:List Rat} {c k:Nat} (h:∀ x∈rs,rl x≤c) (hc:1≤c):rl (uN g rs k)≤1+k*(c+1):=yD k fun i _ _ _ _=>acV h hc i
theorem aij {g:Gm} {m:List (List Rat)} (hf:Fit g m) {rs:List Rat} {c k p:Nat} (h:∀ x∈rs,rl x≤c) (hc:1≤c):rl (dS g (yE g rs p) k)≤1+k*(c+1+1):=yD k fun i n hn hk _=>by
 unfold yE;have h1:=rQ (rs.getD i 0) (((g.nodes.getD i default).pay.getD p 0:Int):Rat);have h2:=acV h hc i;have h3:rl (((g.nodes.getD i default).pay.getD p 0:Int):Rat)≤1:=by
  rw[List.getD_eq_getElem?_getD (l:=g.nodes),hn,Option.getD_some,List.getD_eq_getElem?_getD];cases hx:n.pay[p]? with
  | none=>exact aao (by decide)
  | some x=>exact aao ((nY hf.nodes (List.mem_of_getElem? hn) hk).2.1 x (List.mem_of_getElem? hx))
 omega
end Go.Proofs.YtkcheepafifjaaaGreatDoor
