import Derived.Test.YtenaplhghbcjhaaGreatDoorQ05
import Derived.Test.YtenaplhghbcjhaaGreatDoorQ06
set_option linter.all false
namespace Go.Proofs.YtenaplhghbcjhaaGreatDoor
open Below renaming same'->GL
open Go renaming Value->GN,World->GK
open Go.Value renaming bool->G7,slice->Gw
open List renaming eq_nil_of_length_eq_zero->IQ,getD_eq_getElem?_getD->GH,getElem?_append_left->IB,getElem?_append_right->JI,getElem?_map->GY,getElem?_take->KF,length_append->G9,length_map->Gz,mem_of_getElem?->Gx,not_mem_nil->KI,replicate->GX
open Nat renaming le_refl->Gy,le_trans->He,zero_add->I5
open Same renaming refl->GZ
open Go.Proofs.Tryz renaming prog->GI
open Go.World renaming news_of_block->Ko,ownsRow_nil->J8,size_alloc->KE
open Go.RowKit
variable {a:Act} {ops:Array Oper} {F G:Gq} {rest:List Oper} {b base c k n:Nat} {o:Oper} {et t:TypeId}
structure RV where
 r:Raw
 vn:GN
 vd:GN
def RV.cells (q:RV):List GN:=[G7 q.r.neg,q.vn,q.vd]
def RV.fine (w:GK) (F:Gq) (q:RV):Prop:=Aj w F q.vn q.r.num/\Aj w F q.vd q.r.den
theorem RV.fine.keep {w w':GK} {q:RV} (h:q.fine w F) (hFG:∀ b,F b->b < w.heap.size->G b) (hs:Same F w w'):q.fine w' G:=⟨h.1.keep hFG hs,h.2.keep hFG hs⟩
theorem RV.fine.below {w w':GK} {q:RV} (h:q.fine w F) (hb:Below w.heap.size w w'):q.fine w' F:=h.keep (λ_ h _=>h) (GL hb F)
theorem Aj.oneCell {w:GK} {v:GN} {l:List Nat} (h:Aj w F v l):v.oneCell'=true:=by obtain⟨A,c,rfl,_⟩:=h; rfl
theorem Ak.rv {w:GK} {v:GN} {r:Raw} (h:Ak w F v r):∃ q:RV,q.r=r/\v = .agg q.cells.toArray/\q.fine w F:=by
 obtain⟨vn,vd,rfl,h1,h2⟩:=h;exact⟨⟨r,vn,vd⟩,rfl,rfl,h1,h2⟩
theorem Lies.raws {w:GK} {L:List RV} (h:Lies w b (L.flatMap RV.cells)) (hb:F b) (hL:∀ q∈L,q.fine w F) (hc:L.length<=c):Gs w F (Gw (some ⟨b,0,none⟩) L.length c) (L.map RV.r):=by
 refine⟨_,c,by rw[Gz],by rw[Gz]; exact hc,λ_=>⟨b,0,rfl,hb,h.1,λk x hk=>?_⟩⟩;rw[GY] at hk;obtain⟨q,hq,rfl⟩:=Option.map_eq_some_iff.1 hk;obtain⟨f1,f2⟩:=hL q (Gx hq);have g:∀ j v,j < 3->q.cells[j]? = some v->w.cell? ⟨b,0+k*3+j,none⟩=some v:=λj v hj hv=>by
  rw[I5];exact h.2 _ _ (by rw[lF (f:=RV.cells) (s:=3) (λ_=>rfl) L k j q hq hj]; exact hv)
 exact⟨g 0 _ FI rfl,⟨_,g 1 _ FI rfl,f1⟩,⟨_,g 2 _ FI rfl,f2⟩⟩
theorem aei (L:List RV):(L.flatMap RV.cells).length=L.length*3:=by
 induction L with
 | nil=>rfl
 | cons q L ih=>rw[List.flatMap_cons,G9,ih]; simp[RV.cells]; omega
theorem Tryz.infoNum:(Tryz.prog.info? 74).map (λi=>(i.zero,i.size,i.bytes))=some (some (.agg #[G7 false,Gw none 0 0,Gw none 0 0]),3,56):=aj
theorem Tryz.infoRat:(Tryz.prog.info? 42).map (λi=>(i.zero,i.size,i.bytes))=some (some (.agg #[G7 false,Gw none 0 0,Gw none 0 0]),3,56):=aj
theorem agm {w:GK} {Q:Exit->Act->GK->Prop} (hgd:o.guard=none) (s x:Operand) (t et:TypeId) (ht:Tryz.prog.underlying t=some (.slice et))
  (hi0:(Tryz.prog.info? et).map (λi=>(i.zero,i.size,i.bytes))=some (some (.agg #[G7 false,Gw none 0 0,Gw none 0 0]),3,56))
  (ho:o.op = .call { callee:=.builtin .append,args:=#[s,x],argTypes:=#[t,t] })
  (base:Nat) (v:GN) (L:List RV) (hs:a.eval s=v) (hown:w.ownsRow base et 3 v L.length (L.flatMap RV.cells))
  (B:Nat) (q:RV) (hx:a.eval x = Gw (some ⟨B,0,none⟩) 1 1) (hB:w.heap[B]? = some (.cells q.cells.toArray et (0,0))) (hone:q.vn.oneCell'=true/\q.vd.oneCell'=true) (hlen:L.length<=1000000) (hbase:base<=w.heap.size)
  (h:∀ g cap w',w'.ownsRow base et 3 (Gw (some ⟨g,0,none⟩) (L.length+1) cap) (L ++ [q]).length ((L ++ [q]).flatMap RV.cells)->w.grownBy w' v.ownBlock->(v.ownBlock=some g\/w.heap.size<=g)->g < w'.heap.size ->
   wpList GI ops Q rest (a.put o.dst (Gw (some ⟨g,0,none⟩) (L.length+1) cap)) w') :
  wpList GI ops Q (o :: rest) a w:=by
 obtain⟨i0,hi,hz0,hz1,hz2⟩:=info_parts hi0;refine wpList_append_lies w hgd s x _ ho base _ i0 _ 3 56 ht hi hz0 hz1 hz2 rfl FI v L.length _ hs hown ⟨B,0,none⟩ 1 1 q.cells hx rfl (Ko hB) ?_ FI (by unfold maxLen; omega) FI hbase w.heap.size rfl ?_
 ·intro u hu;simp only[RV.cells,List.mem_cons,KI,or_false] at hu;rcases hu with rfl | rfl | rfl
  ·rfl
  ·exact hone.1
  grind
 grind
theorem ajU {w:GK} {v:GN} {L:List RV} (h:w.ownsRow base t 3 v L.length (L.flatMap RV.cells)) (hF:∀ b,v.ownBlock=some b->F b) (hL:∀ q∈L,q.fine w F):Gs w F v (L.map RV.r):=by
 rcases h.2 with⟨rfl,h0⟩ | ⟨g,cap,cur,rfl,hb,hg,hnc,_,hsz,htake⟩
 ·have:L = []:=IQ h0;subst this;exact zck
 ·refine Lies.raws ⟨(Array.getElem?_eq_some_iff.1 hg).1,λi u hi=>?_⟩ (hF g rfl) hL hnc;rw[<-htake,KF] at hi;split at hi
  ·simp[World.cell?,hg];simpa using hi
  ·cases hi
def Apart (F:Gq) (v:GN):Gq:=λb=>F b/\v.ownBlock≠some b
structure Bj (w:GK) (base:Nat) (et:TypeId) (F:Gq) (v:GN) (L:List RV):Prop where
 row:w.ownsRow base et 3 v L.length (L.flatMap RV.cells)
 fine:∀ q∈L,q.fine w (Apart F v)
theorem Bj.nil (w:GK) (base:Nat) (et:TypeId) (F:Gq):Bj w base et F (Gw none 0 0) []:=⟨J8 _ _ _ _,λq h=>by cases h⟩
theorem Bj.below {w w':GK} {v:GN} {L:List RV} (h:Bj w base et F v L) (hb:Below w.heap.size w w'):Bj w' base et F v L:=by
 refine⟨⟨h.row.1,?_⟩,λq hq=>(h.fine q hq).below hb⟩;rcases h.row.2 with hn | ⟨g,cap,cur,rfl,hg,hc,r⟩
 ·exact .inl hn
 ·exact .inr ⟨g,cap,cur,rfl,hg,by rw[hb.block g (Array.getElem?_eq_some_iff.1 hc).1]; exact hc,r⟩
theorem Bj.raws {w:GK} {v:GN} {L:List RV} (h:Bj w base et F v L) (hF:∀ b,F b->G b) (hG:∀ b,base<=b->G b):Gs w G v (L.map RV.r) :=
 ajU h.row (λb hb=>hG b (h.row.lt b hb).1) λq hq=>(h.fine q hq).keep (λb hb _=>hF b hb.1) (GZ _ _)
theorem wV {w W:GK} {Q:Exit->Act->GK->Prop} (hgd:o.guard=none) (s x:Operand) (t et:TypeId) (ht:Tryz.prog.underlying t=some (.slice et))
  (hi0:(Tryz.prog.info? et).map (λi=>(i.zero,i.size,i.bytes))=some (some (.agg #[G7 false,Gw none 0 0,Gw none 0 0]),3,56))
  (ho:o.op = .call { callee:=.builtin .append,args:=#[s,x],argTypes:=#[t,t] })
  (base:Nat) (hbase:base<=W.heap.size) (v:GN) (L:List RV) (hs:a.eval s=v) (q:RV) (hlen:L.length<=1000000)
  (hx:a.eval x = Gw (some ⟨w.heap.size,0,none⟩) 1 1) (hown:Bj w base et F v L) (hq:q.fine w (Apart F v)) (hbel:Below base W w)
  (h:∀ g cap w',Bj w' base et F (Gw (some ⟨g,0,none⟩) (L.length+1) cap) (L ++ [q])->Below base W w'->w.heap.size < w'.heap.size ->
   wpList GI ops Q rest (a.put o.dst (Gw (some ⟨g,0,none⟩) (L.length+1) cap)) w') :
  wpList GI ops Q (o :: rest) a (w.alloc (.cells #[G7 q.r.neg,q.vn,q.vd] et)):=by
 have hz:=hbel.size;refine agm hgd s x t et ht hi0 ho base v L hs (hown.row.alloc _) w.heap.size q hx (heap_alloc_new _ _) ⟨hq.1.oneCell,hq.2.oneCell⟩ hlen aB ?_;intro g cap w' h1 h2 h3 h4;have h5:=h2.size;simp only[KE] at h5 h3;have hsame:Same (Apart F v) w w':=⟨FI,λb hb hl=>(h2.block b aB (λe=>hb.2 e.symm)).trans (Below.heap_alloc _ _ _ hl)⟩;refine h g cap w' ⟨h1,λp hp=>?_⟩ ((hbel.alloc FI _).grown h2 aB (λk hk=>(hown.row.lt k hk).1)) FI;have hp':p.fine w (Apart F v):=by
   rcases List.mem_append.1 hp with hp | hp
   ·exact hown.fine p hp
   grind
 refine hp'.keep (λb hb hl=>⟨hb.1,λe=>?_⟩) hsame;have e:some g=some b:=e;cases e
 rcases h3 with h3 | h3
 ·exact hb.2 h3
 ·omega
theorem ani:rl 1=1:=by unfold rl; rw[show(1:Rat).num=1 from rfl,show(1:Rat).den=1 from rfl,show(1:Int).natAbs=1 from rfl,ji]; rfl
def rE (l:List Int):Int:=l.foldl (· + ·) 0
theorem aa7 (l:List Int) (x:Int):rE (l ++ [x])=rE l+x:=by grind [rE]
def wu (m:List (List Rat)) (n:Nd):List Rat:=if n.kind=2 then m.getD n.info.toNat [] else n.weights.map λx:Int=>(x:Rat) / ((rE n.weights:Int):Rat)
def aa8 (cnt:Nd->Bool) (F7:List Nd) (m:List (List Rat)) (l:List Rat) (c:Nat):Rat :=
 match upTo F7 c c with
 | some (i,k)=>match F7[i]? with
  | some n=>if cnt n then l.getD i 0*(wu m n).getD k 0 else l.getD i 0
  | none=>1
 | none=>1
def oV (cnt:Nd->Bool) (F7:List Nd) (m:List (List Rat)):Nat->List Rat
 | 0=>[]
 | c+1=>oV cnt F7 m c ++ [aa8 cnt F7 m (oV cnt F7 m c) c]
def eX (cnt:Nd->Bool) (F7:List Nd) (m:List (List Rat)) (c:Nat):Rat:=(oV cnt F7 m (c+1)).getD c 0
theorem nR (cnt:Nd->Bool) (F7:List Nd) (m:List (List Rat)):∀ j,(oV cnt F7 m j).length=j
 | 0=>rfl
 | j+1=>by unfold oV; rw[G9,nR cnt F7 m j]; rfl
theorem wW (cnt:Nd->Bool) (F7:List Nd) (m:List (List Rat)) {c:Nat}:∀ {j},c < j->(oV cnt F7 m j)[c]? = some (eX cnt F7 m c)
 | 0,h=>absurd h FI
 | j+1,h=>by
  have hl:=nR cnt F7 m j;by_cases e:c=j
  ·subst e;have hl1:=nR cnt F7 m (c+1);obtain⟨x,hx⟩:=Gl (l:=oV cnt F7 m (c+1)) (k:=c) FI;unfold eX;rw[GH,hx]; rfl
  ·unfold oV;rw[IB FI];exact wW cnt F7 m FI
theorem ajV (cnt:Nd->Bool) (F7:List Nd) (m:List (List Rat)) (c:Nat):eX cnt F7 m c=aa8 cnt F7 m (oV cnt F7 m c) c:=by
 have h:=wW cnt F7 m (c:=c) (j:=c+1) FI;grind [oV,nR]
theorem wX (cnt:Nd->Bool) (F7:List Nd) (m:List (List Rat)):eX cnt F7 m 0=1:=rfl
theorem rF {g:Gm} (hg:Good g) (cnt:Nd->Bool) (m:List (List Rat)) {i:Nat} {n:Nd} (hn:g.F7[i]? = some n) (hc:n.next[k]? = some (c:Int)) :
  eX cnt g.F7 m c=if cnt n then eX cnt g.F7 m i*(wu m n).getD k 0 else eX cnt g.F7 m i:=by
 have hk:Kid g.F7 i k c:=⟨n,hn,hc⟩;have hl:=hg.alq hk;rw[ajV];unfold aa8;rw[hg.aoi hk c hl.1 FI];grind [wW]
theorem aej {g:Gm} (hg:Good g) (cnt:Nd->Bool) (m:List (List Rat)) (hb:∀ n∈g.F7,cnt n=true->∀ x∈wu m n,rl x<=4):∀ c,c < g.F7.length->rl (eX cnt g.F7 m c)<=1+4*c:=by
 intro c;induction c using Nat.strongRecOn with
 | _ c ih =>
   intro hc;by_cases h0:c=0
   ·grind [wX,ani]
   ·obtain⟨i,k,n,hn,hk⟩:=hg.anc (Nat.pos_of_ne_zero h0) hc;have hl:=hg.alq ⟨n,hn,hk⟩;have h1:=ih i hl.1 hl.2.2;rw[rF hg cnt m hn hk];cases hcn:cnt n with
    | false=>grind
    | true =>
      simp only[↓reduceIte];have h2:=jQ (eX cnt g.F7 m i) ((wu m n).getD k 0);have h3:rl ((wu m n).getD k 0)<=4:=by
        rw[GH];cases hx:(wu m n)[k]? with
        | none=>show rl 0<=4; rw[lK]; omega
        | some x=>grind
      omega
structure Fit (g:Gm) (m:List (List Rat)):Prop where
 good:Good g
 F7:dH g.aC g.F8.length g.F7=0
 aC:1<=g.aC/\g.aC<=4
 rows:m.length=g.F8.length
 chan:∀ n∈g.F7,n.kind≠3->(wu m n).length=n.next.length/\∀ x∈wu m n,rl x<=4
theorem acg {aC:Int} {ni:Nat} {F7:List Nd} (h:dH aC ni F7=0) {n:Nd} (hn:n∈F7) (hk:n.kind=3):(n.pay.length:Int)=aC/\(∀ x∈n.pay,-1000000<=x/\x<=1000000)/\n.next = []:=by
 have h1:=gJ h n hn;grind [aT,iG,IQ,outside]
structure Knd (α:Type) where
 n:Nat
 cells:α->List GN
 fine:GK->Gq->α->Prop
 len:∀ q,(cells q).length=n
 pos:0 < n
 one:∀ {w:GK} {F:Gq} {q:α},fine w F q->∀ u∈cells q,u.oneCell'=true
 keep:∀ {w w':GK} {F G:Gq} {q:α},fine w F q->(∀ b,F b->b < w.heap.size->G b)->Same F w w'->fine w' G q
structure OwnSl {α:Type} (K:Knd α) (w:GK) (base:Nat) (et:TypeId) (F:Gq) (v:GN) (L:List α):Prop where
 row:w.ownsRow base et K.n v L.length (L.flatMap K.cells)
 fine:∀ q∈L,K.fine w (Apart F v) q
section
variable {α:Type} {K:Knd α}
theorem OwnSl.nil (K:Knd α) (w:GK) (base:Nat) (et:TypeId) (F:Gq):OwnSl K w base et F (Gw none 0 0) []:=⟨J8 _ _ _ _,λq h=>by cases h⟩
theorem OwnSl.below {w w':GK} {v:GN} {L:List α} (h:OwnSl K w base et F v L) (hb:Below w.heap.size w w'):OwnSl K w' base et F v L:=by
 refine⟨⟨h.row.1,?_⟩,λq hq=>K.keep (h.fine q hq) (λ_ h _=>h) (GL hb _)⟩;rcases h.row.2 with hn | ⟨g,cap,cur,rfl,hg,hc,r⟩
 ·exact .inl hn
 ·exact .inr ⟨g,cap,cur,rfl,hg,by rw[hb.block g (Array.getElem?_eq_some_iff.1 hc).1]; exact hc,r⟩
theorem OwnSl.at {w:GK} {v:GN} {L:List α} (h:OwnSl K w base et F v L) :
  (v = Gw none 0 0/\L = [])\/∃ g cap,v = Gw (some ⟨g,0,none⟩) L.length cap/\base<=g/\g < w.heap.size/\L.length<=cap/\(∀ q∈L,K.fine w F q)/\∀ k q,L[k]? = some q->∀ j u,(K.cells q)[j]? = some u->w.cell? ⟨g,0+k*K.n+j,none⟩=some u:=by
 rcases h.row.2 with⟨rfl,h0⟩ | ⟨g,cap,cur,rfl,hb,hg,hnc,_,hsz,htake⟩
 ·grind
 ·refine .inr ⟨g,cap,rfl,hb,(Array.getElem?_eq_some_iff.1 hg).1,hnc,λq hq=>K.keep (h.fine q hq) (λb hb _=>hb.1) (GZ _ _),λk q hk j u hu=>?_⟩;have hj:j < K.n:=by rw[<-K.len q];exact Gn hu
  have e:=lF (f:=K.cells) (s:=K.n) K.len L k j q hk hj;rw[hu,<-htake,KF] at e;rw[I5];split at e
  ·simp[World.cell?,hg];simpa using e
  ·cases e
theorem je {w W:GK} {Q:Exit->Act->GK->Prop} (hgd:o.guard=none) (s x:Operand) (t et:TypeId) (bytes:Nat) (z:GN) (ht:Tryz.prog.underlying t=some (.slice et))
  (hi0:(Tryz.prog.info? et).map (λi=>(i.zero,i.size,i.bytes))=some (some z,K.n,bytes)) (hzc:z.cells.size=K.n) (hby:bytes<=1000)
  (ho:o.op = .call { callee:=.builtin .append,args:=#[s,x],argTypes:=#[t,t] })
  (base:Nat) (hbase:base<=W.heap.size) (v:GN) (L:List α) (hs:a.eval s=v) (q:α) (c:Array GN) (hc:c=(K.cells q).toArray) (hlen:L.length<=1000000)
  (hx:a.eval x = Gw (some ⟨w.heap.size,0,none⟩) 1 1) (hown:OwnSl K w base et F v L) (hq:K.fine w (Apart F v) q) (hbel:Below base W w)
  (h:∀ g cap w',OwnSl K w' base et F (Gw (some ⟨g,0,none⟩) (L.length+1) cap) (L ++ [q])->Below base W w'->w.heap.size < w'.heap.size->Same (λb=>v.ownBlock≠some b) w w' ->
   wpList GI ops Q rest (a.put o.dst (Gw (some ⟨g,0,none⟩) (L.length+1) cap)) w') :
  wpList GI ops Q (o :: rest) a (w.alloc (.cells c et)):=by
 subst hc;have hz:=hbel.size;refine zcV ?_;intro hm i0 hi hz0 hz1 hz2;refine wpList_append_lies (w.alloc (.cells (K.cells q).toArray et)) hgd s x t ho base et i0 z K.n bytes ht hi hz0 hz1 hz2 hzc K.pos v L.length _ hs (hown.row.alloc _) ⟨w.heap.size,0,none⟩ 1 1 (K.cells q) hx (by rw[Nat.one_mul]; exact K.len q) (Ko (heap_alloc_new _ _)) (K.one hq) FI (by unfold maxLen; omega) FI aB (w.alloc (.cells (K.cells q).toArray et)).heap.size rfl ?_;intro g cap w' h1 h2 h3 h4;have h5:=h2.size;simp only[KE] at h5 h3;refine Yo ?_;intro hsame e1 e2 ahY p hp;have hp':K.fine w (Apart F v) p:=by
   rcases List.mem_append.1 hp with hp | hp
   ·exact hown.fine p hp
   grind
 refine K.keep hp' (λb hb hl=>⟨hb.1,λe=>?_⟩) hsame;have e:some g=some b:=e;cases e
 rcases h3 with h3 | h3
 ·exact hb.2 h3
 ·omega
theorem mQ {w W:GK} {K':Act->GK->Prop} {Q:Exit->Act->GK->Prop} {E:Prop} (hgd:o.guard=none) (s x:Operand) (t et:TypeId) (bytes:Nat) (z:GN) (ht:Tryz.prog.underlying t=some (.slice et))
  (hi0:(Tryz.prog.info? et).map (λi=>(i.zero,i.size,i.bytes))=some (some z,K.n,bytes)) (hzc:z.cells.size=K.n) (hby:bytes<=1000)
  (ho:o.op = .call { callee:=.builtin .append,args:=#[s,x],argTypes:=#[t,t] })
  (base:Nat) (hbase:base<=W.heap.size) (v:GN) (L:List α) (hs:a.eval s=v) (q:α) (c:Array GN) (hc:c=(K.cells q).toArray) (hlen:L.length<=1000000)
  (hx:a.eval x = Gw (some ⟨w.heap.size,0,none⟩) 1 1) (hown:OwnSl K w base et F v L) (hq:K.fine w (Apart F v) q) (hbel:Below base W w)
  (h:∀ g cap w',OwnSl K w' base et F (Gw (some ⟨g,0,none⟩) (L.length+1) cap) (L ++ [q])->Below base W w'->w.heap.size < w'.heap.size->Same (λb=>v.ownBlock≠some b) w w' ->
   K' (a.put o.dst (Gw (some ⟨g,0,none⟩) (L.length+1) cap)) w') :
  if Region.wanted o (yielded ops a.tmps)=true then Oper.wp GI o a (w.alloc (.cells c et)) K' Q else E:=by
 subst hc;have hz:=hbel.size;refine zcV ?_;intro hm i0 hi hz0 hz1 hz2;refine step_append_lies (w.alloc (.cells (K.cells q).toArray et)) hgd s x t ho base et i0 z K.n bytes ht hi hz0 hz1 hz2 hzc K.pos v L.length _ hs (hown.row.alloc _) ⟨w.heap.size,0,none⟩ 1 1 (K.cells q) hx (by rw[Nat.one_mul]; exact K.len q) (Ko (heap_alloc_new _ _)) (K.one hq) FI (by unfold maxLen; omega) FI aB (w.alloc (.cells (K.cells q).toArray et)).heap.size rfl ?_;intro g cap w' h1 h2 h3 h4;have h5:=h2.size;simp only[KE] at h5 h3;refine Yo ?_;intro hsame e1 e2 ahY p hp;have hp':K.fine w (Apart F v) p:=by
   rcases List.mem_append.1 hp with hp | hp
   ·exact hown.fine p hp
   grind
 refine K.keep hp' (λb hb hl=>⟨hb.1,λe=>?_⟩) hsame;have e:some g=some b:=e;cases e
 rcases h3 with h3 | h3
 ·exact hb.2 h3
 ·omega
end
def rG:Knd (GN×List Raw) where
 n:=1
 cells q:=[q.1]
 fine w F q:=Gs w F q.1 q.2
 len _:=rfl
 pos:=au
 one h u hu:=by
  obtain⟨A,c,hv,_⟩:=h;rw[List.mem_singleton.1 hu,hv];rfl
 keep h hFG hs:=h.keep hFG hs
theorem OwnSl.rows {w:GK} {v:GN} {L:List (GN×List Raw)} (h:OwnSl rG w base et F v L) (hF:∀ b,F b->G b) (hG:∀ b,base<=b->G b):Gt w G v (L.map Prod.snd):=by
 rcases h.at with⟨rfl,rfl⟩ | ⟨g,cap,rfl,hb,hg,hcap,hf,hx⟩
 ·grind [Gt.nil]
 ·refine⟨_,cap,by rw[Gz],by rw[Gz]; exact hcap,λ_=>⟨g,0,rfl,hG g hb,hg,λk x hk=>?_⟩⟩;rw[GY] at hk;obtain⟨q,hq,rfl⟩:=Option.map_eq_some_iff.1 hk;exact⟨q.1,hx k q hq 0 q.1 rfl,Gs.keep (hf q (Gx hq)) (λb hb _=>hF b hb) (GZ _ _)⟩
def ratK:Knd RV where
 n:=3
 cells q:=q.cells
 fine w F q:=q.fine w F
 len _:=rfl
 pos:=au
 one h u hu:=by
  simp only[RV.cells,List.mem_cons,KI,or_false] at hu;rcases hu with rfl | rfl | rfl
  ·rfl
  ·exact h.1.oneCell
  ·exact h.2.oneCell
 keep h hFG hs:=h.keep hFG hs
theorem OwnSl.raws {w:GK} {v:GN} {L:List RV} (h:OwnSl ratK w base et F v L) (hF:∀ b,F b->G b) (hG:∀ b,base<=b->G b):Gs w G v (L.map RV.r):=by
 rcases h.at with⟨rfl,rfl⟩ | ⟨g,cap,rfl,hb,hg,hcap,hf,hx⟩
 ·grind [Gs.nil]
 ·refine⟨_,cap,by rw[Gz],by rw[Gz]; exact hcap,λ_=>⟨g,0,rfl,hG g hb,hg,λk x hk=>?_⟩⟩;rw[GY] at hk;obtain⟨q,hq,rfl⟩:=Option.map_eq_some_iff.1 hk;have h3:=(hf q (Gx hq)).keep (G:=G) (λb hb _=>hF b hb) (GZ _ _);exact⟨hx k q hq 0 _ rfl,⟨_,hx k q hq 1 _ rfl,h3.1⟩,⟨_,hx k q hq 2 _ rfl,h3.2⟩⟩
theorem OwnSl.same {α:Type} {K:Knd α} {w w':GK} {v:GN} {L:List α} (h:OwnSl K w base et F v L) (hs:Same (λb=>F b\/base<=b) w w'):OwnSl K w' base et F v L:=by
 refine⟨⟨h.row.1,?_⟩,λq hq=>K.keep (h.fine q hq) (λ_ h _=>h) ⟨hs.size,λb hb hl=>hs.2 b (.inl hb.1) hl⟩⟩;rcases h.row.2 with hn | ⟨g,cap,cur,rfl,hg,hc,r⟩
 ·exact .inl hn
 ·exact .inr ⟨g,cap,cur,rfl,hg,by rw[hs.2 g (.inr hg) (Array.getElem?_eq_some_iff.1 hc).1]; exact hc,r⟩
def DoneRows (w:GK) (F:Gq) (vs:List GN) (ls:List (List Raw)):Prop:=vs.length=ls.length/\∀ (i:Nat) (v:GN) (l:List Raw),vs[i]? = some v->ls[i]? = some l->Gs w F v l
section
variable {w w':GK} {F G:Gq} {vs:List GN} {ls:List (List Raw)} {v:GN} {l:List Raw}
theorem DoneRows.nil (w:GK) (F:Gq):DoneRows w F [] []:=⟨rfl,λi v l h=>by simp at h⟩
theorem DoneRows.keep (h:DoneRows w F vs ls) (hFG:∀ b,F b->b < w.heap.size->G b) (hs:Same F w w'):DoneRows w' G vs ls:=⟨h.1,λi v l hv hl=>(h.2 i v l hv hl).keep hFG hs⟩
theorem DoneRows.snoc (h:DoneRows w F vs ls) (hv:Gs w F v l):DoneRows w F (vs ++ [v]) (ls ++ [l]):=by
 refine⟨by simp[h.1],λi u m hu hm=>?_⟩;rcases Nat.lt_trichotomy i vs.length with hi | hi | hi
 ·rw[IB hi] at hu;rw[IB (by rw[<-h.1]; exact hi)] at hm;exact h.2 i u m hu hm
 ·subst hi;rw[JI (Gy _),Nat.sub_self] at hu;rw[JI (by rw[h.1]; exact Gy _),h.1,Nat.sub_self] at hm;grind
 grind
theorem DoneRows.rows (h:DoneRows w F vs ls) (hr:Row w b t vs) (hb:G b) (hFG:∀ b,F b->G b) (hc:ls.length<=c):Gt w G (Gw (some ⟨b,0,none⟩) ls.length c) ls:=by
 refine⟨_,c,rfl,hc,λ_=>⟨b,0,rfl,hb,hr.lt,λk x hk=>?_⟩⟩;obtain⟨u,hu⟩:=Gl (l:=vs) (k:=k) (by rw[h.1]; exact Gn hk);exact⟨u,by rw[show 0+k*1=k by omega]; exact hr.cell hu,(h.2 k u x hu hk).keep (λb hb _=>hFG b hb) (GZ _ _)⟩
end
def restN (vs:List GN) (n:Nat):List GN:=vs++GX (n - vs.length) (Gw none 0 0)
theorem restN_get {vs:List GN} (h:vs.length < n):(restN vs n)[vs.length]? = some (Gw none 0 0):=by grind [restN]
theorem restN_set {vs:List GN} (h:vs.length < n) (v:GN):(restN vs n).set vs.length v=restN (vs ++ [v]) n:=by
 unfold restN;rw[List.set_append_right _ _ (Gy _),Nat.sub_self,List.append_assoc];congr 1;obtain⟨k,hk⟩:∃ k,n - vs.length=k+1:=⟨n - vs.length - 1,FI⟩;grind
def nowN (vs:List GN) (u:GN) (n:Nat):List GN:=restN (vs ++ [u]) n
theorem nowN_get {vs:List GN} {u:GN}:(nowN vs u n)[vs.length]? = some u:=by grind [nowN,restN]
theorem nowN_set {vs:List GN} {u:GN} (v:GN):(nowN vs u n).set vs.length v=nowN vs v n:=by grind [nowN,restN]
theorem nowN_nil {vs:List GN} (h:vs.length < n):nowN vs (Gw none 0 0) n=restN vs n:=by
 have:=restN_set h (Gw none 0 0);unfold nowN;rw[<-this];exact List.ext_getElem? λi=>by
  rw[List.getElem?_set];split
  ·rename_i e
   subst e;rw[restN_get h];have:=Gn (restN_get h);simp[this]
  ·rfl
theorem restN_nil (n:Nat):restN [] n=GX n (Gw none 0 0):=by unfold restN; simp
theorem restN_full {vs:List GN} (h:n<=vs.length):restN vs n=vs:=by grind [restN,Nat.sub_eq_zero_of_le]
def GoF (F:Gq) (w:GK) (B1:Nat):Gq:=λb=>(F b/\b < w.heap.size)\/B1<=b
def GdF (F:Gq) (w:GK) (B1 B2:Nat):Gq:=λb=>(F b/\b < w.heap.size)\/(B1<=b/\b < B2)
structure MkO (F:Gq) (w:GK) (bo:Nat) (t:TypeId) (n B1:Nat) (vs:List GN) (ls:List (List Raw)) (wr:GK):Prop where
 row:Row wr bo t (restN vs n)
 done:DoneRows wr (GoF F w B1) vs ls
 bel:Below w.heap.size w wr
 lo:w.heap.size<=bo
 hi:bo < B1
 size:B1<=wr.heap.size
structure Mk (F:Gq) (w:GK) (bo:Nat) (t et:TypeId) (n B1 B2:Nat) (vs:List GN) (ls:List (List Raw)) (u v:GN) (L:List RV) (wr:GK):Prop where
 row:Row wr bo t (nowN vs u n)
 own:OwnSl ratK wr B2 et (GoF F w B1) v L
 done:DoneRows wr (GdF F w B1 B2) vs ls
 bel:Below w.heap.size w wr
 lo:w.heap.size<=bo
 hi:bo < B1
 mid:B1<=B2
 size:B2<=wr.heap.size
section
variable {F:Gq} {w:GK} {bo:Nat} {t et:TypeId} {n B1 B2:Nat} {vs:List GN} {ls:List (List Raw)} {u v:GN} {L:List RV} {wr w':GK}
theorem MkO.begin (hr:Row wr bo t (GX n (Gw none 0 0))) (hb:Below w.heap.size w wr) (h:w.heap.size<=bo) (h1:bo < B1) (h2:B1<=wr.heap.size):MkO F w bo t n B1 [] [] wr :=
 ⟨by rw[restN_nil]; exact hr,DoneRows.nil _ _,hb,h,h1,h2⟩
theorem MkO.start (h:MkO F w bo t n B1 vs ls wr) (hn:vs.length < n) (et:TypeId):Mk F w bo t et n B1 wr.heap.size vs ls (Gw none 0 0) (Gw none 0 0) [] wr :=
 ⟨by rw[nowN_nil hn]; exact h.row,OwnSl.nil _ _ _ _ _,h.done.keep (λb hb hl=>hb.elim .inl λh=>.inr ⟨h,hl⟩) (GZ _ _),h.bel,h.lo,h.hi,h.size,Gy _⟩
theorem Mk.below (h:Mk F w bo t et n B1 B2 vs ls u v L wr) (hb:Below wr.heap.size wr w'):Mk F w bo t et n B1 B2 vs ls u v L w' :=
 ⟨h.row.below hb h.row.lt,h.own.below hb,h.done.keep (λ_ h _=>h) (GL hb _),h.bel.trans (hb.mono h.bel.size),h.lo,h.hi,h.mid,He h.size hb.size⟩
theorem MkO.below (h:MkO F w bo t n B1 vs ls wr) (hb:Below wr.heap.size wr w'):MkO F w bo t n B1 vs ls w' :=
 ⟨h.row.below hb h.row.lt,h.done.keep (λ_ h _=>h) (GL hb _),h.bel.trans (hb.mono h.bel.size),h.lo,h.hi,He h.size hb.size⟩
theorem Mk.cell (h:Mk F w bo t et n B1 B2 vs ls u v L wr) (hk:vs.length=k):wr.cell? ⟨bo,k,none⟩=some u:=h.row.cell (by rw[<-hk]; exact nowN_get)
theorem Mk.frozen (h:Mk F w bo t et n B1 B2 vs ls u v L wr) (k:Nat):wr.frozen? ⟨bo,k,none⟩=false:=h.row.frozen k
theorem Mk.grow {v':GN} {L':List RV} (h:Mk F w bo t et n B1 B2 vs ls u v L wr) (ho:OwnSl ratK w' B2 et (GoF F w B1) v' L') (hs:Same (λb=>v.ownBlock≠some b) wr w') (hb:Below B2 wr w'):Mk F w bo t et n B1 B2 vs ls u v' L' w':=by
 have hlt:=λb (e:v.ownBlock=some b)=>(h.own.row.lt b e).1
 have h1:=h.lo;have h2:=h.hi;have h3:=h.mid;refine⟨h.row.of_block (hs.2 bo (λe=>by have:=hlt bo e; omega) h.row.lt),ho,h.done.keep (λ_ h _=>h) (hs.mono λb hb e=>?_),h.bel.trans (hb.mono FI),h.lo,h.hi,h.mid,He h.size hs.size⟩;have:=hlt b e;rcases hb with hb | hb <;> omega
theorem Mk.put (h:Mk F w bo t et n B1 B2 vs ls u v L wr) (hk:vs.length=k):Mk F w bo t et n B1 B2 vs ls v v L (wr.setCell ⟨bo,k,none⟩ v):=by
 subst hk;have h1:=h.lo;have h2:=h.hi;have h3:=h.mid;have hS:∀ (G:Gq),(∀ b,G b->b≠bo)->Same G wr (wr.setCell ⟨bo,vs.length,none⟩ v):=λG hG=>Same.setCell G wr (p:=⟨bo,vs.length,none⟩) (λh=>hG bo h rfl) _
 refine⟨?_,h.own.same (hS _ λb hb=>?_),h.done.keep (λ_ h _=>h) (hS _ λb hb=>?_),h.bel.setCell (p:=⟨bo,vs.length,none⟩) h.lo _,h.lo,h.hi,h.mid,by simpa using h.size⟩
 ·have:=h.row.set vs.length v;grind [nowN_set]
 ·rcases hb with(hb | hb) | hb <;> omega
 ·rcases hb with hb | hb <;> omega
theorem Mk.next (h:Mk F w bo t et n B1 B2 vs ls u u L wr):MkO F w bo t n B1 (vs ++ [u]) (ls ++ [L.map RV.r]) wr:=by
 have h3:=h.mid;exact⟨h.row,(h.done.keep (λb hb _=>hb.elim .inl λh=>.inr h.1) (GZ _ _)).snoc (h.own.raws (λ_ hb=>hb) (λb hb=>.inr FI)),h.bel,h.lo,h.hi,He h.mid h.size⟩
theorem MkO.rows (h:MkO F w bo t n B1 vs ls wr) (hn:n<=vs.length) (hG:∀ b,(F b/\b < w.heap.size)\/w.heap.size<=b->G b) (hc:ls.length<=c):Gt wr G (Gw (some ⟨bo,0,none⟩) ls.length c) ls:=by
 have h1:=h.lo;have h2:=h.hi;have hr:=h.row;rw[restN_full hn] at hr;exact h.done.rows hr (hG _ (.inr h.lo)) (λb hb=>hG b (hb.elim .inl λh=>.inr FI)) hc
end
