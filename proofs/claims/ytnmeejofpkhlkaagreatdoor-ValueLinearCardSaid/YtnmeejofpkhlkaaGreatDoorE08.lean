/- Part of a claim. -/
import Derived.Test.YtnmeejofpkhlkaaGreatDoorE05
import Derived.Test.YtnmeejofpkhlkaaGreatDoorE06
set_option linter.all false
namespace Go.Proofs.YtnmeejofpkhlkaaGreatDoor
open Below renaming same'->FZ
open Go renaming Value->F7,World->FW
open Go.Value renaming bool->Gj,slice->FQ
open List renaming eq_nil_of_length_eq_zero->Hq,eq_of_mem_replicate->KH,getD_eq_getElem?_getD->FU,getElem?_zipWith->IG,length_append->Gn,length_map->FX,mem_cons->Il,mem_cons_of_mem->GI,mem_cons_self->I9,mem_of_getElem?->FT,not_mem_nil->Ho,replicate->F8,zip_cons_cons->LH
open Nat renaming le_refl->FV,zero_add->Iz,zero_le->GR
open Option.some renaming injEq->Hu
open Same renaming refl->Gh
open Go.Proofs.Tryz renaming prog->FY
open Go.World renaming news_of_block->Kq,ownsRow_nil->Ko,size_alloc->KL
open Go.RowKit
variable {a:Act} {ops:Array Oper} {F G:FI} {m:List (List Rat)} {rest:List Oper} {acc x:List Rat} {b base c i k p:Nat} {o:Oper} {et:TypeId}
structure RV where
 r:Raw
 vn:F7
 vd:F7
def RV.cells (q:RV):List F7:=[Gj q.r.neg,q.vn,q.vd]
def RV.fine (w:FW) (F:FI) (q:RV):Prop:=Ag w F q.vn q.r.num/\Ag w F q.vd q.r.den
theorem RV.fine.keep {w w':FW} {q:RV} (h:q.fine w F) (hFG:∀ b,F b->b < w.heap.size->G b) (hs:Same F w w'):q.fine w' G:=⟨h.1.keep hFG hs,h.2.keep hFG hs⟩
theorem RV.fine.below {w w':FW} {q:RV} (h:q.fine w F) (hb:Below w.heap.size w w'):q.fine w' F:=h.keep (λ_ h _=>h) (FZ hb F)
theorem Ag.oneCell {w:FW} {v:F7} {l:List Nat} (h:Ag w F v l):v.oneCell'=true:=by
 obtain⟨A,c,rfl,_⟩:=h;rfl
theorem Ah.rv {w:FW} {v:F7} {r:Raw} (h:Ah w F v r):∃ q:RV,q.r=r/\v = .agg q.cells.toArray/\q.fine w F:=by
 obtain⟨vn,vd,rfl,h1,h2⟩:=h;exact⟨⟨r,vn,vd⟩,rfl,rfl,h1,h2⟩
theorem Lies.raws {w:FW} {L:List RV} (h:Lies w b (L.flatMap RV.cells)) (hb:F b) (hL:∀ q∈L,q.fine w F) (hc:L.length<=c):FK w F (FQ (some ⟨b,0,none⟩) L.length c) (L.map RV.r):=by
 refine⟨_,c,by rw[FX],by rw[FX]; exact hc,λ_=>⟨b,0,rfl,hb,h.1,λk x hk=>?_⟩⟩;rw[List.getElem?_map] at hk;obtain⟨q,hq,rfl⟩:=Option.map_eq_some_iff.1 hk;obtain⟨f1,f2⟩:=hL q (FT hq);have g:∀ j v,j < 3->q.cells[j]? = some v->w.cell? ⟨b,0+k*3+j,none⟩=some v:=λj v hj hv=>by
  rw[Iz];exact h.2 _ _ (by rw[qW (f:=RV.cells) (s:=3) (λ_=>rfl) L k j q hq hj]; exact hv)
 exact⟨g 0 _ EN rfl,⟨_,g 1 _ EN rfl,f1⟩,⟨_,g 2 _ EN rfl,f2⟩⟩
theorem ajS (L:List RV):(L.flatMap RV.cells).length=L.length*3:=by
 induction L with
 | nil=>rfl
 | cons q L ih=>rw[List.flatMap_cons,Gn,ih]; simp[RV.cells]; omega
theorem Tryz.infoNum:(Tryz.prog.info? 114).map (λi=>(i.zero,i.size,i.bytes))=some (some (.agg #[Gj false,FQ none 0 0,FQ none 0 0]),3,56):=ak
theorem Tryz.infoRat:(Tryz.prog.info? 42).map (λi=>(i.zero,i.size,i.bytes))=some (some (.agg #[Gj false,FQ none 0 0,FQ none 0 0]),3,56):=ak
theorem af0 {w:FW} {Q:Exit->Act->FW->Prop} (hgd:o.guard=none) (s x:Operand) (t et:TypeId) (ht:Tryz.prog.underlying t=some (.slice et))
  (hi0:(Tryz.prog.info? et).map (λi=>(i.zero,i.size,i.bytes))=some (some (.agg #[Gj false,FQ none 0 0,FQ none 0 0]),3,56))
  (ho:o.op = .call { callee:=.builtin .append,args:=#[s,x],argTypes:=#[t,t] })
  (base:Nat) (v:F7) (L:List RV) (hs:a.eval s=v) (hown:w.ownsRow base et 3 v L.length (L.flatMap RV.cells))
  (B:Nat) (q:RV) (hx:a.eval x = FQ (some ⟨B,0,none⟩) 1 1) (hB:w.heap[B]? = some (.cells q.cells.toArray et (0,0))) (hone:q.vn.oneCell'=true/\q.vd.oneCell'=true) (hlen:L.length<=1000000) (hbase:base<=w.heap.size)
  (h:∀ g cap w',w'.ownsRow base et 3 (FQ (some ⟨g,0,none⟩) (L.length+1) cap) (L ++ [q]).length ((L ++ [q]).flatMap RV.cells)->w.grownBy w' v.ownBlock->(v.ownBlock=some g\/w.heap.size<=g)->g < w'.heap.size ->
   wpList FY ops Q rest (a.put o.dst (FQ (some ⟨g,0,none⟩) (L.length+1) cap)) w') :
  wpList FY ops Q (o :: rest) a w:=by
 obtain⟨i0,hi,hz0,hz1,hz2⟩:=info_parts hi0;refine wpList_append_lies w hgd s x _ ho base _ i0 _ 3 56 ht hi hz0 hz1 hz2 rfl EN v L.length _ hs hown ⟨B,0,none⟩ 1 1 q.cells hx rfl (Kq hB) ?_ EN (by unfold maxLen; omega) EN hbase w.heap.size rfl ?_
 ·intro u hu;simp only[RV.cells,Il,Ho,or_false] at hu;rcases hu with rfl | rfl | rfl
  ·rfl
  ·exact hone.1
  ·exact hone.2
 ·intro g cap w' h1 h2 h3 h4;refine h g cap w' ?_ h2 (h3.imp id λe=>by omega) h4;have e1:(L ++ [q]).length=L.length+1:=aF;have e2:(L ++ [q]).flatMap RV.cells=L.flatMap RV.cells++q.cells:=by simp[List.flatMap_append]
  rw[e1,e2];exact h1
theorem ajT {w:FW} {t:TypeId} {v:F7} {L:List RV} (h:w.ownsRow base t 3 v L.length (L.flatMap RV.cells)) (hF:∀ b,v.ownBlock=some b->F b) (hL:∀ q∈L,q.fine w F):FK w F v (L.map RV.r):=by
 rcases h.2 with⟨rfl,h0⟩ | ⟨g,cap,cur,rfl,hb,hg,hnc,_,hsz,htake⟩
 ·have:L = []:=Hq h0;subst this;exact YN
 ·refine Lies.raws ⟨(Array.getElem?_eq_some_iff.1 hg).1,λi u hi=>?_⟩ (hF g rfl) hL hnc;rw[<-htake,List.getElem?_take] at hi;split at hi
  ·simp[World.cell?,hg];simpa using hi
  ·cases hi
def Apart (F:FI) (v:F7):FI:=λb=>F b/\v.ownBlock≠some b
structure Bc (w:FW) (base:Nat) (et:TypeId) (F:FI) (v:F7) (L:List RV):Prop where
 row:w.ownsRow base et 3 v L.length (L.flatMap RV.cells)
 fine:∀ q∈L,q.fine w (Apart F v)
theorem Bc.nil (w:FW) (base:Nat) (et:TypeId) (F:FI):Bc w base et F (FQ none 0 0) []:=⟨Ko _ _ _ _,λq h=>by cases h⟩
theorem Bc.below {w w':FW} {v:F7} {L:List RV} (h:Bc w base et F v L) (hb:Below w.heap.size w w'):Bc w' base et F v L:=by
 refine⟨⟨h.row.1,?_⟩,λq hq=>(h.fine q hq).below hb⟩;rcases h.row.2 with hn | ⟨g,cap,cur,rfl,hg,hc,r⟩
 ·exact .inl hn
 ·exact .inr ⟨g,cap,cur,rfl,hg,by rw[hb.block g (Array.getElem?_eq_some_iff.1 hc).1]; exact hc,r⟩
theorem Bc.raws {w:FW} {v:F7} {L:List RV} (h:Bc w base et F v L) (hF:∀ b,F b->G b) (hG:∀ b,base<=b->G b):FK w G v (L.map RV.r) :=
 ajT h.row (λb hb=>hG b (h.row.lt b hb).1) λq hq=>(h.fine q hq).keep (λb hb _=>hF b hb.1) (Gh _ _)
theorem rY {w W:FW} {Q:Exit->Act->FW->Prop} (hgd:o.guard=none) (s x:Operand) (t et:TypeId) (ht:Tryz.prog.underlying t=some (.slice et))
  (hi0:(Tryz.prog.info? et).map (λi=>(i.zero,i.size,i.bytes))=some (some (.agg #[Gj false,FQ none 0 0,FQ none 0 0]),3,56))
  (ho:o.op = .call { callee:=.builtin .append,args:=#[s,x],argTypes:=#[t,t] })
  (base:Nat) (hbase:base<=W.heap.size) (v:F7) (L:List RV) (hs:a.eval s=v) (q:RV) (hlen:L.length<=1000000)
  (hx:a.eval x = FQ (some ⟨w.heap.size,0,none⟩) 1 1) (hown:Bc w base et F v L) (hq:q.fine w (Apart F v)) (hbel:Below base W w)
  (h:∀ g cap w',Bc w' base et F (FQ (some ⟨g,0,none⟩) (L.length+1) cap) (L ++ [q])->Below base W w'->w.heap.size < w'.heap.size ->
   wpList FY ops Q rest (a.put o.dst (FQ (some ⟨g,0,none⟩) (L.length+1) cap)) w') :
  wpList FY ops Q (o :: rest) a (w.alloc (.cells #[Gj q.r.neg,q.vn,q.vd] et)):=by
 have hz:=hbel.size;refine af0 hgd s x t et ht hi0 ho base v L hs (hown.row.alloc _) w.heap.size q hx (heap_alloc_new _ _) ⟨hq.1.oneCell,hq.2.oneCell⟩ hlen aG ?_;intro g cap w' h1 h2 h3 h4;have h5:=h2.size;simp only[KL] at h5 h3;have hsame:Same (Apart F v) w w':=⟨EN,λb hb hl=>(h2.block b aG (λe=>hb.2 e.symm)).trans (Below.heap_alloc _ _ _ hl)⟩;refine h g cap w' ⟨h1,λp hp=>?_⟩ ((hbel.alloc EN _).grown h2 aG (λk hk=>(hown.row.lt k hk).1)) EN;have hp':p.fine w (Apart F v):=by
  rcases List.mem_append.1 hp with hp | hp
  ·exact hown.fine p hp
  ·rw[List.mem_singleton.1 hp];exact hq
 refine hp'.keep (λb hb hl=>⟨hb.1,λe=>?_⟩) hsame;have e:some g=some b:=e;cases e
 rcases h3 with h3 | h3
 ·exact hb.2 h3
 ·omega
theorem amX:rl 1=1:=by
 exact zc5
def oq (l:List Int):Int:=l.foldl (· + ·) 0
theorem adX (l:List Int) (x:Int):oq (l ++ [x])=oq l+x:=by unfold oq; rw[List.foldl_append]; rfl
def dL (m:List (List Rat)) (n:Nd):List Rat:=if n.kind=2 then m.getD n.info.toNat [] else n.weights.map λx:Int=>(x:Rat) / ((oq n.weights:Int):Rat)
def aaB (cnt:Nd->Bool) (Fg:List Nd) (m:List (List Rat)) (l:List Rat) (c:Nat):Rat :=
 match upTo Fg c c with
 | some (i,k)=>match Fg[i]? with
  | some n=>if cnt n then l.getD i 0*(dL m n).getD k 0 else l.getD i 0
  | none=>1
 | none=>1
def o7 (cnt:Nd->Bool) (Fg:List Nd) (m:List (List Rat)):Nat->List Rat
 | 0=>[]
 | c+1=>o7 cnt Fg m c ++ [aaB cnt Fg m (o7 cnt Fg m c) c]
def dD (cnt:Nd->Bool) (Fg:List Nd) (m:List (List Rat)) (c:Nat):Rat:=(o7 cnt Fg m (c+1)).getD c 0
theorem kT (cnt:Nd->Bool) (Fg:List Nd) (m:List (List Rat)):∀ j,(o7 cnt Fg m j).length=j
 | 0=>rfl
 | j+1=>by unfold o7; rw[Gn,kT cnt Fg m j]; rfl
theorem wF (cnt:Nd->Bool) (Fg:List Nd) (m:List (List Rat)) {c:Nat}:∀ {j},c < j->(o7 cnt Fg m j)[c]? = some (dD cnt Fg m c)
 | 0,h=>absurd h EN
 | j+1,h=>by
  have hl:=kT cnt Fg m j;by_cases e:c=j
  ·subst e;have hl1:=kT cnt Fg m (c+1);obtain⟨x,hx⟩:=FC (l:=o7 cnt Fg m (c+1)) (k:=c) EN;unfold dD;rw[FU,hx]; rfl
  ·unfold o7;rw[List.getElem?_append_left EN];exact wF cnt Fg m EN
theorem ajU (cnt:Nd->Bool) (Fg:List Nd) (m:List (List Rat)) (c:Nat):dD cnt Fg m c=aaB cnt Fg m (o7 cnt Fg m c) c:=by
 have h:=wF cnt Fg m (c:=c) (j:=c+1) EN;unfold o7 at h;rw[List.getElem?_append_right (by rw[kT]; omega),kT,Nat.sub_self] at h;simpa using h.symm
theorem nD (cnt:Nd->Bool) (Fg:List Nd) (m:List (List Rat)):dD cnt Fg m 0=1:=rfl
theorem mJ {g:Gm} (hg:Good g) (cnt:Nd->Bool) (m:List (List Rat)) {n:Nd} (hn:g.Fg[i]? = some n) (hc:n.next[k]? = some (c:Int)) :
  dD cnt g.Fg m c=if cnt n then dD cnt g.Fg m i*(dL m n).getD k 0 else dD cnt g.Fg m i:=by
 have hk:Kid g.Fg i k c:=⟨n,hn,hc⟩;have hl:=hg.aay hk;rw[ajU];unfold aaB;rw[hg.anW hk c hl.1 EN];simp only[hn];rw[FU,wF cnt g.Fg m hl.1];rfl
theorem ajV {g:Gm} (hg:Good g) (cnt:Nd->Bool) (m:List (List Rat)) (hb:∀ n∈g.Fg,cnt n=true->∀ x∈dL m n,rl x<=4):∀ c,c < g.Fg.length->rl (dD cnt g.Fg m c)<=1+4*c:=by
 intro c;induction c using Nat.strongRecOn with
 | _ c ih =>
  intro hc;by_cases h0:c=0
  ·subst h0;rw[nD];rw[amX];omega
  ·obtain⟨i,k,n,hn,hk⟩:=hg.abL (Nat.pos_of_ne_zero h0) hc;have hl:=hg.aay ⟨n,hn,hk⟩;have h1:=ih i hl.1 hl.2.2;rw[mJ hg cnt m hn hk];cases hcn:cnt n with
   | false=>simp only[Bool.false_eq_true,↓reduceIte]; omega
   | true =>
    simp only[↓reduceIte];have h2:=kR (dD cnt g.Fg m i) ((dL m n).getD k 0);have h3:rl ((dL m n).getD k 0)<=4:=by
     rw[FU];cases hx:(dL m n)[k]? with
     | none=>show rl 0<=4; rw[rQ]; omega
     | some x=>exact hb n (FT hn) hcn x (FT hx)
    omega
def qI (acc:List Rat) (b:Rat) (x:List Rat):List Rat:=List.zipWith (λa y=>a+b*y) acc x
def ou (look:Nat->List Rat) (acc:List Rat) (l:List (Rat×Int)):List Rat:=l.foldl (λacc bc=>qI acc bc.1 (look bc.2.toNat)) acc
def valOf (ay:Nat) (m:List (List Rat)) (n:Nd) (look:Nat->List Rat):List Rat :=
 if n.kind=3 then n.pay.map (λx:Int=>(x:Rat)) else ou look (F8 ay 0) ((dL m n).zip n.next)
def acv (g:Gm) (m:List (List Rat)):Nat->List (List Rat)
 | 0=>[]
 | j+1=>(match g.Fg[g.Fg.length - 1 - j]? with
  | some n=>valOf g.ay.toNat m n (λc=>(acv g m j).getD (c - (g.Fg.length - j)) [])
  | none=>[]) :: acv g m j
def dG (g:Gm) (m:List (List Rat)) (i:Nat):List Rat:=(acv g m (g.Fg.length - i)).headD []
theorem aaC (g:Gm) (m:List (List Rat)):∀ (j i:Nat),j<=g.Fg.length->g.Fg.length - j<=i->i < g.Fg.length->(acv g m j)[i - (g.Fg.length - j)]? = some (dG g m i)
 | 0,i,_,h1,h2=>absurd h2 EN
 | j+1,i,hj,h1,h2=>by
  by_cases e:i=g.Fg.length - (j+1)
  ·have e1:i - (g.Fg.length - (j+1))=0:=EN;have e2:g.Fg.length - i=j+1:=EN;rw[e1]; unfold dG; rw[e2]; unfold acv; rfl
  ·have e1:i - (g.Fg.length - (j+1))=(i - (g.Fg.length - j))+1:=EN;rw[e1]; unfold acv;rw[List.getElem?_cons_succ];exact aaC g m j i EN EN h2
theorem abf {look look':Nat->List Rat}:∀ {l:List (Rat×Int)} {acc:List Rat},(∀ bc∈l,look bc.2.toNat=look' bc.2.toNat)->ou look acc l=ou look' acc l
 | [],_,_=>rfl
 | bc :: l,acc,h=>by
  have h1:=h bc (I9);have h2:=abf (look:=look) (look':=look') (l:=l) (acc:=qI acc bc.1 (look bc.2.toNat)) (λb hb=>h b (GI _ hb));show ou look (qI acc bc.1 (look bc.2.toNat)) l=ou look' (qI acc bc.1 (look' bc.2.toNat)) l;rw[h2,h1]
theorem ahz (look:Nat->List Rat) (acc:List Rat) (l:List (Rat×Int)) (bc:Rat×Int):ou look acc (l ++ [bc])=qI (ou look acc l) bc.1 (look bc.2.toNat):=by unfold ou; rw[List.foldl_append]; rfl
theorem uK {g:Gm} (hg:Good g) (m:List (List Rat)) {n:Nd} (hn:g.Fg[i]? = some n):dG g m i=valOf g.ay.toNat m n (dG g m):=by
 have hl:=FD hn;have h1:=aaC g m (g.Fg.length - i) i EN EN hl;obtain⟨j,hj⟩:∃ j,g.Fg.length - i=j+1:=⟨g.Fg.length - i - 1,EN⟩;have e0:i - (g.Fg.length - (g.Fg.length - i))=0:=EN;rw[e0,hj] at h1;unfold acv at h1;have e1:g.Fg.length - 1 - j=i:=EN;rw[e1,hn,List.getElem?_cons_zero,Hu] at h1;rw[<-h1];show valOf _ m n _=valOf _ m n _;unfold valOf;by_cases hk:n.kind=3
 ·rw[L8 hk,L8 hk]
 ·rw[L6 hk,L6 hk];refine abf λbc hbc=>?_
  have hm:bc.2∈n.next:=(List.of_mem_zip (a:=bc.1) (b:=bc.2) hbc).2;have:=hg.span.kids i n (GR _) hl hn bc.2 hm;have h3:=aaC g m j bc.2.toNat EN EN EN;rw[FU,h3];rfl
structure Fit (g:Gm) (m:List (List Rat)):Prop where
 good:Good g
 Fg:dA g.ay g.Fh.length g.Fg=0
 ay:1<=g.ay/\g.ay<=4
 rows:m.length=g.Fh.length
 chan:∀ n∈g.Fg,n.kind≠3->(dL m n).length=n.next.length/\∀ x∈dL m n,rl x<=4
theorem af2 {b:Rat} (h:acc.length=p) (h2:x.length=p):(qI acc b x).length=p:=by unfold qI; rw[List.length_zipWith]; omega
theorem uM {look:Nat->List Rat} {p:Nat}:∀ {l:List (Rat×Int)} {acc:List Rat},acc.length=p->(∀ bc∈l,(look bc.2.toNat).length=p)->(ou look acc l).length=p
 | [],_,h,_=>h
 | bc :: l,acc,h,hl=>uM (l:=l) (acc:=qI acc bc.1 (look bc.2.toNat)) (af2 h (hl bc (I9))) (λb hb=>hl b (GI _ hb))
theorem uN {ay:Int} {ni:Nat} {Fg:List Nd} (h:dA ay ni Fg=0) {n:Nd} (hn:n∈Fg) (hk:n.kind=3):(n.pay.length:Int)=ay/\(∀ x∈n.pay,-1000000<=x/\x<=1000000)/\n.next = []:=by
 have h1:=jD h n hn;unfold aQ at h1;rw[L6 EN,L6 EN,L8 hk] at h1;unfold iV at h1;split at h1
 ·omega
 ·rename_i h2
  split at h1
  ·omega
  ·rename_i h3
   refine⟨EN,λx hx=>?_,Hq EN⟩;have h4:outside (-1000000) 1000000 n.pay=false:=by simpa using h3
   unfold outside at h4;have:=List.any_eq_false.1 h4 x hx;simp at this;omega
theorem Fit.jV {g:Gm} {m:List (List Rat)} (h:Fit g m):∀ (f i:Nat),g.Fg.length - i<=f->i < g.Fg.length->(dG g m i).length=g.ay.toNat
 | 0,i,h1,h2=>absurd h2 EN
 | f+1,i,h1,h2=>by
  obtain⟨n,hn⟩:=FC (l:=g.Fg) (k:=i) h2;have hmem:=FT hn;rw[uK h.good m hn];unfold valOf;by_cases hk:n.kind=3
  ·rw[L8 hk,FX];have:=(uN h.Fg hmem hk).1;omega
  ·rw[L6 hk];refine uM aF λbc hbc=>?_
   have hm:bc.2∈n.next:=(List.of_mem_zip (a:=bc.1) (b:=bc.2) hbc).2;have:=h.good.span.kids i n (GR _) h2 hn bc.2 hm;exact Fit.jV h f _ EN EN
theorem amY {b:Rat} {A B:Nat} (h1:∀ y∈acc,rl y<=A) (h2:∀ y∈x,rl y<=B) (hb:rl b<=4):∀ y∈qI acc b x,rl y<=A+B+5:=by
 intro y hy;unfold qI at hy;obtain⟨k,hk⟩:=List.getElem?_of_mem hy;rw[IG] at hk;cases ha:acc[k]? with
 | none=>rw[ha] at hk; simp at hk
 | some u =>
  cases hx:x[k]? with
  | none=>rw[ha,hx] at hk; simp at hk
  | some v =>
   rw[ha,hx] at hk;simp at hk;subst hk;have e1:=h1 u (FT ha);have e2:=h2 v (FT hx);have e3:=aav u (b*v);have e4:=kR b v;omega
theorem alu {x:Int} (h:-1000000<=x/\x<=1000000):rl (x:Rat)<=1:=by
 rw[ab5];have:(dig x.natAbs).length<=1:=aV (by unfold LB; omega);omega
theorem Fit.amZ {g:Gm} (h:Fit g m) {cs:List Int} {a:Nat} (hs:Span g.Fg cs a b):∀ (bs acc:List Rat) (A:Nat),(∀ x∈bs,rl x<=4)->(∀ x∈acc,rl x<=A)->∀ x∈ou (dG g m) acc (bs.zip cs),rl x<=A+7*(b - a):=by
 induction hs with
 | nil a =>
  intro bs acc A _ ha x hx;rw[List.zip_nil_right] at hx;have:=ha x hx;omega
 | @cons a k b n cs hn h1 h2 ih1 ih2 =>
  intro bs acc A hb ha x hx;have l1:=h1.le;have l2:=h2.le;cases bs with
  | nil =>
   have:=ha x (by simpa [ou] using hx);omega
  | cons c bs =>
   rw[LH] at hx;have hmem:=FT hn;have hv:∀ y∈dG g m a,rl y<=2+7*(k - a - 1):=by
    rw[uK h.good m hn];unfold valOf;by_cases hk:n.kind=3
    ·rw[L8 hk];intro y hy;obtain⟨z,hz,rfl⟩:=List.mem_map.1 hy;have:=alu ((uN h.Fg hmem hk).2.1 z hz);omega
    ·rw[L6 hk];intro y hy;have:=ih1 _ _ 1 (h.chan n hmem hk).2 (λz hz=>by rw[KH hz,rQ]; omega) y hy;omega
   have hacc:=amY (b:=c) ha hv (hb c (I9));have:=ih2 bs _ _ (λy hy=>hb y (GI _ hy)) hacc x hx;omega
theorem yc {α β:Type}:∀ (l:List α) (r:List β) (k:Nat),(l.zip r).take k=(l.take k).zip r
 | [],r,k=>by simp
 | x :: l,[],k=>by simp
 | x :: l,y :: r,0=>by simp
 | x :: l,y :: r,k+1=>by rw[LH,List.take_succ_cons,List.take_succ_cons,LH,yc]
theorem Fit.ai6 {g:Gm} (h:Fit g m) {n:Nd} (hn:g.Fg[i]? = some n) (hk:n.kind≠3) (k:Nat) :
  ∀ x∈ou (dG g m) (F8 g.ay.toNat 0) (((dL m n).zip n.next).take k),rl x<=1+7*g.Fg.length:=by
 intro x hx;have hl:=FD hn;obtain⟨e,hs,he⟩:=h.good.span.amT i n (GR _) hl hn;rw[yc] at hx;have:=h.amZ hs _ _ 1 (λy hy=>(h.chan n (FT hn) hk).2 y (List.mem_of_mem_take hy)) (λz hz=>by rw[KH hz,rQ]; omega) x hx;omega
theorem Fit.acw {g:Gm} (h:Fit g m) (hi:i < g.Fg.length):∀ x∈dG g m i,rl x<=1+7*g.Fg.length:=by
 intro x hx;obtain⟨n,hn⟩:=FC (l:=g.Fg) (k:=i) hi;have hmem:=FT hn;rw[uK h.good m hn] at hx;unfold valOf at hx;by_cases hk:n.kind=3
 ·rw[L8 hk] at hx;obtain⟨z,hz,rfl⟩:=List.mem_map.1 hx;have:=alu ((uN h.Fg hmem hk).2.1 z hz);omega
 ·rw[L6 hk] at hx;have:=h.ai6 hn hk ((dL m n).zip n.next).length x (by rw[List.take_of_length_le (FV _)]; exact hx);exact this
def abg (look:Nat->Rat) (a:Rat) (l:List (Rat×Int)):Rat:=l.foldl (λa bc=>a+bc.1*look bc.2.toNat) a
theorem ahA (look:Nat->Rat) (a:Rat) (l:List (Rat×Int)) (bc:Rat×Int):abg look a (l ++ [bc])=abg look a l+bc.1*look bc.2.toNat:=by unfold abg; rw[List.foldl_append]; rfl
theorem adY {look:Nat->List Rat} {p:Nat}:∀ {l:List (Rat×Int)} {acc:List Rat} {a:Rat},acc[p]? = some a->(∀ bc∈l,p < (look bc.2.toNat).length)->(ou look acc l)[p]? = some (abg (λc=>(look c).getD p 0) a l)
 | [],_,_,h,_=>h
 | bc :: l,acc,a,h,hl=>by
  have h1:=hl bc (I9);obtain⟨y,hy⟩:=FC h1;have h2:(qI acc bc.1 (look bc.2.toNat))[p]? = some (a+bc.1*(look bc.2.toNat).getD p 0):=by
   unfold qI;rw[IG,h,hy,FU,hy];rfl
  exact adY (l:=l) h2 (λb hb=>hl b (GI _ hb))
theorem Fit.am0 {g:Gm} (h:Fit g m) {n:Nd} (hn:g.Fg[i]? = some n) (hk:n.kind≠3) (hp:p < g.ay.toNat) :
  (dG g m i).getD p 0=abg (λc=>(dG g m c).getD p 0) 0 ((dL m n).zip n.next):=by
 rw[uK h.good m hn];unfold valOf;rw[L6 hk,FU,adY (a:=0) (by simp[hp]) (λbc hbc=>?_)]
 ·rfl
 ·have hm:bc.2∈n.next:=(List.of_mem_zip (a:=bc.1) (b:=bc.2) hbc).2;have:=h.good.span.kids i n (GR _) (FD hn) hn bc.2 hm;rw[h.jV _ _ (FV _) EN];exact hp
structure Knd (α:Type) where
 n:Nat
 cells:α->List F7
 fine:FW->FI->α->Prop
 len:∀ q,(cells q).length=n
 pos:0 < n
 one:∀ {w:FW} {F:FI} {q:α},fine w F q->∀ u∈cells q,u.oneCell'=true
 keep:∀ {w w':FW} {F G:FI} {q:α},fine w F q->(∀ b,F b->b < w.heap.size->G b)->Same F w w'->fine w' G q
structure OwnSl {α:Type} (K:Knd α) (w:FW) (base:Nat) (et:TypeId) (F:FI) (v:F7) (L:List α):Prop where
 row:w.ownsRow base et K.n v L.length (L.flatMap K.cells)
 fine:∀ q∈L,K.fine w (Apart F v) q
section
variable {α:Type} {K:Knd α}
theorem OwnSl.nil (K:Knd α) (w:FW) (base:Nat) (et:TypeId) (F:FI):OwnSl K w base et F (FQ none 0 0) []:=⟨Ko _ _ _ _,λq h=>by cases h⟩
theorem OwnSl.below {w w':FW} {v:F7} {L:List α} (h:OwnSl K w base et F v L) (hb:Below w.heap.size w w'):OwnSl K w' base et F v L:=by
 refine⟨⟨h.row.1,?_⟩,λq hq=>K.keep (h.fine q hq) (λ_ h _=>h) (FZ hb _)⟩;rcases h.row.2 with hn | ⟨g,cap,cur,rfl,hg,hc,r⟩
 ·exact .inl hn
 ·exact .inr ⟨g,cap,cur,rfl,hg,by rw[hb.block g (Array.getElem?_eq_some_iff.1 hc).1]; exact hc,r⟩
theorem OwnSl.at {w:FW} {v:F7} {L:List α} (h:OwnSl K w base et F v L) :
  (v = FQ none 0 0/\L = [])\/∃ g cap,v = FQ (some ⟨g,0,none⟩) L.length cap/\base<=g/\g < w.heap.size/\L.length<=cap/\(∀ q∈L,K.fine w F q)/\∀ k q,L[k]? = some q->∀ j u,(K.cells q)[j]? = some u->w.cell? ⟨g,0+k*K.n+j,none⟩=some u:=by
 rcases h.row.2 with⟨rfl,h0⟩ | ⟨g,cap,cur,rfl,hb,hg,hnc,_,hsz,htake⟩
 ·exact .inl ⟨rfl,Hq h0⟩
 ·refine .inr ⟨g,cap,rfl,hb,(Array.getElem?_eq_some_iff.1 hg).1,hnc,λq hq=>K.keep (h.fine q hq) (λb hb _=>hb.1) (Gh _ _),λk q hk j u hu=>?_⟩;have hj:j < K.n:=by rw[<-K.len q];exact FD hu
  have e:=qW (f:=K.cells) (s:=K.n) K.len L k j q hk hj;rw[hu,<-htake,List.getElem?_take] at e;rw[Iz];split at e
  ·simp[World.cell?,hg];simpa using e
  ·cases e
theorem iH {w W:FW} {Q:Exit->Act->FW->Prop} (hgd:o.guard=none) (s x:Operand) (t et:TypeId) (bytes:Nat) (z:F7) (ht:Tryz.prog.underlying t=some (.slice et))
  (hi0:(Tryz.prog.info? et).map (λi=>(i.zero,i.size,i.bytes))=some (some z,K.n,bytes)) (hzc:z.cells.size=K.n) (hby:bytes<=1000)
  (ho:o.op = .call { callee:=.builtin .append,args:=#[s,x],argTypes:=#[t,t] })
  (base:Nat) (hbase:base<=W.heap.size) (v:F7) (L:List α) (hs:a.eval s=v) (q:α) (c:Array F7) (hc:c=(K.cells q).toArray) (hlen:L.length<=1000000)
  (hx:a.eval x = FQ (some ⟨w.heap.size,0,none⟩) 1 1) (hown:OwnSl K w base et F v L) (hq:K.fine w (Apart F v) q) (hbel:Below base W w)
  (h:∀ g cap w',OwnSl K w' base et F (FQ (some ⟨g,0,none⟩) (L.length+1) cap) (L ++ [q])->Below base W w'->w.heap.size < w'.heap.size->Same (λb=>v.ownBlock≠some b) w w' ->
   wpList FY ops Q rest (a.put o.dst (FQ (some ⟨g,0,none⟩) (L.length+1) cap)) w') :
  wpList FY ops Q (o :: rest) a (w.alloc (.cells c et)):=by
 subst hc;have hz:=hbel.size;refine zcE ?_;intro hm i0 hi hz0 hz1 hz2;refine wpList_append_lies (w.alloc (.cells (K.cells q).toArray et)) hgd s x t ho base et i0 z K.n bytes ht hi hz0 hz1 hz2 hzc K.pos v L.length _ hs (hown.row.alloc _) ⟨w.heap.size,0,none⟩ 1 1 (K.cells q) hx (by rw[Nat.one_mul]; exact K.len q) (Kq (heap_alloc_new _ _)) (K.one hq) EN (by unfold maxLen; omega) EN aG (w.alloc (.cells (K.cells q).toArray et)).heap.size rfl ?_;intro g cap w' h1 h2 h3 h4;have h5:=h2.size;simp only[KL] at h5 h3;refine Yy ?_;intro hsame e1 e2 ahB p hp;have hp':K.fine w (Apart F v) p:=by
  rcases List.mem_append.1 hp with hp | hp
  ·exact hown.fine p hp
  ·rw[List.mem_singleton.1 hp];exact hq
 refine K.keep hp' (λb hb hl=>⟨hb.1,λe=>?_⟩) hsame;have e:some g=some b:=e;cases e
 rcases h3 with h3 | h3
 ·exact hb.2 h3
 ·omega
theorem wG {w W:FW} {K':Act->FW->Prop} {Q:Exit->Act->FW->Prop} {E:Prop} (hgd:o.guard=none) (s x:Operand) (t et:TypeId) (bytes:Nat) (z:F7) (ht:Tryz.prog.underlying t=some (.slice et))
  (hi0:(Tryz.prog.info? et).map (λi=>(i.zero,i.size,i.bytes))=some (some z,K.n,bytes)) (hzc:z.cells.size=K.n) (hby:bytes<=1000)
  (ho:o.op = .call { callee:=.builtin .append,args:=#[s,x],argTypes:=#[t,t] })
  (base:Nat) (hbase:base<=W.heap.size) (v:F7) (L:List α) (hs:a.eval s=v) (q:α) (c:Array F7) (hc:c=(K.cells q).toArray) (hlen:L.length<=1000000)
  (hx:a.eval x = FQ (some ⟨w.heap.size,0,none⟩) 1 1) (hown:OwnSl K w base et F v L) (hq:K.fine w (Apart F v) q) (hbel:Below base W w)
  (h:∀ g cap w',OwnSl K w' base et F (FQ (some ⟨g,0,none⟩) (L.length+1) cap) (L ++ [q])->Below base W w'->w.heap.size < w'.heap.size->Same (λb=>v.ownBlock≠some b) w w' ->
   K' (a.put o.dst (FQ (some ⟨g,0,none⟩) (L.length+1) cap)) w') :
  if Region.wanted o (yielded ops a.tmps)=true then Oper.wp FY o a (w.alloc (.cells c et)) K' Q else E:=by
 subst hc;have hz:=hbel.size;refine zcE ?_;intro hm i0 hi hz0 hz1 hz2;refine step_append_lies (w.alloc (.cells (K.cells q).toArray et)) hgd s x t ho base et i0 z K.n bytes ht hi hz0 hz1 hz2 hzc K.pos v L.length _ hs (hown.row.alloc _) ⟨w.heap.size,0,none⟩ 1 1 (K.cells q) hx (by rw[Nat.one_mul]; exact K.len q) (Kq (heap_alloc_new _ _)) (K.one hq) EN (by unfold maxLen; omega) EN aG (w.alloc (.cells (K.cells q).toArray et)).heap.size rfl ?_;intro g cap w' h1 h2 h3 h4;have h5:=h2.size;simp only[KL] at h5 h3;refine Yy ?_;intro hsame e1 e2 ahB p hp;have hp':K.fine w (Apart F v) p:=by
  rcases List.mem_append.1 hp with hp | hp
  ·exact hown.fine p hp
  ·rw[List.mem_singleton.1 hp];exact hq
 refine K.keep hp' (λb hb hl=>⟨hb.1,λe=>?_⟩) hsame;have e:some g=some b:=e;cases e
 rcases h3 with h3 | h3
 ·exact hb.2 h3
 ·omega
end
def lV:Knd (F7×List Raw) where
 n:=1
 cells q:=[q.1]
 fine w F q:=FK w F q.1 q.2
 len _:=rfl
 pos:=aA
 one h u hu:=by
  obtain⟨A,c,hv,_⟩:=h;rw[List.mem_singleton.1 hu,hv];rfl
 keep h hFG hs:=h.keep hFG hs
theorem OwnSl.rows {w:FW} {v:F7} {L:List (F7×List Raw)} (h:OwnSl lV w base et F v L) (hF:∀ b,F b->G b) (hG:∀ b,base<=b->G b):FM w G v (L.map Prod.snd):=by
 rcases h.at with⟨rfl,rfl⟩ | ⟨g,cap,rfl,hb,hg,hcap,hf,hx⟩
 ·exact FM.nil _ _
 ·refine zaW ?_;intro k x hk;obtain⟨q,hq,rfl⟩:=Option.map_eq_some_iff.1 hk;exact⟨q.1,hx k q hq 0 q.1 rfl,FK.keep (hf q (FT hq)) (λb hb _=>hF b hb) (Gh _ _)⟩
def ratK:Knd RV where
 n:=3
 cells q:=q.cells
 fine w F q:=q.fine w F
 len _:=rfl
 pos:=aA
 one h u hu:=by
  simp only[RV.cells,Il,Ho,or_false] at hu;rcases hu with rfl | rfl | rfl
  ·rfl
  ·exact h.1.oneCell
  ·exact h.2.oneCell
 keep h hFG hs:=h.keep hFG hs
theorem OwnSl.raws {w:FW} {v:F7} {L:List RV} (h:OwnSl ratK w base et F v L) (hF:∀ b,F b->G b) (hG:∀ b,base<=b->G b):FK w G v (L.map RV.r):=by
 rcases h.at with⟨rfl,rfl⟩ | ⟨g,cap,rfl,hb,hg,hcap,hf,hx⟩
 ·exact FK.nil _ _
 ·refine zaW ?_;intro k x hk;obtain⟨q,hq,rfl⟩:=Option.map_eq_some_iff.1 hk;have h3:=(hf q (FT hq)).keep (G:=G) (λb hb _=>hF b hb) (Gh _ _);exact⟨hx k q hq 0 _ rfl,⟨_,hx k q hq 1 _ rfl,h3.1⟩,⟨_,hx k q hq 2 _ rfl,h3.2⟩⟩
def E5 (w:FW) (F:FI) (b o:Nat) (x:Int×Raw):Prop:=w.cell? ⟨b,o,none⟩=some (.int .i64 x.1)/\C9 w F b (o+1) x.2
def AO (w:FW) (F:FI) (v:F7) (l:List (Int×Raw)):Prop:=BQ 4 E5 w F v l
theorem AO.keep {w w':FW} {v:F7} {l:List (Int×Raw)} (h:AO w F v l) (hFG:∀ b,F b->b < w.heap.size->G b) (hs:Same F w w'):AO w' G v l :=
 BQ.keep h hFG hs.size λ_ _ _ _ hb hl hx=>⟨by rw[hs.cell hb hl]; exact hx.1,hx.2.keep hFG hs hb hl⟩
theorem AO.on {w w':FW} {v:F7} {l:List (Int×Raw)} (h:AO w F v l) (hs:Same F w w'):AO w' F v l:=h.keep (λ_ h _=>h) hs
theorem AO.nil (w:FW) (F:FI):AO w F (FQ none 0 0) []:=⟨none,0,rfl,FV _,λh=>absurd h aF⟩
def aaD:Knd (Int×RV) where
 n:=4
 cells q:=[.int .i64 q.1,Gj q.2.r.neg,q.2.vn,q.2.vd]
 fine w F q:=q.2.fine w F
 len _:=rfl
 pos:=aA
 one h u hu:=by
  simp only[Il,Ho,or_false] at hu;rcases hu with rfl | rfl | rfl | rfl
  ·rfl
  ·rfl
  ·exact h.1.oneCell
  ·exact h.2.oneCell
 keep h hFG hs:=h.keep hFG hs
theorem OwnSl.lines {w:FW} {v:F7} {L:List (Int×RV)} (h:OwnSl aaD w base et F v L) (hF:∀ b,F b->G b) (hG:∀ b,base<=b->G b):AO w G v (L.map λq=>(q.1,q.2.r)):=by
 rcases h.at with⟨rfl,rfl⟩ | ⟨g,cap,rfl,hb,hg,hcap,hf,hx⟩
 ·exact AO.nil _ _
 ·refine zaW ?_;intro k x hk;obtain⟨q,hq,rfl⟩:=Option.map_eq_some_iff.1 hk;have h3:=(hf q (FT hq)).keep (G:=G) (λb hb _=>hF b hb) (Gh _ _);exact⟨hx k q hq 0 _ rfl,hx k q hq 1 _ rfl,⟨_,hx k q hq 2 _ rfl,h3.1⟩,⟨_,hx k q hq 3 _ rfl,h3.2⟩⟩
theorem AO.at {w:FW} {v:F7} {l:List (Int×Raw)} (h:AO w F v l) {r:Int×Raw} (hk:l[k]? = some r):∃ b o c vn vd,v = FQ (some ⟨b,o,none⟩) l.length c/\F b/\b < w.heap.size/\w.cell? ⟨b,o+k*4,none⟩=some (.int .i64 r.1)/\w.cell? ⟨b,o+k*4+1,none⟩=some (Gj r.2.neg)/\w.cell? ⟨b,o+k*4+1+1,none⟩=some vn/\w.cell? ⟨b,o+k*4+1+2,none⟩=some vd/\Ag w F vn r.2.num/\Ag w F vd r.2.den:=by
 obtain⟨A,c,rfl,hc,hr⟩:=h;obtain⟨b,o,rfl,hF,hb,hcell⟩:=hr (by have:=FD hk; omega);obtain⟨e,e0,⟨vn,e1,i1⟩,⟨vd,e2,i2⟩⟩:=hcell k r hk;exact⟨b,o,c,vn,vd,rfl,hF,hb,e,e0,e1,e2,i1,i2⟩
end Go.Proofs.YtnmeejofpkhlkaaGreatDoor
