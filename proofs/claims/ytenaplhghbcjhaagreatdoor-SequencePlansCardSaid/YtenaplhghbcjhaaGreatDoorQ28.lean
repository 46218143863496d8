import Derived.Test.YtenaplhghbcjhaaGreatDoorQ21
import Derived.Test.YtenaplhghbcjhaaGreatDoorQ26
import Derived.Test.YtenaplhghbcjhaaGreatDoorQ10
set_option linter.all false
namespace Go.Proofs.YtenaplhghbcjhaaGreatDoor
open Go renaming Value->GN,World->GK
open Go.Value renaming bool->G7,slice->Gw
open List renaming getElem?_append_left->IB,getElem?_set_ne->G6,getElem?_set_self->Hq,length_append->G9,length_set->Hy,mem_of_getElem?->Gx,mem_or_eq_of_mem_set->JG,replicate->GX
open Nat renaming le_trans->He
open Option.some renaming inj->IE,injEq->JD
open Same renaming refl->GZ
open Go.Proofs.Tryz renaming prog->GI
open Go.World renaming news_of_block->Ko,size_alloc->KE
open Go.RowKit
variable {a:Act} {ops:Array Oper} {F G K K':Gq} {rest:List Oper} {base cap g i n:Nat} {o:Oper} {α:Type} {et:TypeId}
structure Place where
 aH:Int
 many:Int
 seen:Int
 deriving Inhabited
structure View where
 aH:Int
 level:Int
 seen:List Int
 info:Int
structure MC where
 L:List Int
 levels:List Place
 aC:Int
 most:Int
 zero:Bool
structure MS where
 at':Nat
 views:List View
 pending:Int
 F7:List Nd
 F8:List Inf
def ao7 (p:Place) (i:Nat) (seen:List (List Int)):List (List Int) :=
 seen.mapIdx λq l=>l ++ [if (q:Int)=p.aH\/(p.seen.toNat >>> q) % 2=1 then (i:Int) else -1]
theorem OwnSl.same' {K:Knd α} {w w':GK} {v:GN} {L:List α} (h:OwnSl K w base et F v L) (hs:Same (λb=>F b\/v.ownBlock=some b) w w'):OwnSl K w' base et F v L:=by
 refine⟨⟨h.row.1,?_⟩,λq hq=>K.keep (h.fine q hq) (λ_ h _=>h) ⟨hs.size,λb hb hl=>hs.2 b (.inl hb.1) hl⟩⟩;rcases h.row.2 with hn | ⟨g,cap,cur,rfl,hg,hc,r⟩
 ·exact .inl hn
 ·exact .inr ⟨g,cap,cur,rfl,hg,by rw[hs.2 g (.inr rfl) (Array.getElem?_eq_some_iff.1 hc).1]; exact hc,r⟩
theorem OwnSl.widen {K:Knd α} {w:GK} {v:GN} {L:List α} (h:OwnSl K w base et F v L) (hF:∀ b,F b->b < w.heap.size->G b):OwnSl K w base et G v L :=
 ⟨h.row,λq hq=>K.keep (h.fine q hq) (λb hb hl=>⟨hF b hb.1 hl,hb.2⟩) (GZ _ _)⟩
theorem jI {K:Knd α} {w W:GK} {Q:Exit->Act->GK->Prop} (hgd:o.guard=none) (s x:Operand) (t et:TypeId) (bytes:Nat) (z:GN) (ht:Tryz.prog.underlying t=some (.slice et))
  (hi0:(Tryz.prog.info? et).map (λi=>(i.zero,i.size,i.bytes))=some (some z,K.n,bytes)) (hzc:z.cells.size=K.n) (hby:bytes<=1000)
  (ho:o.op = .call { callee:=.builtin .append,args:=#[s,x],argTypes:=#[t,t] })
  (base:Nat) (hbase:base<=w.heap.size) (v:GN) (L:List α) (hs:a.eval s=v) (q:α) (c:Array GN) (hc:c=(K.cells q).toArray) (hlen:L.length<=1000000)
  (hx:a.eval x = Gw (some ⟨w.heap.size,0,none⟩) 1 1) (hown:OwnSl K w base et F v L) (hq:K.fine w (Apart F v) q)
  (h:∀ g cap w',OwnSl K w' base et F (Gw (some ⟨g,0,none⟩) (L.length+1) cap) (L ++ [q])->Wrote (λb=>v.ownBlock=some b) w w'->(v.ownBlock=some g\/w.heap.size<=g)->w.heap.size < w'.heap.size ->
   wpList GI ops Q rest (a.put o.dst (Gw (some ⟨g,0,none⟩) (L.length+1) cap)) w') :
  wpList GI ops Q (o :: rest) a (w.alloc (.cells c et)):=by
 subst hc;refine zcV ?_;intro hm i0 hi hz0 hz1 hz2;refine wpList_append_lies (w.alloc (.cells (K.cells q).toArray et)) hgd s x t ho base et i0 z K.n bytes ht hi hz0 hz1 hz2 hzc K.pos v L.length _ hs (hown.row.alloc _) ⟨w.heap.size,0,none⟩ 1 1 (K.cells q) hx (by rw[Nat.one_mul]; exact K.len q) (Ko (heap_alloc_new _ _)) (K.one hq) FI (by unfold maxLen; omega) FI aB (w.alloc (.cells (K.cells q).toArray et)).heap.size rfl ?_;intro g cap w' h1 h2 h3 h4;have h5:=h2.size;simp only[KE] at h5 h3;refine Y4 ?_;intro hw e1 e2 p hp;have hp':K.fine w (Apart F v) p:=by
   rcases List.mem_append.1 hp with hp | hp
   ·exact hown.fine p hp
   grind
 refine K.keep hp' (λb hb hl=>⟨hb.1,λe=>?_⟩) (hw.same λb hb=>hb.2);have e:some g=some b:=e;cases e
 rcases h3 with h3 | h3
 ·exact hb.2 h3
 ·omega
theorem xH {K:Knd α} {w W:GK} {K':Act->GK->Prop} {Q:Exit->Act->GK->Prop} {E:Prop} (hgd:o.guard=none) (s x:Operand) (t et:TypeId) (bytes:Nat) (z:GN) (ht:Tryz.prog.underlying t=some (.slice et))
  (hi0:(Tryz.prog.info? et).map (λi=>(i.zero,i.size,i.bytes))=some (some z,K.n,bytes)) (hzc:z.cells.size=K.n) (hby:bytes<=1000)
  (ho:o.op = .call { callee:=.builtin .append,args:=#[s,x],argTypes:=#[t,t] })
  (base:Nat) (hbase:base<=w.heap.size) (v:GN) (L:List α) (hs:a.eval s=v) (q:α) (c:Array GN) (hc:c=(K.cells q).toArray) (hlen:L.length<=1000000)
  (hx:a.eval x = Gw (some ⟨w.heap.size,0,none⟩) 1 1) (hown:OwnSl K w base et F v L) (hq:K.fine w (Apart F v) q)
  (h:∀ g cap w',OwnSl K w' base et F (Gw (some ⟨g,0,none⟩) (L.length+1) cap) (L ++ [q])->Wrote (λb=>v.ownBlock=some b) w w'->(v.ownBlock=some g\/w.heap.size<=g)->w.heap.size < w'.heap.size ->
   K' (a.put o.dst (Gw (some ⟨g,0,none⟩) (L.length+1) cap)) w') :
  if Region.wanted o (yielded ops a.tmps)=true then Oper.wp GI o a (w.alloc (.cells c et)) K' Q else E:=by
 subst hc;refine zcV ?_;intro hm i0 hi hz0 hz1 hz2;refine step_append_lies (w.alloc (.cells (K.cells q).toArray et)) hgd s x t ho base et i0 z K.n bytes ht hi hz0 hz1 hz2 hzc K.pos v L.length _ hs (hown.row.alloc _) ⟨w.heap.size,0,none⟩ 1 1 (K.cells q) hx (by rw[Nat.one_mul]; exact K.len q) (Ko (heap_alloc_new _ _)) (K.one hq) FI (by unfold maxLen; omega) FI aB (w.alloc (.cells (K.cells q).toArray et)).heap.size rfl ?_;intro g cap w' h1 h2 h3 h4;have h5:=h2.size;simp only[KE] at h5 h3;refine Y4 ?_;intro hw e1 e2 p hp;have hp':K.fine w (Apart F v) p:=by
   rcases List.mem_append.1 hp with hp | hp
   ·exact hown.fine p hp
   grind
 refine K.keep hp' (λb hb hl=>⟨hb.1,λe=>?_⟩) (hw.same λb hb=>hb.2);have e:some g=some b:=e;cases e
 rcases h3 with h3 | h3
 ·exact hb.2 h3
 ·omega
structure VV where
 v:View
 vs:GN
structure ML where
 base:Nat
 mb:Nat
 db:Nat
 F:Gq
 A:Option Addr
 c:Nat
 vl:GN
section
variable {C:MC} {M:ML} {Fd:Gq} {vv vn vi:GN} {Lv:List VV} {Ln:List NV} {s:MS} {W W':GK}
theorem OwnSl.wrote {K:Knd α} {v:GN} {L:List α} (h:OwnSl K W base et F v L) (hw:Wrote K' W W') (hK:∀ b,(F b\/v.ownBlock=some b)->¬ K' b):OwnSl K W' base et F v L:=h.same' (hw.same hK)
theorem Wrote.step {a b c:GK} (h:Wrote K a b) (k:Wrote K' b c) (hK:∀ i,i < a.heap.size->K' i->K i):Wrote K a c :=
 ⟨k.os.trans h.os,k.tape.trans h.tape,k.output.trans h.output,He h.size k.size,λi hi hn=>(k.block i (Nat.lt_of_lt_of_le hi h.size) (λe=>hn (hK i hi e))).trans (h.block i hi hn)⟩
theorem fK {w w':GK} {b o:Nat} {v:GN} (h:w.cell? ⟨b,o,none⟩=some v) (hw:Wrote K w w') (hb:¬ K b):w'.cell? ⟨b,o,none⟩=some v:=(hw.cell b o (World.block_lt_of_cell? w _ h) hb).trans h
end
theorem acd {P:Program} (w:GK) (t tx ty e e':TypeId) (ht:P.underlying t=some (.slice e)) (hx:P.underlying tx=some (.slice e')) (v x:GN) :
  (Builtin.append_ #[t,tx] ty #[v,x]).run P w=(Builtin.append_ #[t,t] ty #[v,x]).run P w:=by cases v <;> simp[Builtin.append_,Sem.run_bind,run_underlying ht,run_underlying hx]
section
variable {α:Type} {K:Knd α}
theorem aft {w:GK} {Q:Exit->Act->GK->Prop} (hgd:o.guard=none) (s x:Operand) (t tx et et':TypeId) (bytes:Nat) (z:GN) (ht:Tryz.prog.underlying t=some (.slice et)) (htx:Tryz.prog.underlying tx=some (.slice et'))
  (hi0:(Tryz.prog.info? et).map (λi=>(i.zero,i.size,i.bytes))=some (some z,K.n,bytes)) (hzc:z.cells.size=K.n) (hby:bytes<=1000)
  (ho:o.op = .call { callee:=.builtin .append,args:=#[s,x],argTypes:=#[t,tx] })
  (base:Nat) (hbase:base<=w.heap.size) (v:GN) (L L2:List α) (n2:Nat) (hn2:L2.length=n2) (hs:a.eval s=v) (ad:Addr) (c:Nat) (hx:a.eval x = .slice (some ad) n2 c) (hpos:0 < n2) (hsrc:∀ j u,(L2.flatMap K.cells)[j]? = some u->w.cell? (ad.add j)=some u) (hlen:L.length+n2<=1000000)
  (hown:OwnSl K w base et F v L) (hq:∀ q∈L2,K.fine w (Apart F v) q)
  (h:∀ g cap w',OwnSl K w' base et F (Gw (some ⟨g,0,none⟩) (L.length+n2) cap) (L++L2)->Wrote (λb=>v.ownBlock=some b) w w'->(v.ownBlock=some g\/w.heap.size<=g) ->
   wpList GI ops Q rest (a.put o.dst (Gw (some ⟨g,0,none⟩) (L.length+n2) cap)) w') :
  wpList GI ops Q (o :: rest) a w:=by
 subst hn2;have hm:=Nat.mul_le_mul (show L.length+L2.length<=1000001 by omega) hby;obtain⟨i0,hi,hz0,hz1,hz2⟩:=info_parts hi0;have ao8:(L2.flatMap K.cells).length=L2.length*K.n:=by
  clear hs hx hpos hsrc hlen hq h hm;induction L2 with
  | nil=>simp
  | cons q L ih=>rw[List.flatMap_cons,G9,ih,K.len]; simp[Nat.add_mul]; omega
 obtain⟨g,cap,w',hr,h1,h2,h3,h4⟩:=run_append_lies (P:=GI) w t o.type base et i0 z K.n bytes ht hi hz0 hz1 hz2 hzc K.pos v L.length _ hown.row ad L2.length c (L2.flatMap K.cells) ao8 hsrc (λu hu=>by
  obtain⟨q,hq',hu⟩:=List.mem_flatMap.1 hu;exact K.one (hq q hq') u hu) hpos (by unfold maxLen; omega) FI hbase w.heap.size rfl
 rw[<-acd w t tx o.type et et' ht htx] at hr;refine wpList_plain hgd λK' hK=>?_
 unfold Oper.wp execOp;simp only[ho,resolve,invoke,builtin,Sem.run_bind,Sem.run_pure,Result.andThen_ok,List.map_toArray,List.map_cons,List.map_nil,hs,hx,hr];have hwr:Wrote (λb=>v.ownBlock=some b) w w':=⟨h2.os,h2.tape,h2.output,h2.size,λi hi hne=>h2.block i hi (λe=>hne e.symm)⟩;have hsame:Same (Apart F v) w w':=hwr.same λb hb e=>hb.2 e
 refine hK _ _ (h g cap w' ⟨?_,λp hp=>?_⟩ hwr (h3.imp id λe=>by omega))
 ·rw[G9,List.flatMap_append];exact h1
 have hp':K.fine w (Apart F v) p:=by
  rcases List.mem_append.1 hp with hp | hp
  ·exact hown.fine p hp
  ·exact hq p hp
 refine K.keep hp' (λb hb hl=>⟨hb.1,λe=>?_⟩) hsame;have e:some g=some b:=e;cases e
 rcases h3 with h3 | h3
 ·exact hb.2 h3
 ·omega
end
def al7:Knd GN where
 n:=1
 cells q:=[q]
 fine _ _ q:=q.oneCell'=true
 len _:=rfl
 pos:=au
 one h u hu:=by rw[List.mem_singleton.1 hu]; exact h
 keep h _ _:=h
theorem OwnSl.afu {w:GK} {L:List RV} (h:OwnSl ratK w base et F (Gw (some ⟨g,0,none⟩) n cap) L) (k:Nat) (q:RV) (hq:ratK.fine w (Apart F (Gw (some ⟨g,0,none⟩) n cap)) q) :
  ∃ W,W=((w.setCell ⟨g,k*3,none⟩ (G7 q.r.neg)).setCell ⟨g,k*3+1,none⟩ q.vn).setCell ⟨g,k*3+2,none⟩ q.vd/\OwnSl ratK W base et F (Gw (some ⟨g,0,none⟩) n cap) (L.set k q)/\Wrote (λb=>b=g) w W:=by
 have hwr:Wrote (λb=>b=g) w (((w.setCell ⟨g,k*3,none⟩ (G7 q.r.neg)).setCell ⟨g,k*3+1,none⟩ q.vn).setCell ⟨g,k*3+2,none⟩ q.vd) :=
  (((Wrote.refl (λb=>b=g) w).setCell (p:=⟨g,k*3,none⟩) (.inl rfl) _).setCell (p:=⟨g,k*3+1,none⟩) (.inl rfl) _).setCell (p:=⟨g,k*3+2,none⟩) (.inl rfl) _
 refine⟨_,rfl,⟨?_,λp hp=>?_⟩,hwr⟩
 ·obtain⟨h1,h2⟩:=h.row;have e1:(L.set k q).flatMap ratK.cells=(((L.flatMap ratK.cells).set (k*3) (G7 q.r.neg)).set (k*3+1) q.vn).set (k*3+2) q.vd:=acU L k q;rw[e1,Hy];refine⟨by simpa using h1,?_⟩;rcases h2 with⟨e,_⟩ | ⟨g',cap',cur,e,hb,hc,r1,r2,r3,r4⟩
  ·cases e
  ·simp only[Value.slice.injEq,JD,Addr.mk.injEq,and_true,true_and] at e;obtain⟨rfl,hn,rfl⟩:=e;refine .inr ⟨g,cap,((cur.setIfInBounds (k*3) (G7 q.r.neg)).setIfInBounds (k*3+1) q.vn).setIfInBounds (k*3+2) q.vd,by rw[hn],hb,by simp[World.setCell,Array.getElem?_modify,hc],r1,r2,by simpa using r3,?_⟩;grind [List.take_set]
 ·have hs:Same (Apart F (Gw (some ⟨g,0,none⟩) n cap)) w (((w.setCell ⟨g,k*3,none⟩ (G7 q.r.neg)).setCell ⟨g,k*3+1,none⟩ q.vn).setCell ⟨g,k*3+2,none⟩ q.vd):=hwr.same λb hb e=>hb.2 (by show some g=some b; rw[e])
  rcases JG hp with hp | rfl
  ·exact ratK.keep (h.fine p hp) (λ_ h _=>h) hs
  ·exact ratK.keep hq (λ_ h _=>h) hs
def BG (F:Gq) (vs:List GN):Gq:=λb=>F b/\∀ u∈vs,u.ownBlock≠some b
structure Grid (w:GK) (B:Nat) (et:TypeId) (F:Gq) (vs:List GN) (ls:List (List RV)):Prop where
 len:vs.length=ls.length
 own:∀ (i:Nat) (v:GN) (l:List RV),vs[i]? = some v->ls[i]? = some l->OwnSl ratK w B et (BG F vs) v l
 apart:∀ (i j:Nat) (v u:GN) (b:Nat),i≠j->vs[i]? = some v->vs[j]? = some u->v.ownBlock=some b->u.ownBlock≠some b
section
variable {w w':GK} {B:Nat} {et:TypeId} {F:Gq} {vs:List GN} {ls:List (List RV)}
theorem Grid.nils (w:GK) (B:Nat) (et:TypeId) (F:Gq) (n:Nat):Grid w B et F (GX n (Gw none 0 0)) (GX n []):=by
 have hn:∀ (i:Nat) (v:GN),(GX n (Value.slice none 0 0))[i]? = some v->v = Gw none 0 0:=λi v h=>(List.mem_replicate.1 (Gx h)).2
 refine⟨aA,λi v l hv hl=>?_,λi j v u b _ hv _ hb=>?_⟩
 ·grind [OwnSl.nil]
 ·rw[hn i v hv] at hb;cases hb
theorem Grid.wrote (h:Grid w B et F vs ls) (hw:Wrote K w w') (h1:∀ b,K b->¬ F b) (h2:∀ b,K b->b < w.heap.size->b < B):Grid w' B et F vs ls:=by
 refine⟨h.len,λi v l hv hl=>?_,h.apart⟩;have ho:=h.own i v l hv hl;refine ho.wrote hw λb hb hk=>?_
 rcases hb with hb | hb
 ·exact h1 b hk hb.1
 ·have:=ho.row.lt b hb;grind
theorem Grid.below (h:Grid w B et F vs ls) (hb:Below w.heap.size w w'):Grid w' B et F vs ls:=⟨h.len,λi v l hv hl=>(h.own i v l hv hl).below hb,h.apart⟩
theorem Grid.get (h:Grid w B et F vs ls) {l:List RV} (hl:ls[i]? = some l):∃ v,vs[i]? = some v:=Gl (by rw[h.len]; exact Gn hl)
theorem Grid.app (h:Grid w B et F vs ls) {v v':GN} {l:List RV} {q:RV} (hv:vs[i]? = some v) (hl:ls[i]? = some l) (hq:ratK.fine w (BG F vs) q) (hrow:w'.ownsRow B et 3 v' (l ++ [q]).length ((l ++ [q]).flatMap RV.cells)) (hw:Wrote (λb=>v.ownBlock=some b) w w') (hg:v'.ownBlock=some g) (hat:v.ownBlock=some g\/w.heap.size<=g) :
  Grid w' B et F (vs.set i v') (ls.set i (l ++ [q])):=by
 have hi:=Gn hv;have key:∀ b,BG F vs b->b < w.heap.size->BG F (vs.set i v') b:=λb hb hlt=>⟨hb.1,λu hu=>by
  rcases JG hu with hu | rfl
  ·exact hb.2 u hu
  ·rw[hg];intro e;injection e with e
   subst e;rcases hat with hat | hat
   ·exact hb.2 v (Gx hv) hat
   ·omega⟩
 refine⟨by rw[Hy,Hy,h.len],λj u m hu hm=>?_,λj k u x b hjk hu hx hb=>?_⟩
 ·by_cases e:j=i
  ·subst e;rw[Hq hi] at hu;rw[Hq (by rw[<-h.len]; exact hi)] at hm;obtain rfl:=IE hu;obtain rfl:=IE hm;refine⟨hrow,λp hp=>?_⟩;have hp':ratK.fine w (BG F vs) p:=by
     rcases List.mem_append.1 hp with hp | hp
     ·exact ratK.keep ((h.own j v l hv hl).fine p hp) (λ_ h _=>h.1) (GZ _ _)
     grind
   refine ratK.keep hp' (λb hb hlt=>⟨key b hb hlt,?_⟩) (hw.same λb hb=>hb.2 v (Gx hv));exact(key b hb hlt).2 _ (Gx (Hq hi))
  ·rw[G6 (Ne.symm e)] at hu hm;have ho:=h.own j u m hu hm;have ho2:OwnSl ratK w' B et (BG F vs) u m:=ho.wrote hw λb hb=>by
    rcases hb with hb | hb
    ·exact hb.2 v (Gx hv)
    ·intro e2;exact h.apart i j v u b (Ne.symm e) hv hu e2 hb
   refine⟨ho2.row,λp hp=>ratK.keep (ho.fine p hp) (λb hb hlt=>⟨key b hb.1 hlt,hb.2⟩) (hw.same λb hb=>hb.1.2 v (Gx hv))⟩
 ·by_cases e1:j=i
  ·subst e1;rw[Hq hi] at hu;obtain rfl:=IE hu;rw[hg] at hb;injection hb with hb
   subst hb;rw[G6 hjk] at hx;rcases hat with hat | hat
   ·exact h.apart j k v x g hjk hv hx hat
   ·intro e2;obtain⟨m,hm⟩:=Gl (l:=ls) (k:=k) (by rw[<-h.len]; exact Gn hx);have:=((h.own k x m hx hm).row.lt g e2).2;omega
  ·rw[G6 (Ne.symm e1)] at hu;by_cases e2:k=i
   ·subst e2;rw[Hq hi] at hx;obtain rfl:=IE hx;rw[hg];intro e3;injection e3 with e3
    subst e3;rcases hat with hat | hat
    ·exact h.apart j k u v g hjk hu hv hb hat
    ·obtain⟨m,hm⟩:=Gl (l:=ls) (k:=j) (by rw[<-h.len]; exact Gn hu);have:=((h.own j u m hu hm).row.lt g hb).2;omega
   ·rw[G6 (Ne.symm e2)] at hx;exact h.apart j k u x b hjk hu hx hb
theorem Grid.set (h:Grid w B et F vs ls) {l:List RV} (hv:vs[i]? = some (Gw (some ⟨g,0,none⟩) n cap)) (hl:ls[i]? = some l) (k:Nat) (q:RV) (hq:ratK.fine w (BG F vs) q) :
  ∃ W,W=((w.setCell ⟨g,k*3,none⟩ (G7 q.r.neg)).setCell ⟨g,k*3+1,none⟩ q.vn).setCell ⟨g,k*3+2,none⟩ q.vd/\Grid W B et F vs (ls.set i (l.set k q))/\Wrote (λb=>b=g) w W:=by
 have hm:=Gx hv;obtain⟨W,hW,ho,hwr⟩:=(h.own i _ l hv hl).afu k q (ratK.keep hq (λb hb _=>⟨hb,hb.2 _ hm⟩) (GZ _ _));refine⟨W,hW,⟨by rw[Hy,h.len],λj u m hu hm2=>?_,h.apart⟩,hwr⟩;by_cases e:j=i
 ·grind
 ·rw[G6 (Ne.symm e)] at hm2;exact(h.own j u m hu hm2).wrote hwr λb hb e2=>by
   subst e2;rcases hb with hb | hb
   ·exact hb.2 _ hm rfl
   ·exact h.apart i j _ u b (Ne.symm e) hv hu rfl hb
theorem Grid.snoc (h:Grid w B et F vs ls) (hb:Below w.heap.size w w') {v:GN} {l:List RV} (ho:OwnSl ratK w' w.heap.size et (λb=>w.heap.size<=b) v l) (hB:B<=w.heap.size) (hF:∀ b,w.heap.size<=b->F b):Grid w' B et F (vs ++ [v]) (ls ++ [l]):=by
 have hold:∀ (i:Nat) (u:GN),vs[i]? = some u->∀ b,u.ownBlock=some b->b < w.heap.size:=λi u hu b e=>by
  obtain⟨m,hm⟩:=Gl (l:=ls) (k:=i) (by rw[<-h.len]; exact Gn hu);exact((h.own i u m hu hm).row.lt b e).2
 have hnew:∀ b,v.ownBlock=some b->w.heap.size<=b:=λb e=>(ho.row.lt b e).1
 refine⟨by rw[G9,G9,h.len]; rfl,λi u m hu hm=>?_,λi j u x b hij hu hx hb2=>?_⟩
 ·by_cases e:i < vs.length
  ·rw[IB e] at hu;rw[IB (by rw[<-h.len]; exact e)] at hm;have h1:=h.own i u m hu hm;refine⟨(h1.below hb).row,λp hp=>ratK.keep (h1.fine p hp) (λb hbb hlt=>⟨⟨hbb.1.1,λx hx=>?_⟩,hbb.2⟩) (Below.same' hb _)⟩;rcases List.mem_append.1 hx with hx | hx
   ·exact hbb.1.2 x hx
   grind
  ·have e1:i=vs.length:=by have:=Gn hu;simp at this;omega
   rw[e1] at hu;rw[e1,h.len] at hm;simp at hu hm;subst hu;subst hm;refine⟨⟨ho.row.1,?_⟩,λp hp=>ratK.keep (ho.fine p hp) (λb hbb _=>⟨⟨hF b hbb.1,λx hx=>?_⟩,hbb.2⟩) (GZ _ _)⟩
   ·rcases ho.row.2 with hn | ⟨g,cap,cur,e2,hg,r⟩
    ·exact .inl hn
    ·exact .inr ⟨g,cap,cur,e2,He hB hg,r⟩
   ·rcases List.mem_append.1 hx with hx | hx
    ·obtain⟨j,hj⟩:=List.getElem?_of_mem hx;intro e2;have:=hold j x hj b e2;have:=hbb.1;omega
    ·rw[List.mem_singleton.1 hx];exact hbb.2
 ·by_cases e1:i < vs.length
  ·rw[IB e1] at hu;by_cases e2:j < vs.length
   ·rw[IB e2] at hx;exact h.apart i j u x b hij hu hx hb2
   grind
  grind
theorem Grid.done (h:Grid w B et F vs ls) (hG:∀ b,F b\/B<=b->G b):DoneRows w G vs (ls.map (List.map RV.r)):=by
 refine⟨by rw[List.length_map,h.len],λi v l hv hl=>?_⟩;rw[List.getElem?_map] at hl;obtain⟨m,hm,rfl⟩:=Option.map_eq_some_iff.1 hl;exact(h.own i v m hv hm).raws (λb hb=>hG b (.inl hb.1)) (λb hb=>hG b (.inr hb))
end
