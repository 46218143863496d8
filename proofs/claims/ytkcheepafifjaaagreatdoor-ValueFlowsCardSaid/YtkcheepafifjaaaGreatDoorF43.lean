/- parlourkit.maker: how it lies in memory. -/
import Derived.Test.YtkcheepafifjaaaGreatDoorF31
import Derived.Test.YtkcheepafifjaaaGreatDoorF42
set_option linter.all false
namespace Go.Proofs.YtkcheepafifjaaaGreatDoor
open Go.RowKit
theorem AB.same' {α:Type} {K:Knd α} {w w':World} {base:Nat} {et:TypeId} {F:Ag} {v:Value} {L:List α} (h:AB K w base et F v L) (hs:Same (fun b=>F b∨v.ownBlock=some b) w w'):AB K w' base et F v L:=by
 refine⟨⟨h.row.1,?_⟩,fun q hq=>K.keep (h.fine q hq) (fun _ h _=>h) ⟨hs.size,fun b hb hl=>hs.2 b (.inl hb.1) hl⟩⟩;rcases h.row.2 with hn | ⟨g,cap,cur,rfl,hg,hc,r⟩
 ·exact .inl hn
 ·exact .inr ⟨g,cap,cur,rfl,hg,by rw[hs.2 g (.inr rfl) (Array.getElem?_eq_some_iff.1 hc).1]; exact hc,r⟩
theorem AB.widen {α:Type} {K:Knd α} {w:World} {base:Nat} {et:TypeId} {F G:Ag} {v:Value} {L:List α} (h:AB K w base et F v L) (hF:∀ b,F b→b < w.heap.size→G b):AB K w base et G v L :=
 ⟨h.row,fun q hq=>K.keep (h.fine q hq) (fun b hb hl=>⟨hF b hb.1 hl,hb.2⟩) (Same.refl _ _)⟩
theorem jV {α:Type} {K:Knd α} {w W:World} {F:Ag} {ops:Array Oper} {rest:List Oper} {o:Oper} {a:Act} {Q:Exit→Act→World→Prop} (hgd:o.guard=none) (s x:Operand) (t et:TypeId) (bytes:Nat) (z:Value) (ht:Tryz.prog.underlying t=some (.slice et))
  (hi0:(Tryz.prog.info? et).map (fun i=>(i.zero,i.size,i.bytes))=some (some z,K.n,bytes)) (hzc:z.cells.size=K.n) (hby:bytes≤1000)
  (ho:o.op = .call { callee:=.builtin .append,args:=#[s,x],argTypes:=#[t,t] })
  (base:Nat) (hbase:base≤w.heap.size) (v:Value) (L:List α) (hs:a.eval s=v) (q:α) (c:Array Value) (hc:c=(K.cells q).toArray) (hlen:L.length≤1000000)
  (hx:a.eval x = .slice (some ⟨w.heap.size,0,none⟩) 1 1) (hown:AB K w base et F v L) (hq:K.fine w (Apart F v) q)
  (h:∀ g cap w',AB K w' base et F (.slice (some ⟨g,0,none⟩) (L.length+1) cap) (L ++ [q])→Wrote (fun b=>v.ownBlock=some b) w w'→(v.ownBlock=some g∨w.heap.size≤g)→w.heap.size < w'.heap.size →
   wpList Tryz.prog ops Q rest (a.put o.dst (.slice (some ⟨g,0,none⟩) (L.length+1) cap)) w') :
  wpList Tryz.prog ops Q (o :: rest) a (w.alloc (.cells c et)):=by
 subst hc;have hm:=Nat.mul_le_mul (show L.length+1≤1000001 by omega) hby;obtain⟨i0,hi,hz0,hz1,hz2⟩:=info_parts hi0;refine wpList_append_lies (w.alloc (.cells (K.cells q).toArray et)) hgd s x t ho base et i0 z K.n bytes ht hi hz0 hz1 hz2 hzc K.pos v L.length _ hs (hown.row.alloc _) ⟨w.heap.size,0,none⟩ 1 1 (K.cells q) hx (by rw[Nat.one_mul]; exact K.len q) (World.news_of_block (heap_alloc_new _ _)) (K.one hq) (by omega) (by unfold maxLen; omega) (by omega) (by simp; omega) (w.alloc (.cells (K.cells q).toArray et)).heap.size rfl ?_;intro g cap w' h1 h2 h3 h4;have h5:=h2.size;simp only[World.size_alloc] at h5 h3;have hw:Wrote (fun b=>v.ownBlock=some b) w w':=⟨h2.os,h2.tape,h2.output,by omega,fun b hl hb=>(h2.block b (by simp; omega) (fun e=>hb e.symm)).trans (Below.heap_alloc _ _ _ hl)⟩;have e1:(L ++ [q]).length=L.length+1:=by simp
 have e2:(L ++ [q]).flatMap K.cells=L.flatMap K.cells++K.cells q:=by simp[List.flatMap_append]
 refine h g cap w' ⟨by rw[e1,e2]; exact h1,fun p hp=>?_⟩ hw (h3.imp id fun e=>by omega) (by omega);have hp':K.fine w (Apart F v) p:=by
  rcases List.mem_append.1 hp with hp | hp
  ·exact hown.fine p hp
  ·rw[List.mem_singleton.1 hp]; exact hq
 refine K.keep hp' (fun b hb hl=>⟨hb.1,fun e=>?_⟩) (hw.same fun b hb=>hb.2);have e:some g=some b:=e;cases e
 rcases h3 with h3 | h3
 ·exact hb.2 h3
 ·omega
theorem lI {α:Type} {K:Knd α} {w W:World} {F:Ag} {ops:Array Oper} {o:Oper} {a:Act} {K':Act→World→Prop} {Q:Exit→Act→World→Prop} {E:Prop} (hgd:o.guard=none) (s x:Operand) (t et:TypeId) (bytes:Nat) (z:Value) (ht:Tryz.prog.underlying t=some (.slice et))
  (hi0:(Tryz.prog.info? et).map (fun i=>(i.zero,i.size,i.bytes))=some (some z,K.n,bytes)) (hzc:z.cells.size=K.n) (hby:bytes≤1000)
  (ho:o.op = .call { callee:=.builtin .append,args:=#[s,x],argTypes:=#[t,t] })
  (base:Nat) (hbase:base≤w.heap.size) (v:Value) (L:List α) (hs:a.eval s=v) (q:α) (c:Array Value) (hc:c=(K.cells q).toArray) (hlen:L.length≤1000000)
  (hx:a.eval x = .slice (some ⟨w.heap.size,0,none⟩) 1 1) (hown:AB K w base et F v L) (hq:K.fine w (Apart F v) q)
  (h:∀ g cap w',AB K w' base et F (.slice (some ⟨g,0,none⟩) (L.length+1) cap) (L ++ [q])→Wrote (fun b=>v.ownBlock=some b) w w'→(v.ownBlock=some g∨w.heap.size≤g)→w.heap.size < w'.heap.size →
   K' (a.put o.dst (.slice (some ⟨g,0,none⟩) (L.length+1) cap)) w') :
  if Region.wanted o (yielded ops a.tmps)=true then Oper.wp Tryz.prog o a (w.alloc (.cells c et)) K' Q else E:=by
 subst hc;have hm:=Nat.mul_le_mul (show L.length+1≤1000001 by omega) hby;obtain⟨i0,hi,hz0,hz1,hz2⟩:=info_parts hi0;refine step_append_lies (w.alloc (.cells (K.cells q).toArray et)) hgd s x t ho base et i0 z K.n bytes ht hi hz0 hz1 hz2 hzc K.pos v L.length _ hs (hown.row.alloc _) ⟨w.heap.size,0,none⟩ 1 1 (K.cells q) hx (by rw[Nat.one_mul]; exact K.len q) (World.news_of_block (heap_alloc_new _ _)) (K.one hq) (by omega) (by unfold maxLen; omega) (by omega) (by simp; omega) (w.alloc (.cells (K.cells q).toArray et)).heap.size rfl ?_;intro g cap w' h1 h2 h3 h4;have h5:=h2.size;simp only[World.size_alloc] at h5 h3;have hw:Wrote (fun b=>v.ownBlock=some b) w w':=⟨h2.os,h2.tape,h2.output,by omega,fun b hl hb=>(h2.block b (by simp; omega) (fun e=>hb e.symm)).trans (Below.heap_alloc _ _ _ hl)⟩;have e1:(L ++ [q]).length=L.length+1:=by simp
 have e2:(L ++ [q]).flatMap K.cells=L.flatMap K.cells++K.cells q:=by simp[List.flatMap_append]
 refine h g cap w' ⟨by rw[e1,e2]; exact h1,fun p hp=>?_⟩ hw (h3.imp id fun e=>by omega) (by omega);have hp':K.fine w (Apart F v) p:=by
  rcases List.mem_append.1 hp with hp | hp
  ·exact hown.fine p hp
  ·rw[List.mem_singleton.1 hp]; exact hq
 refine K.keep hp' (fun b hb hl=>⟨hb.1,fun e=>?_⟩) (hw.same fun b hb=>hb.2);have e:some g=some b:=e;cases e
 rcases h3 with h3 | h3
 ·exact hb.2 h3
 ·omega
structure VV where
 v:View
 vs:Value
def ad3:Knd VV where
 n:=4
 cells q:=[.int .i64 q.v.aA,.int .i64 q.v.level,q.vs,.int .i64 q.v.info]
 fine w F q:=AA w F q.vs q.v.seen
 len _:=rfl
 pos:=by decide
 one h u hu:=by
  obtain⟨A,c,hv,_⟩:=h;simp only[List.mem_cons,List.not_mem_nil,or_false] at hu;rcases hu with rfl | rfl | rfl | rfl
  ·rfl
  ·rfl
  ·rw[hv]; rfl
  ·rfl
 keep h hFG hs:=h.keep hFG hs
def wV:Knd NV where
 n:=6
 cells q:=q.cells
 fine w F q:=q.fine w F
 len _:=rfl
 pos:=by decide
 one h u hu:=by
  obtain⟨⟨A3,c3,h3,_⟩,⟨A4,c4,h4,_⟩,⟨A5,c5,h5,_⟩⟩:=h;simp only[NV.cells,List.mem_cons,List.not_mem_nil,or_false] at hu;rcases hu with rfl | rfl | rfl | rfl | rfl | rfl
  ·rfl
  ·rfl
  ·rfl
  ·rw[h3]; rfl
  ·rw[h4]; rfl
  ·rw[h5]; rfl
 keep h hFG hs:=h.keep hFG hs
def ah7:Knd Inf where
 n:=2
 cells q:=rX q
 fine _ _ _:=True
 len _:=rfl
 pos:=by decide
 one _ u hu:=by
  simp only[rX,List.mem_cons,List.not_mem_nil,or_false] at hu;rcases hu with rfl | rfl <;> rfl
 keep _ _ _:=trivial
def aaL:Knd Place where
 n:=3
 cells q:=[.int .i64 q.aA,.int .i64 q.many,.int .i64 q.seen]
 fine _ _ _:=True
 len _:=rfl
 pos:=by decide
 one _ u hu:=by
  simp only[List.mem_cons,List.not_mem_nil,or_false] at hu;rcases hu with rfl | rfl | rfl <;> rfl
 keep _ _ _:=trivial
def Mut (mb db:Nat) (vv vn vi:Value):Ag:=fun b=>b=mb∨b=db∨vv.ownBlock=some b∨vn.ownBlock=some b∨vi.ownBlock=some b
structure ML where
 base:Nat
 mb:Nat
 db:Nat
 F:Ag
 A:Option Addr
 c:Nat
 vl:Value
structure MAt (C:MC) (M:ML) (Fd:Ag) (vv vn vi:Value) (Lv:List VV) (Ln:List NV) (s:MS) (W:World):Prop where
 box:Row W M.mb 107 [.pointer (some ⟨M.db,0,none⟩),M.vl,vv,.int .i64 C.most,.int .i64 s.pending,.bool C.zero,.bool false,.int .i64 C.au,vn,vi]
 dr:Row W M.db 63 [.slice M.A C.L.length M.c,.int .i64 (s.at':Int)]
 list:AA W M.F (.slice M.A C.L.length M.c) C.L
 lev:AB aaL W M.base 110 Fd M.vl C.levels
 views:AB ad3 W M.base 180 Fd vv Lv
 nodes:AB wV W M.base 67 Fd vn Ln
 infos:AB ah7 W M.base 73 Fd vi s.infos
 nI:Lv.map VV.v=s.views
 nP:Ln.map NV.n=s.nodes
 out:∀ b,M.F b→b < M.base
 foot:∀ b,Fd b→M.base≤b∧b < W.heap.size∧¬ Mut M.mb M.db vv vn vi b
 dA:M.base≤M.mb∧M.base≤M.db∧M.mb≠M.db
 jm:∀ b,M.vl.ownBlock=some b→¬ Mut M.mb M.db vv vn vi b
 bM:∀ b,vv.ownBlock=some b→b≠M.mb∧b≠M.db∧vn.ownBlock≠some b∧vi.ownBlock≠some b
 bY:∀ b,vn.ownBlock=some b→b≠M.mb∧b≠M.db∧vi.ownBlock≠some b
 dR:∀ b,vi.ownBlock=some b→b≠M.mb∧b≠M.db
 draws:s.at'≤C.L.length∧C.L.length≤9223372036854775807
section
variable {C:MC} {M:ML} {Fd:Ag} {vv vn vi:Value} {Lv:List VV} {Ln:List NV} {s:MS} {W W':World}
def MAt.All (_:MAt C M Fd vv vn vi Lv Ln s W):Ag:=fun b=>M.F b∨Fd b∨Mut M.mb M.db vv vn vi b∨M.vl.ownBlock=some b
theorem MAt.on (h:MAt C M Fd vv vn vi Lv Ln s W) (hs:Same h.All W W'):MAt C M Fd vv vn vi Lv Ln s W' where
 box:=h.box.of_block (hs.2 _ (.inr (.inr (.inl (.inl rfl)))) h.box.lt)
 dr:=h.dr.of_block (hs.2 _ (.inr (.inr (.inl (.inr (.inl rfl))))) h.dr.lt)
 list:=h.list.on ⟨hs.size,fun b hb=>hs.2 b (.inl hb)⟩
 lev:=h.lev.same' ⟨hs.size,fun b hb=>hs.2 b (hb.elim (fun h=>.inr (.inl h)) fun h=>.inr (.inr (.inr h)))⟩
 views:=h.views.same' ⟨hs.size,fun b hb=>hs.2 b (hb.elim (fun h=>.inr (.inl h)) fun h=>.inr (.inr (.inl (.inr (.inr (.inl h))))))⟩
 nodes:=h.nodes.same' ⟨hs.size,fun b hb=>hs.2 b (hb.elim (fun h=>.inr (.inl h)) fun h=>.inr (.inr (.inl (.inr (.inr (.inr (.inl h)))))))⟩
 infos:=h.infos.same' ⟨hs.size,fun b hb=>hs.2 b (hb.elim (fun h=>.inr (.inl h)) fun h=>.inr (.inr (.inl (.inr (.inr (.inr (.inr h)))))))⟩
 nI:=h.nI
 nP:=h.nP
 out:=h.out
 foot b hb:=⟨(h.foot b hb).1,by have:=(h.foot b hb).2.1; have:=hs.size; omega,(h.foot b hb).2.2⟩
 dA:=h.dA
 jm:=h.jm
 bM:=h.bM
 bY:=h.bY
 dR:=h.dR
 draws:=h.draws
theorem MAt.below (h:MAt C M Fd vv vn vi Lv Ln s W) (hb:Below W.heap.size W W'):MAt C M Fd vv vn vi Lv Ln s W':=h.on (Below.same' hb _)
theorem AB.wrote {α:Type} {K:Knd α} {K':Ag} {base:Nat} {et:TypeId} {F:Ag} {v:Value} {L:List α} (h:AB K W base et F v L) (hw:Wrote K' W W') (hK:∀ b,(F b∨v.ownBlock=some b)→¬ K' b):AB K W' base et F v L:=h.same' (hw.same hK)
theorem afQ {mb db b:Nat} {vv vn vi:Value} (h:¬ Mut mb db vv vn vi b):b≠mb∧b≠db∧vv.ownBlock≠some b∧vn.ownBlock≠some b∧vi.ownBlock≠some b :=
 ⟨fun e=>h (.inl e),fun e=>h (.inr (.inl e)),fun e=>h (.inr (.inr (.inl e))),fun e=>h (.inr (.inr (.inr (.inl e)))),fun e=>h (.inr (.inr (.inr (.inr e))))⟩
theorem rF {mb db b:Nat} {vv vn vi:Value} (h1:b≠mb) (h2:b≠db) (h3:vv.ownBlock≠some b) (h4:vn.ownBlock≠some b) (h5:vi.ownBlock≠some b):¬ Mut mb db vv vn vi b:=by
 rintro(h | h | h | h | h)
 ·exact h1 h
 ·exact h2 h
 ·exact h3 h
 ·exact h4 h
 ·exact h5 h
theorem MAt.fdn (h:MAt C M Fd vv vn vi Lv Ln s W) {b:Nat} (hb:Fd b):b≠M.mb∧b≠M.db∧vv.ownBlock≠some b∧vn.ownBlock≠some b∧vi.ownBlock≠some b:=afQ (h.foot b hb).2.2
theorem MAt.lvn (h:MAt C M Fd vv vn vi Lv Ln s W) {b:Nat} (hb:M.vl.ownBlock=some b):b≠M.mb∧b≠M.db∧vv.ownBlock≠some b∧vn.ownBlock≠some b∧vi.ownBlock≠some b:=afQ (h.jm b hb)
theorem MAt.yj (h:MAt C M Fd vv vn vi Lv Ln s W) {b:Nat} (hb:M.F b):b < M.base:=h.out b hb
theorem MAt.drawn (h:MAt C M Fd vv vn vi Lv Ln s W) (hr:Row W' M.db 63 [.slice M.A C.L.length M.c,.int .i64 (dh C.L s.at':Int)]) (hw:Wrote (fun b=>b=M.db) W W'):MAt C M Fd vv vn vi Lv Ln { s with at':=dh C.L s.at' } W' where
 box:=h.box.wrote hw h.dA.2.2
 dr:=hr
 list:=h.list.on (hw.same fun b hb e=>by have:=h.yj hb; have:=h.dA.2.1; subst e; omega)
 lev:=h.lev.wrote hw fun b hb=>hb.elim (fun hb=>(h.fdn hb).2.1) fun hb=>(h.lvn hb).2.1
 views:=h.views.wrote hw fun b hb=>hb.elim (fun hb=>(h.fdn hb).2.1) fun hb=>(h.bM b hb).2.1
 nodes:=h.nodes.wrote hw fun b hb=>hb.elim (fun hb=>(h.fdn hb).2.1) fun hb=>(h.bY b hb).2.1
 infos:=h.infos.wrote hw fun b hb=>hb.elim (fun hb=>(h.fdn hb).2.1) fun hb=>(h.dR b hb).2
 nI:=h.nI
 nP:=h.nP
 out:=h.out
 foot b hb:=⟨(h.foot b hb).1,by have:=(h.foot b hb).2.1; have:=hw.size; omega,(h.foot b hb).2.2⟩
 dA:=h.dA
 jm:=h.jm
 bM:=h.bM
 bY:=h.bY
 dR:=h.dR
 draws:=⟨sU h.draws.1,h.draws.2⟩
theorem ad4 (h:MAt C M Fd vv vn vi Lv Ln s W) (n:Int) (hn:1≤n) (hn2:n≤1000) :
  Calls Tryz.prog 65 #[.pointer (some ⟨M.db,0,none⟩),.int .i64 n] W fun e w'=>e = .returned (.int .i64 (s.draw C n).1)∧MAt C M Fd vv vn vi Lv Ln (s.draw C n).2 w'∧Wrote (fun b=>b=M.db) W w':=by
 refine(next_any W M.F M.db M.A M.c C.L s.at' n h.dr h.list (fun hb=>by have:=h.yj hb; have:=h.dA.2.1; omega) hn hn2 h.draws.2).mono ?_;rintro e w' ⟨rfl,hr,hw⟩;exact⟨rfl,h.drawn hr hw,hw⟩
theorem MAt.aaM (h:MAt C M Fd vv vn vi Lv Ln s W) (z:Int):MAt C M Fd vv vn vi Lv Ln { s with pending:=z } (W.setCell ⟨M.mb,4,none⟩ (.int .i64 z)):=by
 have hw:Wrote (fun b=>b=M.mb) W (W.setCell ⟨M.mb,4,none⟩ (.int .i64 z)):=Wrote.setCell (K:=fun b=>b=M.mb) (p:=⟨M.mb,4,none⟩) (Wrote.refl _ _) (.inl rfl) _;exact {
  box:=h.box.set 4 _
  dr:=h.dr.wrote hw (fun e=>h.dA.2.2 e.symm)
  list:=h.list.on (hw.same fun b hb e=>by have:=h.yj hb; have:=h.dA.1; subst e; omega)
  lev:=h.lev.wrote hw fun b hb=>hb.elim (fun hb=>(h.fdn hb).1) fun hb=>(h.lvn hb).1
  views:=h.views.wrote hw fun b hb=>hb.elim (fun hb=>(h.fdn hb).1) fun hb=>(h.bM b hb).1
  nodes:=h.nodes.wrote hw fun b hb=>hb.elim (fun hb=>(h.fdn hb).1) fun hb=>(h.bY b hb).1
  infos:=h.infos.wrote hw fun b hb=>hb.elim (fun hb=>(h.fdn hb).1) fun hb=>(h.dR b hb).1
  nI:=h.nI
  nP:=h.nP
  out:=h.out
  foot:=fun b hb=>⟨(h.foot b hb).1,by have:=(h.foot b hb).2.1; have:=hw.size; omega,(h.foot b hb).2.2⟩
  dA:=h.dA
  jm:=h.jm
  bM:=h.bM
  bY:=h.bY
  dR:=h.dR
  draws:=h.draws
 }
theorem MAt.widen {Fe:Ag} (h:MAt C M Fd vv vn vi Lv Ln s W) (hF:∀ b,Fd b→Fe b) (hfe:∀ b,Fe b→M.base≤b∧b < W.heap.size∧¬ Mut M.mb M.db vv vn vi b):MAt C M Fe vv vn vi Lv Ln s W :=
 { h with lev:=h.lev.widen fun b hb _=>hF b hb,views:=h.views.widen fun b hb _=>hF b hb,nodes:=h.nodes.widen fun b hb _=>hF b hb,infos:=h.infos.widen fun b hb _=>hF b hb,foot:=hfe }
theorem MAt.afh (h:MAt C M Fd vv vn vi Lv Ln s W) {g cap:Nat} {q:VV} (hown:AB ad3 W' M.base 180 Fd (.slice (some ⟨g,0,none⟩) (Lv.length+1) cap) (Lv ++ [q])) (hw:Wrote (fun b=>vv.ownBlock=some b) W W') (hat:vv.ownBlock=some g∨W.heap.size≤g) (hsz:W.heap.size < W'.heap.size) :
  ∃ W2,W2=W'.setCell ⟨M.mb,2,none⟩ (.slice (some ⟨g,0,none⟩) (Lv.length+1) cap)∧MAt C M Fd (.slice (some ⟨g,0,none⟩) (Lv.length+1) cap) vn vi (Lv ++ [q]) Ln { s with views:=s.views ++ [q.v] } W2∧Wrote (Mut M.mb M.db vv vn vi) W W2:=by
 have hb':=h.box.wrote hw fun e=>(h.bM _ e).1 rfl
 have hd':=h.dr.wrote hw fun e=>(h.bM _ e).2.1 rfl
 have hl':=h.list.on (hw.same fun b hb e=>by have:=h.yj hb; have:=(h.views.row.lt b e).1; omega);have ad5:=h.lev.wrote hw fun b hb=>hb.elim (fun hb=>(h.fdn hb).2.2.1) fun hb=>(h.lvn hb).2.2.1
 have ajK:=h.nodes.wrote hw fun b hb=>hb.elim (fun hb=>(h.fdn hb).2.2.1) fun hb=>fun e=>(h.bM b e).2.2.1 hb
 have ajL:=h.infos.wrote hw fun b hb=>hb.elim (fun hb=>(h.fdn hb).2.2.1) fun hb=>fun e=>(h.bM b e).2.2.2 hb
 have gne:∀ b,b < W.heap.size→vv.ownBlock≠some b→g≠b:=fun b hb hn e=>by
  subst e;rcases hat with hat | hat
  ·exact hn hat
  ·omega
 have gmb:g≠M.mb:=gne _ h.box.lt fun e=>(h.bM _ e).1 rfl
 have gdb:g≠M.db:=gne _ h.dr.lt fun e=>(h.bM _ e).2.1 rfl
 have gfd:∀ b,Fd b→g≠b:=fun b hb=>gne b (h.foot b hb).2.1 (h.fdn hb).2.2.1
 have gvl:∀ b,M.vl.ownBlock=some b→g≠b:=fun b hb=>gne b (h.lev.row.lt b hb).2 (h.lvn hb).2.2.1
 have gvn:∀ b,vn.ownBlock=some b→g≠b:=fun b hb=>gne b (h.nodes.row.lt b hb).2 (fun e=>(h.bM b e).2.2.1 hb)
 have gvi:∀ b,vi.ownBlock=some b→g≠b:=fun b hb=>gne b (h.infos.row.lt b hb).2 (fun e=>(h.bM b e).2.2.2 hb)
 have hw2:Wrote (fun b=>b=M.mb) W' (W'.setCell ⟨M.mb,2,none⟩ (.slice (some ⟨g,0,none⟩) (Lv.length+1) cap)):=Wrote.setCell (K:=fun b=>b=M.mb) (p:=⟨M.mb,2,none⟩) (Wrote.refl _ _) (.inl rfl) _;have own:∀ b,(Value.slice (some ⟨g,0,none⟩) (Lv.length+1) cap).ownBlock=some b→b=g:=fun b hb=>by
  have e:some g=some b:=hb;cases e; rfl
 refine⟨_,rfl,?_,?_⟩
 ·exact {
   box:=hb'.set 2 _
   dr:=hd'.wrote hw2 (fun e=>h.dA.2.2 e.symm)
   list:=hl'.on (hw2.same fun b hb e=>by have:=h.yj hb; have:=h.dA.1; subst e; omega)
   lev:=ad5.wrote hw2 fun b hb=>hb.elim (fun hb=>(h.fdn hb).1) fun hb=>(h.lvn hb).1
   views:=hown.wrote hw2 fun b hb=>hb.elim (fun hb=>(h.fdn hb).1) fun hb e=>gmb ((own b hb)▸e)
   nodes:=ajK.wrote hw2 fun b hb=>hb.elim (fun hb=>(h.fdn hb).1) fun hb=>(h.bY b hb).1
   infos:=ajL.wrote hw2 fun b hb=>hb.elim (fun hb=>(h.fdn hb).1) fun hb=>(h.dR b hb).1
   nI:=by rw[List.map_append,h.nI]; rfl
   nP:=h.nP
   out:=h.out
   foot:=fun b hb=>⟨(h.foot b hb).1,by have:=(h.foot b hb).2.1; simp; omega,rF (h.fdn hb).1 (h.fdn hb).2.1 (fun e=>gfd b hb (own b e).symm) (h.fdn hb).2.2.2.1 (h.fdn hb).2.2.2.2⟩
   dA:=h.dA
   jm:=fun b hb=>rF (h.lvn hb).1 (h.lvn hb).2.1 (fun e=>gvl b hb (own b e).symm) (h.lvn hb).2.2.2.1 (h.lvn hb).2.2.2.2
   bM:=fun b hb=>by
    have:=own b hb; subst this;exact⟨gmb,gdb,fun e=>gvn b e rfl,fun e=>gvi b e rfl⟩
   bY:=h.bY
   dR:=h.dR
   draws:=h.draws
  }
 ·exact Wrote.trans ⟨hw.os,hw.tape,hw.output,hw.size,fun b hl hb=>hw.block b hl fun e=>hb (.inr (.inr (.inl e)))⟩ ⟨hw2.os,hw2.tape,hw2.output,hw2.size,fun b hl hb=>hw2.block b hl fun e=>hb (.inl e)⟩
theorem MAt.afi (h:MAt C M Fd vv vn vi Lv Ln s W) {g cap:Nat} {q:NV} (hown:AB wV W' M.base 67 Fd (.slice (some ⟨g,0,none⟩) (Ln.length+1) cap) (Ln ++ [q])) (hw:Wrote (fun b=>vn.ownBlock=some b) W W') (hat:vn.ownBlock=some g∨W.heap.size≤g) (hsz:W.heap.size < W'.heap.size) :
  ∃ W2,W2=W'.setCell ⟨M.mb,8,none⟩ (.slice (some ⟨g,0,none⟩) (Ln.length+1) cap)∧MAt C M Fd vv (.slice (some ⟨g,0,none⟩) (Ln.length+1) cap) vi Lv (Ln ++ [q]) { s with nodes:=s.nodes ++ [q.n] } W2∧Wrote (Mut M.mb M.db vv vn vi) W W2:=by
 have hb':=h.box.wrote hw fun e=>(h.bY _ e).1 rfl
 have hd':=h.dr.wrote hw fun e=>(h.bY _ e).2.1 rfl
 have hl':=h.list.on (hw.same fun b hb e=>by have:=h.yj hb; have:=(h.nodes.row.lt b e).1; omega);have ad5:=h.lev.wrote hw fun b hb=>hb.elim (fun hb=>(h.fdn hb).2.2.2.1) fun hb=>(h.lvn hb).2.2.2.1
 have ajM:=h.views.wrote hw fun b hb=>hb.elim (fun hb=>(h.fdn hb).2.2.2.1) fun hb=>(h.bM b hb).2.2.1
 have ajL:=h.infos.wrote hw fun b hb=>hb.elim (fun hb=>(h.fdn hb).2.2.2.1) fun hb=>fun e=>(h.bY b e).2.2 hb
 have gne:∀ b,b < W.heap.size→vn.ownBlock≠some b→g≠b:=fun b hb hn e=>by
  subst e;rcases hat with hat | hat
  ·exact hn hat
  ·omega
 have gmb:g≠M.mb:=gne _ h.box.lt fun e=>(h.bY _ e).1 rfl
 have gdb:g≠M.db:=gne _ h.dr.lt fun e=>(h.bY _ e).2.1 rfl
 have gfd:∀ b,Fd b→g≠b:=fun b hb=>gne b (h.foot b hb).2.1 (h.fdn hb).2.2.2.1
 have gvl:∀ b,M.vl.ownBlock=some b→g≠b:=fun b hb=>gne b (h.lev.row.lt b hb).2 (h.lvn hb).2.2.2.1
 have gvv:∀ b,vv.ownBlock=some b→g≠b:=fun b hb=>gne b (h.views.row.lt b hb).2 ((h.bM b hb).2.2.1)
 have gvi:∀ b,vi.ownBlock=some b→g≠b:=fun b hb=>gne b (h.infos.row.lt b hb).2 (fun e=>(h.bY b e).2.2 hb)
 have hw2:Wrote (fun b=>b=M.mb) W' (W'.setCell ⟨M.mb,8,none⟩ (.slice (some ⟨g,0,none⟩) (Ln.length+1) cap)):=Wrote.setCell (K:=fun b=>b=M.mb) (p:=⟨M.mb,8,none⟩) (Wrote.refl _ _) (.inl rfl) _;have own:∀ b,(Value.slice (some ⟨g,0,none⟩) (Ln.length+1) cap).ownBlock=some b→b=g:=fun b hb=>by
  have e:some g=some b:=hb;cases e; rfl
 refine⟨_,rfl,?_,?_⟩
 ·exact {
   box:=hb'.set 8 _
   dr:=hd'.wrote hw2 (fun e=>h.dA.2.2 e.symm)
   list:=hl'.on (hw2.same fun b hb e=>by have:=h.yj hb; have:=h.dA.1; subst e; omega)
   lev:=ad5.wrote hw2 fun b hb=>hb.elim (fun hb=>(h.fdn hb).1) fun hb=>(h.lvn hb).1
   views:=ajM.wrote hw2 fun b hb=>hb.elim (fun hb=>(h.fdn hb).1) fun hb=>(h.bM b hb).1
   nodes:=hown.wrote hw2 fun b hb=>hb.elim (fun hb=>(h.fdn hb).1) fun hb e=>gmb ((own b hb)▸e)
   infos:=ajL.wrote hw2 fun b hb=>hb.elim (fun hb=>(h.fdn hb).1) fun hb=>(h.dR b hb).1
   nI:=h.nI
   nP:=by rw[List.map_append,h.nP]; rfl
   out:=h.out
   foot:=fun b hb=>⟨(h.foot b hb).1,by have:=(h.foot b hb).2.1; simp; omega,rF (h.fdn hb).1 (h.fdn hb).2.1 (h.fdn hb).2.2.1 (fun e=>gfd b hb (own b e).symm) (h.fdn hb).2.2.2.2⟩
   dA:=h.dA
   jm:=fun b hb=>rF (h.lvn hb).1 (h.lvn hb).2.1 (h.lvn hb).2.2.1 (fun e=>gvl b hb (own b e).symm) (h.lvn hb).2.2.2.2
   bM:=fun b hb=>⟨(h.bM b hb).1,(h.bM b hb).2.1,fun e=>gvv b hb (own b e).symm,(h.bM b hb).2.2.2⟩
   bY:=fun b hb=>by
    have:=own b hb; subst this;exact⟨gmb,gdb,fun e=>gvi b e rfl⟩
   dR:=h.dR
   draws:=h.draws
  }
 ·exact Wrote.trans ⟨hw.os,hw.tape,hw.output,hw.size,fun b hl hb=>hw.block b hl fun e=>hb (.inr (.inr (.inr (.inl e))))⟩ ⟨hw2.os,hw2.tape,hw2.output,hw2.size,fun b hl hb=>hw2.block b hl fun e=>hb (.inl e)⟩
theorem MAt.afj (h:MAt C M Fd vv vn vi Lv Ln s W) {g cap:Nat} {q:Inf} (hown:AB ah7 W' M.base 73 Fd (.slice (some ⟨g,0,none⟩) (s.infos.length+1) cap) (s.infos ++ [q])) (hw:Wrote (fun b=>vi.ownBlock=some b) W W') (hat:vi.ownBlock=some g∨W.heap.size≤g) (hsz:W.heap.size < W'.heap.size) :
  ∃ W2,W2=W'.setCell ⟨M.mb,9,none⟩ (.slice (some ⟨g,0,none⟩) (s.infos.length+1) cap)∧MAt C M Fd vv vn (.slice (some ⟨g,0,none⟩) (s.infos.length+1) cap) Lv Ln { s with infos:=s.infos ++ [q] } W2∧Wrote (Mut M.mb M.db vv vn vi) W W2:=by
 have hb':=h.box.wrote hw fun e=>(h.dR _ e).1 rfl
 have hd':=h.dr.wrote hw fun e=>(h.dR _ e).2 rfl
 have hl':=h.list.on (hw.same fun b hb e=>by have:=h.yj hb; have:=(h.infos.row.lt b e).1; omega);have ad5:=h.lev.wrote hw fun b hb=>hb.elim (fun hb=>(h.fdn hb).2.2.2.2) fun hb=>(h.lvn hb).2.2.2.2
 have ajM:=h.views.wrote hw fun b hb=>hb.elim (fun hb=>(h.fdn hb).2.2.2.2) fun hb=>(h.bM b hb).2.2.2
 have ajK:=h.nodes.wrote hw fun b hb=>hb.elim (fun hb=>(h.fdn hb).2.2.2.2) fun hb=>(h.bY b hb).2.2
 have gne:∀ b,b < W.heap.size→vi.ownBlock≠some b→g≠b:=fun b hb hn e=>by
  subst e;rcases hat with hat | hat
  ·exact hn hat
  ·omega
 have gmb:g≠M.mb:=gne _ h.box.lt fun e=>(h.dR _ e).1 rfl
 have gdb:g≠M.db:=gne _ h.dr.lt fun e=>(h.dR _ e).2 rfl
 have gfd:∀ b,Fd b→g≠b:=fun b hb=>gne b (h.foot b hb).2.1 (h.fdn hb).2.2.2.2
 have gvl:∀ b,M.vl.ownBlock=some b→g≠b:=fun b hb=>gne b (h.lev.row.lt b hb).2 (h.lvn hb).2.2.2.2
 have gvv:∀ b,vv.ownBlock=some b→g≠b:=fun b hb=>gne b (h.views.row.lt b hb).2 ((h.bM b hb).2.2.2)
 have gvn:∀ b,vn.ownBlock=some b→g≠b:=fun b hb=>gne b (h.nodes.row.lt b hb).2 ((h.bY b hb).2.2)
 have hw2:Wrote (fun b=>b=M.mb) W' (W'.setCell ⟨M.mb,9,none⟩ (.slice (some ⟨g,0,none⟩) (s.infos.length+1) cap)):=Wrote.setCell (K:=fun b=>b=M.mb) (p:=⟨M.mb,9,none⟩) (Wrote.refl _ _) (.inl rfl) _;have own:∀ b,(Value.slice (some ⟨g,0,none⟩) (s.infos.length+1) cap).ownBlock=some b→b=g:=fun b hb=>by
  have e:some g=some b:=hb;cases e; rfl
 refine⟨_,rfl,?_,?_⟩
 ·exact {
   box:=hb'.set 9 _
   dr:=hd'.wrote hw2 (fun e=>h.dA.2.2 e.symm)
   list:=hl'.on (hw2.same fun b hb e=>by have:=h.yj hb; have:=h.dA.1; subst e; omega)
   lev:=ad5.wrote hw2 fun b hb=>hb.elim (fun hb=>(h.fdn hb).1) fun hb=>(h.lvn hb).1
   views:=ajM.wrote hw2 fun b hb=>hb.elim (fun hb=>(h.fdn hb).1) fun hb=>(h.bM b hb).1
   nodes:=ajK.wrote hw2 fun b hb=>hb.elim (fun hb=>(h.fdn hb).1) fun hb=>(h.bY b hb).1
   infos:=hown.wrote hw2 fun b hb=>hb.elim (fun hb=>(h.fdn hb).1) fun hb e=>gmb ((own b hb)▸e)
   nI:=h.nI
   nP:=h.nP
   out:=h.out
   foot:=fun b hb=>⟨(h.foot b hb).1,by have:=(h.foot b hb).2.1; simp; omega,rF (h.fdn hb).1 (h.fdn hb).2.1 (h.fdn hb).2.2.1 (h.fdn hb).2.2.2.1 (fun e=>gfd b hb (own b e).symm)⟩
   dA:=h.dA
   jm:=fun b hb=>rF (h.lvn hb).1 (h.lvn hb).2.1 (h.lvn hb).2.2.1 (h.lvn hb).2.2.2.1 (fun e=>gvl b hb (own b e).symm)
   bM:=fun b hb=>⟨(h.bM b hb).1,(h.bM b hb).2.1,(h.bM b hb).2.2.1,fun e=>gvv b hb (own b e).symm⟩
   bY:=fun b hb=>⟨(h.bY b hb).1,(h.bY b hb).2.1,fun e=>gvn b hb (own b e).symm⟩
   dR:=fun b hb=>by
    have:=own b hb; subst this;exact⟨gmb,gdb⟩
   draws:=h.draws
  }
 ·exact Wrote.trans ⟨hw.os,hw.tape,hw.output,hw.size,fun b hl hb=>hw.block b hl fun e=>hb (.inr (.inr (.inr (.inr e))))⟩ ⟨hw2.os,hw2.tape,hw2.output,hw2.size,fun b hl hb=>hw2.block b hl fun e=>hb (.inl e)⟩
theorem AB.short {α:Type} {K:Knd α} {w:World} {base:Nat} {et:TypeId} {F:Ag} {g n cap:Nat} {L:List α} {q:α} (h:AB K w base et F (.slice (some ⟨g,0,none⟩) n cap) (L ++ [q])):AB K w base et F (.slice (some ⟨g,0,none⟩) L.length cap) L:=by
 have e1:(L ++ [q]).length=L.length+1:=by simp
 have e2:(L ++ [q]).flatMap K.cells=L.flatMap K.cells++K.cells q:=by simp[List.flatMap_append]
 have hr:=h.row;have hfl:(L.flatMap K.cells).length=L.length*K.n:=by
  have h1:=hr.1;rw[e1,e2,List.length_append,K.len,Nat.add_mul] at h1;omega
 refine⟨⟨hfl,?_⟩,fun p hp=>h.fine p (List.mem_append_left _ hp)⟩;rcases hr.2 with⟨h',_⟩ | ⟨g',cap',cur,h',hb,hg,hnc,hm,hsz,htake⟩
 ·simp at h'
 ·simp only[Value.slice.injEq,Option.some.injEq,Addr.mk.injEq,and_true,true_and] at h';obtain⟨rfl,_,rfl⟩:=h';refine .inr ⟨g,cap,cur,rfl,hb,hg,by omega,hm,hsz,?_⟩;have hmin:L.length*K.n≤(L ++ [q]).length*K.n:=Nat.mul_le_mul_right _ (by omega);have h2:=congrArg (List.take (L.length*K.n)) htake;rw[e2,List.take_take,Nat.min_eq_left hmin,List.take_append_of_le_length (by omega)] at h2;rw[h2,List.take_of_length_le (by omega)]
theorem ajN (A:List Value):∀ (x0 x1 x2 x3 x4 x5:Value) (B:List Value) (y0 y1 y2 y3 y4 y5:Value),((((((A++x0 :: x1 :: x2 :: x3 :: x4 :: x5 :: B).set A.length y0).set (A.length+1) y1).set (A.length+2) y2).set (A.length+3) y3).set (A.length+4) y4).set (A.length+5) y5=A++y0 :: y1 :: y2 :: y3 :: y4 :: y5 :: B:=by
 induction A with
 | nil=>intros; rfl
 | cons a A ih =>
  intro x0 x1 x2 x3 x4 x5 B y0 y1 y2 y3 y4 y5;have:=ih x0 x1 x2 x3 x4 x5 B y0 y1 y2 y3 y4 y5;simp only[List.length_cons,List.cons_append,Nat.add_right_comm _ 1 _,List.set_cons_succ];rw[this]
theorem agQ {L:List NV} {i:Nat} {x:NV} (hx:L[i]? = some x) (q:NV):(L.set i q).flatMap NV.cells=((((((L.flatMap NV.cells).set (i*6) (.int .i64 q.n.kind)).set (i*6+1) (.int .i64 q.n.aA)).set (i*6+2) (.int .i64 q.n.info)).set (i*6+3) q.v3).set (i*6+4) q.v4).set (i*6+5) q.v5:=by
 have hl:=aF hx;have e:L=L.take i++x :: L.drop (i+1):=by
  have h:=List.getElem?_eq_some_iff.1 hx;obtain⟨h1,h2⟩:=h;rw[← h2,List.getElem_cons_drop,List.take_append_drop]
 have hlen:((L.take i).flatMap NV.cells).length=i*6:=by rw[ah6,List.length_take]; omega
 have e2:L.set i q=L.take i++q :: L.drop (i+1):=by rw[List.set_eq_take_append_cons_drop,if_pos hl]
 have e3:L.flatMap NV.cells=(L.take i).flatMap NV.cells++(.int .i64 x.n.kind) :: (.int .i64 x.n.aA) :: (.int .i64 x.n.info) :: x.v3 :: x.v4 :: x.v5 :: (L.drop (i+1)).flatMap NV.cells:=by
  conv=>lhs; rw[e]
  rw[List.flatMap_append,List.flatMap_cons]; rfl
 rw[e2,e3,List.flatMap_append,List.flatMap_cons,← hlen,ajN]; rfl
theorem MAt.setNode (h:MAt C M Fd vv vn vi Lv Ln s W) {i g cap:Nat} (hv:vn = .slice (some ⟨g,0,none⟩) Ln.length cap) (hi:i < Ln.length) (q:NV) (hq:q.fine W Fd) :
  ∃ W',W'=((((((W.setCell ⟨g,i*6,none⟩ (.int .i64 q.n.kind)).setCell ⟨g,i*6+1,none⟩ (.int .i64 q.n.aA)).setCell ⟨g,i*6+2,none⟩ (.int .i64 q.n.info)).setCell ⟨g,i*6+3,none⟩ q.v3).setCell ⟨g,i*6+4,none⟩ q.v4).setCell ⟨g,i*6+5,none⟩ q.v5) ∧
   MAt C M Fd vv vn vi Lv (Ln.set i q) { s with nodes:=s.nodes.set i q.n } W'∧Wrote (fun b=>b=g) W W':=by
 subst hv;obtain⟨x,hx⟩:=aB hi;have hw:Wrote (fun b=>b=g) W ((((((W.setCell ⟨g,i*6,none⟩ (.int .i64 q.n.kind)).setCell ⟨g,i*6+1,none⟩ (.int .i64 q.n.aA)).setCell ⟨g,i*6+2,none⟩ (.int .i64 q.n.info)).setCell ⟨g,i*6+3,none⟩ q.v3).setCell ⟨g,i*6+4,none⟩ q.v4).setCell ⟨g,i*6+5,none⟩ q.v5):=by
  have h0:Wrote (fun b=>b=g) W W:=Wrote.refl _ _;exact(((((h0.setCell (p:=⟨g,i*6,none⟩) (.inl rfl) _).setCell (p:=⟨g,i*6+1,none⟩) (.inl rfl) _).setCell (p:=⟨g,i*6+2,none⟩) (.inl rfl) _).setCell (p:=⟨g,i*6+3,none⟩) (.inl rfl) _).setCell (p:=⟨g,i*6+4,none⟩) (.inl rfl) _).setCell (p:=⟨g,i*6+5,none⟩) (.inl rfl) _
 have hfd:∀ b,Fd b→b≠g:=fun b hb e=>(h.fdn hb).2.2.2.1 (by rw[e]; rfl)
 have hrow:=((((((h.nodes.row.stored (i*6) (.int .i64 q.n.kind)).1.stored (i*6+1) (.int .i64 q.n.aA)).1.stored (i*6+2) (.int .i64 q.n.info)).1.stored (i*6+3) q.v3).1.stored (i*6+4) q.v4).1.stored (i*6+5) q.v5).1;refine⟨_,rfl,?_,hw⟩;exact {
  box:=h.box.wrote hw fun e=>(h.bY g rfl).1 e.symm
  dr:=h.dr.wrote hw fun e=>(h.bY g rfl).2.1 e.symm
  list:=h.list.on (hw.same fun b hb e=>by have:=h.yj hb; have:=(h.nodes.row.lt g rfl).1; subst e; omega)
  lev:=h.lev.wrote hw fun b hb=>hb.elim (fun hb=>hfd b hb) fun hb e=>(h.lvn hb).2.2.2.1 (by rw[e]; rfl)
  views:=h.views.wrote hw fun b hb=>hb.elim (fun hb=>hfd b hb) fun hb e=>(h.bM b hb).2.2.1 (by rw[e]; rfl)
  nodes:=by
   have hl:(Ln.set i q).length=Ln.length:=List.length_set;refine⟨?_,fun p hp=>?_⟩
   ·rw[hl];have:=agQ hx q;rw[show(Ln.set i q).flatMap wV.cells=(Ln.set i q).flatMap NV.cells from rfl,this];exact hrow
   ·have hp':wV.fine W (Apart Fd (.slice (some ⟨g,0,none⟩) Ln.length cap)) p:=by
     rcases List.mem_or_eq_of_mem_set hp with hp | rfl
     ·exact h.nodes.fine p hp
     ·exact wV.keep (q:=p) hq (fun b hb _=>⟨hb,fun e=>hfd b hb (by have e':some g=some b:=e; cases e'; rfl)⟩) (Same.refl _ _)
    exact wV.keep hp' (fun _ h _=>h) (hw.same fun b hb=>hfd b hb.1)
  infos:=h.infos.wrote hw fun b hb=>hb.elim (fun hb=>hfd b hb) fun hb e=>(h.bY g rfl).2.2 (by rw[← e]; exact hb)
  nI:=h.nI
  nP:=by rw[List.map_set,h.nP]
  out:=h.out
  foot:=fun b hb=>⟨(h.foot b hb).1,by have:=(h.foot b hb).2.1; simp; omega,(h.foot b hb).2.2⟩
  dA:=h.dA
  jm:=h.jm
  bM:=h.bM
  bY:=h.bY
  dR:=h.dR
  draws:=h.draws
 }
theorem MAt.drop (h:MAt C M Fd vv vn vi Lv Ln s W) {gi ci gv cv n:Nat} {x:Inf} {I:List Inf} {L':List VV} {y:VV} (hI:s.infos=I ++ [x]) (hL:Lv=L' ++ [y]) (hi:vi = .slice (some ⟨gi,0,none⟩) (I.length+1) ci) (hv:vv = .slice (some ⟨gv,0,none⟩) (L'.length+1) cv) :
  ∃ W',W'=((W.setCell ⟨M.mb,9,none⟩ (.slice (some ⟨gi,0,none⟩) I.length ci)).setCell ⟨M.mb,2,none⟩ (.slice (some ⟨gv,0,none⟩) L'.length cv)) ∧
   MAt C M Fd (.slice (some ⟨gv,0,none⟩) L'.length cv) vn (.slice (some ⟨gi,0,none⟩) I.length ci) L' Ln { s with infos:=I,views:=s.views.dropLast } W'∧Wrote (fun b=>b=M.mb) W W':=by
 subst hi hv hL;have hw:Wrote (fun b=>b=M.mb) W ((W.setCell ⟨M.mb,9,none⟩ (.slice (some ⟨gi,0,none⟩) I.length ci)).setCell ⟨M.mb,2,none⟩ (.slice (some ⟨gv,0,none⟩) L'.length cv)):=by
  have h0:Wrote (fun b=>b=M.mb) W W:=Wrote.refl _ _;exact(h0.setCell (p:=⟨M.mb,9,none⟩) (.inl rfl) _).setCell (p:=⟨M.mb,2,none⟩) (.inl rfl) _
 have qm:=h.infos;rw[hI] at qm;refine⟨_,rfl,?_,hw⟩;exact {
  box:=(h.box.set 9 _).set 2 _
  dr:=h.dr.wrote hw (fun e=>h.dA.2.2 e.symm)
  list:=h.list.on (hw.same fun b hb e=>by have:=h.yj hb; have:=h.dA.1; subst e; omega)
  lev:=h.lev.wrote hw fun b hb=>hb.elim (fun hb=>(h.fdn hb).1) fun hb=>(h.lvn hb).1
  views:=h.views.short.wrote hw fun b hb=>hb.elim (fun hb=>(h.fdn hb).1) fun hb=>(h.bM b hb).1
  nodes:=h.nodes.wrote hw fun b hb=>hb.elim (fun hb=>(h.fdn hb).1) fun hb=>(h.bY b hb).1
  infos:=qm.short.wrote hw fun b hb=>hb.elim (fun hb=>(h.fdn hb).1) fun hb=>(h.dR b hb).1
  nI:=by
   have:=h.nI;rw[List.map_append,List.map_cons,List.map_nil] at this;rw[← this]; simp
  nP:=h.nP
  out:=h.out
  foot:=fun b hb=>⟨(h.foot b hb).1,by have:=(h.foot b hb).2.1; simp; omega,(h.foot b hb).2.2⟩
  dA:=h.dA
  jm:=h.jm
  bM:=h.bM
  bY:=h.bY
  dR:=h.dR
  draws:=h.draws
 }
theorem MAt.abQ (h:MAt C M Fd vv vn vi Lv Ln s W) {b:Nat} (hb:Mut M.mb M.db vv vn vi b):b < W.heap.size:=by
 rcases hb with rfl | rfl | hb | hb | hb
 ·exact h.box.lt
 ·exact h.dr.lt
 ·exact(h.views.row.lt b hb).2
 ·exact(h.nodes.row.lt b hb).2
 ·exact(h.infos.row.lt b hb).2
theorem MAt.afk (h:MAt C M Fd vv vn vi Lv Ln s W) {b:Nat} (hb:h.All b):b < W.heap.size:=by
 rcases hb with hb | hb | hb | hb
 ·have:=h.out b hb; have:=h.dA.1; have:=h.box.lt; omega
 ·exact(h.foot b hb).2.1
 ·exact h.abQ hb
 ·exact(h.lev.row.lt b hb).2
theorem MAt.fresh (h:MAt C M Fd vv vn vi Lv Ln s W) {B:Nat} (hB:∀ b,Mut M.mb M.db vv vn vi b→b < B) (hb:M.base≤B):MAt C M (fun b=>Fd b∨(B≤b∧b < W.heap.size)) vv vn vi Lv Ln s W :=
 h.widen (fun b hb=>.inl hb) fun b hb'=>hb'.elim (fun hb=>h.foot b hb) fun hb''=>⟨by omega,hb''.2,fun e=>by have:=hB b e; omega⟩
def oW:Knd Int where
 n:=1
 cells q:=[.int .i64 q]
 fine _ _ _:=True
 len _:=rfl
 pos:=by decide
 one _ u hu:=by rw[List.mem_singleton.1 hu]; rfl
 keep _ _ _:=trivial
theorem AB.ints {w:World} {base:Nat} {et:TypeId} {F G:Ag} {v:Value} {L:List Int} (h:AB oW w base et F v L) (hG:∀ b,v.ownBlock=some b→G b):AA w G v L:=by
 rcases h.at with⟨rfl,rfl⟩ | ⟨g,cap,rfl,hb,hg,hcap,hf,hx⟩
 ·exact⟨none,0,rfl,Nat.le_refl _,fun h=>absurd h (by simp)⟩
 ·refine⟨_,cap,rfl,hcap,fun _=>⟨g,0,rfl,hG g rfl,hg,fun k x hk=>?_⟩⟩;have:=hx k x hk 0 _ rfl;unfold lY;exact this
theorem Tryz.infoIntK:(Tryz.prog.info? 3).map (fun i=>(i.zero,i.size,i.bytes))=some (some (.int .i64 0),oW.n,8):=by kernel_rfl
theorem Wrote.step {K K':Ag} {a b c:World} (h:Wrote K a b) (k:Wrote K' b c) (hK:∀ i,i < a.heap.size→K' i→K i):Wrote K a c :=
 ⟨k.os.trans h.os,k.tape.trans h.tape,k.output.trans h.output,Nat.le_trans h.size k.size,fun i hi hn=>(k.block i (Nat.lt_of_lt_of_le hi h.size) (fun e=>hn (hK i hi e))).trans (h.block i hi hn)⟩
theorem cO {K:Ag} {w w':World} {b o:Nat} {v:Value} (h:w.cell? ⟨b,o,none⟩=some v) (hw:Wrote K w w') (hb:¬ K b):w'.cell? ⟨b,o,none⟩=some v:=(hw.cell b o (World.block_lt_of_cell? w _ h) hb).trans h
end
end Go.Proofs.YtkcheepafifjaaaGreatDoor
