/- package value: what the walk of values holds. -/
import Derived.Test.YtkcheepafifjaaaGreatDoorU33
import Derived.Test.YtkcheepafifjaaaGreatDoorU21
set_option linter.all false
set_option maxRecDepth 100000
set_option maxHeartbeats 12800000
namespace Go.Proofs.YtkcheepafifjaaaGreatDoor
open Lib renaming hid → Ac
open Go.RowKit
theorem cell_grown {w w':World} {d b o:Nat} {v:Value} (hg:w.grownBy w' (some d)) (hc:w.cell? ⟨b,o,none⟩=some v) (hne:b≠d):w'.cell? ⟨b,o,none⟩=some v :=
 (o7 hg b o (World.block_lt_of_cell? w _ hc) hne).trans hc
theorem iE {w w':World} {d:Nat} (hg:w.grownBy w' (some d)) {F:Ag} (hF:¬ F d):Same F w w':=(Same.qx hg).mono fun _ hb=>fun e=>hF (e▸hb)
theorem rP {w w':World} {d b:Nat} {t:TypeId} {cs:List Value} (hg:w.grownBy w' (some d)) (h:Row w b t cs) (hne:b≠d):Row w' b t cs:=h.of_block (hg.block b h.lt (by simpa using hne))
structure Dx (F:Ag) (g:Gm) (m:List (List Rat)) (bb:Nat) (w:World) (BR:List Value) (i:Nat) (v:Value) (BR':List Value) (e:Nat) (w':World):Prop where
 span:Span g.nodes [(i:Int)] i e
 own:BR'[i]? = some v
 nums:Bg w' (fun b=>F b∨w.heap.size≤b) v (bT g m i)
 len:BR'.length=g.nodes.length
 out:∀ j,(j < i∨e≤j)→BR'[j]? = BR[j]?
 inn:∀ j,i≤j→j < e→∃ vj,BR'[j]? = some vj∧Bg w' (fun b=>F b∨w.heap.size≤b) vj (bT g m j)
 row:Row w' bb 84 BR'
 grown:w.grownBy w' (some bb)
def CB (F:Ag) (g:Gm) (m:List (List Rat)) (bb:Nat) (w:World) (BR:List Value) (i:Nat) (e:Ending) (w':World):Prop:=∃ v BR' n,e = .returned v∧Dx F g m bb w BR i v BR' n w'
structure VBr (F:Ag) (g:Gm) (m:List (List Rat)) (bb pl:Nat) (w:World) (BR:List Value) (i a:Nat) (n:Nd) (chv:Value) (acc:List Rat) (L:List RV) (BRc:List Value) (W:World):Prop where
 grown:w.grownBy W (some bb)
 row:Row W bb 84 BRc
 len:BRc.length=g.nodes.length
 own:BRc[i]? = some (.slice (some ⟨pl,0,none⟩) g.ak.toNat g.ak.toNat)
 out:∀ j,(j < i∨a≤j)→BRc[j]? = BR[j]?
 inn:∀ j,i < j→j < a→∃ vj,BRc[j]? = some vj∧Bg W (fun b=>F b∨pl < b) vj (bT g m j)
 made:AB W pl 97 (fun b=>F b∨pl < b) L
 lmap:L.map RV.r=acc.map aj
 chan:Bg W (fun b=>F b∨pl < b) chv (bJ m n)
section
variable {F:Ag} {g:Gm} {m:List (List Rat)} {bb pl:Nat} {w:World} {BR:List Value} {i a:Nat} {n:Nd} {chv:Value} {acc:List Rat} {L:List RV} {BRc:List Value} {W W':World}
theorem VBr.below (h:VBr F g m bb pl w BR i a n chv acc L BRc W) (hb:Below W.heap.size W W'):VBr F g m bb pl w BR i a n chv acc L BRc W' :=
 ⟨gQ h.grown (grown_below hb (Nat.le_refl _) _),h.row.below hb h.row.lt,h.len,h.own,h.out,fun j h1 h2=>by obtain⟨vj,h3,h4⟩:=h.inn j h1 h2; exact⟨vj,h3,Aj.below h4 hb⟩,h.made.below hb,h.lmap,Aj.below h.chan hb⟩
theorem VBr.child (h:VBr F g m bb pl w BR i a n chv acc L BRc W) (hF:∀ b,F b→b < bb) (hpl:bb < pl) (hia:i < a) {v:Value} {BR':List Value} {e:Nat} (ho:Dx F g m bb W BRc a v BR' e W') (hplW:pl < W.heap.size):VBr F g m bb pl w BR i e n chv acc L BR' W':=by
 have hnb:¬ (fun b=>F b∨pl < b) bb:=fun hb=>hb.elim (fun h=>by have:=hF _ h; omega) (by omega)
 have hs:=iE (F:=fun b=>F b∨pl < b) ho.grown hnb;have hae:a < e:=by
  have h1:=ho.span.le;have h2:=ho.span.mem a (by simp);omega
 refine⟨gQ h.grown ho.grown,ho.row,ho.len,(ho.out i (.inl hia)).trans h.own,fun j hj=>?_,fun j h1 h2=>?_,h.made.on (ho.grown.block pl hplW (by simp; omega)) hs,h.lmap,Aj.on h.chan hs⟩
 ·rw[ho.out j (by omega)]; exact h.out j (by omega)
 ·by_cases hja:j < a
  ·obtain⟨vj,h3,h4⟩:=h.inn j h1 hja;exact⟨vj,by rw[ho.out j (.inl hja)]; exact h3,Aj.on h4 hs⟩
  ·obtain⟨vj,h3,h4⟩:=ho.inn j (by omega) h2;exact⟨vj,h3,Aj.keep h4 (fun b hb _=>hb.imp id fun h=>by omega) (Same.refl _ _)⟩
theorem VBr.setN (h:VBr F g m bb pl w BR i a n chv acc L BRc W) (hF:∀ b,F b→b < bb) (hpl:bb < pl) (hw:w.heap.size≤pl) (p:Nat) (x:Rat) (vn vd:Value) (hq:(⟨aj x,vn,vd⟩:RV).fine W (fun b=>F b∨pl < b)) :
  ∃ W',W'=(((W.setCell ⟨pl,p*3,none⟩ (.bool (aj x).neg)).setCell ⟨pl,p*3+1,none⟩ vn).setCell ⟨pl,p*3+2,none⟩ vd)∧VBr F g m bb pl w BR i a n chv (acc.set p x) (L.set p ⟨aj x,vn,vd⟩) BRc W'∧(∀ c,c≠pl→W'.heap[c]? = W.heap[c]?)∧W'.heap.size=W.heap.size∧W.grownBy W' (some pl):=by
 have hn:¬ (F pl∨pl < pl):=fun hb=>hb.elim (fun h=>by have:=hF _ h; omega) (by omega)
 obtain⟨W',hW',hm,hwB,hwS,hwz,afB⟩:=h.made.set p ⟨aj x,vn,vd⟩ (RV.fine.keep hq (fun b hb _=>⟨hb,fun e=>hn (e▸hb)⟩) (Same.refl _ _));have hgw:w.grownBy W' (some bb):=by
  rw[hW'];exact grown_setCell (p:=⟨pl,p*3+2,none⟩) (grown_setCell (p:=⟨pl,p*3+1,none⟩) (grown_setCell (p:=⟨pl,p*3,none⟩) h.grown (.inr hw) _) (.inr hw) _) (.inr hw) _
 have hgW:W.grownBy W' (some pl):=by
  rw[hW'];exact grown_setCell (p:=⟨pl,p*3+2,none⟩) (grown_setCell (p:=⟨pl,p*3+1,none⟩) (grown_setCell (p:=⟨pl,p*3,none⟩) (jh _ _) (.inl rfl) _) (.inl rfl) _) (.inl rfl) _
 exact⟨W',hW',⟨hgw,h.row.of_block (afB bb (by omega)),h.len,h.own,h.out,fun j h1 h2=>by obtain⟨vj,h3,h4⟩:=h.inn j h1 h2; exact⟨vj,h3,Aj.on h4 (hwS _ hn)⟩,hm,by rw[List.map_set,List.map_set,h.lmap],Aj.on h.chan (hwS _ hn)⟩,afB,hwz,hgW⟩
end
def oM (acc:List Rat) (b:Rat) (x:List Rat) (p:Nat):List Rat:=(kW acc b x).take p++acc.drop p
theorem adZ (acc:List Rat) (b:Rat) (x:List Rat):oM acc b x 0=acc:=by simp[oM]
theorem afC {acc:List Rat} {b:Rat} {x:List Rat} {p:Nat} (h1:acc.length≤p) (h2:x.length≤p):oM acc b x p=kW acc b x:=by
 unfold oM;have:(kW acc b x).length≤p:=by unfold kW; rw[List.length_zipWith]; omega
 rw[List.take_of_length_le this,List.drop_eq_nil_of_le h1,List.append_nil]
theorem afD {acc:List Rat} {b:Rat} {x:List Rat} {p:Nat} {u:Rat} (hu:acc[p]? = some u) (hx:x.length=acc.length):(oM acc b x p)[p]? = some u:=by
 unfold oM;have hl:=aG hu;have:((kW acc b x).take p).length=p:=by rw[List.length_take]; unfold kW; rw[List.length_zipWith]; omega
 rw[List.getElem?_append_right (by omega),this,Nat.sub_self,List.getElem?_drop,Nat.add_zero,hu]
theorem ad1 {acc:List Rat} {b:Rat} {x:List Rat} {p:Nat} {u y:Rat} (hu:acc[p]? = some u) (hy:x[p]? = some y) (hx:x.length=acc.length):(oM acc b x p).set p (u+b*y)=oM acc b x (p+1):=by
 have hl:=aG hu;have hal:(kW acc b x).length=acc.length:=by unfold kW; rw[List.length_zipWith]; omega
 have ht:((kW acc b x).take p).length=p:=by rw[List.length_take]; omega
 have hg:(kW acc b x)[p]? = some (u+b*y):=by unfold kW; rw[List.getElem?_zipWith,hu,hy]
 unfold oM;rw[take_snoc hg];obtain⟨z,hz⟩:∃ z,acc.drop p=z :: acc.drop (p+1):=⟨acc[p],by rw[List.drop_eq_getElem_cons hl]⟩;rw[List.set_append_right _ _ (by omega),ht,Nat.sub_self,hz,List.set_cons_zero,List.append_assoc]; rfl
theorem ahK {acc:List Rat} {b:Rat} {x:List Rat} {p:Nat} (hx:x.length=acc.length):(oM acc b x p).length=acc.length:=by
 unfold oM;have hal:(kW acc b x).length=acc.length:=by unfold kW; rw[List.length_zipWith]; omega
 rw[List.length_append,List.length_take,List.length_drop,hal]; omega
theorem VBr.get {F:Ag} {g:Gm} {m:List (List Rat)} {bb pl:Nat} {w:World} {BR:List Value} {i a:Nat} {n:Nd} {chv:Value} {acc:List Rat} {L:List RV} {BRc:List Value} {W:World} (h:VBr F g m bb pl w BR i a n chv acc L BRc W) {p:Nat} {x:Rat} (hx:acc[p]? = some x) :
  ∃ (A:Option Addr) (c:Nat) (B:Option Addr) (d:Nat),L[p]? = some ⟨aj x,.slice A (aj x).num.length c,.slice B (aj x).den.length d⟩∧(⟨aj x,.slice A (aj x).num.length c,.slice B (aj x).den.length d⟩:RV).fine W (fun b=>F b∨pl < b):=by
 have hl:L.length=acc.length:=by have:=congrArg List.length h.lmap; simpa using this
 obtain⟨q,hq⟩:=ay (l:=L) (k:=p) (by rw[hl]; exact aG hx);have hr:q.r=aj x:=by
  have:=congrArg (fun l:List Raw=>l[p]?) h.lmap;simp only[List.getElem?_map,hq,hx,Option.map_some,Option.some.injEq] at this;exact this
 have hf:=h.made.fine q (List.mem_of_getElem? hq);obtain⟨r,vn,vd⟩:=q;simp only at hr;subst hr;have hf':(⟨aj x,vn,vd⟩:RV).fine W (fun b=>F b∨pl < b):=hf.keep (fun b hb _=>hb.1) (Same.refl _ _);have h1:=hf'.1; have h2:=hf'.2;obtain⟨A,c,e1,_⟩:=h1;obtain⟨B,d,e2,_⟩:=h2;simp only at e1 e2;subst e1; subst e2;exact⟨A,c,B,d,hq,hf'⟩
theorem acP {look:Nat→List Rat} {acc:List Rat} {l:List (Rat×Int)} {k:Nat} {y:Rat} {a:Nat} (h:l[k]? = some (y,(a:Int))):kW (iZ look acc (l.take k)) y (look a)=iZ look acc (l.take (k+1)):=by
 rw[take_snoc h,adG]; rfl
theorem aeC {α β:Type} {l:List α} {r:List β} {k:Nat} {x:α} {y:β} (hx:l[k]? = some x) (hy:r[k]? = some y):(l.zip r)[k]? = some (x,y):=by
 rw[List.zip,List.getElem?_zipWith,hx,hy]
open List renaming getElem_toArray → lq1, getElem_cons_zero → lq2, getElem_cons_succ → lq3, setIfInBounds_toArray → lq4, set_cons_zero → lq5, set_cons_succ → lq6
structure CS (w:World) (F:Ag) (bp:Nat) (g:Gm) (m:List (List Rat)) (up place:List Int) (vn vi vu vp vm:Value) (pb xb fb bb:Nat) (BR:List Value):Prop where
 play:Bh w F bp g m up place vn vi vu vp vm
 hF:∀ b,F b→b < bb
 pc:w.cell? ⟨pb,0,none⟩=some (.pointer (some ⟨bp,0,none⟩))
 xc:w.cell? ⟨xb,0,none⟩=some (.slice (some ⟨bb,0,none⟩) g.nodes.length g.nodes.length)
 fc:w.cell? ⟨fb,0,none⟩=some (.func (.func 94) #[] #[.pointer (some ⟨pb,0,none⟩),.pointer (some ⟨xb,0,none⟩),.pointer (some ⟨fb,0,none⟩)])
 pne:pb≠bb
 xne:xb≠bb
 fne:fb≠bb
 row:Row w bb 84 BR
 len:BR.length=g.nodes.length
section
variable {w w':World} {F:Ag} {bp:Nat} {g:Gm} {m:List (List Rat)} {up place:List Int} {vn vi vu vp vm:Value} {pb xb fb bb:Nat} {BR BR':List Value}
theorem CS.aiv (h:CS w F bp g m up place vn vi vu vp vm pb xb fb bb BR):¬ F bb:=fun hb=>Nat.lt_irrefl _ (h.hF _ hb)
theorem CS.grown (h:CS w F bp g m up place vn vi vu vp vm pb xb fb bb BR) (hg:w.grownBy w' (some bb)) (hr:Row w' bb 84 BR') (hl:BR'.length=g.nodes.length):CS w' F bp g m up place vn vi vu vp vm pb xb fb bb BR' :=
 ⟨h.play.on (iE hg h.aiv),h.hF,cell_grown hg h.pc h.pne,cell_grown hg h.xc h.xne,cell_grown hg h.fc h.fne,h.pne,h.xne,h.fne,hr,hl⟩
end
theorem afE (w:World) (F:Ag) (bp:Nat) (g:Gm) (m:List (List Rat)) (up place:List Int) (vn vi vu vp vm:Value) (pb xb fb bb:Nat) (BR:List Value) (i:Nat) (n:Nd) (hE:CS w F bp g m up place vn vi vu vp vm pb xb fb bb BR) (hf:Fit g m) (hn:g.nodes.length≤100) (hml:m.length≤100000) (hni:g.nodes[i]? = some n) (hk:n.kind=3) :
  Calls Tryz.prog 94 #[.int .i64 (i:Int),.pointer (some ⟨pb,0,none⟩),.pointer (some ⟨xb,0,none⟩),.pointer (some ⟨fb,0,none⟩)] w (CB F g m bb w BR i):=by
 have t1:(n.kind==3)=true:=by simp[hk]
 have hpay:=rJ hf.nodes (List.mem_of_getElem? hni) hk;have hval:bT g m i=n.pay.map (fun x:Int=>(x:Rat)):=by rw[nV hf.good m hni]; unfold valOf; rw[if_pos hk]
 have hpl:n.pay.length≤4:=by have:=hf.ak; omega
 have HPY:=Ac hpay; have CU:=Ac hval;clear hk hpay hval;have HE:=Ac hE; have HFT:=Ac hf;have hin:i < g.nodes.length:=aG hni;have hmem:=List.mem_of_getElem? hni;have HX:=Ac hni;have p1:=hE.play.row.cell (i:=1) rfl;obtain⟨An,cn,hvn,hcn,hxn⟩:=hE.play.nodes;obtain⟨b,q,hAn,hFb,hbl,hcell⟩:=hxn (by omega);rw[hvn,hAn] at p1;have hne:=hcell i n hni;have HNV:=Ac (show ∃ v3 v4 v5,w.cell? ⟨b,q+i*6+3,none⟩=some v3∧w.cell? ⟨b,q+i*6+4,none⟩=some v4∧w.cell? ⟨b,q+i*6+5,none⟩=some v5∧AX w F (.agg #[.int .i64 n.kind,.int .i64 n.aH,.int .i64 n.info,v3,v4,v5]) n from by
  obtain⟨v3,e3,h3⟩:=hne.c3; obtain⟨v4,e4,h4⟩:=hne.c4; obtain⟨v5,e5,h5⟩:=hne.c5;exact⟨v3,v4,v5,e3,e4,e5,⟨v3,v4,v5,rfl,h3,h4,h5⟩⟩)
 have n0:=hne.c0; have n1:=hne.c1; have n2:=hne.c2;obtain⟨v3,v4,v5,n3,n4,n5,hnv⟩:=HNV.out;have HV:=Ac hnv;obtain⟨v3',v4',v5',he,⟨A3,c3,e3,_⟩,⟨A4,c4,e4,_⟩,⟨A5,c5,e5,_⟩⟩:=hnv;simp only[Value.agg.injEq,Array.mk.injEq,List.cons.injEq,true_and,and_true] at he;obtain⟨rfl,rfl,rfl⟩:=he;subst e3; subst e4; subst e5;have H3:=Ac (show Aw w F (.slice A3 n.next.length c3) n.next from by
  obtain⟨_,_,_,hh,h3,_,_⟩:=HV.out;simp only[Value.agg.injEq,Array.mk.injEq,List.cons.injEq,true_and,and_true] at hh;obtain⟨rfl,rfl,rfl⟩:=hh;exact h3)
 have pc:=hE.pc; have xc:=hE.xc; have fc:=hE.fc;have aiw:=hE.row.lt;have aix:=World.block_lt_of_cell? w _ pc; have aiy:=World.block_lt_of_cell? w _ xc; have aiz:=World.block_lt_of_cell? w _ fc;simp only at aix aiy aiz;have zp:=hE.pne; have zx:=hE.xne; have zf:=hE.fne;have aiA:=hE.len;obtain⟨vold,xq⟩:=ay (l:=BR) (k:=i) (by omega);have HVO:=Ac xq;clear hE hf hne hcell hxn hvn hAn hni HNV xq aiA;go_enter Tryz.func94,Tryz.ntmps94;go_upto_region 2 with(fail)
 obtain⟨W1,hW1,rn,hB1,hz1⟩:=aB w 67 #[.int .i64 n.kind,.int .i64 n.aH,.int .i64 n.info,.slice A3 n.next.length c3,.slice A4 n.weights.length c4,.slice A5 n.pay.length c5];rw[← hW1];clear hW1;obtain⟨nb,hnb⟩:∃ nb,nb=w.heap.size:=⟨_,rfl⟩;rw[← hnb] at rn ⊢;have k9:w.heap.size≤nb:=by omega
 have k10:nb < W1.heap.size:=rn.lt;have hg1:=grown_below hB1 (Nat.le_refl _) (some bb);have hzz:=hB1.size;replace pc:=ah pc hB1; replace xc:=ah xc hB1; replace fc:=ah fc hB1;replace HV:=Ac (HV.out.on (Below.same' hB1 _));have HRB:=Ac (HE.out.row.below hB1 aiw);have hB:=hB1;clear hB1 hz1 hnb n0 n1 n2 n3 n4 n5 p1;have x0:=rn.cell (i:=0) rfl;have x1:=rn.cell (i:=1) rfl;have x2:=rn.cell (i:=2) rfl;have x3:=rn.cell (i:=3) rfl;have x4:=rn.cell (i:=4) rfl;have x5:=rn.cell (i:=5) rfl;go_upto_region 3 with(fail)
 refine bC (fun w'=>w'.cell? ⟨xb,0,none⟩=some (.slice (some ⟨bb,0,none⟩) g.nodes.length g.nodes.length)∧w'.cell? ⟨nb,5,none⟩=some (.slice A5 n.pay.length c5)) 6 1 (by kernel_rfl) rfl (by kernel_rfl) ?_;have hHeld:(fun w':World=>w'.cell? ⟨xb,0,none⟩=some (.slice (some ⟨bb,0,none⟩) g.nodes.length g.nodes.length)∧w'.cell? ⟨nb,5,none⟩=some (.slice A5 n.pay.length c5)) W1.drew:=⟨xc,x5⟩;simp only[List.take_succ_cons,List.take_zero];have hb:Below W1.heap.size W1 W1.drew:=aC (Below.refl _ W1) 1;replace xc:=ah xc hb;replace x0:=ah x0 hb;replace x1:=ah x1 hb;replace x2:=ah x2 hb;replace x3:=ah x3 hb;replace x4:=ah x4 hb;replace x5:=ah x5 hb;replace HV:=Ac (HV.out.on (Below.same' hb _));replace HRB:=Ac (HRB.out.below hb HRB.out.lt);replace hzz:=Nat.le_trans hzz hb.size;replace hB:=hB.trans (hb.mono hB.size);clear hb;generalize W1.drew=wn at *;refine tk0 [0,1,2,3] ?_;iterate 4 (refine tk (v:=?_) rfl (by kernel_rfl) (by kernel_rfl) (by kernel_rfl) (fun _ _ _ h=>h) (Or.inl ⟨by rfl,?_⟩) hHeld ?_;rotate_left;(focus intro wx hSx;(try dsimp only at hSx);go_split_ands;go_simp;try with_reducible rfl);try simp only[Act.put,lq1,lq2,lq3,lq4,lq5,lq6])
 refine tk1 ?_;refine tk2 4 (by kernel_rfl) rfl fun K hK=>?_
 go_simp;refine(wV wn F _ n.pay 89 #[] (fun x=>(x:Rat)) (by obtain⟨_,_,_,hh,_,_,h5⟩:=HV.out; simp only[Value.agg.injEq,Array.mk.injEq,List.cons.injEq,true_and,and_true] at hh; obtain⟨rfl,rfl,rfl⟩:=hh; exact h5) (by omega) ⟨enters' Tryz.func89 (by kernel_rfl) (by kernel_rfl),fun W x hx _=>mV W x (by have:=HPY.out.2.1 x hx; omega) (by have:=HPY.out.2.1 x hx; omega)⟩).mono ?_;rintro e wn ⟨u,rfl,hb,hu1,hu⟩;obtain⟨ub,rfl⟩:∃ ub,u = .slice (some ⟨ub,0,none⟩) n.pay.length n.pay.length:=⟨_,hu1⟩;clear hu1;have HU:=Ac (Aj.keep (G:=fun b=>F b∨w.heap.size≤b) hu (fun b hb _=>.inr (by omega)) (Same.refl _ _));clear hu;replace xc:=ah xc hb;replace x0:=ah x0 hb;replace x1:=ah x1 hb;replace x2:=ah x2 hb;replace x3:=ah x3 hb;replace x4:=ah x4 hb;replace x5:=ah x5 hb;replace HV:=Ac (HV.out.on (Below.same' hb _));replace HRB:=Ac (HRB.out.below hb HRB.out.lt);replace hzz:=Nat.le_trans hzz hb.size;replace hB:=hB.trans (hb.mono hB.size);clear hb;dsimp only;clear hHeld;refine hK.out _ _ ⟨xc,x5⟩ (fun hHeld=>?_);clear hK K;try simp only[Act.put,lq1,lq2,lq3,lq4,lq5,lq6]
 refine tk0 [5] ?_;(refine tk (v:=?_) rfl (by kernel_rfl) (by kernel_rfl) (by kernel_rfl) (fun _ _ _ h=>h) (Or.inl ⟨by rfl,?_⟩) hHeld ?_;rotate_left;(focus intro wx hSx;(try dsimp only at hSx);go_split_ands;go_simp;try with_reducible rfl);try simp only[Act.put,lq1,lq2,lq3,lq4,lq5,lq6])
 refine tk1 ?_;refine wpAnyH_done (by kernel_rfl) ?_ _;clear hHeld;show wpList _ _ _ _ _ _;have r0:=HRB.out.cell HVO.out;have rf:=HRB.out.frozen i;have hnG:¬ (F bb∨w.heap.size≤bb):=fun h=>h.elim HE.out.aiv (by omega)
 have HNG:=Ac hnG;have hgz:=grown_setCell (p:=⟨bb,i,none⟩) (jh wn (some bb)) (.inl rfl) (.slice (some ⟨ub,0,none⟩) n.pay.length n.pay.length);have hrz:=HRB.out.set i (.slice (some ⟨ub,0,none⟩) n.pay.length n.pay.length);obtain⟨Wz,hWz⟩:∃ Wz,Wz=wn.setCell ⟨bb,i,none⟩ (.slice (some ⟨ub,0,none⟩) n.pay.length n.pay.length):=⟨_,rfl⟩;rw[← hWz] at hgz hrz;have HWz:=Ac hWz; have HRZ:=Ac hrz; have HGZ:=Ac hgz;have xz:=cell_grown hgz xc zx;have hgv:(BR.set i (.slice (some ⟨ub,0,none⟩) n.pay.length n.pay.length))[i]? = some (.slice (some ⟨ub,0,none⟩) n.pay.length n.pay.length):=List.getElem?_set_self (aG HVO.out);have rz:=hrz.cell hgv;have HGV:=Ac hgv;clear hWz hgz hrz hgv hnG;go_wp2
 rw[← HWz.out];clear r0 rf xc x0 x1 x2 x3 x4 x5;show Exit.then _ _ .normal _ _;go_wp2
 go_ret;refine⟨_,BR.set i (.slice (some ⟨ub,0,none⟩) n.pay.length n.pay.length),i+1,rfl,⟨.cons HX.out (by rw[HPY.out.2.2]; exact .nil _) (.nil _),HGV.out,?_,by rw[List.length_set]; exact HE.out.len,fun j hj=>List.getElem?_set_ne (by omega),fun j h1 h2=>?_,HRZ.out,gQ (grown_below hB (Nat.le_refl _) _) HGZ.out⟩⟩
 ·have h:=Aj.on HU.out (iE (F:=fun b=>F b∨w.heap.size≤b) HGZ.out HNG.out);rw[CU.out]; exact h
 ·obtain rfl:j=i:=by omega
  refine⟨_,HGV.out,?_⟩;have h:=Aj.on HU.out (iE (F:=fun b=>F b∨w.heap.size≤b) HGZ.out HNG.out);rw[CU.out]; exact h
theorem afF {nodes:List Nd} {cs:List Int} {k a e:Nat} (h:Span nodes (cs.drop k) a e) (hk:k < cs.length):cs[k]? = some (a:Int)∧∃ a2,Span nodes [(a:Int)] a a2∧Span nodes (cs.drop (k+1)) a2 e:=by
 rw[List.drop_eq_getElem_cons hk] at h;generalize hx:cs[k]=c at h;generalize hl:c :: cs.drop (k+1)=l at h;cases h with
 | nil=>cases hl
 | cons hn h1 h2 =>
  injection hl with e1 e2
  subst e1;exact⟨by rw[← hx]; simp[hk],_,.cons hn h1 (.nil _),by rw[e2]; exact h2⟩
theorem agZ {nodes:List Nd} {cs:List Int} {k a e:Nat} (h:Span nodes (cs.drop k) a e) (hk:cs.length≤k):a=e:=by
 rw[List.drop_eq_nil_of_le hk] at h;cases h; rfl
theorem acQ (w:World) (F:Ag) (bp:Nat) (g:Gm) (m:List (List Rat)) (up place:List Int) (vn vi vu vp vm:Value) (pb xb fb bb:Nat) (BR:List Value) (i:Nat) (n:Nd) (hE:CS w F bp g m up place vn vi vu vp vm pb xb fb bb BR) (hf:Fit g m) (hn:g.nodes.length≤100) (hml:m.length≤100000) (hni:g.nodes[i]? = some n) (hk:n.kind≠3) (ih:∀ (c:Nat) (w2:World) (BR2:List Value),i < c→c < g.nodes.length→CS w2 F bp g m up place vn vi vu vp vm pb xb fb bb BR2→Calls Tryz.prog 94 #[.int .i64 (c:Int),.pointer (some ⟨pb,0,none⟩),.pointer (some ⟨xb,0,none⟩),.pointer (some ⟨fb,0,none⟩)] w2 (CB F g m bb w2 BR2 c)) :
  Calls Tryz.prog 94 #[.int .i64 (i:Int),.pointer (some ⟨pb,0,none⟩),.pointer (some ⟨xb,0,none⟩),.pointer (some ⟨fb,0,none⟩)] w (CB F g m bb w BR i):=by
 have t1:(n.kind==3)=false:=by simp[hk]
 have hkn:=hk;have hch:=hf.chan n (List.mem_of_getElem? hni) hk;have hval:bT g m i=iZ (bT g m) (List.replicate g.ak.toNat 0) ((bJ m n).zip n.next):=by rw[nV hf.good m hni]; unfold valOf; rw[if_neg hk]
 have hpp:=hf.ak;obtain⟨P,hP⟩:∃ P,P=g.ak.toNat:=⟨_,rfl⟩;have hgp:g.ak=(P:Int):=by omega
 have hP4:P≤4:=by omega
 have p0:=hE.play.row.cell (i:=0) rfl;rw[hgp] at p0;have CU:=Ac hval; have HCH:=Ac hch; have HPP:=Ac hP; have HKN:=Ac hkn; have HIH:=Ac ih;obtain⟨eE,hsp,heE⟩:=hf.good.span.ahz i n (Nat.zero_le _) (aG hni) hni;have HSP:=Ac hsp;clear hk hval hch hpp hP hgp hkn ih hsp;have HE:=Ac hE; have HFT:=Ac hf;have hin:i < g.nodes.length:=aG hni;have hmem:=List.mem_of_getElem? hni;have HX:=Ac hni;have p1:=hE.play.row.cell (i:=1) rfl;obtain⟨An,cn,hvn,hcn,hxn⟩:=hE.play.nodes;obtain⟨b,q,hAn,hFb,hbl,hcell⟩:=hxn (by omega);rw[hvn,hAn] at p1;have hne:=hcell i n hni;have HNV:=Ac (show ∃ v3 v4 v5,w.cell? ⟨b,q+i*6+3,none⟩=some v3∧w.cell? ⟨b,q+i*6+4,none⟩=some v4∧w.cell? ⟨b,q+i*6+5,none⟩=some v5∧AX w F (.agg #[.int .i64 n.kind,.int .i64 n.aH,.int .i64 n.info,v3,v4,v5]) n from by
  obtain⟨v3,e3,h3⟩:=hne.c3; obtain⟨v4,e4,h4⟩:=hne.c4; obtain⟨v5,e5,h5⟩:=hne.c5;exact⟨v3,v4,v5,e3,e4,e5,⟨v3,v4,v5,rfl,h3,h4,h5⟩⟩)
 have n0:=hne.c0; have n1:=hne.c1; have n2:=hne.c2;obtain⟨v3,v4,v5,n3,n4,n5,hnv⟩:=HNV.out;have HV:=Ac hnv;obtain⟨v3',v4',v5',he,⟨A3,c3,e3,_⟩,⟨A4,c4,e4,_⟩,⟨A5,c5,e5,_⟩⟩:=hnv;simp only[Value.agg.injEq,Array.mk.injEq,List.cons.injEq,true_and,and_true] at he;obtain⟨rfl,rfl,rfl⟩:=he;subst e3; subst e4; subst e5;have H3:=Ac (show Aw w F (.slice A3 n.next.length c3) n.next from by
  obtain⟨_,_,_,hh,h3,_,_⟩:=HV.out;simp only[Value.agg.injEq,Array.mk.injEq,List.cons.injEq,true_and,and_true] at hh;obtain⟨rfl,rfl,rfl⟩:=hh;exact h3)
 have pc:=hE.pc; have xc:=hE.xc; have fc:=hE.fc;have aiw:=hE.row.lt;have aix:=World.block_lt_of_cell? w _ pc; have aiy:=World.block_lt_of_cell? w _ xc; have aiz:=World.block_lt_of_cell? w _ fc;simp only at aix aiy aiz;have zp:=hE.pne; have zx:=hE.xne; have zf:=hE.fne;have aiA:=hE.len;obtain⟨vold,xq⟩:=ay (l:=BR) (k:=i) (by omega);have HVO:=Ac xq;clear hE hf hne hcell hxn hvn hAn hni HNV xq aiA;go_enter Tryz.func94,Tryz.ntmps94;go_upto_region 2 with(fail)
 obtain⟨W1,hW1,rn,hB1,hz1⟩:=aB w 67 #[.int .i64 n.kind,.int .i64 n.aH,.int .i64 n.info,.slice A3 n.next.length c3,.slice A4 n.weights.length c4,.slice A5 n.pay.length c5];rw[← hW1];clear hW1;obtain⟨nb,hnb⟩:∃ nb,nb=w.heap.size:=⟨_,rfl⟩;rw[← hnb] at rn ⊢;have k9:w.heap.size≤nb:=by omega
 have k10:nb < W1.heap.size:=rn.lt;have hg1:=grown_below hB1 (Nat.le_refl _) (some bb);have hzz:=hB1.size;replace pc:=ah pc hB1; replace xc:=ah xc hB1; replace fc:=ah fc hB1;replace HV:=Ac (HV.out.on (Below.same' hB1 _));have HRB:=Ac (HE.out.row.below hB1 aiw);have hB:=hB1;clear hB1 hz1 hnb n0 n1 n2 n3 n4 n5 p1;have x0:=rn.cell (i:=0) rfl;have x1:=rn.cell (i:=1) rfl;have x2:=rn.cell (i:=2) rfl;have x3:=rn.cell (i:=3) rfl;have x4:=rn.cell (i:=4) rfl;have x5:=rn.cell (i:=5) rfl;replace p0:=ah p0 hB;go_upto_region 5 with(fail)
 refine bC (fun w'=>w'.cell? ⟨xb,0,none⟩=some (.slice (some ⟨bb,0,none⟩) g.nodes.length g.nodes.length)∧w'.cell? ⟨pb,0,none⟩=some (.pointer (some ⟨bp,0,none⟩))∧w'.cell? ⟨bp,0,none⟩=some (.int .i64 (P:Int))) 10 1 (by kernel_rfl) rfl (by kernel_rfl) ?_;have hHeld:(fun w':World=>w'.cell? ⟨xb,0,none⟩=some (.slice (some ⟨bb,0,none⟩) g.nodes.length g.nodes.length)∧w'.cell? ⟨pb,0,none⟩=some (.pointer (some ⟨bp,0,none⟩))∧w'.cell? ⟨bp,0,none⟩=some (.int .i64 (P:Int))) W1.drew:=⟨xc,pc,p0⟩;simp only[List.take_succ_cons,List.take_zero];have hb:Below W1.heap.size W1 W1.drew:=aC (Below.refl _ W1) 1;replace xc:=ah xc hb;replace pc:=ah pc hb;replace fc:=ah fc hb;replace p0:=ah p0 hb;replace x0:=ah x0 hb;replace x1:=ah x1 hb;replace x2:=ah x2 hb;replace x3:=ah x3 hb;replace x4:=ah x4 hb;replace x5:=ah x5 hb;replace HV:=Ac (HV.out.on (Below.same' hb _));replace HRB:=Ac (HRB.out.below hb HRB.out.lt);replace hzz:=Nat.le_trans hzz hb.size;replace hB:=hB.trans (hb.mono hB.size);clear hb;generalize W1.drew=wn at *;refine tk0 [0,1,2,3,4,5,6,7] ?_;iterate 8 (refine tk (v:=?_) rfl (by kernel_rfl) (by kernel_rfl) (by kernel_rfl) (fun _ _ _ h=>h) (Or.inl ⟨by rfl,?_⟩) hHeld ?_;rotate_left;(focus intro wx hSx;(try dsimp only at hSx);go_split_ands;go_simp;try with_reducible rfl);try simp only[Act.put,lq1,lq2,lq3,lq4,lq5,lq6])
 refine tk1 ?_;refine tk2 8 (by kernel_rfl) rfl fun K hK=>?_
 refine ifT rfl ?_;refine ado _ _ _ 84 rfl 97 Tryz.underlying84 Tryz.infoNum P rfl rfl (by omega) ?_;intro wm hb hz3e hm3;have hz3:=Nat.le_of_eq hz3e.symm; clear hz3e;obtain⟨pl,hpl⟩:∃ pl,pl=wn.heap.size:=⟨_,rfl⟩;have HMR:=Ac hm3; clear hm3;rw[← hpl] at HMR ⊢;have kpl:w.heap.size≤pl:=by omega
 have kpm:pl < wm.heap.size:=by omega
 have knp:nb < pl:=by have:=World.block_lt_of_cell? _ _ x0; simp only at this; omega
 clear hpl hz3;replace xc:=ah xc hb;replace pc:=ah pc hb;replace fc:=ah fc hb;replace p0:=ah p0 hb;replace x0:=ah x0 hb;replace x1:=ah x1 hb;replace x2:=ah x2 hb;replace x3:=ah x3 hb;replace x4:=ah x4 hb;replace x5:=ah x5 hb;replace HV:=Ac (HV.out.on (Below.same' hb _));replace HRB:=Ac (HRB.out.below hb HRB.out.lt);replace hzz:=Nat.le_trans hzz hb.size;replace hB:=hB.trans (hb.mono hB.size);clear hb;clear hHeld;refine hK.out _ _ ⟨xc,pc,p0⟩ (fun hHeld=>?_);clear hK K;try simp only[Act.put,lq1,lq2,lq3,lq4,lq5,lq6]
 refine tk0 [9] ?_;(refine tk (v:=?_) rfl (by kernel_rfl) (by kernel_rfl) (by kernel_rfl) (fun _ _ _ h=>h) (Or.inl ⟨by rfl,?_⟩) hHeld ?_;rotate_left;(focus intro wx hSx;(try dsimp only at hSx);go_split_ands;go_simp;try with_reducible rfl);try simp only[Act.put,lq1,lq2,lq3,lq4,lq5,lq6])
 refine tk1 ?_;refine wpAnyH_done (by kernel_rfl) ?_ _;clear hHeld;show wpList _ _ _ _ _ _;have r0:=HRB.out.cell HVO.out;have rf:=HRB.out.frozen i;have hgz:=grown_setCell (p:=⟨bb,i,none⟩) (jh wm (some bb)) (.inl rfl) (.slice (some ⟨pl,0,none⟩) P P);have hrz:=HRB.out.set i (.slice (some ⟨pl,0,none⟩) P P);obtain⟨Wz,hWz⟩:∃ Wz,Wz=wm.setCell ⟨bb,i,none⟩ (.slice (some ⟨pl,0,none⟩) P P):=⟨_,rfl⟩;rw[← hWz] at hgz hrz;have hszz:wm.heap.size≤Wz.heap.size:=by rw[hWz]; simp
 have HWz:=Ac hWz;have hgv:(BR.set i (.slice (some ⟨pl,0,none⟩) P P))[i]? = some (.slice (some ⟨pl,0,none⟩) P P):=List.getElem?_set_self (aG HVO.out);have HGV:=Ac hgv;have hnF:=HE.out.aiv;have HNF:=Ac hnF;have hbF:=HE.out.hF;have hmz:AB Wz pl 97 (fun b=>F b∨pl < b) (List.replicate P rv0):=(HMR.out _).on (hgz.block pl kpm (by simp; omega)) (iE hgz (fun h=>h.elim hnF (by omega)));have HMZ:=Ac hmz;replace HV:=Ac (HV.out.on (iE (F:=F) hgz hnF));have hgw:=gQ (grown_below hB (Nat.le_refl _) (some bb)) hgz;have pz:=cell_grown hgz pc zp;have znb:nb≠bb:=by omega
 have xz0:=cell_grown hgz x0 znb;have xz1:=cell_grown hgz x1 znb;have xz2:=cell_grown hgz x2 znb;have xz3:=cell_grown hgz x3 znb;have xz4:=cell_grown hgz x4 znb;have xz5:=cell_grown hgz x5 znb;have HPZ:=Ac (HE.out.play.on (iE (F:=F) hgw hnF));have HGW:=Ac hgw; have HRZ:=Ac hrz; have HBF:=Ac hbF;clear hgv hWz hgz hrz hmz hgw hnF hbF;go_wp2
 rw[← HWz.out];clear r0 rf xc pc fc p0 x0 x1 x2 x3 x4 x5;show Exit.then _ _ .normal _ _;go_wp2_with fail
 refine(xk Wz F bp g m up place vn vi vu vp vm _ n HPZ.out HV.out HFT.out hmem HKN.out hml).mono ?_;rintro e wn ⟨u,rfl,hb,⟨cb',cc,rfl⟩,hu⟩;have HCV:=Ac (Aj.keep (G:=fun b=>F b∨pl < b) hu (fun b hb _=>hb.elim .inl fun h=>.inr (by omega)) (Same.refl _ _));have hzr:=Nat.le_trans hszz hb.size;have x3:=ah xz3 hb;have hP4':P≤4:=hP4;have hvb:VBr F g m bb pl w BR i (i+1) n (.slice (some ⟨cb',0,none⟩) (bJ m n).length cc) (List.replicate P 0) (List.replicate P rv0) (BR.set i (.slice (some ⟨pl,0,none⟩) P P)) wn :=
  ⟨gQ HGW.out (grown_below hb (Nat.le_refl _) _),HRZ.out.below hb HRZ.out.lt,by rw[List.length_set]; exact HE.out.len,by rw[← HPP.out]; exact HGV.out,fun j hj=>List.getElem?_set_ne (by omega),fun j h1 h2=>by omega,HMZ.out.below hb,by simp[ab9],HCV.out⟩
 have HVB:=Ac hvb;have hcl:(bJ m n).length≤n.next.length:=Nat.le_of_eq HCH.out.1;have hcl2:n.next.length≤(bJ m n).length:=Nat.le_of_eq HCH.out.1.symm;have hnl:n.next.length≤1000:=by
  rcases kinds HFT.out.nodes hmem with k1 | k1 | k1
  ·have:=(jB HFT.out.nodes hmem k1).2.2.1; omega
  ·have:=(kX HFT.out.nodes hmem k1).2.1; omega
  ·exact absurd k1 HKN.out
 clear hu hb hvb HCV xz0 xz1 xz2 xz3 xz4 xz5 pz HPZ HMZ HRZ HGW HRB HMR hszz;dsimp only;go_wp2_with fail
 go_loopw [47] (fun iv wr=>∃ (k a:Nat) (acc:List Rat) (L:List RV) (BRc:List Value),k≤(bJ m n).length∧iv = .int .i64 (k:Int)∧Span g.nodes (n.next.drop k) a eE∧i < a∧acc=iZ (bT g m) (List.replicate P 0) (((bJ m n).zip n.next).take k)∧VBr F g m bb pl w BR i a n (.slice (some ⟨cb',0,none⟩) (bJ m n).length cc) acc L BRc wr∧wr.cell? ⟨nb,3,none⟩=some (.slice A3 n.next.length c3)∧pl < wr.heap.size) (fun iv _=>(bJ m n).length - (intOf iv).toNat)
 case atStart=>exact⟨0,i+1,List.replicate P 0,List.replicate P rv0,_,by omega,rfl,HSP.out,by omega,by simp[iZ],HVB.out,x3,by omega⟩
 case round =>
  clear HVB x3 hzr;obtain⟨k,a,acc,L,BRc,hk,rfl,hspk,hia,hacc,hvb,x3,hplr⟩:=hrel;have HVB:=Ac hvb; have HAC:=Ac hacc; have HSK:=Ac hspk;clear hvb hacc hspk;by_cases hlt:k < (bJ m n).length
  ·obtain⟨y,hy⟩:=ay hlt;have hry:=HCH.out.2 y (List.mem_of_getElem? hy);have HY:=Ac hy;obtain⟨hca,a2,hsa,hs2⟩:=afF HSK.out (by omega);have HCA:=Ac hca; have HSA:=Ac hsa; have HS2:=Ac hs2;have haN:a < g.nodes.length:=by
    have h1:=hsa.bound;have:=HFT.out.good.span.kids i n (Nat.zero_le _) hin HX.out (a:Int) (List.mem_of_getElem? hca);omega
   obtain⟨A',c',he,hcc,hxs⟩:=HVB.out.chan;simp only[Value.slice.injEq,List.length_map] at he hcc hxs;obtain⟨rfl,_,rfl⟩:=he;obtain⟨b',o',he2,hFb',aff,hel⟩:=hxs (by omega);simp only[Option.some.injEq,Addr.mk.injEq] at he2;obtain⟨rfl,rfl,_⟩:=he2;obtain⟨d0,⟨vn',d1,hn1⟩,⟨vd',d2,hd1⟩⟩:=hel k (aj y) (by rw[List.getElem?_map,hy]; rfl);rw[Nat.zero_add] at d0 d1 d2;have HRY:=Ac (Az.make (r:=aj y) rfl hn1 hd1);obtain⟨A8,c8,rfl,_,_⟩:=hn1;obtain⟨A9,c9,rfl,_,_⟩:=hd1;clear hxs hcc hel hFb' aff hy hca hsa hs2;go_wp2_with fail
   obtain⟨W2,hW2,rq,hB2,hzz2⟩:=aB wr 97 #[.bool (aj y).neg,.slice A8 (aj y).num.length c8,.slice A9 (aj y).den.length c9];rw[← hW2];clear hW2 d0 d1 d2;obtain⟨qb,hqb⟩:∃ qb,qb=wr.heap.size:=⟨_,rfl⟩;rw[← hqb] at rq ⊢;have kqb:pl < qb:=by omega
   have kq2:pl < W2.heap.size:=by omega
   replace HVB:=Ac (HVB.out.below hB2);replace HRY:=Ac (HRY.out.below hB2);replace x3:=ah x3 hB2;have fc:=cell_grown HVB.out.grown HE.out.fc zf;obtain⟨A3',c3',hA3,hc3,hx3⟩:=H3.out;simp only[Value.slice.injEq] at hA3;obtain⟨rfl,_,rfl⟩:=hA3;obtain⟨b3,o3,rfl,hF3,hb3,qR⟩:=hx3 (by omega);have ec:=qR k _ HCA.out;unfold jv at ec;rw[Nat.mul_one] at ec;have zb3:b3≠bb:=fun e=>HNF.out (e▸hF3)
   replace ec:=cell_grown HVB.out.grown ec zb3;have q0:=rq.cell (i:=0) rfl; have q1:=rq.cell (i:=1) rfl; have q2:=rq.cell (i:=2) rfl;have znq:qb≠bb:=by omega
   have hkn2:k < n.next.length:=by omega
   have znb2:nb≠bb:=by omega
   have hvl:=HFT.out.iD _ a (Nat.le_refl _) haN;rw[← HPP.out] at hvl;have HVLn:=Ac (show(List.map aj (bT g m a)).length=P by rw[List.length_map]; exact hvl);have HVL:=Ac hvl;have hal:acc.length=P:=by
    rw[HAC.out];refine kK (by simp) fun bc hbc=>?_
    have hm2:bc.2∈n.next:=(List.of_mem_zip (a:=bc.1) (b:=bc.2) (List.mem_of_mem_take hbc)).2;have:=HFT.out.good.span.kids i n (Nat.zero_le _) hin HX.out bc.2 hm2;rw[HFT.out.iD _ _ (Nat.le_refl _) (by omega),← HPP.out]
   have HAL:=Ac hal;clear qR hx3 hB2 hzz2 hqb rq hplr hvl hal;go_wp2_with fail
   have hen:=enters' Tryz.func94 (by kernel_rfl) (by kernel_rfl);refine wp_region_held_drew (S:=fun w'=>w'.cell? ⟨fb,0,none⟩=some (.func (.func 94) #[] #[.pointer (some ⟨pb,0,none⟩),.pointer (some ⟨xb,0,none⟩),.pointer (some ⟨fb,0,none⟩)])∧w'.cell? ⟨nb,3,none⟩=some (.slice (some ⟨b3,o3,none⟩) n.next.length c3)∧w'.cell? ⟨b3,o3+k,none⟩=some (.int .i64 (a:Int))) (by kernel_rfl) ⟨fc,x3,ec⟩ (fun hHeld=>?_);have hb:Below W2.heap.size W2 W2.drew:=aC (Below.refl _ W2) 1;replace fc:=ah fc hb;replace x3:=ah x3 hb;replace ec:=ah ec hb;replace q0:=ah q0 hb;replace q1:=ah q1 hb;replace q2:=ah q2 hb;replace HVB:=Ac (HVB.out.below hb);replace HRY:=Ac (HRY.out.below hb);replace kq2:=Nat.lt_of_lt_of_le kq2 hb.size;clear hb;generalize W2.drew=wn at *;refine tk0 [0,1,2,3,4,5,8] ?_;iterate 7 (refine tk (v:=?_) rfl (by kernel_rfl) (by kernel_rfl) (by kernel_rfl) (fun _ _ _ h=>h) (Or.inl ⟨by rfl,?_⟩) hHeld ?_;rotate_left;(focus intro wx hSx;(try dsimp only at hSx);go_split_ands;go_simp;try with_reducible rfl);try simp only[Act.put,lq1,lq2,lq3,lq4,lq5,lq6])
   refine tk1 ?_;refine tk2 6 (by kernel_rfl) rfl fun K hK=>?_
   go_simp;refine(HIH.out a wn BRc hia haN (HE.out.grown HVB.out.grown HVB.out.row HVB.out.len)).mono ?_;rintro e wn ⟨v,BR2,e2,rfl,ho⟩;obtain⟨Av,cv,hvv,_,_⟩:=ho.nums;rw[HVLn.out] at hvv;subst hvv;replace fc:=cell_grown ho.grown fc zf;replace x3:=cell_grown ho.grown x3 znb2;replace ec:=cell_grown ho.grown ec zb3;replace q0:=cell_grown ho.grown q0 znq;replace q1:=cell_grown ho.grown q1 znq;replace q2:=cell_grown ho.grown q2 znq;have hnG:¬ (F bb∨pl < bb):=fun h=>h.elim HNF.out (by omega)
   replace HVB:=Ac (HVB.out.child HBF.out (by omega) hia ho kq2);replace HRY:=Ac (HRY.out.on (iE (F:=fun b=>F b∨pl < b) ho.grown hnG));have HNU:=Ac (Aj.keep (G:=fun b=>F b∨pl < b) ho.nums (fun b hb _=>hb.imp id fun h=>by omega) (Same.refl _ _));replace kq2:=Nat.lt_of_lt_of_le kq2 ho.grown.size;have HSPO:=Ac ho.span;clear ho hnG;dsimp only;clear hHeld;refine hK.out _ _ ⟨fc,x3,ec⟩ (fun hHeld=>?_);clear hK K;try simp only[Act.put,lq1,lq2,lq3,lq4,lq5,lq6]
   refine tk0 [7] ?_;(refine tk (v:=?_) rfl (by kernel_rfl) (by kernel_rfl) (by kernel_rfl) (fun _ _ _ h=>h) (Or.inl ⟨by rfl,?_⟩) hHeld ?_;rotate_left;(focus intro wx hSx;(try dsimp only at hSx);go_split_ands;go_simp;try with_reducible rfl);try simp only[Act.put,lq1,lq2,lq3,lq4,lq5,lq6])
   refine tk1 ?_;refine wpAnyH_done (by kernel_rfl) ?_ _;clear hHeld;show Exit.then _ _ .normal _ _;have hpz:oM acc y (bT g m a) 0=acc:=adZ _ _ _;have HPZ:=Ac hpz;have HRYQ:=HRY; have HNUQ:=HNU; have HVBQ:=HVB;clear hpz HRY HNU HVB;go_wp2_with fail
   go_loopw [60] (fun pv wr=>∃ (p:Nat) (L':List RV),p≤P∧pv = .int .i64 (p:Int)∧VBr F g m bb pl w BR i e2 n (.slice (some ⟨cb',0,none⟩) (bJ m n).length cc) (oM acc y (bT g m a) p) L' BR2 wr∧Bg wr (fun b=>F b∨pl < b) (.slice Av P cv) (bT g m a) ∧
    NmV wr (fun b=>F b∨pl < b) (.agg #[.bool (aj y).neg,.slice A8 (aj y).num.length c8,.slice A9 (aj y).den.length c9]) y ∧
    wr.cell? ⟨qb,0,none⟩=some (.bool (aj y).neg)∧wr.cell? ⟨qb,1,none⟩=some (.slice A8 (aj y).num.length c8)∧wr.cell? ⟨qb,2,none⟩=some (.slice A9 (aj y).den.length c9)∧wr.cell? ⟨nb,3,none⟩=some (.slice (some ⟨b3,o3,none⟩) n.next.length c3)∧pl < wr.heap.size) (fun pv _=>P - (intOf pv).toNat)
   case atStart=>exact⟨0,L,by omega,rfl,by rw[HPZ.out]; exact HVBQ.out,HNUQ.out,HRYQ.out,q0,q1,q2,x3,kq2⟩
   case round =>
    clear HVBQ HNUQ HRYQ q0 q1 q2 x3 kq2 HPZ fc ec;obtain⟨p,L',hp,rfl,hvb,hnu,hry',q0,q1,q2,x3,kq2⟩:=hrel;have HVB:=Ac hvb; have HNU:=Ac hnu; have HRY:=Ac hry';clear hvb hnu hry';by_cases hpt:p < P
    ·obtain⟨up',hup⟩:=ay (l:=acc) (k:=p) (by rw[HAL.out]; exact hpt);obtain⟨xp,hxp⟩:=ay (l:=bT g m a) (k:=p) (by rw[HVL.out]; exact hpt);have hrlu:rl up'≤1+7*g.nodes.length:=by
      have h:=HFT.out.abo HX.out HKN.out k up';rw[← HPP.out,← HAC.out] at h;exact h (List.mem_of_getElem? hup)
     have hrlx:=HFT.out.abp haN xp (List.mem_of_getElem? hxp);have hpg:=afD (b:=y) hup (show(bT g m a).length=acc.length by rw[HAL.out,HVL.out]);obtain⟨A5',c5',B5',d5',hLp,hqp⟩:=HVB.out.get hpg;have HLP:=Ac hLp;have HPS:=Ac (ad1 (b:=y) hup hxp (show(bT g m a).length=acc.length by rw[HAL.out,HVL.out]));have HRU:=Ac (Az.make (F:=fun b=>F b∨pl < b) (r:=aj up') rfl hqp.1 hqp.2);have e0:wr.cell? ⟨pl,p*3,none⟩=some (.bool (aj up').neg):=HVB.out.made.cell (j:=0) hLp (by omega) rfl;have e1:=HVB.out.made.cell (j:=1) hLp (by omega) rfl; have e2':=HVB.out.made.cell (j:=2) hLp (by omega) rfl;obtain⟨A',c',he,hcc,hxs⟩:=HNU.out;simp only[Value.slice.injEq] at he;obtain⟨rfl,hPl,rfl⟩:=he;clear hPl;obtain⟨bv,ov,hAv,hFv,hbv,hel⟩:=hxs (by rw[HVLn.out]; omega);subst hAv;obtain⟨d0,⟨vn',d1,hn1⟩,⟨vd',d2,hd1⟩⟩:=hel p (aj xp) (by rw[List.getElem?_map,hxp]; rfl);have HRX:=Ac (Az.make (r:=aj xp) rfl hn1 hd1);obtain⟨A6,c6,rfl,_,_⟩:=hn1;obtain⟨A7,c7,rfl,_,_⟩:=hd1;have xc:=cell_grown HVB.out.grown HE.out.xc zx;have ri:=HVB.out.row.cell HVB.out.own;rw[← HPP.out] at ri;obtain⟨r1,hr1⟩:∃ r1:Rat,r1=y*xp:=⟨_,rfl⟩;have hrr:=tq y xp;rw[← hr1] at hrr;obtain⟨r2,hr2⟩:∃ r2:Rat,r2=up'+r1:=⟨_,rfl⟩;have HR1:=Ac hr1; have HR2:=Ac hr2;have HNUF:=Ac hFv;clear hup hxp hpg hLp hqp hcc hxs hel hr1 hr2 hFv hbv;go_wp2_with fail
     obtain⟨W5,hW5,rt,hb,hz5⟩:=aB wr 97 #[.bool (aj xp).neg,.slice A6 (aj xp).num.length c6,.slice A7 (aj xp).den.length c7];rw[← hW5];obtain⟨tb,htb⟩:∃ tb,tb=wr.heap.size:=⟨_,rfl⟩;rw[← htb] at rt ⊢;have ktb:pl < tb:=by omega
     clear hW5 hz5 htb d0 d1 d2;replace xc:=ah xc hb;replace ri:=ah ri hb;replace q0:=ah q0 hb;replace q1:=ah q1 hb;replace q2:=ah q2 hb;replace e0:=ah e0 hb;replace e1:=ah e1 hb;replace e2':=ah e2' hb;replace x3:=ah x3 hb;replace HVB:=Ac (HVB.out.below hb);replace HRU:=Ac (HRU.out.below hb);replace HRX:=Ac (HRX.out.below hb);replace HRY:=Ac (HRY.out.below hb);replace HNU:=Ac (Aj.below HNU.out hb);replace kq2:=Nat.lt_of_lt_of_le kq2 hb.size;clear hb;have t0:=rt.cell (i:=0) rfl;have t1:=rt.cell (i:=1) rfl;have t2:=rt.cell (i:=2) rfl;clear rt;go_wp2_with fail
     refine bC (fun w'=>w'.cell? ⟨xb,0,none⟩=some (.slice (some ⟨bb,0,none⟩) g.nodes.length g.nodes.length)∧w'.cell? ⟨bb,i,none⟩=some (.slice (some ⟨pl,0,none⟩) P P)∧w'.cell? ⟨pl,p*3,none⟩=some (.bool (aj up').neg)∧w'.cell? ⟨pl,p*3+1,none⟩=some (.slice A5' (aj up').num.length c5')∧w'.cell? ⟨pl,p*3+2,none⟩=some (.slice B5' (aj up').den.length d5')∧w'.cell? ⟨qb,0,none⟩=some (.bool (aj y).neg)∧w'.cell? ⟨qb,1,none⟩=some (.slice A8 (aj y).num.length c8)∧w'.cell? ⟨qb,2,none⟩=some (.slice A9 (aj y).den.length c9)∧w'.cell? ⟨tb,0,none⟩=some (.bool (aj xp).neg)∧w'.cell? ⟨tb,1,none⟩=some (.slice A6 (aj xp).num.length c6)∧w'.cell? ⟨tb,2,none⟩=some (.slice A7 (aj xp).den.length c7)) 17 1 (by kernel_rfl) rfl (by kernel_rfl) ?_;have hHeld:(fun w':World=>w'.cell? ⟨xb,0,none⟩=some (.slice (some ⟨bb,0,none⟩) g.nodes.length g.nodes.length)∧w'.cell? ⟨bb,i,none⟩=some (.slice (some ⟨pl,0,none⟩) P P)∧w'.cell? ⟨pl,p*3,none⟩=some (.bool (aj up').neg)∧w'.cell? ⟨pl,p*3+1,none⟩=some (.slice A5' (aj up').num.length c5')∧w'.cell? ⟨pl,p*3+2,none⟩=some (.slice B5' (aj up').den.length d5')∧w'.cell? ⟨qb,0,none⟩=some (.bool (aj y).neg)∧w'.cell? ⟨qb,1,none⟩=some (.slice A8 (aj y).num.length c8)∧w'.cell? ⟨qb,2,none⟩=some (.slice A9 (aj y).den.length c9)∧w'.cell? ⟨tb,0,none⟩=some (.bool (aj xp).neg)∧w'.cell? ⟨tb,1,none⟩=some (.slice A6 (aj xp).num.length c6)∧w'.cell? ⟨tb,2,none⟩=some (.slice A7 (aj xp).den.length c7)) W5.drew:=⟨xc,ri,e0,e1,e2',q0,q1,q2,t0,t1,t2⟩;simp only[List.take_succ_cons,List.take_zero];have hb:Below W5.heap.size W5 W5.drew:=aC (Below.refl _ W5) 1;replace xc:=ah xc hb;replace ri:=ah ri hb;replace q0:=ah q0 hb;replace q1:=ah q1 hb;replace q2:=ah q2 hb;replace e0:=ah e0 hb;replace e1:=ah e1 hb;replace e2':=ah e2' hb;replace x3:=ah x3 hb;replace t0:=ah t0 hb;replace t1:=ah t1 hb;replace t2:=ah t2 hb;replace HVB:=Ac (HVB.out.below hb);replace HRU:=Ac (HRU.out.below hb);replace HRX:=Ac (HRX.out.below hb);replace HRY:=Ac (HRY.out.below hb);replace HNU:=Ac (Aj.below HNU.out hb);replace kq2:=Nat.lt_of_lt_of_le kq2 hb.size;clear hb;generalize W5.drew=wn at *;refine tk0 [0,1,2,3,4,5,6,7,8,9,10,11,12,13] ?_;iterate 14 (refine tk (v:=?_) rfl (by kernel_rfl) (by kernel_rfl) (by kernel_rfl) (fun _ _ _ h=>h) (Or.inl ⟨by rfl,?_⟩) hHeld ?_;rotate_left;(focus intro wx hSx;(try dsimp only at hSx);go_split_ands;go_simp;try with_reducible rfl);try simp only[Act.put,lq1,lq2,lq3,lq4,lq5,lq6])
     refine tk1 ?_;refine tk2 14 (by kernel_rfl) rfl fun K hK=>?_
     go_simp;refine(yX _ _ _ _ y xp HRY.out HRX.out (by omega) (by omega)).mono ?_;rintro e wn ⟨u1,rfl,hb,hu⟩;rw[← HR1.out] at hu;have HU1:=Ac (hu.mono (G:=fun b=>F b∨pl < b) (fun b hb _=>hb.elim id fun h=>.inr (by omega)));clear hu;replace xc:=ah xc hb;replace ri:=ah ri hb;replace q0:=ah q0 hb;replace q1:=ah q1 hb;replace q2:=ah q2 hb;replace e0:=ah e0 hb;replace e1:=ah e1 hb;replace e2':=ah e2' hb;replace x3:=ah x3 hb;replace t0:=ah t0 hb;replace t1:=ah t1 hb;replace t2:=ah t2 hb;replace HVB:=Ac (HVB.out.below hb);replace HRU:=Ac (HRU.out.below hb);replace HRX:=Ac (HRX.out.below hb);replace HRY:=Ac (HRY.out.below hb);replace HNU:=Ac (Aj.below HNU.out hb);replace kq2:=Nat.lt_of_lt_of_le kq2 hb.size;clear hb;dsimp only;clear hHeld;refine hK.out _ _ ⟨xc,ri,e0,e1,e2',q0,q1,q2,t0,t1,t2⟩ (fun hHeld=>?_);clear hK K;try simp only[Act.put,lq1,lq2,lq3,lq4,lq5,lq6]
     refine tk2 15 (by kernel_rfl) rfl fun K hK=>?_
     go_simp;refine(acG _ _ _ _ up' r1 HRU.out HU1.out (by omega) (by omega)).mono ?_;rintro e wn ⟨u2,rfl,hb,hu⟩;rw[← HR2.out] at hu;have hu2:=hu.mono (G:=fun b=>F b∨pl < b) (fun b hb _=>hb.elim id fun h=>.inr (by omega));obtain⟨A10,c10,B10,d10,rfl,bV⟩:=hu2.opened;have HU:=Ac bV;clear hu hu2 bV HU1;replace xc:=ah xc hb;replace ri:=ah ri hb;replace q0:=ah q0 hb;replace q1:=ah q1 hb;replace q2:=ah q2 hb;replace e0:=ah e0 hb;replace e1:=ah e1 hb;replace e2':=ah e2' hb;replace x3:=ah x3 hb;replace t0:=ah t0 hb;replace t1:=ah t1 hb;replace t2:=ah t2 hb;replace HVB:=Ac (HVB.out.below hb);replace HRU:=Ac (HRU.out.below hb);replace HRX:=Ac (HRX.out.below hb);replace HRY:=Ac (HRY.out.below hb);replace HNU:=Ac (Aj.below HNU.out hb);replace kq2:=Nat.lt_of_lt_of_le kq2 hb.size;clear hb;dsimp only;clear hHeld;refine hK.out _ _ ⟨xc,ri,e0,e1,e2',q0,q1,q2,t0,t1,t2⟩ (fun hHeld=>?_);clear hK K;try simp only[Act.put,lq1,lq2,lq3,lq4,lq5,lq6]
     refine tk0 [16] ?_;(refine tk (v:=?_) rfl (by kernel_rfl) (by kernel_rfl) (by kernel_rfl) (fun _ _ _ h=>h) (Or.inl ⟨by rfl,?_⟩) hHeld ?_;rotate_left;(focus intro wx hSx;(try dsimp only at hSx);go_split_ands;go_simp;try with_reducible rfl);try simp only[Act.put,lq1,lq2,lq3,lq4,lq5,lq6])
     refine tk1 ?_;refine wpAnyH_done (by kernel_rfl) ?_ _;clear hHeld;show wpList _ _ _ _ _ _;have g0:=HVB.out.made.row.frozen (p*3); have g1:=HVB.out.made.row.frozen (p*3+1); have g2:=HVB.out.made.row.frozen (p*3+2);obtain⟨Wz,hWz,hvz,aae,hszz,hgz⟩:=HVB.out.setN HBF.out (by omega) kpl p r2 _ _ HU.out;rw[HR2.out,HR1.out,HPS.out] at hvz;have aiB:¬ (F pl∨pl < pl):=fun h=>h.elim (fun h=>by have:=HBF.out _ h; omega) (by omega)
     have HVZ:=Ac hvz;have HNZ:=Ac (Aj.on HNU.out (iE (F:=fun b=>F b∨pl < b) hgz aiB)); have HYZ:=Ac (HRY.out.on (iE (F:=fun b=>F b∨pl < b) hgz aiB));have q0z:=cell_grown hgz q0 (by omega); have q1z:=cell_grown hgz q1 (by omega); have q2z:=cell_grown hgz q2 (by omega); have x3z:=cell_grown hgz x3 (by omega);have kz2:pl < Wz.heap.size:=by omega
     have HWz:=Ac hWz;clear hWz hvz aae hszz hgz aiB q0 q1 q2 x3 HVB HNU HRY HU HRU HRX xc ri t0 t1 t2;go_wp2
     rw[← HWz.out];show Exit.inBlock _ _ .normal _ _;go_wp2
     go_roundw
     case rel=>exact⟨p+1,_,by omega,by go_num,HVZ.out,HNZ.out,HYZ.out,q0z,q1z,q2z,x3z,kz2⟩
     case measure=>simp[intOf]; omega
    ·have hpP:p=P:=by omega
     have hall:=afC (acc:=acc) (b:=y) (x:=bT g m a) (p:=P) (by rw[HAL.out]; omega) (by rw[HVL.out]; omega);have hvb:=HVB.out;rw[hpP,hall,HAC.out,acP (aeC HY.out HCA.out)] at hvb;have hu2:=HSA.out.unique HSPO.out;have hs3:=HS2.out;rw[hu2] at hs3;have HS3:=Ac hs3; have DJ:=Ac hvb;have hae:i < e2:=by
      have h1:=HSPO.out.mem (a:Int) (by simp);omega
     clear hall hvb hu2 hs3 hpP HVB;go_wp2
     go_roundw
     case rel=>exact⟨k+1,e2,_,L',BR2,by omega,by go_num,HS3.out,hae,rfl,DJ.out,x3,kq2⟩
     case measure=>simp[intOf]; omega
  ·have hae:=agZ HSK.out (by omega);have hall:((bJ m n).zip n.next).take k=(bJ m n).zip n.next:=List.take_of_length_le (by rw[List.length_zip]; omega);have hacc:acc=bT g m i:=by rw[HAC.out,hall,HPP.out,← CU.out]
   have xc:=cell_grown HVB.out.grown HE.out.xc zx;have ri:=HVB.out.row.cell HVB.out.own;have HAE:=Ac hae; have HACC:=Ac hacc;clear hae hall hacc;go_wp2
   go_ret;have hvb:=HVB.out;have hLl:L.length=g.ak.toNat:=by
    have h1:=congrArg List.length hvb.lmap;rw[List.length_map,List.length_map,HACC.out,HFT.out.iD _ _ (Nat.le_refl _) hin] at h1;exact h1
   have hraw:=hvb.made.tN (G:=fun b=>F b∨w.heap.size≤b) (fun b hb=>hb.imp id fun h=>by omega) (.inr kpl) (c:=g.ak.toNat) (by omega);rw[hLl,hvb.lmap,HACC.out] at hraw;refine⟨_,BRc,a,rfl,⟨.cons HX.out (by rw[HAE.out]; exact HSP.out) (.nil _),hvb.own,hraw,hvb.len,fun j hj=>hvb.out j hj,fun j h1 h2=>?_,hvb.row,hvb.grown⟩⟩;by_cases e:j=i
   ·subst e; exact⟨_,hvb.own,hraw⟩
   ·obtain⟨vj,h3,h4⟩:=hvb.inn j (by omega) h2;exact⟨vj,h3,Aj.keep h4 (fun b hb _=>hb.imp id fun h=>by omega) (Same.refl _ _)⟩
theorem aaN (F:Ag) (bp:Nat) (g:Gm) (m:List (List Rat)) (up place:List Int) (vn vi vu vp vm:Value) (pb xb fb bb:Nat) (hf:Fit g m) (hn:g.nodes.length≤100) (hml:m.length≤100000):∀ (f i:Nat) (w:World) (BR:List Value),g.nodes.length - i≤f→i < g.nodes.length→CS w F bp g m up place vn vi vu vp vm pb xb fb bb BR →
  Calls Tryz.prog 94 #[.int .i64 (i:Int),.pointer (some ⟨pb,0,none⟩),.pointer (some ⟨xb,0,none⟩),.pointer (some ⟨fb,0,none⟩)] w (CB F g m bb w BR i)
 | 0,i,w,BR,h1,h2,_=>absurd h2 (by omega)
 | f+1,i,w,BR,h1,h2,hE=>by
  obtain⟨n,hni⟩:=ay (l:=g.nodes) (k:=i) h2;by_cases hk:n.kind=3
  ·exact afE w F bp g m up place vn vi vu vp vm pb xb fb bb BR i n hE hf hn hml hni hk
  ·exact acQ w F bp g m up place vn vi vu vp vm pb xb fb bb BR i n hE hf hn hml hni hk (fun c w2 BR2 hc hcN hE2=>aaN F bp g m up place vn vi vu vp vm pb xb fb bb hf hn hml f c w2 BR2 (by omega) hcN hE2)
theorem zo (w:World) (F:Ag) (bp:Nat) (g:Gm) (m:List (List Rat)) (up place:List Int) (vn vi vu vp vm:Value) (hp:Bh w F bp g m up place vn vi vu vp vm) (hl:Layout g up place) (hf:Fit g m) (hn:g.nodes.length≤100) (hml:m.length≤100000) :
  Calls Tryz.prog 57 #[.pointer (some ⟨bp,0,none⟩)] w (Ret w fun u w'=>(∃ b,u = .slice (some ⟨b,0,none⟩) g.nodes.length g.nodes.length)∧Dj w' (Ext F w.heap.size) u ((List.range g.nodes.length).map (bT g m))):=by
 have HP:=Ac hp.old; have HFT:=Ac hf;have p3:=hp.row.cell (i:=3) rfl;obtain⟨Au,cu,hvu,_,_⟩:=hp.ups;rw[hvu,hl.abt] at p3;have hbp:=hp.row.lt;have hpos:=hf.good.pos;clear hp hl hf hvu;go_enter Tryz.func57,Tryz.ntmps57;go_upto_region 1 with(fail)
 obtain⟨Wa,hWa,ra,hBa,hza⟩:=aB w 80 #[.pointer (some ⟨bp,0,none⟩)];rw[← hWa];have ad2:w.heap.size+1≤Wa.heap.size:=by omega
 clear hWa hza;replace p3:=ah p3 hBa;have a0:=ra.cell (i:=0) rfl;go_upto_region 2 with(at_make; refine fB _ rfl _ _ 93 rfl 84 (.slice none 0 0) 24 Tryz.underlying93 (by kernel_rfl) rfl g.nodes.length rfl rfl (by omega) (by omega) ?_; intro w1 hb1 zq hm1; have hz1:=Nat.le_of_eq zq.symm; clear zq)
 obtain⟨W1,hW1,r1,hB1,hz1'⟩:=aB w1 93 #[.slice (some ⟨Wa.heap.size,0,none⟩) g.nodes.length g.nodes.length];rw[← hW1];clear hW1;obtain⟨bb,hbb⟩:∃ bb,bb=Wa.heap.size:=⟨_,rfl⟩;obtain⟨xb,hxb⟩:∃ xb,xb=w1.heap.size:=⟨_,rfl⟩;replace hm1:=hm1.below hB1 hm1.lt;rw[← hbb] at hm1 r1 ⊢;rw[← hxb] at r1 ⊢;have k1:w.heap.size+1≤bb:=by omega
 have k2:bb < xb:=by omega
 replace ra:=(ra.below hb1 ra.lt).below hB1 (by have:=ra.lt; omega);replace hBa:=(hBa.trans (hb1.mono hBa.size)).trans (hB1.mono (by have:=hBa.size; omega));clear hb1 hB1 hbb hxb hz1 hz1' ad2 p3 a0;go_upto_region 4 with(fail)
 obtain⟨W2,hW2,r2,hB2,hz2⟩:=aB W1 144 #[.func (.func 94) #[] #[.pointer (some ⟨w.heap.size,0,none⟩),.pointer (some ⟨xb,0,none⟩),.pointer (some ⟨W1.heap.size,0,none⟩)]];rw[← hW2];clear hW2;obtain⟨fb,hfb⟩:∃ fb,fb=W1.heap.size:=⟨_,rfl⟩;rw[← hfb] at r2 ⊢;have k3:xb < fb:=by have:=r1.lt; omega
 replace ra:=ra.below hB2 ra.lt;replace r1:=r1.below hB2 r1.lt;replace hm1:=hm1.below hB2 hm1.lt;replace hBa:=hBa.trans (hB2.mono hBa.size);have hE:CS W2 (Old F w.heap.size) bp g m up place vn vi vu vp vm w.heap.size xb fb bb (List.replicate g.nodes.length (.slice none 0 0)) :=
  ⟨HP.out.below hBa,fun b hb=>by have:=hb.2; omega,ra.cell rfl,r1.cell rfl,r2.cell rfl,by omega,by omega,by omega,hm1,by simp⟩
 have HE:=Ac hE;have fc:=r2.cell (i:=0) rfl;have hxc:=r1.cell (i:=0) rfl;have hen:=enters' Tryz.func94 (by kernel_rfl) (by kernel_rfl);have zx:xb≠bb:=by omega
 have hWs:=hBa.size;have HBA:=Ac hBa;clear hE hB2 hz2 hfb ra r1 r2 hm1 hBa;go_wp2_with fail
 refine(aaN (Old F w.heap.size) bp g m up place vn vi vu vp vm w.heap.size xb fb bb HFT.out hn hml _ 0 W2 _ (Nat.le_refl _) hpos HE.out).mono ?_;rintro e w5 ⟨v,BR',n,rfl,ho⟩;have xc:=cell_grown ho.grown hxc zx;have HO:=Ac ho;clear ho hxc fc;dsimp only;go_wp2
 go_ret;have ho:=HO.out;have hne:n=g.nodes.length:=(HFT.out.good.span.unique ho.span).symm;refine⟨_,rfl,HBA.out.grown ho.grown (by omega) (fun k hk=>by cases hk; omega),⟨_,rfl⟩,?_⟩;have hlen:((List.range g.nodes.length).map (bT g m)).length=g.nodes.length:=by simp
 refine⟨some ⟨bb,0,none⟩,g.nodes.length,by rw[List.length_map,hlen]; rfl,by rw[List.length_map,hlen]; exact Nat.le_refl _,fun _=>⟨bb,0,rfl,.inr (by omega),ho.row.lt,fun k x hx=>?_⟩⟩;rw[List.getElem?_map] at hx;obtain⟨l,hl,rfl⟩:=Option.map_eq_some_iff.1 hx;rw[List.getElem?_map] at hl;obtain⟨k',hk',rfl⟩:=Option.map_eq_some_iff.1 hl;have hk2:k < g.nodes.length:=by have:=aG hk'; simpa using this
 rw[List.getElem?_range hk2] at hk';cases hk'
 obtain⟨vj,h3,h4⟩:=ho.inn k (Nat.zero_le _) (by omega);refine⟨vj,by rw[Nat.zero_add,Nat.mul_one]; exact ho.row.cell h3,Aj.keep h4 (fun b hb _=>hb.elim (fun h=>.inl h.1) fun h=>.inr (by omega)) (Same.refl _ _)⟩
def pY (g:Gm) (m:List (List Rat)) (n:Nd) (p k:Nat):Rat:=(iZ (bT g m) (List.replicate g.ak.toNat 0) (((bJ m n).zip n.next).take k)).getD p 0
theorem ad3 (g:Gm) (m:List (List Rat)) (n:Nd) (p:Nat):pY g m n p 0=0:=by
 unfold pY;rw[List.take_zero];show(List.replicate g.ak.toNat (0:Rat)).getD p 0=0;rw[List.getD_eq_getElem?_getD,List.getElem?_replicate];split <;> rfl
theorem Fit.acR {g:Gm} {m:List (List Rat)} (h:Fit g m) {i:Nat} {n:Nd} (hn:g.nodes[i]? = some n) {k:Nat}:∀ bc∈((bJ m n).zip n.next).take k,(bT g m bc.2.toNat).length=g.ak.toNat:=by
 intro bc hbc;have hm:bc.2∈n.next:=(List.of_mem_zip (a:=bc.1) (b:=bc.2) (List.mem_of_mem_take hbc)).2;have hl:=aG hn;have:=h.good.span.kids i n (Nat.zero_le _) hl hn bc.2 hm;exact h.iD _ _ (Nat.le_refl _) (by omega)
theorem Fit.ad4 {g:Gm} {m:List (List Rat)} (h:Fit g m) {i:Nat} {n:Nd} (hn:g.nodes[i]? = some n) {p k c:Nat} {z y:Rat} (hz:(bJ m n)[k]? = some z) (hc:n.next[k]? = some (c:Int)) (hy:(bT g m c)[p]? = some y) :
  pY g m n p (k+1)=pY g m n p k+z*y:=by
 unfold pY;rw[← acP (aeC hz hc)];have hl:=aG hn;have hcl:=h.good.span.kids i n (Nat.zero_le _) hl hn _ (List.mem_of_getElem? hc);have h1:(iZ (bT g m) (List.replicate g.ak.toNat 0) (((bJ m n).zip n.next).take k)).length=g.ak.toNat:=kK (by simp) (h.acR hn);have h2:=h.iD _ c (Nat.le_refl _) (by omega);have hp:=aG hy;obtain⟨u,hu⟩:=ay (l:=iZ (bT g m) (List.replicate g.ak.toNat 0) (((bJ m n).zip n.next).take k)) (k:=p) (by omega);rw[List.getD_eq_getElem?_getD,List.getD_eq_getElem?_getD,hu];unfold kW;rw[List.getElem?_zipWith,hu,hy]; rfl
theorem Fit.afG {g:Gm} {m:List (List Rat)} (h:Fit g m) {i:Nat} {n:Nd} (hn:g.nodes[i]? = some n) (hk:n.kind≠3) {p k:Nat} (hkl:n.next.length≤k) (hp:p < g.ak.toNat) :
  (bT g m i)[p]? = some (pY g m n p k):=by
 rw[nV h.good m hn];unfold valOf pY;rw[if_neg hk,List.take_of_length_le (by rw[List.length_zip]; omega)];have h1:(iZ (bT g m) (List.replicate g.ak.toNat 0) ((bJ m n).zip n.next)).length=g.ak.toNat:=kK (by simp) fun bc hbc=>by
  have:=h.acR (k:=((bJ m n).zip n.next).length) hn bc (by rw[List.take_of_length_le (Nat.le_refl _)]; exact hbc);exact this
 obtain⟨u,hu⟩:=ay (l:=iZ (bT g m) (List.replicate g.ak.toNat 0) ((bJ m n).zip n.next)) (k:=p) (by omega);rw[List.getD_eq_getElem?_getD,hu]; rfl
theorem Fit.ag0 {g:Gm} {m:List (List Rat)} (h:Fit g m) {i:Nat} {n:Nd} (hn:g.nodes[i]? = some n) (hk:n.kind≠3) (p k:Nat):rl (pY g m n p k)≤1+7*g.nodes.length:=by
 unfold pY;rw[List.getD_eq_getElem?_getD];cases hx:(iZ (bT g m) (List.replicate g.ak.toNat 0) (((bJ m n).zip n.next).take k))[p]? with
 | none=>show rl 0≤_; rw[oV]; omega
 | some x=>exact h.abo hn hk k x (List.mem_of_getElem? hx)
theorem Fit.ahL {g:Gm} {m:List (List Rat)} (h:Fit g m) {i:Nat} {n:Nd} (hn:g.nodes[i]? = some n) (hk:n.kind=3) {p:Nat} {x:Int} (hx:n.pay[p]? = some x):(bT g m i)[p]? = some (x:Rat):=by
 rw[nV h.good m hn];unfold valOf;rw[if_pos hk,List.getElem?_map,hx]; rfl
structure AV (g:Gm) (m:List (List Rat)) (bo:Nat) (Fd:Ag) (lo hi:Nat) (vs:List Value) (W:World):Prop where
 len:vs.length=g.nodes.length
 row:Row W bo 30 vs
 old:∀ j,j < lo→vs[j]? = some (.slice none 0 0)
 done:∀ j,hi≤j→j < g.nodes.length→∃ v,vs[j]? = some v∧Aj W Fd v ((bT g m j).map au)
section
variable {g:Gm} {m:List (List Rat)} {bo:Nat} {Fd Fe:Ag} {lo hi:Nat} {vs:List Value} {W W':World}
theorem AV.on (h:AV g m bo Fd lo hi vs W) (hr:W'.heap[bo]? = W.heap[bo]?) (hs:Same Fd W W'):AV g m bo Fd lo hi vs W' :=
 ⟨h.len,h.row.of_block hr,h.old,fun j h1 h2=>by obtain⟨v,h3,h4⟩:=h.done j h1 h2; exact⟨v,h3,Aj.on h4 hs⟩⟩
theorem AV.below (h:AV g m bo Fd lo hi vs W) (hb:Below W.heap.size W W'):AV g m bo Fd lo hi vs W':=h.on (hb.block bo h.row.lt) (Below.same' hb _)
theorem AV.foot (h:AV g m bo Fd lo hi vs W) (hF:∀ b,Fd b→b < W.heap.size→Fe b):AV g m bo Fe lo hi vs W :=
 ⟨h.len,h.row,h.old,fun j h1 h2=>by obtain⟨v,h3,h4⟩:=h.done j h1 h2; exact⟨v,h3,Aj.keep h4 hF (Same.refl _ _)⟩⟩
theorem zA {F:Ag} {b:Nat} (hb:¬ F b) (o:Nat) (v:Value):Same F W (W.setCell ⟨b,o,none⟩ v) :=
 ⟨by simp,fun k hk _=>Below.heap_setCell W ⟨b,o,none⟩ v k (fun e=>hb (by have e':k=b:=e; exact e'▸hk))⟩
theorem AV.set (h:AV g m bo Fd lo hi vs W) (hn:¬ Fd bo) {i:Nat} (h1:lo≤i) (h2:i < hi) (v:Value):AV g m bo Fd lo hi (vs.set i v) (W.setCell ⟨bo,i,none⟩ v) :=
 ⟨by rw[List.length_set]; exact h.len,h.row.set i v,fun j hj=>by rw[List.getElem?_set_ne (by omega)]; exact h.old j hj,fun j h3 h4=>by
  obtain⟨u,h5,h6⟩:=h.done j h3 h4;exact⟨u,by rw[List.getElem?_set_ne (by omega)]; exact h5,Aj.on h6 (zA hn _ _)⟩⟩
theorem AV.more (h:AV g m bo Fd lo (lo+1) vs W) {v:Value} (hv:vs[lo]? = some v) (hr:Aj W Fd v ((bT g m lo).map au)):AV g m bo Fd lo lo vs W :=
 ⟨h.len,h.row,h.old,fun j h1 h2=>by
  by_cases e:j=lo
  ·subst e; exact⟨v,hv,hr⟩
  ·exact h.done j (by omega) h2⟩
theorem AV.less (h:AV g m bo Fd (lo+1) hi vs W):AV g m bo Fd lo hi vs W:=⟨h.len,h.row,fun j hj=>h.old j (by omega),h.done⟩
theorem AV.all (h:AV g m bo Fd 0 0 vs W) {F:Ag} (hF:∀ b,Fd b→F b) (hb:F bo):Ae W F (.slice (some ⟨bo,0,none⟩) g.nodes.length g.nodes.length) (((List.range g.nodes.length).map (bT g m)).map (List.map au)):=by
 refine⟨_,g.nodes.length,by simp,by simp,fun _=>⟨bo,0,rfl,hb,h.row.lt,fun k x hk=>?_⟩⟩;have hkl:k < g.nodes.length:=by have:=aG hk; simpa using this
 rw[List.getElem?_map,List.getElem?_map,List.getElem?_range hkl] at hk;simp only[Option.map_some,Option.some.injEq] at hk;subst hk;obtain⟨v,hv,hr⟩:=h.done k (Nat.zero_le _) hkl;exact⟨v,by rw[Nat.mul_one,Nat.zero_add]; exact h.row.cell hv,Aj.keep hr (fun b hb _=>hF b hb) (Same.refl _ _)⟩
end
end Go.Proofs.YtkcheepafifjaaaGreatDoor
