/- plan.forth: what holds between its rounds, and within one. -/
import Derived.Test.YtnmeejofpkhlkaaGreatDoorR33
import Derived.Test.YtnmeejofpkhlkaaGreatDoorR31
set_option linter.all false
namespace Go.Proofs.YtnmeejofpkhlkaaGreatDoor
open Go.RowKit Go.Shelf
theorem tJ {up:List (Int×Int)} {m:List (List Rat)} (hf:Dj up m) (hm:∀ l∈m,∀ x∈l,rl x≤4):∀ (k:Nat),k≤m.length→∀ s:Int×Int,(s.1 < 0∨s.1 < (k:Int))→rl (fF (bT up m k) s)≤1+4*k:=by
 intro k;induction k using Nat.strongRecOn with
 | _ k ih =>
  intro hk s hs;unfold fF;by_cases h0:s.1 < 0
  ·rw[if_pos h0,sF];omega
  ·rw[if_neg h0,iK byOmega,ac4];obtain⟨t,ht⟩:=getSome (l:=up) (k:=s.1.toNat) (by rw[hf.len]; omega);have htd:up.getD s.1.toNat (-1,-1)=t:=by rw[List.getD_eq_getElem?_getD,ht];rfl
   rw[htd];have h1:=ih s.1.toNat byOmega byOmega t (by have:=hf.ok _ _ ht; omega);have h2:=qj (fF (bT up m s.1.toNat) t) ((m.getD s.1.toNat []).getD s.2.toNat 0);have h3:rl ((m.getD s.1.toNat []).getD s.2.toNat 0)≤4:=by
    rw[List.getD_eq_getElem?_getD];cases e:(m.getD s.1.toNat [])[s.2.toNat]? with
    | none=>show rl 0≤4; rw[vY]; omega
    | some x =>
     refine hm (m.getD s.1.toNat []) ?_ x (List.mem_of_getElem? e);rw[List.getD_eq_getElem?_getD] at e ⊢;cases e2:m[s.1.toNat]? with
     | none=>rw[e2] at e; simp at e
     | some l=>exact List.mem_of_getElem? e2
   omega
section
variable {F:Foot} {w W wr w':World} {vu vm:Value} {bo ob n B1 B2 fb:Nat} {vs:List Value} {ls:List (List Raw)} {u v:Value} {L:List RV} {x:Rat} {A B:Option Addr} {c d:Nat}
structure Dv (w:World) (vu vm:Value) (bo n ob:Nat) (wr:World):Prop where
 aj8:Row wr w.heap.size 55 [vu]
 aji:Row wr (w.heap.size+1) 30 [vm]
 ahM:Row wr ob 106 [.slice (some ⟨bo,0,none⟩) n n]
theorem Dv.same (h:Dv w vu vm bo n ob wr) (hs:Same (fun b=>b=w.heap.size∨b=w.heap.size+1∨b=ob) wr w'):Dv w vu vm bo n ob w' :=
 ⟨h.aj8.of_block (hs.2 _ (.inl rfl) h.aj8.lt),h.aji.of_block (hs.2 _ (.inr (.inl rfl)) h.aji.lt),h.ahM.of_block (hs.2 _ (.inr (.inr rfl)) h.ahM.lt)⟩
theorem Dv.below (h:Dv w vu vm bo n ob wr) (hb:Below wr.heap.size wr w'):Dv w vu vm bo n ob w':=h.same (Below.same' hb _)
def DV (F:Foot) (w:World) (up:List (Int×Int)) (m:List (List Rat)) (vu vm:Value) (bo n ob B1:Nat) (k:Nat) (wr:World):Prop :=
 (∃ vs,vs.length=k∧MkO F w bo 96 n B1 vs ((bT up m k).map (List.map au)) wr)∧Dv w vu vm bo n ob wr
theorem DoneRows.kept {F:Foot} {row:Option Nat} (h:DoneRows wr F vs ls) (hg:wr.grownBy w' row) (hr:∀ r,row=some r→∃ o:Obj,wr.heap[r]? = some o∧o.isCells=false):DoneRows w' F vs ls :=
 ⟨h.1,fun i v l hv hl=>(h.2 i v l hv hl).kept hg hr⟩
theorem DV.own {up:List (Int×Int)} {m:List (List Rat)} {B:Nat} (hB:w.heap.size≤B):OwnFrom B (fun k W=>DV F w up m vu vm bo n ob B1 k W):=by
 rintro k X Y row ⟨⟨vs,hvl,hm⟩,hx⟩ hg hr';have hr:∀ r,row=some r→∃ o:Obj,X.heap[r]? = some o∧o.isCells=false:=fun r e=>(hr' r e).2
 exact⟨⟨vs,hvl,hm.row.kept hg hr,hm.done.kept hg hr,hm.bel.grown hg hm.bel.size (fun k hk=>by have:=(hr' k hk).1; omega),hm.lo,hm.hi,Nat.le_trans hm.size hg.size⟩,
  hx.aj8.kept hg hr,hx.aji.kept hg hr,hx.ahM.kept hg hr⟩
theorem RawRowsAt.kept {row:Option Nat} (h:RawRowsAt wr F v ls) (hg:wr.grownBy w' row) (hr:∀ r,row=some r→∃ o:Obj,wr.heap[r]? = some o∧o.isCells=false):RawRowsAt w' F v ls:=by
 obtain⟨A,c,rfl,hc,hx⟩:=h;refine⟨A,c,rfl,hc,fun h0=>?_⟩;obtain⟨b,o,rfl,hF,hb,hx⟩:=hx h0;refine⟨b,o,rfl,hF,Nat.lt_of_lt_of_le hb hg.size,fun k x hk=>?_⟩;obtain⟨u,hu,h⟩:=hx k x hk;exact⟨u,cell_kept hu hg hr,h.kept hg hr⟩
structure BP (F:Foot) (w:World) (vu vm:Value) (bo n ob B1 B2 fb:Nat) (vs:List Value) (ls:List (List Raw)) (x:Rat) (A:Option Addr) (c:Nat) (B:Option Addr) (d:Nat) (W:World) (u v:Value) (L:List RV) (wr:World):Prop where
 made:Mk F w bo 96 114 n B1 B2 vs ls u v L wr
 box:Dv w vu vm bo n ob wr
 abox:Row wr fb 114 [.bool (au x).neg,.slice A (au x).num.length c,.slice B (au x).den.length d]
 above:NmV wr (GdF F w B1 B2) (.agg #[.bool (au x).neg,.slice A (au x).num.length c,.slice B (au x).den.length d]) x
 keeps:KeepsFrom B1 W wr
 low:Below w.heap.size W wr
 lt1:w.heap.size+1 < B1
 lt2:ob < B1
 ne:ob≠bo∧bo≠w.heap.size∧bo≠w.heap.size+1
 fbl:B1≤fb∧fb < B2
theorem BP.below (h:BP F w vu vm bo n ob B1 B2 fb vs ls x A c B d W u v L wr) (hb:Below wr.heap.size wr w'):BP F w vu vm bo n ob B1 B2 fb vs ls x A c B d W u v L w' :=
 ⟨h.made.below hb,h.box.below hb,h.abox.below hb h.abox.lt,h.above.below hb,h.keeps.trans (jV hb _),h.low.trans (hb.mono h.made.bel.size),h.lt1,h.lt2,h.ne,h.fbl⟩
theorem BP.size (h:BP F w vu vm bo n ob B1 B2 fb vs ls x A c B d W u v L wr):B2≤wr.heap.size:=h.made.size
theorem BP.own (h:BP F w vu vm bo n ob B1 B2 fb vs ls x A c B d W u v L wr):OwnSl ratK wr B2 114 (GoF F w B1) v L:=h.made.own
theorem BP.cell (h:BP F w vu vm bo n ob B1 B2 fb vs ls x A c B d W u v L wr) {k:Nat} (hk:vs.length=k):wr.cell? ⟨bo,k,none⟩=some u:=h.made.cell hk
theorem BP.frozen (h:BP F w vu vm bo n ob B1 B2 fb vs ls x A c B d W u v L wr) (k:Nat):wr.frozen? ⟨bo,k,none⟩=false:=h.made.frozen k
theorem BP.grow {v':Value} {L':List RV} (h:BP F w vu vm bo n ob B1 B2 fb vs ls x A c B d W u v L wr) (ho:OwnSl ratK w' B2 114 (GoF F w B1) v' L') (hs:Same (fun b=>v.ownBlock≠some b) wr w') (hb:Below B2 wr w'):BP F w vu vm bo n ob B1 B2 fb vs ls x A c B d W u v' L' w':=by
 have hlt:=fun b (e:v.ownBlock=some b)=>(h.made.own.row.lt b e).1
 have h1:=h.made.lo;have h2:=h.made.hi;have h3:=h.made.mid;have h4:=h.lt1;have h5:=h.lt2;have h6:=h.fbl;refine⟨h.made.grow ho hs hb,h.box.same (hs.mono fun b hb' e=>by have:=hlt b e; omega),h.abox.of_block (hs.2 fb (fun e=>by have:=hlt fb e; omega) h.abox.lt),Ak.keep h.above (fun _ h _=>h) (hs.mono fun b hb' e=>?_),h.keeps.trans ⟨hs.size,fun k o hk ho' hc=>?_⟩,h.low.trans (hb.mono byOmega),h.lt1,h.lt2,h.ne,h.fbl⟩
 ·have:=hlt b e;rcases hb' with hb' | hb' <;> omega
 ·have hkl:=(Array.getElem?_eq_some_iff.1 ho').1;by_cases e:v.ownBlock=some k
  ·exfalso
   rcases h.made.own.row.2 with⟨rfl,_⟩ | ⟨g,cap,cur,rfl,_,hg,_⟩
   ·cases e
   ·have e:some g=some k:=e;cases e;rw[hg] at ho';cases ho';cases hc
  ·exact(hs.2 k e hkl).trans ho'
theorem BP.put (h:BP F w vu vm bo n ob B1 B2 fb vs ls x A c B d W u v L wr) {k:Nat} (hk:vs.length=k):BP F w vu vm bo n ob B1 B2 fb vs ls x A c B d W v v L (wr.setCell ⟨bo,k,none⟩ v):=by
 have h1:=h.made.lo;have h2:=h.made.hi;have h3:=h.made.mid;have h6:=h.fbl;refine zbF ?_;intro hS;refine⟨h.made.put hk,h.box.same (hS _ fun b hb=>?_),h.abox.of_block ((hS (fun b=>b=fb) fun b hb=>by omega).2 fb rfl h.abox.lt),Ak.keep h.above (fun _ h _=>h) (hS _ fun b hb=>?_),h.keeps.trans ((KeepsOthers.setCell _ _ _).from _),h.low.setCell (p:=⟨bo,k,none⟩) h1 _,h.lt1,h.lt2,h.ne,h.fbl⟩
 ·have:=h.ne;rcases hb with hb | hb | hb <;> omega
 ·rcases hb with hb | hb <;> omega
end
theorem af8 {F:Foot} {w W:World} {up:List (Int×Int)} {m:List (List Rat)} {bo n B1 k:Nat} {vs:List Value} (hm:MkO F w bo 96 n B1 vs ((bT up m k).map (List.map au)) W) (hvl:vs.length=k) (hkn:k≤n) (s:Int×Int) (hs:s.1 < 0∨(0≤s.1∧s.1 < (k:Int)∧0≤s.2∧s.2 < ((m.getD s.1.toNat []).length:Int))) :
  Calls Tryz.prog 71 #[.slice (some ⟨bo,0,none⟩) n n,.agg #[.int .i64 s.1,.int .i64 s.2]] W (Ret W fun u w'=>NmV w' (GoF F w B1) u (fF (bT up m k) s)):=by
 by_cases h0:s.1 < 0
 ·exact zaE
 ·obtain⟨h1,h2,h3,h4⟩:=hs.resolve_left h0;obtain⟨i,hi⟩:∃ i:Nat,s.1=(i:Int):=⟨s.1.toNat,byOmega⟩;obtain⟨j,hj⟩:∃ j:Nat,s.2=(j:Int):=⟨s.2.toNat,byOmega⟩;obtain⟨s1,s2⟩:=s;simp only at hi hj h0 h1 h2 h3 h4;subst hi;subst hj;rw[Int.toNat_natCast] at h4;have hik:i < k:=byOmega;obtain⟨vr,hvr⟩:=getSome (l:=vs) (k:=i) byOmega;obtain⟨row,hrow⟩:=getSome (l:=bT up m k) (k:=i) (by rw[bV]; exact hik);have hrd:(bT up m k).getD i []=row:=by rw[List.getD_eq_getElem?_getD,hrow];rfl
  have hrl:row.length=(m.getD i []).length:=by rw[← hrd,iK hik,List.length_map]
  obtain⟨x,hx⟩:=getSome (l:=row) (k:=j) byOmega;have hra:=hm.done.2 i vr (row.map au) hvr (by rw[List.getElem?_map,hrow]; rfl);exact Yl
def Fact.box (B:Nat) (t:TypeId) (cs:List Value):Fact:=⟨fun v w=>∃ b,v = .pointer (some ⟨b,0,none⟩)∧B≤b∧Row w b t cs,fun _ _ _ ⟨b,e,h,r⟩ hb=>⟨b,e,h,r.below hb r.lt⟩⟩
theorem ajj {w:World} {b:Nat} {t:TypeId} {z0 z1 z2:Value} (h:Row w b t [z0,z1,z2]) (a0 a1 a2:Value):∃ W,W=((w.setCell ⟨b,0,none⟩ a0).setCell ⟨b,1,none⟩ a1).setCell ⟨b,2,none⟩ a2∧Row W b t [a0,a1,a2]∧Wrote (fun k=>k=b) w W:=by
 refine⟨_,rfl,((h.set 0 a0).set 1 a1).set 2 a2,?_⟩;have h0:Wrote (fun k=>k=b) w w:=Wrote.refl _ _;exact((h0.setCell (p:=⟨b,0,none⟩) (.inl rfl) a0).setCell (p:=⟨b,1,none⟩) (.inl rfl) a1).setCell (p:=⟨b,2,none⟩) (.inl rfl) a2
theorem Aj.ajk {w:World} {F:Foot} {v:Value} {l:List Nat} {fb:Nat} {t:TypeId} {b0:Bool} {a1 a2:Option Addr} {n1 n2 c1 c2:Nat} (h:Aj w F v l) (hr:Row w fb t [.bool b0,.slice a1 n1 c1,.slice a2 n2 c2]):Aj w (fun b=>F b∧b≠fb) v l:=by
 obtain⟨A,c,rfl,hc,hx⟩:=h;refine⟨A,c,rfl,hc,fun h0=>?_⟩;obtain⟨b,o,rfl,hF,hb,hx⟩:=hx h0;refine⟨b,o,rfl,⟨hF,?_⟩,hb,hx⟩;rintro rfl;obtain⟨y,hy⟩:=getSome (l:=l) (k:=0) h0;have h1:=hx 0 y hy;have hr':w.heap[b]? = some (.cells #[.bool b0,.slice a1 n1 c1,.slice a2 n2 c2] t):=hr;rcases o with _ | _ | _ | o <;> simp[World.cell?,hr',dB] at h1
end Go.Proofs.YtnmeejofpkhlkaaGreatDoor
