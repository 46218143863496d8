/- plan.forth: what holds between its rounds, and within one. -/
import Derived.Test.YthmklhapjegfdaaGreatDoorX34
import Derived.Test.YthmklhapjegfdaaGreatDoorX31
set_option linter.all false
set_option maxRecDepth 100000
set_option maxHeartbeats 12800000
namespace Go.Proofs.YthmklhapjegfdaaGreatDoor
open Lib renaming hid → Ag
open Go.RowKit Go.Shelf
theorem qW {up:List (Int×Int)} {m:List (List Rat)} (hf:Cc up m) (hm:∀ l∈m,∀ x∈l,rl x≤4):∀ (k:Nat),k≤m.length→∀ s:Int×Int,(s.1 < 0∨s.1 < (k:Int))→rl (gX (eU up m k) s)≤1+4*k:=by
 intro k;induction k using Nat.strongRecOn with
 | _ k ih =>
  intro hk s hs;unfold gX;by_cases h0:s.1 < 0
  ·rw[if_pos h0,nM];omega
  ·rw[if_neg h0,iF byOmega,yC];obtain⟨t,ht⟩:=aB (l:=up) (k:=s.1.toNat) (by rw[hf.len]; omega);have htd:up.getD s.1.toNat (-1,-1)=t:=by rw[List.getD_eq_getElem?_getD,ht];rfl
   rw[htd];have h1:=ih s.1.toNat byOmega byOmega t (by have:=hf.ok _ _ ht; omega);have h2:=nK (gX (eU up m s.1.toNat) t) ((m.getD s.1.toNat []).getD s.2.toNat 0);have h3:rl ((m.getD s.1.toNat []).getD s.2.toNat 0)≤4:=by
    rw[List.getD_eq_getElem?_getD];cases e:(m.getD s.1.toNat [])[s.2.toNat]? with
    | none=>show rl 0≤4; rw[uy]; omega
    | some x =>
     refine hm (m.getD s.1.toNat []) ?_ x (List.mem_of_getElem? e);rw[List.getD_eq_getElem?_getD] at e ⊢;cases e2:m[s.1.toNat]? with
     | none=>rw[e2] at e; simp at e
     | some l=>exact List.mem_of_getElem? e2
   omega
section
variable {F:Aj} {w W wr w':World} {vu vm:Value} {bo ob n B1 B2 fb:Nat} {vs:List Value} {ls:List (List Raw)} {u v:Value} {L:List RV} {x:Rat} {A B:Option Addr} {c d:Nat}
structure Dl (w:World) (vu vm:Value) (bo n ob:Nat) (wr:World):Prop where
 pF:Row wr w.heap.size 41 [vu]
 ai2:Row wr (w.heap.size+1) 28 [vm]
 ahC:Row wr ob 114 [.slice (some ⟨bo,0,none⟩) n n]
theorem Dl.same (h:Dl w vu vm bo n ob wr) (hs:Same (fun b=>b=w.heap.size∨b=w.heap.size+1∨b=ob) wr w'):Dl w vu vm bo n ob w' :=
 ⟨h.pF.of_block (hs.2 _ (.inl rfl) h.pF.lt),h.ai2.of_block (hs.2 _ (.inr (.inl rfl)) h.ai2.lt),h.ahC.of_block (hs.2 _ (.inr (.inr rfl)) h.ahC.lt)⟩
theorem Dl.below (h:Dl w vu vm bo n ob wr) (hb:Below wr.heap.size wr w'):Dl w vu vm bo n ob w':=h.same (Below.same' hb _)
def DU (F:Aj) (w:World) (up:List (Int×Int)) (m:List (List Rat)) (vu vm:Value) (bo n ob B1:Nat) (k:Nat) (wr:World):Prop :=
 (∃ vs,vs.length=k∧MkO F w bo 110 n B1 vs ((eU up m k).map (List.map ak)) wr)∧Dl w vu vm bo n ob wr
theorem AV.kept {F:Aj} {row:Option Nat} (h:AV wr F vs ls) (hg:wr.grownBy w' row) (hr:∀ r,row=some r→∃ o:Obj,wr.heap[r]? = some o∧o.isCells=false):AV w' F vs ls :=
 ⟨h.1,fun i v l hv hl=>(h.2 i v l hv hl).kept hg hr⟩
theorem DU.own {up:List (Int×Int)} {m:List (List Rat)} {B:Nat} (hB:w.heap.size≤B):OwnFrom B (fun k W=>DU F w up m vu vm bo n ob B1 k W):=by
 rintro k X Y row ⟨⟨vs,hvl,hm⟩,hx⟩ hg hr';have hr:∀ r,row=some r→∃ o:Obj,X.heap[r]? = some o∧o.isCells=false:=fun r e=>(hr' r e).2
 exact⟨⟨vs,hvl,hm.row.kept hg hr,hm.done.kept hg hr,hm.bel.grown hg hm.bel.size (fun k hk=>by have:=(hr' k hk).1; omega),hm.lo,hm.hi,Nat.le_trans hm.size hg.size⟩,
  hx.pF.kept hg hr,hx.ai2.kept hg hr,hx.ahC.kept hg hr⟩
theorem Ah.kept {row:Option Nat} (h:Ah wr F v ls) (hg:wr.grownBy w' row) (hr:∀ r,row=some r→∃ o:Obj,wr.heap[r]? = some o∧o.isCells=false):Ah w' F v ls:=by
 obtain⟨A,c,rfl,hc,hx⟩:=h;refine⟨A,c,rfl,hc,fun h0=>?_⟩;obtain⟨b,o,rfl,hF,hb,hx⟩:=hx h0;refine⟨b,o,rfl,hF,Nat.lt_of_lt_of_le hb hg.size,fun k x hk=>?_⟩;obtain⟨u,hu,h⟩:=hx k x hk;exact⟨u,cell_kept hu hg hr,h.kept hg hr⟩
structure BQ (F:Aj) (w:World) (vu vm:Value) (bo n ob B1 B2 fb:Nat) (vs:List Value) (ls:List (List Raw)) (x:Rat) (A:Option Addr) (c:Nat) (B:Option Addr) (d:Nat) (W:World) (u v:Value) (L:List RV) (wr:World):Prop where
 made:Mk F w bo 110 118 n B1 B2 vs ls u v L wr
 box:Dl w vu vm bo n ob wr
 abox:Row wr fb 118 [.bool (ak x).neg,.slice A (ak x).num.length c,.slice B (ak x).den.length d]
 above:NmV wr (GdF F w B1 B2) (.agg #[.bool (ak x).neg,.slice A (ak x).num.length c,.slice B (ak x).den.length d]) x
 keeps:KeepsFrom B1 W wr
 low:Below w.heap.size W wr
 lt1:w.heap.size+1 < B1
 lt2:ob < B1
 ne:ob≠bo∧bo≠w.heap.size∧bo≠w.heap.size+1
 fbl:B1≤fb∧fb < B2
theorem BQ.below (h:BQ F w vu vm bo n ob B1 B2 fb vs ls x A c B d W u v L wr) (hb:Below wr.heap.size wr w'):BQ F w vu vm bo n ob B1 B2 fb vs ls x A c B d W u v L w' :=
 ⟨h.made.below hb,h.box.below hb,h.abox.below hb h.abox.lt,h.above.below hb,h.keeps.trans (jY hb _),h.low.trans (hb.mono h.made.bel.size),h.lt1,h.lt2,h.ne,h.fbl⟩
theorem BQ.size (h:BQ F w vu vm bo n ob B1 B2 fb vs ls x A c B d W u v L wr):B2≤wr.heap.size:=h.made.size
theorem BQ.own (h:BQ F w vu vm bo n ob B1 B2 fb vs ls x A c B d W u v L wr):AP o9 wr B2 118 (GoF F w B1) v L:=h.made.own
theorem BQ.cell (h:BQ F w vu vm bo n ob B1 B2 fb vs ls x A c B d W u v L wr) {k:Nat} (hk:vs.length=k):wr.cell? ⟨bo,k,none⟩=some u:=h.made.cell hk
theorem BQ.frozen (h:BQ F w vu vm bo n ob B1 B2 fb vs ls x A c B d W u v L wr) (k:Nat):wr.frozen? ⟨bo,k,none⟩=false:=h.made.frozen k
theorem BQ.grow {v':Value} {L':List RV} (h:BQ F w vu vm bo n ob B1 B2 fb vs ls x A c B d W u v L wr) (ho:AP o9 w' B2 118 (GoF F w B1) v' L') (hs:Same (fun b=>v.ownBlock≠some b) wr w') (hb:Below B2 wr w'):BQ F w vu vm bo n ob B1 B2 fb vs ls x A c B d W u v' L' w':=by
 have hlt:=fun b (e:v.ownBlock=some b)=>(h.made.own.row.lt b e).1
 have h1:=h.made.lo;have h2:=h.made.hi;have h3:=h.made.mid;have h4:=h.lt1;have h5:=h.lt2;have h6:=h.fbl;refine⟨h.made.grow ho hs hb,h.box.same (hs.mono fun b hb' e=>by have:=hlt b e; omega),h.abox.of_block (hs.2 fb (fun e=>by have:=hlt fb e; omega) h.abox.lt),AA.keep h.above (fun _ h _=>h) (hs.mono fun b hb' e=>?_),h.keeps.trans ⟨hs.size,fun k o hk ho' hc=>?_⟩,h.low.trans (hb.mono byOmega),h.lt1,h.lt2,h.ne,h.fbl⟩
 ·have:=hlt b e;rcases hb' with hb' | hb' <;> omega
 ·have hkl:=(Array.getElem?_eq_some_iff.1 ho').1;by_cases e:v.ownBlock=some k
  ·exfalso
   rcases h.made.own.row.2 with⟨rfl,_⟩ | ⟨g,cap,cur,rfl,_,hg,_⟩
   ·cases e
   ·have e:some g=some k:=e;cases e;rw[hg] at ho';cases ho';cases hc
  ·exact(hs.2 k e hkl).trans ho'
theorem BQ.put (h:BQ F w vu vm bo n ob B1 B2 fb vs ls x A c B d W u v L wr) {k:Nat} (hk:vs.length=k):BQ F w vu vm bo n ob B1 B2 fb vs ls x A c B d W v v L (wr.setCell ⟨bo,k,none⟩ v):=by
 have h1:=h.made.lo;have h2:=h.made.hi;have h3:=h.made.mid;have h6:=h.fbl;refine zcQ ?_;intro hS;refine⟨h.made.put hk,h.box.same (hS _ fun b hb=>?_),h.abox.of_block ((hS (fun b=>b=fb) fun b hb=>by omega).2 fb rfl h.abox.lt),AA.keep h.above (fun _ h _=>h) (hS _ fun b hb=>?_),h.keeps.trans ((KeepsOthers.setCell _ _ _).from _),h.low.setCell (p:=⟨bo,k,none⟩) h1 _,h.lt1,h.lt2,h.ne,h.fbl⟩
 ·have:=h.ne;rcases hb with hb | hb | hb <;> omega
 ·rcases hb with hb | hb <;> omega
end
theorem afT {F:Aj} {w W:World} {up:List (Int×Int)} {m:List (List Rat)} {bo n B1 k:Nat} {vs:List Value} (hm:MkO F w bo 110 n B1 vs ((eU up m k).map (List.map ak)) W) (hvl:vs.length=k) (hkn:k≤n) (s:Int×Int) (hs:s.1 < 0∨(0≤s.1∧s.1 < (k:Int)∧0≤s.2∧s.2 < ((m.getD s.1.toNat []).length:Int))) :
  Calls Tryz.prog 116 #[.slice (some ⟨bo,0,none⟩) n n,.agg #[.int .i64 s.1,.int .i64 s.2]] W (Ret W fun u w'=>NmV w' (GoF F w B1) u (gX (eU up m k) s)):=by
 by_cases h0:s.1 < 0
 ·exact zbn
 ·obtain⟨h1,h2,h3,h4⟩:=hs.resolve_left h0;obtain⟨i,hi⟩:∃ i:Nat,s.1=(i:Int):=⟨s.1.toNat,byOmega⟩;obtain⟨j,hj⟩:∃ j:Nat,s.2=(j:Int):=⟨s.2.toNat,byOmega⟩;obtain⟨s1,s2⟩:=s;simp only at hi hj h0 h1 h2 h3 h4;subst hi;subst hj;rw[Int.toNat_natCast] at h4;have hik:i < k:=byOmega;obtain⟨vr,hvr⟩:=aB (l:=vs) (k:=i) byOmega;obtain⟨row,hrow⟩:=aB (l:=eU up m k) (k:=i) (by rw[dW]; exact hik);have hrd:(eU up m k).getD i []=row:=by rw[List.getD_eq_getElem?_getD,hrow];rfl
  have hrl:row.length=(m.getD i []).length:=by rw[← hrd,iF hik,List.length_map]
  obtain⟨x,hx⟩:=aB (l:=row) (k:=j) byOmega;have hra:=hm.done.2 i vr (row.map ak) hvr (by rw[List.getElem?_map,hrow]; rfl);exact YJ
def Fact.box (B:Nat) (t:TypeId) (cs:List Value):Fact:=⟨fun v w=>∃ b,v = .pointer (some ⟨b,0,none⟩)∧B≤b∧Row w b t cs,fun _ _ _ ⟨b,e,h,r⟩ hb=>⟨b,e,h,r.below hb r.lt⟩⟩
theorem aj8 {w:World} {b:Nat} {t:TypeId} {z0 z1 z2:Value} (h:Row w b t [z0,z1,z2]) (a0 a1 a2:Value):∃ W,W=((w.setCell ⟨b,0,none⟩ a0).setCell ⟨b,1,none⟩ a1).setCell ⟨b,2,none⟩ a2∧Row W b t [a0,a1,a2]∧Wrote (fun k=>k=b) w W:=by
 refine⟨_,rfl,((h.set 0 a0).set 1 a1).set 2 a2,?_⟩;have h0:Wrote (fun k=>k=b) w w:=Wrote.refl _ _;exact((h0.setCell (p:=⟨b,0,none⟩) (.inl rfl) a0).setCell (p:=⟨b,1,none⟩) (.inl rfl) a1).setCell (p:=⟨b,2,none⟩) (.inl rfl) a2
theorem AB.yZ {w:World} {F:Aj} {v:Value} {l:List Nat} {fb:Nat} {t:TypeId} {b0:Bool} {a1 a2:Option Addr} {n1 n2 c1 c2:Nat} (h:AB w F v l) (hr:Row w fb t [.bool b0,.slice a1 n1 c1,.slice a2 n2 c2]):AB w (fun b=>F b∧b≠fb) v l:=by
 obtain⟨A,c,rfl,hc,hx⟩:=h;refine⟨A,c,rfl,hc,fun h0=>?_⟩;obtain⟨b,o,rfl,hF,hb,hx⟩:=hx h0;refine⟨b,o,rfl,⟨hF,?_⟩,hb,hx⟩;rintro rfl;obtain⟨y,hy⟩:=aB (l:=l) (k:=0) h0;have h1:=hx 0 y hy;have hr':w.heap[b]? = some (.cells #[.bool b0,.slice a1 n1 c1,.slice a2 n2 c2] t):=hr;rcases o with _ | _ | _ | o <;> simp[World.cell?,hr',dw] at h1
open List renaming getElem_toArray → lq1, getElem_cons_zero → lq2, getElem_cons_succ → lq3, setIfInBounds_toArray → lq4, set_cons_zero → lq5, set_cons_succ → lq6
open Go.RowKit
theorem afU {up:List (Int×Int)} {m:List (List Rat)} {f:Nat} {s:Int×Int} {acc:Rat} (h:s.1 < 0):nO up m f s acc=acc:=by
 cases f with
 | zero=>rfl
 | succ f=>unfold nO; rw[if_pos h]
theorem aeG {up:List (Int×Int)} {m:List (List Rat)} {f:Nat} {s:Int×Int} {acc:Rat} (h:¬ s.1 < 0):nO up m (f+1) s acc=nO up m f (up.getD s.1.toNat (-1,-1)) (acc*(m.getD s.1.toNat []).getD s.2.toNat 0):=by
 conv=>lhs; unfold nO
 rw[if_neg h]
def seqM (v:Value) (w:World):Nat:=match v with
 | .pointer (some a)=>(match w.cell? a with | some (.int _ x)=>(x+1).toNat | _=>0)
 | _=>0
theorem agq {w:World} {b:Nat} {x:Int} (h:w.cell? ⟨b,0,none⟩=some (.int .i64 x)):seqM (.pointer (some ⟨b,0,none⟩)) w=(x+1).toNat:=by
 show(match w.cell? ⟨b,0,none⟩ with | some (.int _ x)=>(x+1).toNat | _=>0)=_;rw[h]
theorem ahD {up:List (Int×Int)} {m:List (List Rat)} {k:Nat} (h:k < m.length):(ofL up m)[k]? = some (ofRow up m k):=by
 unfold ofL;rw[List.getElem?_map,List.getElem?_range h];rfl
structure EF (F:Aj) (w wa W3:World) (up:List (Int×Int)) (m:List (List Rat)) (n ub:Nat) (target:Rat) (f:Nat) (s:Int×Int) (acc:Rat) (qb:Nat) (A:Option Addr) (c:Nat) (B:Option Addr) (d:Nat) (wr:World):Prop where
 lt:ub < qb
 ajN:Row wr qb 89 [.int .i64 s.1,.int .i64 s.2]
 pF:Row wr ub 83 [.bool (au acc).neg,.slice A (au acc).num.length c,.slice B (au acc).den.length d]
 fine:(⟨au acc,.slice A (au acc).num.length c,.slice B (au acc).den.length d⟩:RV).fine wr (fun b=>(Old F w.heap.size b∨wa.heap.size≤b)∧b≠ub)
 prod:nO up m f s acc=target
 ok:s.1 < 0∨(0≤s.1∧s.1 < (f:Int)∧s.1 < (n:Int)∧0≤s.2∧s.2 < ((m.getD s.1.toNat []).length:Int))
 len:rl acc≤1+4*(n+1 - f)
 fl:f≤n+1
 bel:Below ub W3 wr
theorem AA.ai3 {w:World} {F:Aj} {r:Raw} {vn vd:Value} (h:AA w F (.agg #[.bool r.neg,vn,vd]) r):(⟨r,vn,vd⟩:RV).fine w F:=by
 obtain⟨vn',vd',e,h1,h2⟩:=h;simp only[Value.agg.injEq,Array.mk.injEq,List.cons.injEq,and_true,true_and] at e;obtain⟨rfl,rfl⟩:=e;exact⟨h1,h2⟩
theorem AO.at2 {w:World} {F:Aj} {b o n c:Nat} {l:List (Int×Int)} (h:AO w F (.slice (some ⟨b,o,none⟩) n c) l) {k:Nat} {s:Int×Int} (hk:l[k]? = some s):w.cell? ⟨b,o+k*2,none⟩=some (.int .i64 s.1)∧w.cell? ⟨b,o+k*2+1,none⟩=some (.int .i64 s.2):=by
 obtain⟨A,c',e,_,hx⟩:=h;obtain⟨b',o',hA,_,_,hc⟩:=hx (by have:=aK hk; omega);simp only[Value.slice.injEq] at e;obtain⟨e1,_,_⟩:=e;rw[hA] at e1;cases e1;exact hc k s hk
theorem akO {w:World} {b:Nat} {t:TypeId} {z0 z1:Value} (h:Row w b t [z0,z1]) (a0 a1:Value):∃ W,W=(w.setCell ⟨b,0,none⟩ a0).setCell ⟨b,1,none⟩ a1∧Row W b t [a0,a1]∧Wrote (fun k=>k=b) w W:=by
 exact za7
theorem ai4 {w:World} {b:Nat} {z0 z1 z2:Value} (h:Row w b 83 [z0,z1,z2]) (a0 a1 a2:Value):∃ W,W=((w.setCell ⟨b,0,none⟩ a0).setCell ⟨b,1,none⟩ a1).setCell ⟨b,2,none⟩ a2∧Row W b 83 [a0,a1,a2]∧Wrote (fun k=>k=b) w W:=aj8 h a0 a1 a2
theorem agr (w:World) (F:Aj) (vg vu vm:Value) (g:Gm) (up:List (Int×Int)) (m:List (List Rat)) (hg:AU w F vg g) (hu:AO w F vu up) (hm:BD w F vm m) (hf:Cc up m) (hrl:∀ l∈m,∀ x∈l,rl x≤4) (hml:m.length≤100) (hll:∀ l∈m,l.length≤1000) :
  Calls Tryz.prog 108 #[vg,vu,vm] w (Ret w fun u w'=>BD w' (Ext F w.heap.size) u (ofL up m)):=by
 have HU:=Ag hu;have HM:=Ag hm;have HF:=Ag hf;have HRL:=Ag hrl;have HLL:=Ag hll;obtain⟨vn,vi,rfl,⟨A,c,rfl,-,-⟩,⟨Ai,ci,rfl,-,-⟩⟩:=hg;obtain⟨n,hn⟩:=named m.length;obtain⟨Au,cu,e⟩:=hu.open;rw[show up.length=n by rw[hf.len,hn]] at e;subst e;obtain⟨Am,cm,e,-,-⟩:=hm;rw[List.length_map,← hn] at e;subst e;have HN:=Ag hn;have HUN:=Ag (show up.length=n by rw[hf.len,hn]);have hn100:n≤100:=byOmega;clear hf hrl hll hu hml hn;go_in
 go_upto_region 1 with(fail)
 refine Zz ?_;intro W hW rx hB hz;have HB:=Ag hB;have hWz:=hB.size;clear hW hz rx hB;go_wp2_with fail
 go_loopw [7,8] (fun ov iv wr=>∃ (k:Nat) (L:List (Value×List Raw)),k≤n∧iv = .int .i64 (k:Int)∧L.length=k∧L.map Prod.snd=((ofL up m).take k).map (List.map au)∧AP tq wr W.heap.size 64 (Ext F w.heap.size) ov L∧Below W.heap.size W wr) (fun _ iv _=>n - (intOf iv).toNat)
 case atStart=>exact⟨0,[],byOmega,rfl,rfl,rfl,AP.nil _ _ _ _ _,Below.refl _ _⟩
 case round =>
  obtain⟨k,L,hk,rfl,hLl,hLm,hown,hbel⟩:=hrel;obtain⟨wa,rfl⟩:=named wr;have CX:=Ag hLl;have HLM:=Ag hLm;have HO:=Ag hown;have hbz:=hbel.size;clear hLl hLm hown;by_cases hlt:k < n
  ·obtain⟨s,hs⟩:=aB (l:=up) (k:=k) (by rw[HUN.out]; exact hlt);obtain⟨row,hrow⟩:=aB (l:=m) (k:=k) (by rw[← HN.out]; exact hlt);have HSU:=Ag hs;have AX:=Ag hrow;have hsok:=HF.out.ok k s hs;clear hs hrow;go_wp2_with fail
   refine(oP wa 1 ay ay).mono ?_;rintro e w2 ⟨u1,rfl,hb,hu⟩;obtain⟨one,hone⟩:∃ y:Rat,y=((1:Int):Rat):=⟨_,rfl⟩;rw[← hone] at hu;have BA:=Ag (show one=1 by rw[hone]; rfl);obtain⟨A1,c1,B1,d1,rfl,hf1⟩:=AA.opened hu;have hb2:=hb;clear hu hone hb;dsimp only;go_upto_region 6 with(fail)
   obtain⟨W3,hW3,r3,hb,hz3⟩:=aN w2 83 #[.bool (au one).neg,.slice A1 (au one).num.length c1,.slice B1 (au one).den.length d1];rw[← hW3];obtain⟨ub,hub⟩:=named w2.heap.size;have hf3:RV.fine W3 (fun b=>(Old F w.heap.size b∨wa.heap.size≤b)∧b≠ub) ⟨au one,.slice A1 (au one).num.length c1,.slice B1 (au one).den.length d1⟩:=RV.fine.keep hf1 (fun b hb hl=>⟨.inr hb,byOmega⟩) (Below.same' hb _);rw[← hub] at r3 ⊢;have hb3:=hb2.trans (hb.mono hb2.size);have akw:wa.heap.size≤ub:=by have:=hb2.size;omega
   have hub3:ub < W3.heap.size:=byOmega;clear hf1 hb2 hb hz3 hub hW3;obtain⟨target,htg⟩:=named (nO up m (n+1) s 1);have HTG:=Ag htg;have hB3:=HB.out.trans ((hbel.trans (hb3.mono hbz)).mono hWz);have hui:=HU.out.on (Below.same' hB3 F);obtain⟨A',c',e,_,hxu⟩:=hui;injection e with e1 e2 e3
   subst e1;obtain⟨pb,po,rfl,_,_,hcu⟩:=hxu (by rw[HUN.out]; omega);obtain⟨p0,p1⟩:=hcu k s HSU.out;have hsd:up.getD k (-1,-1)=s:=by rw[List.getD_eq_getElem?_getD,HSU.out];rfl
   have HSD:=Ag hsd;obtain⟨s1,s2⟩:=s;dsimp only at p0 p1;clear e2 e3 hxu hcu htg hsd;go_upto_region 7 with(fail)
   obtain⟨W4,hW4,r4,hb,hz4⟩:=aN W3 89 #[.int .i64 s1,.int .i64 s2];rw[← hW4];obtain⟨qb,hqb⟩:=named W3.heap.size;have hst:EF F w wa W3 up m n ub target (n+1) (s1,s2) one qb A1 c1 B1 d1 W4:=⟨byOmega,by rw[hqb]; exact r4,r3.below hb r3.lt,RV.fine.below hf3 hb,by rw[HTG.out,BA.out],by
    rcases hsok with h | ⟨h1,h2,h3,h4⟩
    ·exact .inl h
    ·exact .inr ⟨h1,byOmega,byOmega,h3,h4⟩,by rw[BA.out,nM]; omega,Nat.le_refl _,hb.mono byOmega⟩
   rw[← hqb];have HST:=Ag hst;clear hst hb hz4 hqb hW4 r4 r3 hf3 p0 p1 hsok;go_loopw [10] (fun pv wr=>∃ (f:Nat) (s':Int×Int) (acc:Rat) (qb:Nat) (A:Option Addr) (c:Nat) (B:Option Addr) (d:Nat),pv = .pointer (some ⟨qb,0,none⟩)∧EF F w wa W3 up m n ub target f s' acc qb A c B d wr) (fun pv wr=>seqM pv wr)
   case atStart=>exact⟨_,_,_,_,_,_,_,_,rfl,HST.out⟩
   case round =>
    clear HST;obtain⟨f,⟨s1',s2'⟩,acc,qb',A2,c2,B2,d2,rfl,hst⟩:=hrel;obtain⟨wb,rfl⟩:=named wr;have HST:=Ag hst;have q0:=hst.ajN.cell (i:=0) rfl;have q1:=hst.ajN.cell (i:=1) rfl;clear hst;by_cases h0:s1' < 0
    ·have d0:decide (0≤s1')=false:=decide_eq_false byOmega;have HPR:=Ag (show acc=target by rw[← HST.out.prod]; exact(afU h0).symm);clear h0;have HUB:=Ag HST.out.pF;have HFV:=Ag (show RtV wb (fun b=>(Old F w.heap.size b∨wa.heap.size≤b)∧b≠ub) (.agg #[.bool (au acc).neg,.slice A2 (au acc).num.length c2,.slice B2 (au acc).den.length d2]) acc from AA.make rfl HST.out.fine.1 HST.out.fine.2);have HLEN:=Ag (show rl acc≤20000 by have:=HST.out.len; omega);have hBu:=HST.out.bel;have abn:=hb3.trans (hBu.mono akw);have yF:=HST.out.pF.lt;have HTGT:=Ag (show ofRow up m k=row.map fun x=>acc*x by unfold ofRow; rw[HSD.out,← HN.out,← HTG.out,← HPR.out,List.getD_eq_getElem?_getD,AX.out]; rfl);have afV:=abn.size;have hr1000:=HLL.out row (List.mem_of_getElem? AX.out);clear HST;go_wp2_with fail
     clear q0 q1 d0;go_loopw [11,12] (fun lv iv wr=>∃ (j:Nat) (L2:List RV),j≤row.length∧iv = .int .i64 (j:Int)∧L2.length=j∧L2.map RV.r=((ofRow up m k).take j).map au∧AP o9 wr wb.heap.size 83 (fun b=>Old F w.heap.size b∨wa.heap.size≤b) lv L2∧Below wb.heap.size wb wr) (fun _ iv _=>row.length - (intOf iv).toNat)
     case atStart=>exact⟨0,[],Nat.zero_le _,rfl,rfl,rfl,AP.nil _ _ _ _ _,Below.refl _ _⟩
     case round =>
      obtain⟨j,L2,hj,rfl,hLl,hLm,hown,iR⟩:=hrel;obtain⟨wd,rfl⟩:=named wr;have Dn:=Ag hLl;have Dp:=Ag hLm;have HO3:=Ag hown;have Bl:=Ag (fun b (e:u11.ownBlock=some b)=>HO3.out.row.lt b e);have hBd:=(hB3.trans (hBu.mono (show w.heap.size≤ub by omega))).trans (iR.mono byOmega);have hdz:=iR.size;obtain⟨A',c',e,_,hxm⟩:=HM.out;rw[List.length_map,← HN.out] at e;injection e with e1 e2 e3
      subst e1;obtain⟨mb,mo,rfl,_,qV,hcm⟩:=hxm (by rw[List.length_map,← HN.out]; omega);obtain⟨vr,hvr,hra⟩:=hcm k (row.map au) (by rw[List.getElem?_map,AX.out]; rfl);refine zbh ?_;clear hvr;intro hvr nJ;obtain⟨Ar,cr,rfl,-,-⟩:=hra;rw[List.length_map] at hvr;rw[List.length_map] at nJ;have HRV:=Ag nJ;have m1:=(hBd.cell (p:=⟨mb,mo+k,none⟩) qV).trans hvr;clear hLl hLm hown e2 e3 hxm hcm hvr nJ;by_cases hjt:j < row.length
      ·obtain⟨x,hx⟩:=aB hjt;refine zdn ?_;intro HXL;obtain⟨rb,ro,rc,vn,vd,e,abo,aeH,y0,y1,y2,hn,hd⟩:=AL.at (HRV.out.on (Below.same' hBd _)) (show(row.map au)[j]? = some (au x) by rw[List.getElem?_map,hx]; rfl);injection e with e1 e2 e3
       subst e1;have HXV:=Ag (AA.mono (AA.make (r:=au x) rfl hn hd) (G:=fun b=>(Old F w.heap.size b∨wa.heap.size≤b)∧b < wb.heap.size) (fun b hb _=>⟨.inl hb,by have:=hb.2; omega⟩));obtain⟨An,cn,rfl,-,-⟩:=hn;obtain⟨Ad,cd,rfl,-,-⟩:=hd;have hrbw:=abo.2;have adf:=HUB.out.below iR yF;have u0:=adf.cell (i:=0) rfl;have u1:=adf.cell (i:=1) rfl;have u2:=adf.cell (i:=2) rfl;have HAV:=Ag (AA.keep (G:=fun b=>(Old F w.heap.size b∨wa.heap.size≤b)∧b < wb.heap.size) HFV.out (fun b hb hl=>⟨hb.1,hl⟩) (Below.same' iR _));have HOE:=Ag (show(ofRow up m k)[j]? = some (acc*x) by rw[HTGT.out,List.getElem?_map,hx]; rfl);have hjr:(j:Int) < row.length:=byOmega;have hBe:=Below.refl wd.heap.size wd;clear e2 e3 hx adf abo aeH;go_wp2_with fail
       refine Z4 ?_;intro hHeld hb;refine YA ?_;clear u0 u1 u2 m1 y0 y1 y2 HXV;intro u0 u1 u2 m1 y0 y1 y2 HXV;replace HAV:=Ag (AA.below HAV.out hb);refine zax ?_;clear HO3 hBe hb;intro HO3 hBe;generalize wd.drew=wn at *;refine tkm [0,1,2,3,4,5,6,7,8] ?_;refine tk2 9 aj rfl fun K hK=>?_
       go_simp;refine(pY wn _ _ _ acc x HAV.out HXV.out HLEN.out (by have:=HXL.out; omega)).mono ?_;rintro e wn ⟨vp,rfl,hb,hu⟩;obtain⟨pr,hpr⟩:=named (acc*x);rw[← hpr] at hu HOE;have hez:=hBe.size;obtain⟨A4,c4,B4,d4,rfl,hf4⟩:=hu.opened;have HF4:=Ag (RV.fine.keep (G:=fun b=>(Old F w.heap.size b∨wa.heap.size≤b)∧(b < wb.heap.size∨wd.heap.size≤b)) hf4 (fun b hb _=>hb.elim (fun h=>⟨h.1,.inl h.2⟩) fun h=>⟨.inr byOmega,.inr byOmega⟩) (Same.refl _ _));clear hu hpr hf4;refine YA ?_;clear u0 u1 u2 m1 y0 y1 y2 HXV;intro u0 u1 u2 m1 y0 y1 y2 HXV;replace HAV:=Ag (AA.below HAV.out hb);refine zax ?_;clear HO3 hBe hb;intro HO3 hBe;dsimp only;clear hHeld;refine hK.out _ _ ⟨u0,u1,u2,m1,y0,y1,y2⟩ (fun hHeld=>?_);clear hK K;refine Zb ?_;refine tk2 10 aj rfl fun K hK=>?_
       go_simp;refine YO ?_;clear hK K;intro hHeld K hK;have hez:=hBe.size;refine iw (K:=o9) (F:=fun b=>Old F w.heap.size b∨wa.heap.size≤b) rfl _ _ 64 83 56 _ Tryz.underlying64 Tryz.infoRat rfl ay rfl wb.heap.size (by omega:wb.heap.size≤wn.heap.size) u11 L2 rfl ⟨au pr,.slice A4 (au pr).num.length c4,.slice B4 (au pr).den.length d4⟩ _ rfl (by have:=Dn.out; omega) rfl HO3.out (RV.fine.keep HF4.out (fun b hb _=>⟨hb.1,fun e=>by have:=Bl.out b e; omega⟩) (Same.refl _ _)) (Below.refl _ _) ?_;intro gg cap w5 hown5 iU uT dQ;have HO5:=Ag hown5;have HB5:=Ag ((iR.trans (hBe.mono hdz)).trans iU);have u05:=(World.cell?_of_block (dQ.2 ub (fun e=>by have:=Bl.out ub e; omega) (World.block_lt_of_cell? _ _ u0))).trans u0;have u15:=(World.cell?_of_block (dQ.2 ub (fun e=>by have:=Bl.out ub e; omega) (World.block_lt_of_cell? _ _ u1))).trans u1;have u25:=(World.cell?_of_block (dQ.2 ub (fun e=>by have:=Bl.out ub e; omega) (World.block_lt_of_cell? _ _ u2))).trans u2;have m15:=(World.cell?_of_block (dQ.2 mb (fun e=>by have:=Bl.out mb e; omega) (World.block_lt_of_cell? _ _ m1))).trans m1;have y05:=(World.cell?_of_block (dQ.2 rb (fun e=>by have:=Bl.out rb e; omega) (World.block_lt_of_cell? _ _ y0))).trans y0;have y15:=(World.cell?_of_block (dQ.2 rb (fun e=>by have:=Bl.out rb e; omega) (World.block_lt_of_cell? _ _ y1))).trans y1;have y25:=(World.cell?_of_block (dQ.2 rb (fun e=>by have:=Bl.out rb e; omega) (World.block_lt_of_cell? _ _ y2))).trans y2;clear hown5 iU uT dQ hBe hez HO3 u0 u1 u2 m1 y0 y1 y2;refine hK.out _ _ ⟨u05,u15,u25,m15,y05,y15,y25⟩ (fun hHeld=>?_);clear hK K;refine Zb ?_;refine tkm [12] ?_;refine YF ?_;clear hHeld u05 u15 u25 m15 y05 y15 y25;refine zae ?_;go_wp2
       go_roundw
       case rel=>exact⟨j+1,L2 ++ [⟨au pr,.slice A4 (au pr).num.length c4,.slice B4 (au pr).den.length d4⟩],byOmega,by go_num,by rw[List.length_append,Dn.out]; rfl,by rw[List.map_append,Dp.out,take_snoc HOE.out,List.map_append]; rfl,HO5.out,HB5.out⟩
       case measure=>simp[intOf]; omega
      ·have hje:j=row.length:=byOmega;subst hje;have hol:(ofRow up m k).length=row.length:=by rw[HTGT.out,List.length_map]
       have hHO:=HO.out.below (abn.trans (iR.mono afV));have hrw:=HO3.out.mY (G:=Apart (Ext F w.heap.size) u7) (fun b hb=>hb.elim (fun h=>⟨.inl h.1,fun e=>by have:=(HO.out.row.lt b e).1; have:=h.2; omega⟩) fun h=>⟨.inr byOmega,fun e=>by have:=(HO.out.row.lt b e).2; omega⟩) (fun b hb=>⟨.inr byOmega,fun e=>by have:=(HO.out.row.lt b e).2; omega⟩);rw[Dp.out,List.take_of_length_le byOmega] at hrw;obtain⟨Az,cz,e,-,-⟩:=(show AL _ _ _ _ from hrw);rw[List.length_map,hol] at e;subst e;have HRW:=Ag hrw;have HOO:=Ag hHO;have hbw:=hbel.trans ((abn.trans (iR.mono afV)).mono hbz);have HOFK:=Ag (ahD (up:=up) (m:=m) (k:=k) (by rw[← HN.out]; exact hlt));clear hrw hHO hol iR hBd abn hBu;go_wp2_with (at_builtin; refine fV (K:=tq) (F:=Ext F w.heap.size) rfl _ _ 28 64 24 _ Tryz.underlying28 Tryz.infoRats rfl ay rfl W.heap.size (Nat.le_refl _) u7 L rfl (.slice Az row.length cz,(ofRow up m k).map au) _ rfl (by have:=CX.out; omega) rfl HOO.out HRW.out hbw ?_; intro g' cap w' hown' bD hlt' _; have HO':=Ag hown'; clear hown')
       go_roundw
       case rel=>exact⟨k+1,_,byOmega,by go_num,by rw[List.length_append,CX.out]; rfl,by rw[List.map_append,take_snoc HOFK.out,List.map_append,HLM.out]; rfl,HO'.out,bD⟩
       case measure=>simp[intOf]; omega
    ·obtain⟨h1,h2,h3,h4,h5⟩:=HST.out.ok.resolve_left h0;dsimp only at h1 h2 h3 h4 h5;obtain⟨i,hi⟩:∃ i:Nat,s1'=(i:Int):=⟨s1'.toNat,byOmega⟩;obtain⟨j,hj⟩:∃ j:Nat,s2'=(j:Int):=⟨s2'.toNat,byOmega⟩;subst hi;subst hj;rw[Int.toNat_natCast] at h5;obtain⟨aeI,ags⟩:=aB (l:=m) (k:=i) (by rw[← HN.out]; omega);have hmd:m.getD i []=aeI:=by rw[List.getD_eq_getElem?_getD,ags];rfl
     rw[hmd] at h5;obtain⟨x,hx⟩:=aB (l:=aeI) (k:=j) byOmega;have HXL:=Ag (HRL.out aeI (List.mem_of_getElem? ags) x (List.mem_of_getElem? hx));have HXD:=Ag (show(m.getD i []).getD j 0=x by rw[hmd,List.getD_eq_getElem?_getD,hx]; rfl);have hBw:=hB3.trans (HST.out.bel.mono (show w.heap.size≤ub by omega));obtain⟨A',c',e,_,hxm⟩:=HM.out;rw[List.length_map,← HN.out] at e;injection e with e1 e2 e3
     subst e1;obtain⟨mb,mo,rfl,_,qV,hcm⟩:=hxm (by rw[List.length_map,← HN.out]; omega);obtain⟨vr,hvr,hra⟩:=hcm i (aeI.map au) (by rw[List.getElem?_map,ags]; rfl);refine zbh ?_;clear hvr;intro hvr nJ;obtain⟨rb,ro,rc,vn,vd,e,abo,aeH,y0,y1,y2,hn,hd⟩:=AL.at (nJ.on (Below.same' hBw _)) (show(aeI.map au)[j]? = some (au x) by rw[List.getElem?_map,hx]; rfl);subst e;rw[List.length_map] at hvr;have m1:=(hBw.cell (p:=⟨mb,mo+i,none⟩) qV).trans hvr;refine zcH ?_;intro HXV;obtain⟨An,cn,rfl,-,-⟩:=hn;obtain⟨Ad,cd,rfl,-,-⟩:=hd;refine zcc ?_;intro u0 u1 u2 HUB;have HQB:=Ag HST.out.ajN;refine YD ?_;intro HAV;have HLEN:=Ag HST.out.len;have HFL:=Ag HST.out.fl;have EO:=Ag HST.out.prod;have hqlt:=HST.out.lt;have hBn:=HST.out.bel;have d0:decide (0≤(i:Int))=true:=decide_eq_true byOmega;have hin:(i:Int) < n:=byOmega;have hjr:(j:Int) < aeI.length:=byOmega;have yF:=HST.out.pF.lt;have HQ0:=Ag q0;clear HST e2 e3 hxm hcm hvr hra nJ ags hmd hx hBw h0;go_wp2_with fail
     refine bJ (fun w'=>w'.cell? ⟨ub,0,none⟩=some (.bool (au acc).neg)∧w'.cell? ⟨ub,1,none⟩=some (.slice A2 (au acc).num.length c2)∧w'.cell? ⟨ub,2,none⟩=some (.slice B2 (au acc).den.length d2)∧w'.cell? ⟨qb',0,none⟩=some (.int .i64 (i:Int))∧w'.cell? ⟨qb',1,none⟩=some (.int .i64 (j:Int))∧w'.cell? ⟨mb,mo+i,none⟩=some (.slice (some ⟨rb,ro,none⟩) aeI.length rc)∧w'.cell? ⟨rb,ro+j*3,none⟩=some (.bool (au x).neg)∧w'.cell? ⟨rb,ro+j*3+1,none⟩=some (.slice An (au x).num.length cn)∧w'.cell? ⟨rb,ro+j*3+2,none⟩=some (.slice Ad (au x).den.length cd)) 11 1 aj rfl aj ?_;have hHeld:(fun w':World=>w'.cell? ⟨ub,0,none⟩=some (.bool (au acc).neg)∧w'.cell? ⟨ub,1,none⟩=some (.slice A2 (au acc).num.length c2)∧w'.cell? ⟨ub,2,none⟩=some (.slice B2 (au acc).den.length d2)∧w'.cell? ⟨qb',0,none⟩=some (.int .i64 (i:Int))∧w'.cell? ⟨qb',1,none⟩=some (.int .i64 (j:Int))∧w'.cell? ⟨mb,mo+i,none⟩=some (.slice (some ⟨rb,ro,none⟩) aeI.length rc)∧w'.cell? ⟨rb,ro+j*3,none⟩=some (.bool (au x).neg)∧w'.cell? ⟨rb,ro+j*3+1,none⟩=some (.slice An (au x).num.length cn)∧w'.cell? ⟨rb,ro+j*3+2,none⟩=some (.slice Ad (au x).den.length cd)) wb.drew:=⟨u0,u1,u2,q0,q1,m1,y0,y1,y2⟩;refine zch ?_;intro hb;replace u0:=ah u0 hb;replace u1:=ah u1 hb;replace u2:=ah u2 hb;replace q0:=ah q0 hb;replace q1:=ah q1 hb;replace m1:=ah m1 hb;replace y0:=ah y0 hb;replace y1:=ah y1 hb;replace y2:=ah y2 hb;replace HXV:=Ag (AA.below HXV.out hb);replace HAV:=Ag (AA.below HAV.out hb);replace HUB:=Ag (HUB.out.below hb HUB.out.lt);replace HQB:=Ag (HQB.out.below hb HQB.out.lt);refine zdz ?_;clear hBn yF hb;intro hBn yF;generalize wb.drew=wn at *;refine tkm [0,1,2,3,4,5,6,7,8,9] ?_;refine tk2 10 aj rfl fun K hK=>?_
     go_simp;refine(pY wn (fun b=>(Old F w.heap.size b∨wa.heap.size≤b)∧b≠ub) _ _ acc x HAV.out HXV.out (by have:=HLEN.out; omega) (by have:=HXL.out; omega)).mono ?_;rintro e wn ⟨vp,rfl,hb,hu⟩;obtain⟨pr,hpr⟩:=named (acc*x);rw[← hpr] at hu;refine zdo ?_;intro HPV;have HPR:=Ag hpr;obtain⟨A4,c4,B4,d4,rfl,-⟩:=hu.opened;clear hu hpr;replace u0:=ah u0 hb;replace u1:=ah u1 hb;replace u2:=ah u2 hb;replace q0:=ah q0 hb;replace q1:=ah q1 hb;replace m1:=ah m1 hb;replace y0:=ah y0 hb;replace y1:=ah y1 hb;replace y2:=ah y2 hb;replace HXV:=Ag (AA.below HXV.out hb);replace HAV:=Ag (AA.below HAV.out hb);replace HUB:=Ag (HUB.out.below hb HUB.out.lt);replace HQB:=Ag (HQB.out.below hb HQB.out.lt);refine zdz ?_;clear hBn yF hb;intro hBn yF;dsimp only;clear hHeld;refine hK.out _ _ ⟨u0,u1,u2,q0,q1,m1,y0,y1,y2⟩ (fun hHeld=>?_);clear hK K;refine Zb ?_;refine ZF ?_;clear hHeld;have f0:=HUB.out.frozen 0;have f1:=HUB.out.frozen 1;have f2:=HUB.out.frozen 2;obtain⟨Wz,hWz,hrz,hwz⟩:=ai4 HUB.out (.bool (au pr).neg) (.slice A4 (au pr).num.length c4) (.slice B4 (au pr).den.length d4);have HWZ:=Ag hWz;have HQZ:=Ag (HQB.out.wrote hwz byOmega);have HPZ:=Ag (AA.on HPV.out (hwz.same fun b hb=>hb.2));have hBz:=Wrote.below hBn hwz (fun b hb=>by omega) byOmega;clear hWz hwz HPV HQB;go_wp2
     rw[← HWZ.out];unfold Bv;refine zae ?_;have q0:=HQZ.out.cell (i:=0) rfl;have q1:=HQZ.out.cell (i:=1) rfl;clear f0 f1 f2 u0 u1 u2 m1 y0 y1 y2 HWZ HXV HAV HUB;go_upto_region 8 with(fail)
     obtain⟨Wy,hWy,ry,hb,hzy⟩:=aN Wz 89 #[.int .i64 (i:Int),.int .i64 (j:Int)];rw[← hWy];obtain⟨nb,hnb⟩:=named Wz.heap.size;have hBy:=hBz.trans (hb.mono (by have:=HQZ.out.lt; omega));have HUY:=Ag (hrz.below hb hrz.lt);have HPY:=Ag (AA.keep (G:=fun b=>((Old F w.heap.size b∨wa.heap.size≤b)∧b≠ub)∧b≠nb) HPZ.out (fun b h hl=>⟨h,byOmega⟩) (Below.same' hb _));have hzl:=hrz.lt;rw[← hnb] at ry ⊢;have hub2:ub < nb:=byOmega;clear hb hzy hWy hnb q0 q1 hzl hrz HPZ;obtain⟨⟨t1,t2⟩,ht⟩:=aB (l:=up) (k:=i) (by rw[HUN.out]; omega);have htok:=HF.out.ok i (t1,t2) ht;have HTD:=Ag (show up.getD i (-1,-1)=(t1,t2) by rw[List.getD_eq_getElem?_getD,ht]; rfl);have hBw:=hB3.trans (hBy.mono (show w.heap.size≤ub by omega));obtain⟨p0,p1⟩:=AO.at2 (HU.out.on (Below.same' hBw F)) ht;dsimp only at p0 p1 htok;have n0:=ry.cell (i:=0) rfl;have n1:=ry.cell (i:=1) rfl;have f0:=ry.frozen 0;have f1:=ry.frozen 1;obtain⟨Wx,hWx,rn,hwx⟩:=akO ry (.int .i64 t1) (.int .i64 t2);have HWX:=Ag hWx;have hst2:EF F w wa W3 up m n ub target (f - 1) (t1,t2) pr nb A4 c4 B4 d4 Wx:=by
      have hfl:=HFL.out;have hlen:=HLEN.out;have hxl:=HXL.out;refine⟨hub2,rn,HUY.out.wrote hwx byOmega,AA.ai3 (AA.keep HPY.out (fun b h _=>h.1) (hwx.same fun b hb e=>hb.2 e)),?_,?_,?_,byOmega,Wrote.below hBy hwx (fun b hb=>by omega) (by have:=ry.lt; omega)⟩
      ·have hp:=EO.out;rw[show f=(f - 1)+1 by omega,aeG (by dsimp only; omega)] at hp;dsimp only at hp;rw[Int.toNat_natCast,Int.toNat_natCast,HTD.out,HXD.out,← HPR.out] at hp;exact hp
      ·rcases htok with h | ⟨g1,g2,g3,g4⟩
       ·exact .inl h
       ·exact .inr ⟨g1,by dsimp only; omega,by dsimp only; omega,g3,g4⟩
      ·rw[HPR.out];have:=nK acc x;omega
     have Eo:=Ag hst2;have hms:(t1+1).toNat < ((i:Int)+1).toNat:=by rcases htok with h | ⟨g1,g2,g3,g4⟩ <;> omega
     have HMS:=Ag hms;clear hWx ht hBw hst2 hms htok;go_wp2_with fail
     rw[← HWX.out];refine⟨⟨_,_,_,_,_,_,_,_,rfl,Eo.out⟩,?_⟩;rw[agq (Eo.out.ajN.cell (i:=0) rfl),agq HQ0.out];exact HMS.out
  ·have hke:k=n:=byOmega;subst hke;have hol:(ofL up m).length=k:=by unfold ofL;rw[List.length_map,List.length_range,HN.out]
   exact zah
structure Ef (F:Aj) (w wa W3:World) (ub:Nat) (acc:Rat) (A:Option Addr) (c:Nat) (B:Option Addr) (d:Nat) (wr:World):Prop where
 pF:Row wr ub 83 [.bool (au acc).neg,.slice A (au acc).num.length c,.slice B (au acc).den.length d]
 fine:(⟨au acc,.slice A (au acc).num.length c,.slice B (au acc).den.length d⟩:RV).fine wr (fun b=>(Old F w.heap.size b∨wa.heap.size≤b)∧b≠ub)
 bel:Below ub W3 wr
theorem ahE (w:World) (F:Aj) (vg vm:Value) (g:Gm) (m:List (List Rat)) (hg:AU w F vg g) (hm:BD w F vm m) (hml:m.length≤100) (hll:∀ l∈m,l.length≤1000) (hrl:∀ l∈m,∀ x∈l,rl x≤20000) (hs:∀ l∈m,∀ k,rl (jH (l.take k))≤20000) :
  Calls Tryz.prog 110 #[vg,vm] w (Ret w fun u w'=>BD w' (Ext F w.heap.size) u (fO m)):=by
 have HM:=Ag hm;have HRL:=Ag hrl;have HLL:=Ag hll;have HSS:=Ag hs;obtain⟨vn,vi,rfl,⟨A,c,rfl,-,-⟩,⟨Ai,ci,rfl,-,-⟩⟩:=hg;obtain⟨n,hn⟩:=named m.length;obtain⟨Am,cm,e,-,-⟩:=hm;rw[List.length_map,← hn] at e;subst e;have HN:=Ag hn;have hn100:n≤100:=byOmega;clear hrl hll hs hml hn;go_in
 go_upto_region 1 with(fail)
 refine Zz ?_;intro W hW rx hB hz;have HB:=Ag hB;have hWz:=hB.size;clear hW hz rx hB;go_wp2_with fail
 go_loopw [5,6] (fun ov iv wr=>∃ (k:Nat) (L:List (Value×List Raw)),k≤n∧iv = .int .i64 (k:Int)∧L.length=k∧L.map Prod.snd=((fO m).take k).map (List.map au)∧AP tq wr W.heap.size 64 (Ext F w.heap.size) ov L∧Below W.heap.size W wr) (fun _ iv _=>n - (intOf iv).toNat)
 case atStart=>exact⟨0,[],byOmega,rfl,rfl,rfl,AP.nil _ _ _ _ _,Below.refl _ _⟩
 case round =>
  obtain⟨k,L,hk,rfl,hLl,hLm,hown,hbel⟩:=hrel;obtain⟨wa,rfl⟩:=named wr;have CX:=Ag hLl;have HLM:=Ag hLm;have HO:=Ag hown;have hbz:=hbel.size;clear hLl hLm hown;by_cases hlt:k < n
  ·obtain⟨row,hrow⟩:=aB (l:=m) (k:=k) (by rw[← HN.out]; exact hlt);have AX:=Ag hrow;have hr1000:=HLL.out row (List.mem_of_getElem? hrow);have HSR:=Ag (HSS.out row (List.mem_of_getElem? hrow));have HTK:=Ag (wV hrow);clear hrow;go_wp2_with fail
   refine(oP wa 0 ay ay).mono ?_;rintro e w2 ⟨u1,rfl,hb,hu⟩;obtain⟨z0,hz0⟩:∃ y:Rat,y=((0:Int):Rat):=⟨_,rfl⟩;rw[← hz0] at hu;have HZ:=Ag (show z0=0 by rw[hz0]; rfl);obtain⟨A1,c1,B1,d1,rfl,hf1⟩:=AA.opened hu;have hb2:=hb;clear hu hz0 hb;dsimp only;go_upto_region 6 with(fail)
   obtain⟨W3,hW3,r3,hb,hz3⟩:=aN w2 83 #[.bool (au z0).neg,.slice A1 (au z0).num.length c1,.slice B1 (au z0).den.length d1];rw[← hW3];obtain⟨ub,hub⟩:=named w2.heap.size;have hf3:RV.fine W3 (fun b=>(Old F w.heap.size b∨wa.heap.size≤b)∧b≠ub) ⟨au z0,.slice A1 (au z0).num.length c1,.slice B1 (au z0).den.length d1⟩:=RV.fine.keep hf1 (fun b hb hl=>⟨.inr hb,byOmega⟩) (Below.same' hb _);rw[← hub] at r3 ⊢;have hb3:=hb2.trans (hb.mono hb2.size);have akw:wa.heap.size≤ub:=by have:=hb2.size;omega
   have hub3:ub < W3.heap.size:=byOmega;have hst:Ef F w wa W3 ub z0 A1 c1 B1 d1 W3:=⟨r3,hf3,Below.refl _ _⟩;have HST:=Ag hst;have hB3:=HB.out.trans ((hbel.trans (hb3.mono hbz)).mono hWz);obtain⟨A',c',e,_,hxm⟩:=HM.out;rw[List.length_map,← HN.out] at e;injection e with e1 e2 e3
   subst e1;obtain⟨mb,mo,rfl,_,qV,hcm⟩:=hxm (by rw[List.length_map,← HN.out]; omega);obtain⟨vr,hvr,hra⟩:=hcm k (row.map au) (by rw[List.getElem?_map,AX.out]; rfl);refine zbh ?_;clear hvr;intro hvr nJ;obtain⟨Ar,cr,rfl,-,-⟩:=hra;rw[List.length_map] at hvr;rw[List.length_map] at nJ;have HRV:=Ag nJ;have HVR:=Ag hvr;clear hf1 hb2 hb hz3 hub hW3 r3 hf3 hst e2 e3 hxm hcm hvr nJ;go_wp2_with fail
   go_loopw [8] (fun iv wr=>∃ (j:Nat) (acc:Rat) (A:Option Addr) (c:Nat) (B:Option Addr) (d:Nat),j≤row.length∧iv = .int .i64 (j:Int)∧acc=jH (row.take j)∧Ef F w wa W3 ub acc A c B d wr) (fun iv _=>row.length - (intOf iv).toNat)
   case atStart=>exact⟨0,z0,_,_,_,_,Nat.zero_le _,rfl,by rw[HZ.out]; rfl,HST.out⟩
   case round =>
    clear HST;obtain⟨j,acc,A2,c2,B2,d2,hj,rfl,hacc,hst⟩:=hrel;obtain⟨wb,rfl⟩:=named wr;have HST:=Ag hst;have HAC:=Ag hacc;have hBu:=hst.bel;have ahF:=hB3.trans (hBu.mono (show w.heap.size≤ub by omega));have m1:=(ahF.cell (p:=⟨mb,mo+k,none⟩) qV).trans HVR.out;have hac2:rl acc≤20000:=by rw[hacc];exact HSR.out j
    have yF:=hst.pF.lt;clear hst hacc;by_cases hjt:j < row.length
    ·obtain⟨x,hx⟩:=aB hjt;have HX:=Ag hx;refine zdn ?_;intro HXL;obtain⟨rb,ro,rc,vn,vd,e,abo,aeH,y0,y1,y2,hn,hd⟩:=AL.at (HRV.out.on (Below.same' ahF _)) (show(row.map au)[j]? = some (au x) by rw[List.getElem?_map,hx]; rfl);injection e with e1 e2 e3
     subst e1;refine zcH ?_;intro HXV;obtain⟨An,cn,rfl,-,-⟩:=hn;obtain⟨Ad,cd,rfl,-,-⟩:=hd;refine zcc ?_;intro u0 u1 u2 HUB;refine YD ?_;intro HAV;have hBn:=hBu;have hjr:(j:Int) < row.length:=byOmega;clear HST e2 e3 hx abo aeH;go_wp2_with fail
     refine bJ (fun w'=>w'.cell? ⟨ub,0,none⟩=some (.bool (au acc).neg)∧w'.cell? ⟨ub,1,none⟩=some (.slice A2 (au acc).num.length c2)∧w'.cell? ⟨ub,2,none⟩=some (.slice B2 (au acc).den.length d2)∧w'.cell? ⟨mb,mo+k,none⟩=some (.slice (some ⟨rb,ro,none⟩) row.length cr)∧w'.cell? ⟨rb,ro+j*3,none⟩=some (.bool (au x).neg)∧w'.cell? ⟨rb,ro+j*3+1,none⟩=some (.slice An (au x).num.length cn)∧w'.cell? ⟨rb,ro+j*3+2,none⟩=some (.slice Ad (au x).den.length cd)) 9 1 aj rfl aj ?_;have hHeld:(fun w':World=>w'.cell? ⟨ub,0,none⟩=some (.bool (au acc).neg)∧w'.cell? ⟨ub,1,none⟩=some (.slice A2 (au acc).num.length c2)∧w'.cell? ⟨ub,2,none⟩=some (.slice B2 (au acc).den.length d2)∧w'.cell? ⟨mb,mo+k,none⟩=some (.slice (some ⟨rb,ro,none⟩) row.length cr)∧w'.cell? ⟨rb,ro+j*3,none⟩=some (.bool (au x).neg)∧w'.cell? ⟨rb,ro+j*3+1,none⟩=some (.slice An (au x).num.length cn)∧w'.cell? ⟨rb,ro+j*3+2,none⟩=some (.slice Ad (au x).den.length cd)) wb.drew:=⟨u0,u1,u2,m1,y0,y1,y2⟩;refine zch ?_;intro hb;refine YA ?_;clear u0 u1 u2 m1 y0 y1 y2 HXV;intro u0 u1 u2 m1 y0 y1 y2 HXV;replace HAV:=Ag (AA.below HAV.out hb);replace HUB:=Ag (HUB.out.below hb HUB.out.lt);refine zdz ?_;clear hBn yF hb;intro hBn yF;generalize wb.drew=wn at *;refine tkm [0,1,2,3,4,5,6,7] ?_;refine tk2 8 aj rfl fun K hK=>?_
     go_simp;refine(oO wn (fun b=>(Old F w.heap.size b∨wa.heap.size≤b)∧b≠ub) _ _ acc x HAV.out HXV.out hac2 HXL.out).mono ?_;rintro e wn ⟨vp,rfl,hb,hu⟩;obtain⟨pr,hpr⟩:=named (acc+x);rw[← hpr] at hu;refine zdo ?_;intro HPV;have HPR:=Ag hpr;obtain⟨A4,c4,B4,d4,rfl,-⟩:=hu.opened;clear hu hpr;refine YA ?_;clear u0 u1 u2 m1 y0 y1 y2 HXV;intro u0 u1 u2 m1 y0 y1 y2 HXV;replace HAV:=Ag (AA.below HAV.out hb);replace HUB:=Ag (HUB.out.below hb HUB.out.lt);refine zdz ?_;clear hBn yF hb;intro hBn yF;dsimp only;clear hHeld;refine hK.out _ _ ⟨u0,u1,u2,m1,y0,y1,y2⟩ (fun hHeld=>?_);clear hK K;refine Zb ?_;refine ZF ?_;clear hHeld;have f0:=HUB.out.frozen 0;have f1:=HUB.out.frozen 1;have f2:=HUB.out.frozen 2;obtain⟨Wz,hWz,hrz,hwz⟩:=ai4 HUB.out (.bool (au pr).neg) (.slice A4 (au pr).num.length c4) (.slice B4 (au pr).den.length d4);have HWZ:=Ag hWz;have HPZ:=Ag (AA.on HPV.out (hwz.same fun b hb=>hb.2));have hBz:=Wrote.below hBn hwz (fun b hb=>by omega) byOmega;clear hWz hwz HPV;go_wp2
     rw[← HWZ.out];unfold Bv;refine zae ?_;clear f0 f1 f2 u0 u1 u2 m1 y0 y1 y2 HWZ HXV HAV HUB;have hst2:Ef F w wa W3 ub pr A4 c4 B4 d4 Wz:=⟨hrz,AA.ai3 HPZ.out,hBz⟩;have Eo:=Ag hst2;clear hst2 hrz hBz HPZ;go_wp2
     go_roundw
     case rel=>exact⟨j+1,pr,_,_,_,_,byOmega,by go_num,by rw[HPR.out,take_snoc HX.out,yM,← HAC.out],Eo.out⟩
     case measure=>simp[intOf]; omega
    ·have hje:j=row.length:=byOmega;subst hje;have hsum:acc=jH row:=by rw[HAC.out,List.take_of_length_le (Nat.le_refl _)]
     have Ea:=Ag hsum;refine zcc ?_;intro u0 u1 u2 HUB;refine YD ?_;intro HAV;clear HST hsum;go_wp2_with fail
     refine(ahb wb _ _ acc HAV.out).mono ?_;rintro e wq ⟨_,rfl,hb5,rfl⟩;replace hBu:=hBu.trans (hb5.mono byOmega);replace HUB:=Ag (HUB.out.below hb5 yF);replace HAV:=Ag (AA.below HAV.out hb5);replace ahF:=ahF.trans (hb5.mono ahF.size);replace yF:=HUB.out.lt;replace m1:=ah m1 hb5;replace u0:=ah u0 hb5;replace u1:=ah u1 hb5;replace u2:=ah u2 hb5;have abn:=hb3.trans (hBu.mono akw);have afV:=abn.size;clear hb5;by_cases ha0:acc=0
     ·have d0:decide (acc=0)=true:=decide_eq_true ha0;have HBR:=Ag (show iM row=iP row.length from yD (by rw[← Ea.out]; exact ha0));clear ha0;rw[d0];clear u0 u1 u2;dsimp only;go_wp2_with fail
      refine(ahA _ row.length hr1000).mono ?_;rintro e w6 ⟨va,rfl,hb,hu⟩;have HHO:=Ag (HO.out.below (abn.trans (hb.mono afV)));have HF:=Ag (show AL w6 (Apart (Ext F w.heap.size) u5) va ((iP row.length).map au) from AL.keep hu (fun b hb _=>⟨.inr byOmega,fun e=>by have:=(HO.out.row.lt b e).2; omega⟩) (Same.refl _ _));obtain⟨Au,cu,e,-,-⟩:=hu;have hla:((iP row.length).map au).length=row.length:=by rw[List.length_map];exact List.length_replicate ..
      rw[hla] at e;subst e;have hbw:=hbel.trans ((abn.trans (hb.mono afV)).mono hbz);clear hb hla m1;dsimp only;go_wp2_with (at_builtin; refine fV (K:=tq) (F:=Ext F w.heap.size) rfl _ _ 28 64 24 _ Tryz.underlying28 Tryz.infoRats rfl ay rfl W.heap.size (Nat.le_refl _) u5 L rfl (.slice Au row.length cu,(iP row.length).map au) _ rfl (by have:=CX.out; omega) rfl HHO.out HF.out hbw ?_; intro g' cap w' hown' bD hlt' _; have HO':=Ag hown'; clear hown')
      go_roundw
      case rel=>exact⟨k+1,_,byOmega,by go_num,by rw[List.length_append,CX.out]; rfl,by rw[HTK.out,HBR.out,List.map_append,List.map_append,HLM.out]; rfl,HO'.out,bD⟩
      case measure=>simp[intOf]; omega
     ·have d0:decide (acc=0)=false:=decide_eq_false ha0;have HBR:=Ag (show iM row=row.map (· / acc) by rw[Ea.out]; exact zS (by rw[← Ea.out]; exact ha0));have HA0:=Ag ha0;clear ha0;rw[d0];clear m1;dsimp only;go_wp2_with fail
      clear u0 u1 u2;go_loopw [9,10] (fun lv iv wr=>∃ (j:Nat) (L2:List RV),j≤row.length∧iv = .int .i64 (j:Int)∧L2.length=j∧L2.map RV.r=((iM row).take j).map au∧AP o9 wr wq.heap.size 83 (fun b=>Old F w.heap.size b∨wa.heap.size≤b) lv L2∧Below wq.heap.size wq wr) (fun _ iv _=>row.length - (intOf iv).toNat)
      case atStart=>exact⟨0,[],Nat.zero_le _,rfl,rfl,rfl,AP.nil _ _ _ _ _,Below.refl _ _⟩
      case round =>
       obtain⟨j,L2,hj,rfl,hLl,hLm,hown,iR⟩:=hrel;obtain⟨wd,rfl⟩:=named wr;have Dn:=Ag hLl;have Dp:=Ag hLm;have HO3:=Ag hown;have Bl:=Ag (fun b (e:u9.ownBlock=some b)=>HO3.out.row.lt b e);have hBd:=ahF.trans (iR.mono byOmega);have hdz:=iR.size;have m1:=(hBd.cell (p:=⟨mb,mo+k,none⟩) qV).trans HVR.out;clear hLl hLm hown;by_cases hjt:j < row.length
       ·obtain⟨x,hx⟩:=aB hjt;refine zdn ?_;intro HXL;obtain⟨rb,ro,rc,vn,vd,e,abo,aeH,y0,y1,y2,hn,hd⟩:=AL.at (HRV.out.on (Below.same' hBd _)) (show(row.map au)[j]? = some (au x) by rw[List.getElem?_map,hx]; rfl);injection e with e1 e2 e3
        subst e1;have HXV:=Ag (AA.mono (AA.make (r:=au x) rfl hn hd) (G:=fun b=>(Old F w.heap.size b∨wa.heap.size≤b)∧b < wq.heap.size) (fun b hb _=>⟨.inl hb,by have:=hb.2; omega⟩));obtain⟨An,cn,rfl,-,-⟩:=hn;obtain⟨Ad,cd,rfl,-,-⟩:=hd;have hrbw:=abo.2;have adf:=HUB.out.below iR yF;have u0:=adf.cell (i:=0) rfl;have u1:=adf.cell (i:=1) rfl;have u2:=adf.cell (i:=2) rfl;have Eh:=Ag (AA.keep (G:=fun b=>(Old F w.heap.size b∨wa.heap.size≤b)∧b < wq.heap.size) HAV.out (fun b hb hl=>⟨hb.1,hl⟩) (Below.same' iR _));have HOE:=Ag (show(iM row)[j]? = some (x / acc) by rw[HBR.out,List.getElem?_map,hx]; rfl);have hjr:(j:Int) < row.length:=byOmega;have hBe:=Below.refl wd.heap.size wd;clear e2 e3 hx adf abo aeH;go_wp2_with fail
        refine Z4 ?_;intro hHeld hb;refine YA ?_;clear u0 u1 u2 m1 y0 y1 y2 HXV;intro u0 u1 u2 m1 y0 y1 y2 HXV;replace Eh:=Ag (AA.below Eh.out hb);refine zax ?_;clear HO3 hBe hb;intro HO3 hBe;generalize wd.drew=wn at *;refine tkm [0,1,2,3,4,5,6,7,8] ?_;refine tk2 9 aj rfl fun K hK=>?_
        go_simp;refine(afz wn _ _ _ x acc HXV.out Eh.out HXL.out hac2 HA0.out).mono ?_;rintro e wn ⟨vp,rfl,hb,hu⟩;obtain⟨pr,hpr⟩:=named (x / acc);rw[← hpr] at hu HOE;have hez:=hBe.size;obtain⟨A4,c4,B4,d4,rfl,hf4⟩:=hu.opened;have HF4:=Ag (RV.fine.keep (G:=fun b=>(Old F w.heap.size b∨wa.heap.size≤b)∧(b < wq.heap.size∨wd.heap.size≤b)) hf4 (fun b hb _=>hb.elim (fun h=>⟨h.1,.inl h.2⟩) fun h=>⟨.inr byOmega,.inr byOmega⟩) (Same.refl _ _));clear hu hpr hf4;refine YA ?_;clear u0 u1 u2 m1 y0 y1 y2 HXV;intro u0 u1 u2 m1 y0 y1 y2 HXV;replace Eh:=Ag (AA.below Eh.out hb);refine zax ?_;clear HO3 hBe hb;intro HO3 hBe;dsimp only;clear hHeld;refine hK.out _ _ ⟨u0,u1,u2,m1,y0,y1,y2⟩ (fun hHeld=>?_);clear hK K;refine Zb ?_;refine tk2 10 aj rfl fun K hK=>?_
        go_simp;refine YO ?_;clear hK K;intro hHeld K hK;have hez:=hBe.size;refine iw (K:=o9) (F:=fun b=>Old F w.heap.size b∨wa.heap.size≤b) rfl _ _ 64 83 56 _ Tryz.underlying64 Tryz.infoRat rfl ay rfl wq.heap.size (by omega:wq.heap.size≤wn.heap.size) u9 L2 rfl ⟨au pr,.slice A4 (au pr).num.length c4,.slice B4 (au pr).den.length d4⟩ _ rfl (by have:=Dn.out; omega) rfl HO3.out (RV.fine.keep HF4.out (fun b hb _=>⟨hb.1,fun e=>by have:=Bl.out b e; omega⟩) (Same.refl _ _)) (Below.refl _ _) ?_;intro gg cap w5 hown5 iU uT dQ;have HO5:=Ag hown5;have HB5:=Ag ((iR.trans (hBe.mono hdz)).trans iU);have u05:=(World.cell?_of_block (dQ.2 ub (fun e=>by have:=Bl.out ub e; omega) (World.block_lt_of_cell? _ _ u0))).trans u0;have u15:=(World.cell?_of_block (dQ.2 ub (fun e=>by have:=Bl.out ub e; omega) (World.block_lt_of_cell? _ _ u1))).trans u1;have u25:=(World.cell?_of_block (dQ.2 ub (fun e=>by have:=Bl.out ub e; omega) (World.block_lt_of_cell? _ _ u2))).trans u2;have m15:=(World.cell?_of_block (dQ.2 mb (fun e=>by have:=Bl.out mb e; omega) (World.block_lt_of_cell? _ _ m1))).trans m1;have y05:=(World.cell?_of_block (dQ.2 rb (fun e=>by have:=Bl.out rb e; omega) (World.block_lt_of_cell? _ _ y0))).trans y0;have y15:=(World.cell?_of_block (dQ.2 rb (fun e=>by have:=Bl.out rb e; omega) (World.block_lt_of_cell? _ _ y1))).trans y1;have y25:=(World.cell?_of_block (dQ.2 rb (fun e=>by have:=Bl.out rb e; omega) (World.block_lt_of_cell? _ _ y2))).trans y2;clear hown5 iU uT dQ hBe hez HO3 u0 u1 u2 m1 y0 y1 y2;refine hK.out _ _ ⟨u05,u15,u25,m15,y05,y15,y25⟩ (fun hHeld=>?_);clear hK K;refine Zb ?_;refine tkm [12] ?_;refine YF ?_;clear hHeld u05 u15 u25 m15 y05 y15 y25;refine zae ?_;go_wp2
        go_roundw
        case rel=>exact⟨j+1,L2 ++ [⟨au pr,.slice A4 (au pr).num.length c4,.slice B4 (au pr).den.length d4⟩],byOmega,by go_num,by rw[List.length_append,Dn.out]; rfl,by rw[List.map_append,Dp.out,take_snoc HOE.out,List.map_append]; rfl,HO5.out,HB5.out⟩
        case measure=>simp[intOf]; omega
       ·have hje:j=row.length:=byOmega;subst hje;have hol:(iM row).length=row.length:=by rw[HBR.out,List.length_map]
        have hHO:=HO.out.below (abn.trans (iR.mono afV));have hrw:=HO3.out.mY (G:=Apart (Ext F w.heap.size) u5) (fun b hb=>hb.elim (fun h=>⟨.inl h.1,fun e=>by have:=(HO.out.row.lt b e).1; have:=h.2; omega⟩) fun h=>⟨.inr byOmega,fun e=>by have:=(HO.out.row.lt b e).2; omega⟩) (fun b hb=>⟨.inr byOmega,fun e=>by have:=(HO.out.row.lt b e).2; omega⟩);rw[Dp.out,List.take_of_length_le byOmega] at hrw;obtain⟨Az,cz,e,-,-⟩:=(show AL _ _ _ _ from hrw);rw[List.length_map,hol] at e;subst e;have HRW:=Ag hrw;have HOO:=Ag hHO;have hbw:=hbel.trans ((abn.trans (iR.mono afV)).mono hbz);clear hrw hHO hol iR hBd abn hBu;go_wp2_with (at_builtin; refine fV (K:=tq) (F:=Ext F w.heap.size) rfl _ _ 28 64 24 _ Tryz.underlying28 Tryz.infoRats rfl ay rfl W.heap.size (Nat.le_refl _) u5 L rfl (.slice Az row.length cz,(iM row).map au) _ rfl (by have:=CX.out; omega) rfl HOO.out HRW.out hbw ?_; intro g' cap w' hown' bD hlt' _; have HO':=Ag hown'; clear hown')
        go_roundw
        case rel=>exact⟨k+1,_,byOmega,by go_num,by rw[List.length_append,CX.out]; rfl,by rw[HTK.out,List.map_append,List.map_append,HLM.out]; rfl,HO'.out,bD⟩
        case measure=>simp[intOf]; omega
  ·have hke:k=n:=byOmega;subst hke;have hol:(fO m).length=k:=by unfold fO;rw[List.length_map,HN.out]
   exact zah
section
variable {w:World} {F:Aj} {fb:Nat} {t:TypeId}
theorem CS.y8 {b o:Nat} {r:Raw} (hr:Row w fb t [.bool false,.slice none 0 0,.slice none 0 0]) (h:CS w F b o r):CS w (fun x=>F x∧x≠fb) b o r :=
 ⟨h.1,h.2.1.imp fun _ h=>⟨h.1,h.2.yZ hr⟩,h.2.2.imp fun _ h=>⟨h.1,h.2.yZ hr⟩⟩
theorem AL.y8 {v:Value} {l:List Raw} (hr:Row w fb t [.bool false,.slice none 0 0,.slice none 0 0]) (hd:∀ r∈l,r.den≠[]) (h:AL w F v l):AL w (fun x=>F x∧x≠fb) v l:=by
 obtain⟨A,c,rfl,hc,hx⟩:=h;refine⟨A,c,rfl,hc,fun h0=>?_⟩;obtain⟨b,o,rfl,hF,hb,hx⟩:=hx h0;refine⟨b,o,rfl,⟨hF,?_⟩,hb,fun k r hk=>(hx k r hk).y8 hr⟩;rintro rfl;obtain⟨y,hy⟩:=aB (l:=l) (k:=0) h0;obtain⟨e0,_,⟨u,e2,A2,c2,rfl,_⟩⟩:=hx 0 y hy;have hy0:=hd y (List.mem_of_getElem? hy);have hr':w.heap[b]? = some (.cells #[.bool false,.slice none 0 0,.slice none 0 0] t):=hr;rcases o with _ | _ | _ | o <;> simp[World.cell?,hr'] at e0 e2
 exact hy0 (by simpa using e2.2.1.symm)
theorem Ah.y8 {v:Value} {m:List (List Raw)} (hr:Row w fb t [.bool false,.slice none 0 0,.slice none 0 0]) (hd:∀ l∈m,l≠[]∧∀ r∈l,r.den≠[]) (h:Ah w F v m):Ah w (fun x=>F x∧x≠fb) v m:=by
 obtain⟨A,c,rfl,hc,hx⟩:=h;refine⟨A,c,rfl,hc,fun h0=>?_⟩;obtain⟨b,o,rfl,hF,hb,hx⟩:=hx h0;refine⟨b,o,rfl,⟨hF,?_⟩,hb,fun k l hk=>(hx k l hk).imp fun _ h=>⟨h.1,h.2.y8 hr (hd l (List.mem_of_getElem? hk)).2⟩⟩;rintro rfl;obtain⟨y,hy⟩:=aB (l:=m) (k:=0) h0;obtain⟨u,e0,A2,c2,rfl,_⟩:=hx 0 y hy;have hy0:=(hd y (List.mem_of_getElem? hy)).1;have hr':w.heap[b]? = some (.cells #[.bool false,.slice none 0 0,.slice none 0 0] t):=hr;rcases o with _ | _ | _ | o <;> simp[World.cell?,hr'] at e0
 all_goals exact hy0 (by simpa using e0.2.1.symm)
theorem zU {m:List (List Rat)} (h:∀ l∈m,l≠[]):∀ l∈m.map (List.map au),l≠[]∧∀ r∈l,r.den≠[]:=by
 intro l hl;obtain⟨l',hl',rfl⟩:=List.mem_map.1 hl;refine⟨by simpa using h l' hl',fun r hr=>?_⟩;obtain⟨x,_,rfl⟩:=List.mem_map.1 hr;have h1:0 < (dig x.den).length:=aY.2 x.den_nz;exact List.ne_nil_of_length_pos h1
end
end Go.Proofs.YthmklhapjegfdaaGreatDoor
