/- plan.Back of a plan that may be turned back. -/
import Derived.Sort.CutIn
import Derived.Test.YthmklhapjegfdaaGreatDoorX36
import Derived.Test.YthmklhapjegfdaaGreatDoorX41
set_option linter.all false
set_option maxRecDepth 100000
set_option maxHeartbeats 12800000
namespace Go.Proofs.YthmklhapjegfdaaGreatDoor
open Lib renaming hid → Ag
open List renaming getElem_toArray → lq1, getElem_cons_zero → lq2, getElem_cons_succ → lq3, setIfInBounds_toArray → lq4, set_cons_zero → lq5, set_cons_succ → lq6
open Go.RowKit Go.Shelf
attribute [local go_sem] Oper.semAt_some
structure Dc (g:Gm) (r:List (List Rat)):Prop where
 len:r.length=g.infos.length
 acts:∀ (k:Nat) (l:List Rat) (inf:Inf),r[k]? = some l→g.infos[k]? = some inf→(l.length:Int)=inf.actions
 pos:∀ l∈r,∀ x∈l,dD x=false
 fits:∀ l∈r,∀ x∈l,rl x≤1000
 sum:∀ (k:Nat) (l:List Rat) (s:Int×Int),r[k]? = some l→(aS g)[k]? = some s→jH l=gX r s
 up:∀ (k:Nat) (s:Int×Int),(aS g)[k]? = some s→s.1 < 0∨(0≤s.1∧s.1 < (k:Int)∧0≤s.2∧s.2 < ((r.getD s.1.toNat []).length:Int))
theorem abu (w:World) (t1:TypeId) (c1:Array Value) (t2:TypeId) (c2:Array Value) (t3:TypeId) (c3:Array Value) (t4:TypeId) (c4:Array Value):∃ W:World,W=(((w.alloc (.cells c1 t1)).alloc (.cells c2 t2)).alloc (.cells c3 t3)).alloc (.cells c4 t4)∧Row W w.heap.size t1 c1.toList∧Row W (w.heap.size+1) t2 c2.toList∧Row W (w.heap.size+1+1) t3 c3.toList∧Row W (w.heap.size+1+1+1) t4 c4.toList∧Below w.heap.size w W∧W.heap.size=w.heap.size+4:=by
 obtain⟨W,hW,h1,h2,h3,h4,_⟩:=kF w t1 c1 t2 c2 t3 c3;have e:W.heap.size=w.heap.size+3:=by rw[hW];simp
 have h:=Row.new W t4 c4;rw[e] at h;refine⟨W.alloc (.cells c4 t4),by rw[hW],h1.alloc _,h2.alloc _,h3.alloc _,h,h4.alloc byOmega _,by simp[e]⟩
def BInv (F:Aj) (w:World) (r:List (List Rat)) (bo n ob B1:Nat) (k:Nat) (wr:World):Prop :=
 (∃ vs,vs.length=k∧MkO F w bo 110 n B1 vs ((r.take k).map (List.map ak)) wr)∧Row wr ob 114 [.slice (some ⟨bo,0,none⟩) n n]
theorem BInv.own {F:Aj} {w:World} {r:List (List Rat)} {bo n ob B1 B:Nat} (hB:w.heap.size≤B):OwnFrom B (fun k W=>BInv F w r bo n ob B1 k W):=by
 rintro k X Y row ⟨⟨vs,hvl,hm⟩,hx⟩ hg hr';have hr:∀ r,row=some r→∃ o:Obj,X.heap[r]? = some o∧o.isCells=false:=fun r e=>(hr' r e).2
 exact⟨⟨vs,hvl,hm.row.kept hg hr,hm.done.kept hg hr,hm.bel.grown hg hm.bel.size (fun k hk=>by have:=(hr' k hk).1; omega),hm.lo,hm.hi,Nat.le_trans hm.size hg.size⟩,hx.kept hg hr⟩
theorem afX {F:Aj} {w W:World} {r:List (List Rat)} {bo n B1 k:Nat} {vs:List Value} (hm:MkO F w bo 110 n B1 vs ((r.take k).map (List.map ak)) W) (hvl:vs.length=k) (hkn:k≤n) (hkr:k≤r.length) (s:Int×Int) (hs:s.1 < 0∨(0≤s.1∧s.1 < (k:Int)∧0≤s.2∧s.2 < ((r.getD s.1.toNat []).length:Int))) :
  Calls Tryz.prog 116 #[.slice (some ⟨bo,0,none⟩) n n,.agg #[.int .i64 s.1,.int .i64 s.2]] W (Ret W fun u w'=>NmV w' (GoF F w B1) u (gX r s)):=by
 by_cases h0:s.1 < 0
 ·exact zbn
 ·obtain⟨h1,h2,h3,h4⟩:=hs.resolve_left h0;obtain⟨i,hi⟩:∃ i:Nat,s.1=(i:Int):=⟨s.1.toNat,byOmega⟩;obtain⟨j,hj⟩:∃ j:Nat,s.2=(j:Int):=⟨s.2.toNat,byOmega⟩;obtain⟨s1,s2⟩:=s;simp only at hi hj h0 h1 h2 h3 h4;subst hi;subst hj;rw[Int.toNat_natCast] at h4;have hik:i < k:=byOmega;obtain⟨vr,hvr⟩:=aB (l:=vs) (k:=i) byOmega;obtain⟨row,hrow⟩:=aB (l:=r) (k:=i) byOmega;have hrd:r.getD i []=row:=by rw[List.getD_eq_getElem?_getD,hrow];rfl
  rw[hrd] at h4;obtain⟨x,hx⟩:=aB (l:=row) (k:=j) byOmega;have hra:=hm.done.2 i vr (row.map ak) hvr (by rw[List.getElem?_map,List.getElem?_take,if_pos hik,hrow]; rfl);exact YJ
theorem Dc.agu {g:Gm} {r:List (List Rat)} (h:Dc g r) (s:Int×Int):rl (gX r s)≤1000:=by
 unfold gX;split
 ·rw[nM];omega
 ·rw[List.getD_eq_getElem?_getD];cases e:(r.getD s.1.toNat [])[s.2.toNat]? with
  | none=>show rl 0≤1000; rw[uy]; omega
  | some x =>
   refine h.fits (r.getD s.1.toNat []) ?_ x (List.mem_of_getElem? e);rw[List.getD_eq_getElem?_getD] at e ⊢;cases e2:r[s.1.toNat]? with
   | none=>rw[e2] at e; simp at e
   | some l=>exact List.mem_of_getElem? e2
theorem aeO (w:World) (F:Aj) (vg vm:Value) (g:Gm) (r:List (List Rat)) (hg:AU w F vg g) (hsm:Small g) (hform:bP g=0) (hpar:nI g=0) (hm:BD w F vm r) (hT:BK w) (hok:Dc g r) :
  Calls Tryz.prog 56 #[vg,vm] w (Ret w fun v w'=>∃ t,v = .tuple #[t,.int .i64 (jy (fO r).flatten)]∧Ah w' (fun b=>w.heap.size≤b) t (nH (fO r))):=by
 have HG:=Ag (hg.keep (G:=fun _=>True) (fun _ _ _=>trivial) (Same.refl _ _)); have HM:=Ag (Ah.keep (G:=fun _=>True) hm (fun _ _ _=>trivial) (Same.refl _ _));have HS:=Ag hsm; have HT:=Ag hT; have HOK:=Ag hok;have HPE:=Ag (show acv g=0 by unfold acv; rw[if_neg (by rw[hform]; decide)]; exact hpar);have HPO:=Ag (show uO g=aS g by
  unfold uO;rw[if_neg (by rw[hform]; decide)];rcases oW g with⟨_,h⟩ | h
  ·exact h
  ·exact absurd hpar h)
 have HA10:=Ag (oU hform);have hni:=hsm.infos;obtain⟨n,hn⟩:=named r.length;have hgi:g.infos.length=n:=by rw[hn,hok.len]
 have hmn:(r.map (List.map au)).length=n:=by rw[List.length_map,hn]
 obtain⟨vn,vi,rfl,⟨A,c,rfl,-,-⟩,⟨Ai,ci,rfl,-,-⟩⟩:=hg;obtain⟨Am,cm,e,-,-⟩:=hm;rw[hmn] at e;subst e;rw[hgi] at HG ⊢;have HN:=Ag hn;have HGI:=Ag hgi;have hn100:n≤100:=byOmega;clear hsm hT hok hform hpar hn hgi hmn hni;refine(callsIn_wide (n:=9)).1 ?_;refine callsIn_of_wp_marks Tryz.func56 rfl trivial ?_ rfl;refine wpIn_wide.2 ?_;simp only[Tryz.ntmps56,List.size_toArray,List.length_cons,List.length_nil,Nat.reduceAdd,Nat.reduceSub,Array.replicate_succ,Array.replicate_zero,List.push_toArray,List.append_toArray,List.nil_append,List.cons_append];go_upto_region 1 with(fail)
 obtain⟨W,hW,rg,rm,rr,re,hB,hz⟩:=abu w 25 #[.int .i64 g.aF,.slice A g.nodes.length c,.slice Ai n ci] 28 #[.slice Am n cm] 28 #[.slice none 0 0] 32 #[.int .i64 0];rw[← hW];clear hW;obtain⟨b2,hb2⟩:=named (w.heap.size+1+1);rw[← hb2] at rr re ⊢;have k2:w.heap.size+1 < b2:=byOmega;have k3:b2+1 < W.heap.size:=byOmega;clear hb2 hz;replace HG:=Ag (HG.out.on (Below.same' hB _));replace HM:=Ag (Ah.on HM.out (Below.same' hB _));replace HT:=Ag (HT.out.on hB);refine Yl ?_;intro x0 x1 x2;go_wp2_with fail
 clear x0 x1 x2;refine(qA W (fun _=>True) _ g HG.out HS.out).mono ?_;rintro e w1 ⟨_,rfl,hb,vp,rfl,hvp⟩;refine zcW ?_;clear HG;intro HG;replace HM:=Ag (Ah.on HM.out (Below.same' hb _));replace HT:=Ag (HT.out.on hb);replace rg:=rg.below hb rg.lt;replace rm:=rm.below hb rm.lt;replace rr:=rr.below hb rr.lt;replace re:=re.below hb re.lt;replace hB:=hB.trans (hb.mono hB.size);have k4:b2+1 < w1.heap.size:=re.lt;rw[HPE.out];rw[HPO.out] at hvp;have HU:=Ag (AO.keep (G:=(fun _=>True)) hvp (fun _ _ _=>trivial) (Same.refl _ _));obtain⟨Au,cu,e⟩:=hvp.open;rw[fF,HGI.out] at e;subst e;clear hvp hb k3;dsimp only;go_upto_region 2 with(fail)
 obtain⟨W2,hW2,ru,hb,hz2⟩:=aN w1 41 #[.slice Au n cu];rw[← hW2];refine zcW ?_;clear HG;intro HG;replace HM:=Ag (Ah.on HM.out (Below.same' hb _));replace HT:=Ag (HT.out.on hb);replace rg:=rg.below hb rg.lt;replace rm:=rm.below hb rm.lt;replace rr:=rr.below hb rr.lt;replace re:=re.below hb re.lt;replace hB:=hB.trans (hb.mono hB.size);replace HU:=Ag (AO.on HU.out (Below.same' hb _));obtain⟨ub,hub⟩:=named w1.heap.size;rw[← hub] at ru ⊢;have k5:b2+1 < ub:=byOmega;have k6:ub < W2.heap.size:=ru.lt;clear hb hz2 hub hW2 k4;have x2:=rg.cell (i:=2) rfl;have y0:=rm.cell (i:=0) rfl;go_upto_region 7 with(at_make; refine eG _ rfl _ _ 114 rfl 110 (.slice none 0 0) 24 Tryz.underlying114 Tryz.infoNumRow rfl n rfl rfl byOmega byOmega ?_; intro w3 hb1 ai7 hr1; have hz1:=Nat.le_of_eq ai7.symm; clear ai7)
 obtain⟨W3,hW3,ro,hB1,hz1'⟩:=aN w3 114 #[.slice (some ⟨W2.heap.size,0,none⟩) n n];rw[← hW3];clear hW3;obtain⟨bo,hbo⟩:=named W2.heap.size;obtain⟨ob,hob⟩:=named w3.heap.size;replace hr1:=hr1.below hB1 hr1.lt;have HBW:=Ag (hb1.trans (hB1.mono hb1.size));rw[← hbo] at hr1 ro k6 ⊢;rw[← hob] at ro ⊢;have k7:bo < ob:=byOmega;have k8:ob < W3.heap.size:=byOmega;have y1:=ah (ah y0 hb1) hB1;have HBO:=Ag hbo;have ko1:W2.heap.size≤bo:=byOmega;clear hb1 hB1 hz1 hz1' hob x2 y0 hbo;go_wp2_with fail
 refine(aco W3 n).mono ?_;rintro e w4 ⟨rfl,hw4⟩;obtain⟨W4,hW4,r4,hB4,hz4⟩:=aN W3 3 #[.int .i64 (n:Int)];rw[← hW4] at hw4;rw[hw4];clear hw4 hW4;obtain⟨lb,hlb⟩:=named W3.heap.size;rw[← hlb] at r4 ⊢;have k9:ob < lb:=byOmega;have k10:lb < W4.heap.size:=byOmega;replace hr1:=hr1.below hB4 hr1.lt;replace ro:=ro.below hB4 ro.lt;replace HBW:=Ag (HBW.out.trans (hB4.mono HBW.out.size));clear hB4 hz4 hlb k8 y1;have hinv:BInv (fun _=>True) W2 r bo n ob W4.heap.size 0 W4:=⟨⟨[],rfl,by rw[HBO.out] at hr1 ⊢; exact MkO.begin hr1 HBW.out (Nat.le_refl _) byOmega (Nat.le_refl _)⟩,ro⟩;have HI:=Ag hinv;clear hr1 hinv ro;dsimp only;go_wp2_with fail
 refine(wpIn_wide (n:=9)).1 ?_;refine tV (w0:=W4) (gf:=161) (lb:=#[.pointer (some ⟨lb,0,none⟩)]) byOmega rfl (enters' Tryz.func161 aj aj)
  (acn 8 byOmega lb W2.heap.size n W4 (r4.cell rfl) k10 byOmega) (Below.refl _ _) (by have:=HBO.out; omega) (fun _=>rfl)
  (BInv (fun _=>True) W2 r bo n ob W4.heap.size) (fun _=>False) (BInv.own (by have:=HBO.out; omega)) (fun _ _ _ _ hs _ _=>hs) HI.out
  (fun k=>{ tmps:=#[.agg #[.int .i64 g.aF,.slice A g.nodes.length c,.slice Ai n ci],.slice Am n cm,.pointer (some ⟨w.heap.size,0,none⟩),.pointer (some ⟨w.heap.size+1,0,none⟩),.pointer (some ⟨b2,0,none⟩),.pointer (some ⟨b2+1,0,none⟩),.pointer (some ⟨ub,0,none⟩),.int .i64 0,.pointer (some ⟨ob,0,none⟩),.int .i64 (k:Int),undef,undef,undef,.tuple #[.slice Au n cu,.int .i64 0],.agg #[.int .i64 g.aF,.slice A g.nodes.length c,.slice Ai n ci],.tuple #[.slice Au n cu,.int .i64 0],.slice Au n cu,.int .i64 0,.int .i64 0,.bool false,undef,.slice Am n cm,.int .i64 (n:Int),.pointer (some ⟨w.heap.size,2,none⟩),.slice Ai n ci,.int .i64 (n:Int),.bool false,.slice Am n cm,.int .i64 (n:Int),.slice (some ⟨bo,0,none⟩) n n,.slice Am n cm,.int .i64 (n:Int),.func (.func 161) #[] #[.pointer (some ⟨lb,0,none⟩)],.int .i64 (k:Int),undef,undef,undef,undef,undef,undef,undef,undef,undef,undef,undef,undef,undef,undef,undef,undef,undef,undef,undef,undef,undef,undef,undef,undef,undef,undef,undef,undef,undef,undef,undef,undef,undef,undef,undef,undef,undef,undef,undef,undef,undef,undef,undef,undef,undef,undef,undef,undef,undef,undef,undef,undef,undef,undef,undef],defers:=[] }) ?assign ?body ?done ?stop
 case assign =>
  intro l x W K hK;gi_wp2;exact hK
 case stop=>rintro D W _ h; exact h.elim
 case done =>
  rintro D W hD ⟨⟨vs,hvl,hmk⟩,ho⟩ hK;have hrn:(r.take n)=r:=by rw[HN.out];exact List.take_length
  rw[hrn] at hmk;have o0:=ho.cell (i:=0) rfl;have hlsn:(r.map (List.map ak)).length=n:=by rw[List.length_map,HN.out]
  have HR:=Ag (show Ah W (fun _=>True) (.slice (some ⟨bo,0,none⟩) n n) (r.map (List.map ak)) by have h:=hmk.rows (G:=fun _=>True) (by rw[hvl]; exact Nat.le_refl _) (fun _ _=>trivial) (c:=n) byOmega; rw[hlsn] at h; exact h);have HBW:=Ag hmk.bel;have HK:=Ag hK;have HL10:=Ag (show ∀ l∈r,l.length≤10 from fun l hl=>by
   obtain⟨k,hk⟩:=List.getElem?_of_mem hl;obtain⟨inf,fB⟩:=aB (l:=g.infos) (k:=k) (by have:=aK hk; have:=HN.out; have:=HGI.out; omega);have:=HOK.out.acts k l inf hk fB;have:=HA10.out inf (List.mem_of_getElem? fB);omega)
  have HF:=Ag HOK.out.fits;have HBM:=Ag (back_mem (p:=r) fun l hl=>⟨HL10.out l hl,fun x hx=>by have:=HF.out l hl x hx; omega⟩);have HBL:=Ag (show(fO r).length=n by unfold fO; rw[List.length_map,HN.out]);have hDl:=(Array.getElem?_eq_some_iff.1 hK).1;clear hmk ho hK hlsn hrn;refine zae ?_;go_wp2_with fail
  refine(aeE W (fun _=>True) _ r HR.out (by have:=HN.out; omega) HL10.out (fun l hl x hx=>by have:=HF.out l hl x hx; omega) (fun l hl k=>qU (HL10.out l hl) (fun x hx=>by have:=HF.out l hl x hx; omega) k)).mono ?_;rintro e w5 ⟨u,rfl,hb5,hu⟩;have HU5:=Ag (Ah.keep (G:=fun _=>True) hu (fun _ _ _=>trivial) (Same.refl _ _));obtain⟨A5,c5,e,-,-⟩:=hu;rw[List.length_map,HBL.out] at e;subst e;have HB5:=Ag hb5;clear hb5 o0;dsimp only;go_wp2_with fail
  refine(qP w5 (fun _=>True) _ (fO r) HU5.out (by rw[HBL.out]; omega) (fun l hl=>by have:=(HBM.out l hl).1; omega) (fun l hl x hx=>by have:=(HBM.out l hl).2 x hx; omega)).mono ?_;rintro e w6 ⟨_,rfl,hb6,t,rfl,ht⟩;have hb56:=HB5.out.trans (hb6.mono HB5.out.size);have hb26:=HBW.out.trans (hb56.mono HBW.out.size);have hk6:w6.heap[D]? = some (.deferred (some [])):=(hb56.block D hDl).trans HK.out;have hbs:=HBW.out.size;have h5s:=HB5.out.size;have hws:=hB.size;have h6s:=hb6.size;have HT6:=Ag (Ah.keep (G:=fun b=>W2.heap.size≤b) ht (fun b hb _=>by omega) (Same.refl _ _));have r6:=rr.below hb26 rr.lt;have e6:=re.below hb26 re.lt;obtain⟨At,ct,rfl,-,-⟩:=ht;have q0:=r6.cell (i:=0) rfl;have q1:=e6.cell (i:=0) rfl;have z0:=r6.frozen 0;have z1:=e6.frozen 0;generalize hErr:jy (fO r).flatten=er at *;generalize hOut:nH (fO r)=ol at *;obtain⟨W9,hW9⟩:=named ((w6.setCell ⟨b2,0,none⟩ (.slice At ol.length ct)).setCell ⟨b2+1,0,none⟩ (.int .i64 er));have HW9:=Ag hW9;have hDb:D≠b2∧D≠b2+1:=byOmega;have hk9:W9.heap[D]? = some (.deferred (some [])):=by rw[hW9,Below.heap_setCell _ _ _ _ hDb.2,Below.heap_setCell _ _ _ _ hDb.1];exact hk6
  have r9:=r6.set 0 (.slice At ol.length ct);have hw9:Wrote (fun b=>b=b2∨b=b2+1) w6 W9:=by rw[hW9];exact((Wrote.refl _ _).setCell (p:=⟨b2,0,none⟩) (.inl (.inl rfl)) _).setCell (p:=⟨b2+1,0,none⟩) (.inl (.inr rfl)) _
  have t0:W9.cell? ⟨b2,0,none⟩=some (.slice At ol.length ct):=by rw[hW9];exact((r6.set 0 _).other (a:=⟨b2+1,0,none⟩) aA _).cell (i:=0) rfl
  have t1:W9.cell? ⟨b2+1,0,none⟩=some (.int .i64 er):=by rw[hW9];exact((e6.other (a:=⟨b2,0,none⟩) aA _).set 0 _).cell (i:=0) rfl
  have ko2:bo≤W2.heap.size:=by rw[HBO.out];exact Nat.le_refl _
  have HT9:=Ag (Ah.on HT6.out (hw9.same fun b hb e=>by have hb:W2.heap.size≤b:=hb; rcases e with e | e <;> omega));have HB9:=Ag (Wrote.below (hB.trans (hb26.mono byOmega)) hw9 (fun b hb=>by rcases hb with e | e <;> omega) byOmega);have HK9:=Ag hk9;clear hW9 r9 hw9 hk9 hk6 hb56 hb26 r6 e6 HT6 hb6;dsimp only;go_wp2
  rw[← HW9.out];refine⟨aA,.inl ⟨_,_,rfl,run_takeDeferred HK9.out,?_⟩⟩;have c0:=cell_kept t0 (grownBy_putObj' W9 D (.deferred none)) (fun r e=>by cases e; exact⟨_,HK9.out,rfl⟩);have c1:=cell_kept t1 (grownBy_putObj' W9 D (.deferred none)) (fun r e=>by cases e; exact⟨_,HK9.out,rfl⟩);refine⟨.tuple #[.slice At ol.length ct,.int .i64 er],by simp[results,Tryz.results56,go_sem,c0,c1],⟨_,rfl,?_,_,by rw[hErr],?_⟩⟩
  ·exact HB9.out.trans (belowK_b (w:=w) (Nat.le_refl _) W9 D _ _ byOmega HK9.out rfl rfl)
  ·rw[hOut];exact(Ah.kept HT9.out (grownBy_putObj' W9 D _) (fun r e=>by cases e; exact⟨_,HK9.out,rfl⟩)).keep (fun b hb _=>by have hb:W2.heap.size≤b:=hb; omega) (Same.refl _ _)
 case body =>
  rintro l k W ⟨⟨vs,hvl,hmk⟩,ho⟩ hk;have HMK:=Ag hmk;have HVL:=Ag hvl;have HO:=Ag ho;obtain⟨row,hrow⟩:=aB (l:=r) (k:=k) (by rw[← HN.out]; exact hk);obtain⟨inf,fB⟩:=aB (l:=g.infos) (k:=k) (by rw[HGI.out]; exact hk);obtain⟨s,hs⟩:=aB (l:=aS g) (k:=k) (by rw[fF,HGI.out]; exact hk);have HAC:=Ag (HOK.out.acts k row inf hrow fB);have HSM:=Ag (HOK.out.sum k row s hrow hs);have HUP:=Ag (HOK.out.up k s hs);have HRL:=Ag (HOK.out.fits row (List.mem_of_getElem? hrow));have HPS:=Ag (HOK.out.pos row (List.mem_of_getElem? hrow));have hbel:=hmk.bel;have akQ:row.length≤10:=by have:=HAC.out;have:=HA10.out inf (List.mem_of_getElem? fB);omega
  obtain⟨A',c',e,_,hxm⟩:=HM.out;rw[List.length_map,← HN.out] at e;injection e with e1 e2 e3
  subst e1;obtain⟨mb,mo,rfl,_,qV,hcm⟩:=hxm (by rw[List.length_map,← HN.out]; omega);obtain⟨vr,hvr,hra⟩:=hcm k (row.map au) (by rw[List.getElem?_map,hrow]; rfl);rw[Nat.mul_one] at hvr;have nJ:=AL.keep (G:=Old (fun _=>True) W2.heap.size) hra (fun b hb hl=>⟨hb,hl⟩) (Same.refl _ _);obtain⟨Ar,cr,rfl,-,-⟩:=hra;rw[List.length_map] at hvr nJ;have HRV:=Ag nJ;have AX:=Ag hrow;have HVR:=Ag hvr;have HSG:=Ag hs;have m1:=(hbel.cell (p:=⟨mb,mo+k,none⟩) qV).trans hvr;obtain⟨_,_,e,-,A2,c2,he2,_,hxi⟩:=HG.out;simp only[Value.agg.injEq,Array.mk.injEq,List.cons.injEq,and_true,true_and] at e;obtain⟨-,e⟩:=e;rw[he2,HGI.out] at e;injection e with e1 e2' e3'
  subst e1;obtain⟨bI,oI,rfl,_,hbI,hcI⟩:=hxi (by rw[HGI.out]; omega);have i1:=(hbel.cell (p:=⟨bI,oI+k*2+1,none⟩) hbI).trans (hcI k inf fB).c1;rw[← HAC.out] at i1;have x2:=(hbel.cell (p:=⟨w.heap.size,2,none⟩) rg.lt).trans (rg.cell (i:=2) rfl);have y0:=(hbel.cell (p:=⟨w.heap.size+1,0,none⟩) rm.lt).trans (rm.cell (i:=0) rfl);clear e2 e3 e2' e3' he2 hxm hcm hvr nJ hxi hcI hmk ho hrow fB hs;have hnne:((row.length:Int) != (row.length:Int))=false:=aA;have hkI:(k:Int) < n:=byOmega;gi_wp2_with fail;have hBn:=Below.refl W.heap.size W;refine rZ (S:=fun w'=>w'.cell? ⟨w.heap.size+1,0,none⟩=some (.slice (some ⟨mb,mo,none⟩) n cm)∧w'.cell? ⟨mb,mo+k,none⟩=some (.slice Ar row.length cr)∧w'.cell? ⟨w.heap.size,2,none⟩=some (.slice (some ⟨bI,oI,none⟩) n ci)∧w'.cell? ⟨bI,oI+k*2+1,none⟩=some (.int .i64 (row.length:Int))) aj aj (by rintro⟨_,_,hh⟩; exact hh) ⟨y0,m1,x2,i1⟩ (fun hHeld=>?_);refine za3 ?_;intro hb;replace y0:=ah y0 hb;replace m1:=ah m1 hb;replace x2:=ah x2 hb;replace i1:=ah i1 hb;replace hBn:=hBn.trans (hb.mono hBn.size);clear hb;generalize W.drew=wn at *;refine tkm [0,1,2,3,4,5,6,7,8,9,10,11] ?_;refine YF ?_;clear hHeld;clear y0 m1 x2 i1 hnne;have y0:=(hbel.trans (hBn.mono hbel.size)).cell (p:=⟨w.heap.size+1,0,none⟩) rm.lt |>.trans (rm.cell (i:=0) rfl)
  have m1:=(hbel.trans (hBn.mono hbel.size)).cell (p:=⟨mb,mo+k,none⟩) qV |>.trans HVR.out
  refine Yi ?_;gi_wp2_with fail;clear y0 m1;gi_loopw [51] (fun iv wr=>∃ j:Nat,j≤row.length∧iv = .int .i64 (j:Int)∧Below W.heap.size W wr) (fun iv _=>row.length - (intOf iv).toNat)
  case atStart=>exact⟨0,Nat.zero_le _,rfl,hBn⟩
  case round =>
   clear hBn;obtain⟨j,hj,rfl,hbj⟩:=hrel;obtain⟨wb,rfl⟩:=named wr;have hB2:=hbel.trans (hbj.mono hbel.size);by_cases hjt:j < row.length
   ·obtain⟨x,hx⟩:=aB hjt;have hxf:=HRL.out x (List.mem_of_getElem? hx);have HNG:=Ag (show(au x).neg=false from HPS.out x (List.mem_of_getElem? hx));obtain⟨rb,ro,rc,vn,vd,e,_,_,y0,y1,y2,hn,hd⟩:=AL.at (HRV.out.on (Below.same' hB2 _)) (show(row.map au)[j]? = some (au x) by rw[List.getElem?_map,hx]; rfl);injection e with e1 e2 e3
    subst e1;have HXV:=Ag (AA.make (r:=au x) rfl hn hd);obtain⟨An,cn,rfl,-,-⟩:=hn;obtain⟨Ad,cd,rfl,-,-⟩:=hd;have hjr:(j:Int) < row.length:=byOmega;have HXL:=Ag (show(au x).num.length≤100000∧(au x).den.length≤100000 by have:=eY x; have:=fA x; rw[kN]; exact⟨byOmega,by show(dig x.den).length≤_; omega⟩);clear e2 e3 hx;gi_upto_region 14 with(fail)
    obtain⟨W7,hW7,r7,hb7,hz7⟩:=aN wb 83 #[.bool (au x).neg,.slice An (au x).num.length cn,.slice Ad (au x).den.length cd];rw[← hW7];obtain⟨xb,hxb⟩:=named wb.heap.size;replace HXV:=Ag (AA.below HXV.out hb7);have HB7:=Ag (hbj.trans (hb7.mono hbj.size));have HT7:=Ag (HT.out.on (hB2.trans (hb7.mono hB2.size)));rw[← hxb] at r7 ⊢;clear hW7 hb7 hz7 hxb y0 y1 y2;refine zcE ?_;intro x0 x1 x2;gi_wp2_with fail;refine⟨trivial,(CallsIn.inRound l (callsIn_wide.2 (xX W7 _ _ (au x) HXV.out (adk x) HXL.out.1 HXL.out.2 HT7.out))).mono ?_⟩;rintro e w8 ⟨_,rfl,hb8,rfl⟩;rw[aa4 byOmega];replace x0:=ah x0 hb8;rw[HNG.out] at x0;have HB8:=Ag (HB7.out.trans (hb8.mono HB7.out.size));clear hb8 x1 x2 r7;dsimp only;gi_wp2_with fail;go_roundw
    case rel=>exact⟨j+1,byOmega,by go_num,HB8.out⟩
    case measure=>simp[intOf]; omega
   ·have hje:j=row.length:=byOmega;subst hje;have y0:=(hB2.cell (p:=⟨w.heap.size+1,0,none⟩) rm.lt).trans (rm.cell (i:=0) rfl);have m1:=(hB2.cell (p:=⟨mb,mo+k,none⟩) qV).trans HVR.out;have HMB:=Ag (HMK.out.below hbj);have HOB:=Ag (HO.out.below hbj HO.out.lt);have o0:=HOB.out.cell (i:=0) rfl;have HNV:=Ag (HRV.out.on (Below.same' hB2 _));have hBe:=hbj;gi_wp2_with fail;refine nN (fun w'=>w'.cell? ⟨w.heap.size+1,0,none⟩=some (.slice (some ⟨mb,mo,none⟩) n cm)∧w'.cell? ⟨mb,mo+k,none⟩=some (.slice Ar row.length cr)∧w'.cell? ⟨ob,0,none⟩=some (.slice (some ⟨bo,0,none⟩) n n)) 8 1 aj aj (by rintro⟨_,_,hh⟩; exact hh) rfl aj ?_;have hHeld:(fun w':World=>w'.cell? ⟨w.heap.size+1,0,none⟩=some (.slice (some ⟨mb,mo,none⟩) n cm)∧w'.cell? ⟨mb,mo+k,none⟩=some (.slice Ar row.length cr)∧w'.cell? ⟨ob,0,none⟩=some (.slice (some ⟨bo,0,none⟩) n n)) wb.drew:=⟨y0,m1,o0⟩;refine zch ?_;intro hb;replace y0:=ah y0 hb;replace m1:=ah m1 hb;replace o0:=ah o0 hb;replace HNV:=Ag (AL.on HNV.out (Below.same' hb _));replace HMB:=Ag (HMB.out.below hb);replace HOB:=Ag (HOB.out.below hb HOB.out.lt);replace hBe:=hBe.trans (hb.mono hBe.size);clear hb;generalize wb.drew=wn at *;refine tkm [0,1,2,3,4,5] ?_;refine tk2 6 aj rfl fun K hK=>?_
    go_simp;refine(zD wn (Old (fun _=>True) W2.heap.size) _ row HNV.out byOmega (fun x hx=>by have:=HRL.out x hx; omega)).mono ?_;rintro e wn ⟨u,rfl,hb,hu⟩;have hsz:=HMB.out.size;have HRW:=Ag (show AL _ (GoF (fun _=>True) W2 W4.heap.size) u (row.map ak) from AL.keep hu (fun b hb _=>hb.imp id fun h=>by omega) (Same.refl _ _));obtain⟨Az,cz,e,-,-⟩:=hu;rw[List.length_map] at e;subst e;replace y0:=ah y0 hb;replace m1:=ah m1 hb;replace o0:=ah o0 hb;replace HNV:=Ag (AL.on HNV.out (Below.same' hb _));replace HMB:=Ag (HMB.out.below hb);replace HOB:=Ag (HOB.out.below hb HOB.out.lt);replace hBe:=hBe.trans (hb.mono hBe.size);clear hb;dsimp only;clear hHeld;refine hK.out _ _ ⟨y0,m1,o0⟩ (fun hHeld=>?_);clear hK K;refine Zb ?_;refine tkm [7] ?_;refine ZF ?_;clear hHeld;have c0:=HMB.out.row.cell (i:=k) (by have:=qM (vs:=vs) (n:=n) (by rw[HVL.out]; exact hk); rwa [HVL.out] at this);have fz:=HMB.out.row.frozen k;obtain⟨W9,hW9⟩:=named (wn.setCell ⟨bo,k,none⟩ (.slice Az row.length cz));have hob:=HOB.out.lt;have HM9:=Ag (show MkO (fun _=>True) W2 bo 110 n W4.heap.size (vs ++ [.slice Az row.length cz]) ((r.take (k+1)).map (List.map ak)) W9 by rw[hW9,take_snoc AX.out,List.map_append]; exact HMB.out.lay (by rw[HVL.out]; exact hk) HRW.out HVL.out);have HO9:=Ag (show Row W9 ob _ _ from hW9▸HOB.out.other (a:=⟨bo,k,none⟩) aC _);have HK9:=Ag (show KeepsFrom W4.heap.size W W9 from hW9▸(jY hBe _).trans ((KeepsOthers.setCell _ _ _).from _));have hWW:=hBe.size;have HB9:=Ag (show Below W2.heap.size W W9 from hW9▸(hBe.mono (by have:=hbel.size; omega)).setCell (p:=⟨bo,k,none⟩) ko1 _);have HW9:=Ag hW9;have hb29:=HM9.out.bel;clear hW9 HMB HOB HNV hBe hob hWW HRW;go_wp2
    rw[← HW9.out];unfold Bv;refine Yi ?_;clear c0 fz o0 y0 m1 HW9;obtain⟨A',c',e,_,hxu⟩:=HU.out;rw[fF,HGI.out] at e;injection e with e1 e2 e3
    subst e1;obtain⟨pb,po,rfl,_,hpb,hcu⟩:=hxu (by rw[fF,HGI.out]; omega);obtain⟨q0,q1⟩:=hcu k s HSG.out;have p0:=(hb29.cell (p:=⟨pb,po+k*2,none⟩) hpb).trans q0;have p1:=(hb29.cell (p:=⟨pb,po+k*2+1,none⟩) hpb).trans q1;have u0:=(hb29.cell (p:=⟨ub,0,none⟩) ru.lt).trans (ru.cell (i:=0) rfl);have c9:=HM9.out.row.cell (i:=k) (v:=.slice Az row.length cz) (by unfold jS; rw[List.getElem?_append_left (by rw[List.length_append,HVL.out]; simp),List.getElem?_append_right (by rw[HVL.out]; exact Nat.le_refl _),HVL.out,Nat.sub_self]; rfl);have o0:=HO9.out.cell (i:=0) rfl;obtain⟨s1,s2⟩:=s;dsimp only at p0 p1;have HNV:=Ag (show AL W9 (GoF (fun _=>True) W2 W4.heap.size) (.slice Az row.length cz) (row.map ak) from HM9.out.done.2 k _ _ (by rw[List.getElem?_append_right (by rw[HVL.out]; exact Nat.le_refl _),HVL.out,Nat.sub_self]; rfl) (by rw[List.getElem?_map,List.getElem?_take,if_pos byOmega,AX.out]; rfl));have HMB:=HM9;have hBe:=Below.refl W9.heap.size W9;clear e2 e3 hxu hcu q0 q1;gi_wp2_with fail;refine rZ (S:=fun w'=>w'.cell? ⟨ob,0,none⟩=some (.slice (some ⟨bo,0,none⟩) n n)∧w'.cell? ⟨bo,k,none⟩=some (.slice Az row.length cz)∧w'.cell? ⟨ub,0,none⟩=some (.slice (some ⟨pb,po,none⟩) n cu)∧w'.cell? ⟨pb,po+k*2,none⟩=some (.int .i64 s1)∧w'.cell? ⟨pb,po+k*2+1,none⟩=some (.int .i64 s2)) aj aj (by rintro⟨_,_,hh⟩; exact hh) ⟨o0,c9,u0,p0,p1⟩ (fun hHeld=>?_);have hb:Below W9.heap.size W9 W9.drew:=aH (Below.refl _ W9) 1;refine YX ?_;clear o0 c9 u0 p0 p1 HNV HMB hBe;intro o0 c9 u0 p0 p1 HNV HMB hBe;clear hb;generalize W9.drew=wn at *;refine tkm [0,1,2,3,5,6,7,8,9] ?_;refine tk2 4 aj rfl fun K hK=>?_
    go_simp;refine(sum_any wn (GoF (fun _=>True) W2 W4.heap.size) _ row HNV.out byOmega (fun x hx=>by have:=HRL.out x hx; omega) (qU akQ (fun x hx=>by have:=HRL.out x hx; omega))).mono ?_;rintro e wn ⟨u,rfl,hb,hu⟩;have HSV:=Ag (AA.mono (G:=(fun _=>True)) hu (fun _ _ _=>trivial));obtain⟨A5,c5,B5,d5,rfl,-⟩:=hu.opened;clear hu;refine YX ?_;clear o0 c9 u0 p0 p1 HNV HMB hBe;intro o0 c9 u0 p0 p1 HNV HMB hBe;clear hb;dsimp only;clear hHeld;refine hK.out _ _ ⟨o0,c9,u0,p0,p1⟩ (fun hHeld=>?_);clear hK K;refine Zb ?_;refine tk2 10 aj rfl fun K hK=>?_
    go_simp;refine(afX HMB.out (by rw[List.length_append,HVL.out]; rfl) byOmega (by rw[← HN.out]; omega) (s1,s2) (HUP.out.imp id fun h=>⟨h.1,by have:=h.2.1; omega,h.2.2.1,h.2.2.2⟩)).mono ?_;rintro e wn ⟨u,rfl,hb,hu⟩;have HFV:=Ag (AA.mono (G:=(fun _=>True)) hu (fun _ _ _=>trivial));obtain⟨A6,c6,B6,d6,rfl,-⟩:=hu.opened;clear hu;refine YX ?_;clear o0 c9 u0 p0 p1 HNV HMB hBe;intro o0 c9 u0 p0 p1 HNV HMB hBe;replace HSV:=Ag (AA.on HSV.out (Below.same' hb _));clear hb;dsimp only;clear hHeld;refine hK.out _ _ ⟨o0,c9,u0,p0,p1⟩ (fun hHeld=>?_);clear hK K;refine Zb ?_;refine tk2 11 aj rfl fun K hK=>?_
    go_simp;refine(xQ wn (fun _=>True) _ _ (jH row) (gX r (s1,s2)) HSV.out HFV.out (by rw[HSM.out]; have:=HOK.out.agu (s1,s2); omega) (by have:=HOK.out.agu (s1,s2); omega)).mono ?_;rintro e wn ⟨_,rfl,hb,rfl⟩;rw[show iO (jH row) (gX r (s1,s2))=0 from(uU _ _).2 HSM.out];refine YX ?_;clear o0 c9 u0 p0 p1 HNV HMB hBe;intro o0 c9 u0 p0 p1 HNV HMB hBe;replace HSV:=Ag (AA.on HSV.out (Below.same' hb _));replace HFV:=Ag (AA.on HFV.out (Below.same' hb _));clear hb;dsimp only;clear hHeld;refine hK.out _ _ ⟨o0,c9,u0,p0,p1⟩ (fun hHeld=>?_);clear hK K;refine Zb ?_;refine tkm [12] ?_;refine YF ?_;clear hHeld;refine Yi ?_;have HKF:=Ag (HK9.out.trans (jY hBe _));have HBW2:=Ag (HB9.out.trans (hBe.mono (by have:=HM9.out.bel.size; omega)));have AY:=Ag (show BInv (fun _=>True) W2 r bo n ob W4.heap.size (k+1) wn from⟨⟨vs ++ [.slice Az row.length cz],by rw[List.length_append,HVL.out]; rfl,HMB.out⟩,HO9.out.below hBe HO9.out.lt⟩);clear o0 c9 u0 p0 p1 hBe HMB HM9;gi_wp2;exact⟨HKF.out,HBW2.out,AY.out⟩
open Go.RowKit
theorem aah:au 1=⟨false,[1],[1]⟩:=by
 unfold au;exact zdE
def knM:List (List Rat):=[[1,0],[0,1],[0,0,1]]
def knR:List (List Rat):=[[1,0],[0,1],[0,0,0]]
def knB:List (List Rat):=[[1,0],[0,1],[mkRat 1 3,mkRat 1 3,mkRat 1 3]]
def knX:List (List Rat):=[[1,0],[1,0],[1,0,0]]
def knY:List (List Rat):=[[0,1],[0,1],[0,0,1]]
def knZ:List (List Rat):=[[mkRat 3 4,mkRat 1 4],[mkRat 3 4,mkRat 1 4],[0,0,1]]
def knW:List (List Rat):=[[1,1],[1,0],[1,0,0]]
def zo:Raw:=⟨false,[],[1]⟩
def on:Raw:=⟨false,[1],[1]⟩
theorem ajP:knM.map (List.map au) = [[on,zo],[zo,on],[zo,zo,on]]:=by unfold knM on zo; simp only[List.map_cons,List.map_nil,oN,aah]
theorem ajQ:knX.map (List.map au) = [[on,zo],[on,zo],[on,zo,zo]]:=by unfold knX on zo; simp only[List.map_cons,List.map_nil,oN,aah]
theorem ajR:knY.map (List.map au) = [[zo,on],[zo,on],[zo,zo,on]]:=by unfold knY on zo; simp only[List.map_cons,List.map_nil,oN,aah]
theorem ajS:knW.map (List.map au) = [[on,on],[on,zo],[on,zo,zo]]:=by unfold knW on zo; simp only[List.map_cons,List.map_nil,oN,aah]
theorem ahH:dS bF (knM.map (List.map au))=0:=by rw[ajP]; decide +kernel
theorem ahI:dS bF (knX.map (List.map au))=0:=by rw[ajQ]; decide +kernel
theorem ahJ:dS bF (knY.map (List.map au))=0:=by rw[ajR]; decide +kernel
theorem ahK:dS bF (knW.map (List.map au))=14:=by rw[ajS]; decide +kernel
theorem aeP:uh bF [0,1,2]=0:=by decide +kernel
theorem aeQ:uh bF [0,0,0]=0:=by decide +kernel
theorem aeR:uh bF [1,1,2]=0:=by decide +kernel
theorem ai9:uh bF [0,1,3]=2:=by decide +kernel
theorem aja:uh bF [0,1]=3:=by decide +kernel
theorem wX {g:Gm} {c:List Int} {m:List (List Rat)} (h:uh g c=0) (hm:qB g c=m):rY g c=m.map (List.map au):=by
 unfold rY;rw[if_neg (by rw[h]; decide),hm]
theorem ajT:rY bF [0,1,2]=knM.map (List.map au):=wX aeP (by decide +kernel)
theorem ajU:rY bF [0,0,0]=knX.map (List.map au):=wX aeQ (by decide +kernel)
theorem ajV:rY bF [1,1,2]=knY.map (List.map au):=wX aeR (by decide +kernel)
theorem ajb:ofE bF (knM.map (List.map au))=0:=by
 unfold ofE;rw[if_neg (by rw[ahH]; decide),mJ]
theorem ajc:abd bF (knM.map (List.map au))=knR.map (List.map au):=by
 unfold abd;rw[if_neg (by rw[ajb]; decide),lJ,lK,show bG [(-1,-1),(-1,-1),(0,1)] knM=knR by decide +kernel]
theorem ajW:fO knR=knB:=by decide +kernel
theorem o8 {m:List (List Rat)} (h:∀ l∈m,l.length≤3∧∀ x∈l,x=0∨x=1∨x=mkRat 1 3∨x=mkRat 1 4∨x=mkRat 3 4):∀ l∈m,l.length≤3∧∀ x∈l,rl x≤4:=fun l hl=>⟨(h l hl).1,fun x hx=>by
 rcases (h l hl).2 x hx with rfl | rfl | rfl | rfl | rfl
 ·rw[uy]; omega
 ·rw[nM]; omega
 all_goals exact Nat.le_trans (abQ ay (aT (k:=1) (by unfold LB; decide)) (aT (k:=1) (by unfold LB; decide))) ay⟩
theorem aai {m:List (List Rat)} (h:∀ l∈m,l.length≤3∧∀ x∈l,rl x≤4):jy m.flatten=0:=oZ fun x hx=>by
 obtain⟨l,hl,hx⟩:=List.mem_flatten.1 hx;have:=(h l hl).2 x hx;omega
theorem yG {m:List (List Rat)} (hm:m.length≤3) (h:∀ l∈m,l.length≤3∧∀ x∈l,rl x≤4):BJ (m.map (List.map au)) :=
 abq byOmega fun l hl=>⟨by have:=(h l hl).1; omega,fun x hx=>by have:=(h l hl).2 x hx; omega⟩
theorem yH {m:List (List Rat)} (h:∀ l∈m,l.length≤3∧∀ x∈l,rl x≤4):BG (m.map (List.map au)):=by
 intro l hl r hr;obtain⟨l',hl',rfl⟩:=List.mem_map.1 hl;obtain⟨x,hx,rfl⟩:=List.mem_map.1 hr;have h1:=(h l' hl').2 x hx;have h2:=eY x;have h3:=fA x;rw[kN];exact⟨byOmega,by show(dig x.den).length≤4; omega⟩
theorem aaj {m:List (List Rat)} (h:∀ l∈m,l.length≤3∧∀ x∈l,rl x≤4):∀ l∈m.map (List.map au),l.length≤20:=by
 intro l hl;obtain⟨l',hl',rfl⟩:=List.mem_map.1 hl;rw[List.length_map];have:=(h l' hl').1;omega
theorem aak {m:List (List Rat)} (h:∀ l∈m,l.length≤3∧∀ x∈l,rl x≤4):Bf (m.map (List.map au)):=by
 intro l hl;have h1:=aaj h l hl;have h2:=yH h l hl;refine⟨byOmega,fun r hr=>?_⟩;have h3:=h2 r hr;obtain⟨l',hl',rfl⟩:=List.mem_map.1 hl;obtain⟨x,_,rfl⟩:=List.mem_map.1 hr;exact⟨adk x,byOmega,byOmega⟩
theorem aal:∀ l∈knM,l.length≤3∧∀ x∈l,rl x≤4:=o8 fun l hl=>by
 unfold knM at hl;simp only[List.mem_cons,List.not_mem_nil,or_false] at hl;rcases hl with rfl | rfl | rfl <;> exact⟨ay,fun x hx=>by simp only[List.mem_cons,List.not_mem_nil,or_false] at hx; rcases hx with rfl | rfl | rfl <;> simp⟩
theorem agv:∀ l∈knR,l.length≤3∧∀ x∈l,rl x≤4:=o8 fun l hl=>by
 unfold knR at hl;simp only[List.mem_cons,List.not_mem_nil,or_false] at hl;rcases hl with rfl | rfl | rfl <;> exact⟨ay,fun x hx=>by simp only[List.mem_cons,List.not_mem_nil,or_false] at hx; rcases hx with rfl | rfl | rfl <;> simp⟩
theorem adl:∀ l∈knB,l.length≤3∧∀ x∈l,rl x≤4:=o8 fun l hl=>by
 unfold knB at hl;simp only[List.mem_cons,List.not_mem_nil,or_false] at hl;rcases hl with rfl | rfl | rfl <;> exact⟨ay,fun x hx=>by simp only[List.mem_cons,List.not_mem_nil,or_false] at hx; rcases hx with rfl | rfl | rfl <;> simp⟩
theorem adn:∀ l∈knX,l.length≤3∧∀ x∈l,rl x≤4:=o8 fun l hl=>by
 unfold knX at hl;simp only[List.mem_cons,List.not_mem_nil,or_false] at hl;rcases hl with rfl | rfl | rfl <;> exact⟨ay,fun x hx=>by simp only[List.mem_cons,List.not_mem_nil,or_false] at hx; rcases hx with rfl | rfl | rfl <;> simp⟩
theorem ado:∀ l∈knY,l.length≤3∧∀ x∈l,rl x≤4:=o8 fun l hl=>by
 unfold knY at hl;simp only[List.mem_cons,List.not_mem_nil,or_false] at hl;rcases hl with rfl | rfl | rfl <;> exact⟨ay,fun x hx=>by simp only[List.mem_cons,List.not_mem_nil,or_false] at hx; rcases hx with rfl | rfl | rfl <;> simp⟩
theorem adp:∀ l∈knZ,l.length≤3∧∀ x∈l,rl x≤4:=o8 fun l hl=>by
 unfold knZ at hl;simp only[List.mem_cons,List.not_mem_nil,or_false] at hl;rcases hl with rfl | rfl | rfl <;> exact⟨ay,fun x hx=>by simp only[List.mem_cons,List.not_mem_nil,or_false] at hx; rcases hx with rfl | rfl | rfl <;> simp⟩
theorem ajX:∀ l∈knW,l.length≤3∧∀ x∈l,rl x≤4:=o8 fun l hl=>by
 unfold knW at hl;simp only[List.mem_cons,List.not_mem_nil,or_false] at hl;rcases hl with rfl | rfl | rfl <;> exact⟨ay,fun x hx=>by simp only[List.mem_cons,List.not_mem_nil,or_false] at hx; rcases hx with rfl | rfl | rfl <;> simp⟩
theorem ahL:Dc bF knR where
 len:=by decide +kernel
 acts k l inf hl hi:=by
  have h:∀ k:Nat,k < 3→((knR.getD k []).length:Int)=(bF.infos.getD k default).actions:=by decide +kernel
  have hk:k < 3:=aK hl;have:=h k hk;rw[List.getD_eq_getElem?_getD,List.getD_eq_getElem?_getD,hl,hi] at this;exact this
 pos:=by decide +kernel
 fits l hl x hx:=by have:=(agv l hl).2 x hx; omega
 sum k l s hl hs:=by
  have h:∀ k:Nat,k < 3→jH (knR.getD k [])=gX knR ((aS bF).getD k (-1,-1)):=by decide +kernel
  have hk:k < 3:=aK hl;have:=h k hk;rw[List.getD_eq_getElem?_getD,List.getD_eq_getElem?_getD,hl,hs] at this;exact this
 up k s hs:=by
  have h:∀ k:Nat,k < 3→((aS bF).getD k (-1,-1)).1 < 0∨(0≤((aS bF).getD k (-1,-1)).1∧((aS bF).getD k (-1,-1)).1 < (k:Int)∧0≤((aS bF).getD k (-1,-1)).2∧((aS bF).getD k (-1,-1)).2 < ((knR.getD ((aS bF).getD k (-1,-1)).1.toNat []).length:Int)):=by decide +kernel
  have hk:k < 3:=by have:=aK hs;rwa [lK] at this
  have:=h k hk;rw[List.getD_eq_getElem?_getD,hs] at this;exact this
theorem ajd:dP (au (mkRat 1 4))=0:=by
 have h:dZ (au (mkRat 1 4))=0:=aa4 (Nat.le_trans (abQ ay (aT (k:=1) (by unfold LB; decide)) (aT (k:=1) (by unfold LB; decide))) ay);rw[rP _ h,if_neg];rintro(h | h)
 ·revert h; decide +kernel
 ·revert h; decide +kernel
theorem aeS:lT bF (knX.map (List.map au)) (knY.map (List.map au)) (au (mkRat 1 4))=0:=by
 unfold lT;rw[if_neg (by rw[ahI]; decide),if_neg (by rw[nG ahJ]; decide),if_neg (by rw[ajd]; decide),mJ]
theorem agw:pz bF (knX.map (List.map au)) (knY.map (List.map au)) (au (mkRat 1 4))=knZ:=by
 unfold pz;rw[lJ,lJ,mX,lK];decide +kernel
theorem ajY:abf bF (knX.map (List.map au)) (knY.map (List.map au)) (au (mkRat 1 4))=0:=by
 unfold abf;rw[if_neg (by rw[aeS]; decide),agw,aai adp]
theorem ahM:mG bF (knX.map (List.map au)) (knY.map (List.map au)) (au (mkRat 1 4))=knZ.map (List.map au):=by
 unfold mG nH;rw[if_neg (by rw[aeS]; decide),agw,if_neg (by rw[aai adp]; decide)]
end Go.Proofs.YthmklhapjegfdaaGreatDoor
