import Derived.Test.YtenaplhghbcjhaaGreatDoorQ36
import Derived.Test.YtenaplhghbcjhaaGreatDoorQ33
import Derived.Sort.CutIn
import Derived.Test.YtenaplhghbcjhaaGreatDoorQ15
set_option linter.all false
set_option maxRecDepth 100000
set_option maxHeartbeats 0
namespace Go.Proofs.YtenaplhghbcjhaaGreatDoor
open Go.RowKit.Below renaming heap_setCell->JA,refl->GR
open Below renaming same'->GL
open Go.IntKind renaming i64->GU
open Go renaming Value->GN,World->GK
open Go.Value renaming bool->G7,int->GV,slice->Gw
open Gs renaming keep->IX,on->Iy
open Gt renaming keep->JK
open Int renaming toNat_natCast->Ic
open List renaming getD_eq_getElem?_getD->GH,getElem?_append_left->IB,getElem?_append_right->JI,getElem?_map->GY,getElem?_of_mem->H9,getElem?_take->KF,length_append->G9,length_map->Gz,map->Iq,mem_of_getElem?->Gx,range->Ig
open Nat renaming le_refl->Gy,le_trans->He,mul_one->Ho,zero_le->Hg
open Rat renaming add_zero->JX
open Same renaming refl->GZ
open Go.Proofs.Tryz renaming prog->GI
open Go.World renaming alloc->G5
open Wrote renaming below->Ht,refl->Ir
open Go.RowKit
variable {F:Gq} {p:Int} {m r:List (List Rat)} {l:List Rat} {B1 a bo c i k n:Nat}
section
variable {g:Gm} {ch:List Int}
end
theorem aaK {up:List (Int×Int)} {row:List Rat} (h:(cO up m)[k]? = some l) (hm:m[k]? = some row):l=row.map λx=>eH (jU up m k) (up.getD k (-1,-1))*x:=by
 have hk:k < m.length:=Gn hm;have e:(cO up m).getD k []=l:=by rw[GH,h];rfl
 grind [cO,kL]
theorem adk {g:Gm} (h:BH g m) (hl:(cO (aU g) m)[k]? = some l):∃ inf,g.F8[k]? = some inf/\(l.length:Int)=inf.actions:=by
 have hk:k < m.length:=by have:=Gn hl;unfold cO at this;rwa [eY] at this
 obtain⟨row,hr⟩:=Gl hk;obtain⟨inf,hi⟩:=Gl (l:=g.F8) (k:=k) (by have:=h.1; omega);refine⟨inf,hi,?_⟩;rw[aaK hl hr,Gz];exact(h.2 k inf row hi hr).1
theorem akK {g:Gm} (hf:aQ g=0) (hs:Small g) (h:BH g m):∀ l∈cO (aU g) m,∀ x∈l,rl x<=1000:=by
 have hst:=h.agU hf;have hft:=afC hst;have hl4:=xQ h.limbs;have hml:m.length<=100:=by have:=h.1;have:=hs.F8;omega
 intro l hl x hx;obtain⟨k,hk⟩:=H9 hl;have hkm:k < m.length:=by have:=Gn hk;unfold cO at this;rwa [eY] at this
 obtain⟨row,hr⟩:=Gl hkm;rw[aaK hk hr] at hx;obtain⟨y,hy,rfl⟩:=List.mem_map.1 hx;obtain⟨s,hs'⟩:=Gl (l:=aU g) (k:=k) (by rw[hft.len]; exact hkm);have h1:=ag5 hft hl4 k FI s (by have:=hft.ok k s hs'; omega);rw[GH,hs',Option.getD_some];have h2:=jQ (eH (jU (aU g) m k) s) y;grind
open List renaming getElem_toArray → lq1, getElem_cons_zero → lq2, getElem_cons_succ → lq3, setIfInBounds_toArray → lq4, set_cons_zero → lq5, set_cons_succ → lq6
open Go.RowKit Go.Shelf
attribute [local go_sem] Oper.semAt_some
structure DL (g:Gm) (r:List (List Rat)):Prop where
 len:r.length=g.F8.length
 acts:∀ (k:Nat) (l:List Rat) (inf:Inf),r[k]? = some l->g.F8[k]? = some inf->(l.length:Int)=inf.actions
 pos:∀ l∈r,∀ x∈l,dh x=false
 fits:∀ l∈r,∀ x∈l,rl x<=1000
 sum:∀ (k:Nat) (l:List Rat) (s:Int×Int),r[k]? = some l->(aU g)[k]? = some s->jm l=eH r s
 up:∀ (k:Nat) (s:Int×Int),(aU g)[k]? = some s->s.1 < 0\/(0<=s.1/\s.1 < (k:Int)/\0<=s.2/\s.2 < ((r.getD s.1.toNat []).length:Int))
theorem aoD (w:GK) (t1:TypeId) (c1:Array GN) (t2:TypeId) (c2:Array GN) (t3:TypeId) (c3:Array GN) (t4:TypeId) (c4:Array GN):∃ W:GK,W=(((w.alloc (.cells c1 t1)).alloc (.cells c2 t2)).alloc (.cells c3 t3)).alloc (.cells c4 t4)/\Row W w.heap.size t1 c1.toList/\Row W (w.heap.size+1) t2 c2.toList/\Row W (w.heap.size+1+1) t3 c3.toList/\Row W (w.heap.size+1+1+1) t4 c4.toList/\Below w.heap.size w W/\W.heap.size=w.heap.size+4:=by
 obtain⟨W,hW,h1,h2,h3,h4,_⟩:=afd w t1 c1 t2 c2 t3 c3;have e:W.heap.size=w.heap.size+3:=by rw[hW];simp
 have h:=Row.new W t4 c4;rw[e] at h;refine⟨W.alloc (.cells c4 t4),by rw[hW],h1.alloc _,h2.alloc _,h3.alloc _,h,h4.alloc FI _,by simp[e]⟩
def BInv (F:Gq) (w:GK) (r:List (List Rat)) (bo n ob B1:Nat) (k:Nat) (wr:GK):Prop :=
 (∃ vs,vs.length=k/\MkO F w bo 61 n B1 vs ((r.take k).map (Iq ay)) wr)/\Row wr ob 118 [Gw (some ⟨bo,0,none⟩) n n]
theorem BInv.own {w:GK} {ob B:Nat} (hB:w.heap.size<=B):OwnFrom B (λk W=>BInv F w r bo n ob B1 k W):=by
 rintro k X Y row ⟨⟨vs,hvl,hm⟩,hx⟩ hg hr';have hr:∀ r,row=some r->∃ o:Obj,X.heap[r]? = some o/\o.isCells=false:=λr e=>(hr' r e).2
 exact⟨⟨vs,hvl,hm.row.kept hg hr,hm.done.kept hg hr,hm.bel.grown hg hm.bel.size (λk hk=>by have:=(hr' k hk).1; omega),hm.lo,hm.hi,He hm.size hg.size⟩,hx.kept hg hr⟩
theorem aiI {w W:GK} {vs:List GN} (hm:MkO F w bo 61 n B1 vs ((r.take k).map (Iq ay)) W) (hvl:vs.length=k) (hkn:k<=n) (hkr:k<=r.length) (s:Int×Int) (hs:s.1 < 0\/(0<=s.1/\s.1 < (k:Int)/\0<=s.2/\s.2 < ((r.getD s.1.toNat []).length:Int))) :
  Calls GI 73 #[Gw (some ⟨bo,0,none⟩) n n,.agg #[GV GU s.1,GV GU s.2]] W (Ret W λu w'=>NmV w' (GoF F w B1) u (eH r s)):=by
 by_cases h0:s.1 < 0
 ·refine(aiu W _ s.1 s.2 h0).mono ?_;rintro e w' ⟨u,rfl,hb,hu⟩;refine⟨u,rfl,hb,?_⟩;unfold eH;rw[LH h0];have:=hm.size;exact hu.mono λb hb _=>.inr FI
 ·obtain⟨h1,h2,h3,h4⟩:=hs.resolve_left h0;obtain⟨i,hi⟩:∃ i:Nat,s.1=(i:Int):=⟨s.1.toNat,FI⟩;obtain⟨j,hj⟩:∃ j:Nat,s.2=(j:Int):=⟨s.2.toNat,FI⟩;obtain⟨s1,s2⟩:=s;simp only at hi hj h0 h1 h2 h3 h4;subst hi;subst hj;rw[Ic] at h4;have hik:i < k:=FI;obtain⟨vr,hvr⟩:=Gl (l:=vs) (k:=i) FI;obtain⟨row,hrow⟩:=Gl (l:=r) (k:=i) FI;have hrd:r.getD i []=row:=by rw[GH,hrow];rfl
  rw[hrd] at h4;obtain⟨x,hx⟩:=Gl (l:=row) (k:=j) FI;have hra:=hm.done.2 i vr (row.map ay) hvr (by rw[GY,KF,LH hik,hrow]; rfl);have hc:W.cell? ⟨bo,i,none⟩=some vr:=hm.row.cell (by unfold restN; rw[IB FI]; exact hvr);refine(aiv W (GoF F w B1) bo n n i j vr row x hc hra hx FI).mono ?_;rintro e w' ⟨u,rfl,hb,hu⟩;refine⟨u,rfl,hb,?_⟩;unfold eH;rw[LG h0,Ic,Ic,hrd,GH,hx];exact hu.mono λb hb _=>hb.1
theorem DL.afI {g:Gm} (h:DL g r) (s:Int×Int):rl (eH r s)<=1000:=by
 unfold eH;split
 ·grind [pX]
 ·rw[GH];cases e:(r.getD s.1.toNat [])[s.2.toNat]? with
  | none=>grind [lK]
  | some x =>
    refine h.fits (r.getD s.1.toNat []) ?_ x (Gx e);grind
theorem ag7 (w:GK) (F:Gq) (vg vm:GN) (g:Gm) (r:List (List Rat)) (hg:AB w F vg g) (hsm:Small g) (hform:aQ g=0) (hpar:lH g=0) (hm:Ba w F vm r) (hT:BF w) (hok:DL g r) :
  Calls GI 34 #[vg,vm] w (Ret w λv w'=>∃ t,v = .tuple #[t,GV GU (nH (gB r).flatten)]/\Gt w' (λb=>w.heap.size<=b) t (aaD (gB r))):=by
 have HG:=Ag (hg.keep (G:=λ_=>True) (λ_ _ _=>trivial) (GZ _ _)); have HM:=Ag (JK (G:=λ_=>True) hm (λ_ _ _=>trivial) (GZ _ _));have HS:=Ag hsm; have HT:=Ag hT; have HOK:=Ag hok;have HPE:=Ag (show zn g=0 by unfold zn; rw[LG (by rw[hform]; decide)]; exact hpar);have HPO:=Ag (show oZ g=aU g by
  unfold oZ;rw[LG (by rw[hform]; decide)];rcases rU g with⟨_,h⟩ | h
  ·exact h
  ·exact absurd hpar h)
 have HA10:=Ag (dJ hform);have hni:=hsm.F8;obtain⟨n,hn⟩:=Gp r.length;have hgi:g.F8.length=n:=by rw[hn,hok.len]
 have hmn:(r.map (Iq ak)).length=n:=by rw[Gz,hn]
 obtain⟨vn,vi,rfl,⟨A,c,rfl,-,-⟩,⟨Ai,ci,rfl,-,-⟩⟩:=hg;obtain⟨Am,cm,e,-,-⟩:=hm;rw[hmn] at e;subst e;rw[hgi] at HG ⊢;have HN:=Ag hn;have HGI:=Ag hgi;have hn100:n<=100:=FI;clear hsm hT hok hform hpar hn hgi hmn hni;refine(callsIn_wide (n:=9)).1 ?_;refine callsIn_of_wp_marks Tryz.func34 rfl trivial ?_ rfl;refine wpIn_wide.2 ?_;simp only[Tryz.ntmps34,List.size_toArray,List.length_cons,List.length_nil,Nat.reduceAdd,Nat.reduceSub,Array.replicate_succ,Array.replicate_zero,List.push_toArray,List.append_toArray,List.nil_append,List.cons_append];go_upto_region 1 with(fail)
 obtain⟨W,hW,rg,rm,rr,re,hB,hz⟩:=aoD w 25 #[GV GU g.aC,Gw A g.F7.length c,Gw Ai n ci] 27 #[Gw Am n cm] 27 #[Gw none 0 0] 34 #[GV GU 0];rw[<-hW];clear hW;obtain⟨b2,hb2⟩:=Gp (w.heap.size+1+1);rw[<-hb2] at rr re ⊢;have k2:w.heap.size+1 < b2:=FI;have k3:b2+1 < W.heap.size:=FI;clear hb2 hz;refine zaW ?_;clear HG HM;intro HG HM;replace HT:=Ag (HT.o.on hB);have x0:=rg.cell (i:=0) rfl;have x1:=rg.cell (i:=1) rfl;have x2:=rg.cell (i:=2) rfl;go_wp2_with fail
 clear x0 x1 x2;refine(tV W (λ_=>True) _ g HG.o HS.o).mono ?_;rintro e w1 ⟨_,rfl,hb,vp,rfl,hvp⟩;replace HG:=Ag (HG.o.on (GL hb _));replace HM:=Ag (Gt.on HM.o (GL hb _));replace HT:=Ag (HT.o.on hb);replace rg:=rg.below hb rg.lt;replace rm:=rm.below hb rm.lt;replace rr:=rr.below hb rr.lt;replace re:=re.below hb re.lt;refine ZM ?_;clear hB;intro hB;have k4:b2+1 < w1.heap.size:=re.lt;rw[HPE.o];rw[HPO.o] at hvp;refine zdv ?_;intro HU Au cu e;rw[aS,HGI.o] at e;subst e;clear hvp hb k3;dsimp only;go_upto_region 2 with(fail)
 generalize hW2:G5 _ _=W2;obtain⟨ru,hb,hz2⟩:=aI hW2;replace HG:=Ag (HG.o.on (GL hb _));replace HM:=Ag (Gt.on HM.o (GL hb _));replace HT:=Ag (HT.o.on hb);replace rg:=rg.below hb rg.lt;replace rm:=rm.below hb rm.lt;replace rr:=rr.below hb rr.lt;replace re:=re.below hb re.lt;refine ZM ?_;clear hB;intro hB;replace HU:=Ag (AA.on HU.o (GL hb _));obtain⟨ub,hub⟩:=Gp w1.heap.size;rw[<-hub] at ru ⊢;have k5:b2+1 < ub:=FI;have k6:ub < W2.heap.size:=ru.lt;clear hb hz2 hub hW2 k4;have x2:=rg.cell (i:=2) rfl;have y0:=rm.cell (i:=0) rfl;go_upto_region 7 with(at_make; refine fG _ rfl _ _ 118 rfl 61 (Gw none 0 0) 24 Tryz.underlying118 Tryz.infoNumRow rfl n rfl rfl FI FI ?_; intro w3 hb1 hz1e hr1; have hz1:=Nat.le_of_eq hz1e.symm; clear hz1e)
 generalize hW3:G5 _ _=W3;obtain⟨ro,hB1,hz1'⟩:=aI hW3;clear hW3;obtain⟨bo,hbo⟩:=Gp W2.heap.size;obtain⟨ob,hob⟩:=Gp w3.heap.size;replace hr1:=hr1.below hB1 hr1.lt;have HBW:=Ag (hb1.trans (hB1.mono hb1.size));rw[<-hbo] at hr1 ro k6 ⊢;rw[<-hob] at ro ⊢;have k7:bo < ob:=FI;have k8:ob < W3.heap.size:=FI;have y1:=ah (ah y0 hb1) hB1;have HBO:=Ag hbo;have ko1:W2.heap.size<=bo:=FI;clear hb1 hB1 hz1 hz1' hob x2 y0 hbo;go_wp2_with fail
 refine(akz W3 n).mono ?_;rintro e w4 ⟨rfl,hw4⟩;obtain⟨W4,hW4,r4,hB4,hz4⟩:=dW W3 3 #[GV GU (n:Int)];rw[<-hW4] at hw4;rw[hw4];clear hw4 hW4;obtain⟨lb,hlb⟩:=Gp W3.heap.size;rw[<-hlb] at r4 ⊢;have k9:ob < lb:=FI;have k10:lb < W4.heap.size:=FI;replace hr1:=hr1.below hB4 hr1.lt;replace ro:=ro.below hB4 ro.lt;replace HBW:=Ag (HBW.o.trans (hB4.mono HBW.o.size));clear hB4 hz4 hlb k8 y1;have hinv:BInv (λ_=>True) W2 r bo n ob W4.heap.size 0 W4:=⟨⟨[],rfl,by rw[HBO.o] at hr1 ⊢; exact MkO.begin hr1 HBW.o (Gy _) FI (Gy _)⟩,ro⟩;have HI:=Ag hinv;clear hr1 hinv ro;dsimp only;go_wp2_with fail
 refine(wpIn_wide (n:=9)).1 ?_;refine ac5 (w0:=W4) (gf:=116) (lb:=#[.pointer (some ⟨lb,0,none⟩)]) FI rfl (enters' Tryz.func116 aj aj)
  (aky 8 FI lb W2.heap.size n W4 (r4.cell rfl) k10 FI) (GR _ _) (by have:=HBO.o; omega) (λ_=>rfl)
  (BInv (λ_=>True) W2 r bo n ob W4.heap.size) (λ_=>False) (BInv.own (by have:=HBO.o; omega)) (λ_ _ _ _ hs _ _=>hs) HI.o
  (λk=>{ tmps:=#[.agg #[GV GU g.aC,Gw A g.F7.length c,Gw Ai n ci],Gw Am n cm,.pointer (some ⟨w.heap.size,0,none⟩),.pointer (some ⟨w.heap.size+1,0,none⟩),.pointer (some ⟨b2,0,none⟩),.pointer (some ⟨b2+1,0,none⟩),.pointer (some ⟨ub,0,none⟩),GV GU 0,.pointer (some ⟨ob,0,none⟩),GV GU (k:Int),undef,undef,undef,.tuple #[Gw Au n cu,GV GU 0],.agg #[GV GU g.aC,Gw A g.F7.length c,Gw Ai n ci],.tuple #[Gw Au n cu,GV GU 0],Gw Au n cu,GV GU 0,GV GU 0,G7 false,undef,Gw Am n cm,GV GU (n:Int),.pointer (some ⟨w.heap.size,2,none⟩),Gw Ai n ci,GV GU (n:Int),G7 false,Gw Am n cm,GV GU (n:Int),Gw (some ⟨bo,0,none⟩) n n,Gw Am n cm,GV GU (n:Int),.func (.func 116) #[] #[.pointer (some ⟨lb,0,none⟩)],GV GU (k:Int),undef,undef,undef,undef,undef,undef,undef,undef,undef,undef,undef,undef,undef,undef,undef,undef,undef,undef,undef,undef,undef,undef,undef,undef,undef,undef,undef,undef,undef,undef,undef,undef,undef,undef,undef,undef,undef,undef,undef,undef,undef,undef,undef,undef,undef,undef,undef,undef,undef,undef,undef,undef,undef,undef,undef],defers:=[] }) ?assign ?body ?done ?stop
 case assign =>
  intro l x W K hK;gi_wp2;exact hK
 case stop=>rintro D W _ h; exact h.elim
 case done =>
  rintro D W hD ⟨⟨vs,hvl,hmk⟩,ho⟩ hK;have hrn:(r.take n)=r:=by rw[HN.o];exact List.take_length
  rw[hrn] at hmk;have o0:=ho.cell (i:=0) rfl;have hlsn:(r.map (Iq ay)).length=n:=by rw[Gz,HN.o]
  have HR:=Ag (show Gt W (λ_=>True) (Gw (some ⟨bo,0,none⟩) n n) (r.map (Iq ay)) by have h:=hmk.rows (G:=λ_=>True) (by rw[hvl]; exact Gy _) (λ_ _=>trivial) (c:=n) FI; rw[hlsn] at h; exact h);have HBW:=Ag hmk.bel;have HK:=Ag hK;have HL10:=Ag (show ∀ l∈r,l.length<=10 from λl hl=>by
   obtain⟨k,hk⟩:=H9 hl;obtain⟨inf,bU⟩:=Gl (l:=g.F8) (k:=k) (by have:=Gn hk; have:=HN.o; have:=HGI.o; omega);have:=HOK.o.acts k l inf hk bU;have:=HA10.o inf (Gx bU);omega)
  have HF:=Ag HOK.o.fits;have HBM:=Ag (back_mem (p:=r) λl hl=>⟨HL10.o l hl,λx hx=>by have:=HF.o l hl x hx; omega⟩);have HBL:=Ag (show(gB r).length=n by unfold gB; rw[Gz,HN.o]);have hDl:=(Array.getElem?_eq_some_iff.1 hK).1;clear hmk ho hK hlsn hrn;show Exit.inBlock _ _ .normal _ _;go_wp2_with fail
  refine(amk W (λ_=>True) _ r HR.o (by have:=HN.o; omega) HL10.o (λl hl x hx=>by have:=HF.o l hl x hx; omega) (λl hl k=>uT (HL10.o l hl) (λx hx=>by have:=HF.o l hl x hx; omega) k)).mono ?_;rintro e w5 ⟨u,rfl,hb5,hu⟩;have HU5:=Ag (JK (G:=λ_=>True) hu (λ_ _ _=>trivial) (GZ _ _));obtain⟨A5,c5,e,-,-⟩:=hu;rw[Gz,HBL.o] at e;subst e;have HB5:=Ag hb5;clear hb5 o0;dsimp only;go_wp2_with fail
  refine(aks w5 (λ_=>True) _ (gB r) HU5.o (by rw[HBL.o]; omega) (λl hl=>by have:=(HBM.o l hl).1; omega) (λl hl x hx=>by have:=(HBM.o l hl).2 x hx; omega)).mono ?_;rintro e w6 ⟨_,rfl,hb6,t,rfl,ht⟩;have hb56:=HB5.o.trans (hb6.mono HB5.o.size);have hb26:=HBW.o.trans (hb56.mono HBW.o.size);have hk6:w6.heap[D]? = some (.deferred (some [])):=(hb56.block D hDl).trans HK.o;have hbs:=HBW.o.size;have h5s:=HB5.o.size;have hws:=hB.size;have h6s:=hb6.size;have HT6:=Ag (JK (G:=λb=>W2.heap.size<=b) ht (λb hb _=>by omega) (GZ _ _));have r6:=rr.below hb26 rr.lt;have e6:=re.below hb26 re.lt;obtain⟨At,ct,rfl,-,-⟩:=ht;have q0:=r6.cell (i:=0) rfl;have q1:=e6.cell (i:=0) rfl;have z0:=r6.frozen 0;have z1:=e6.frozen 0;generalize aoE:nH (gB r).flatten=er at *;generalize hOut:aaD (gB r)=ol at *;obtain⟨W9,hW9⟩:=Gp ((w6.setCell ⟨b2,0,none⟩ (Gw At ol.length ct)).setCell ⟨b2+1,0,none⟩ (GV GU er));have HW9:=Ag hW9;have hDb:D≠b2/\D≠b2+1:=FI;have hk9:W9.heap[D]? = some (.deferred (some [])):=by rw[hW9,JA _ _ _ _ hDb.2,JA _ _ _ _ hDb.1];exact hk6
  have r9:=r6.set 0 (Gw At ol.length ct);have hw9:Wrote (λb=>b=b2\/b=b2+1) w6 W9:=by rw[hW9];exact((Ir _ _).setCell (p:=⟨b2,0,none⟩) (.inl (.inl rfl)) _).setCell (p:=⟨b2+1,0,none⟩) (.inl (.inr rfl)) _
  have t0:W9.cell? ⟨b2,0,none⟩=some (Gw At ol.length ct):=by rw[hW9];exact((r6.set 0 _).other (a:=⟨b2+1,0,none⟩) aA _).cell (i:=0) rfl
  have t1:W9.cell? ⟨b2+1,0,none⟩=some (GV GU er):=by rw[hW9];exact((e6.other (a:=⟨b2,0,none⟩) aA _).set 0 _).cell (i:=0) rfl
  have ko2:bo<=W2.heap.size:=by rw[HBO.o];exact Gy _
  have HT9:=Ag (Gt.on HT6.o (hw9.same λb hb e=>by have hb:W2.heap.size<=b:=hb; rcases e with e | e <;> omega));have HB9:=Ag (Ht (hB.trans (hb26.mono FI)) hw9 (λb hb=>by rcases hb with e | e <;> omega) FI);have HK9:=Ag hk9;clear hW9 r9 hw9 hk9 hk6 hb56 hb26 r6 e6 HT6 hb6;dsimp only;go_wp2
  rw[<-HW9.o];refine⟨aA,.inl ⟨_,_,rfl,run_takeDeferred HK9.o,?_⟩⟩;have c0:=cell_kept t0 (grownBy_putObj' W9 D (.deferred none)) (λr e=>by cases e; exact⟨_,HK9.o,rfl⟩);have c1:=cell_kept t1 (grownBy_putObj' W9 D (.deferred none)) (λr e=>by cases e; exact⟨_,HK9.o,rfl⟩);refine⟨.tuple #[Gw At ol.length ct,GV GU er],by simp[results,Tryz.results34,go_sem,c0,c1],⟨_,rfl,?_,_,by rw[aoE],?_⟩⟩
  ·exact HB9.o.trans (belowK_b (w:=w) (Gy _) W9 D _ _ FI HK9.o rfl rfl)
  ·rw[hOut];exact(Gt.kept HT9.o (grownBy_putObj' W9 D _) (λr e=>by cases e; exact⟨_,HK9.o,rfl⟩)).keep (λb hb _=>by have hb:W2.heap.size<=b:=hb; omega) (GZ _ _)
 case body =>
  rintro l k W ⟨⟨vs,hvl,hmk⟩,ho⟩ hk;have HMK:=Ag hmk;have HVL:=Ag hvl;have HO:=Ag ho;obtain⟨row,hrow⟩:=Gl (l:=r) (k:=k) (by rw[<-HN.o]; exact hk);obtain⟨inf,bU⟩:=Gl (l:=g.F8) (k:=k) (by rw[HGI.o]; exact hk);obtain⟨s,hs⟩:=Gl (l:=aU g) (k:=k) (by rw[aS,HGI.o]; exact hk);have HAC:=Ag (HOK.o.acts k row inf hrow bU);have HSM:=Ag (HOK.o.sum k row s hrow hs);have HUP:=Ag (HOK.o.up k s hs);have HRL:=Ag (HOK.o.fits row (Gx hrow));have HPS:=Ag (HOK.o.pos row (Gx hrow));have hbel:=hmk.bel;have apd:row.length<=10:=by have:=HAC.o;have:=HA10.o inf (Gx bU);omega
  obtain⟨A',c',e,_,hxm⟩:=HM.o;rw[Gz,<-HN.o] at e;injection e with e1 e2 e3
  subst e1;obtain⟨mb,mo,rfl,_,uq,hcm⟩:=hxm (by rw[Gz,<-HN.o]; omega);obtain⟨vr,hvr,hra⟩:=hcm k (row.map ak) (by rw[GY,hrow]; rfl);rw[Ho] at hvr;have oN:=IX (G:=Old (λ_=>True) W2.heap.size) hra (λb hb hl=>⟨hb,hl⟩) (GZ _ _);obtain⟨Ar,cr,rfl,-,-⟩:=hra;rw[Gz] at hvr oN;have HRV:=Ag oN;have AV:=Ag hrow;have HVR:=Ag hvr;have HSG:=Ag hs;have m1:=(hbel.cell (p:=⟨mb,mo+k,none⟩) uq).trans hvr;obtain⟨_,_,e,-,A2,c2,he2,_,hxi⟩:=HG.o;simp only[Value.agg.injEq,Array.mk.injEq,List.cons.injEq,and_true,true_and] at e;obtain⟨-,e⟩:=e;rw[he2,HGI.o] at e;injection e with e1 e2' e3'
  subst e1;obtain⟨bI,oI,rfl,_,hbI,hcI⟩:=hxi (by rw[HGI.o]; omega);have i1:=(hbel.cell (p:=⟨bI,oI+k*2+1,none⟩) hbI).trans (hcI k inf bU).c1;rw[<-HAC.o] at i1;have x2:=(hbel.cell (p:=⟨w.heap.size,2,none⟩) rg.lt).trans (rg.cell (i:=2) rfl);have y0:=(hbel.cell (p:=⟨w.heap.size+1,0,none⟩) rm.lt).trans (rm.cell (i:=0) rfl);clear e2 e3 e2' e3' he2 hxm hcm hvr oN hxi hcI hmk ho hrow bU hs;have aoF:((row.length:Int) != (row.length:Int))=false:=aA;have hkI:(k:Int) < n:=FI;gi_wp2_with fail;have hBn:=GR W.heap.size W;refine wF (S:=λw'=>w'.cell? ⟨w.heap.size+1,0,none⟩=some (Gw (some ⟨mb,mo,none⟩) n cm)/\w'.cell? ⟨mb,mo+k,none⟩=some (Gw Ar row.length cr)/\w'.cell? ⟨w.heap.size,2,none⟩=some (Gw (some ⟨bI,oI,none⟩) n ci)/\w'.cell? ⟨bI,oI+k*2+1,none⟩=some (GV GU (row.length:Int))) aj aj (by rintro⟨_,_,hh⟩; exact hh) ⟨y0,m1,x2,i1⟩ (λhHeld=>?_);refine Yx ?_;intro hb;replace y0:=ah y0 hb;replace m1:=ah m1 hb;replace x2:=ah x2 hb;replace i1:=ah i1 hb;replace hBn:=hBn.trans (hb.mono hBn.size);clear hb;generalize W.drew=wn at *;refine tkm [0,1,2,3,4,5,6,7,8,9,10,11] ?_;refine Z8 ?_;clear hHeld;clear y0 m1 x2 i1 aoF;have y0:=(hbel.trans (hBn.mono hbel.size)).cell (p:=⟨w.heap.size+1,0,none⟩) rm.lt |>.trans (rm.cell (i:=0) rfl)
  have m1:=(hbel.trans (hBn.mono hbel.size)).cell (p:=⟨mb,mo+k,none⟩) uq |>.trans HVR.o
  refine Z4 ?_;gi_wp2_with fail;clear y0 m1;gi_loopw [51] (λiv wr=>∃ j:Nat,j<=row.length/\iv = GV GU (j:Int)/\Below W.heap.size W wr) (λiv _=>row.length - (intOf iv).toNat)
  case atStart=>exact⟨0,Hg _,rfl,hBn⟩
  case round =>
   clear hBn;obtain⟨j,hj,rfl,hbj⟩:=hrel;obtain⟨wb,rfl⟩:=Gp wr;have hB2:=hbel.trans (hbj.mono hbel.size);by_cases hjt:j < row.length
   ·obtain⟨x,hx⟩:=Gl hjt;have hxf:=HRL.o x (Gx hx);have HNG:=Ag (show(ak x).neg=false from HPS.o x (Gx hx));obtain⟨rb,ro,rc,vn,vd,e,_,_,y0,y1,y2,hn,hd⟩:=Gs.at (HRV.o.on (GL hB2 _)) (show(row.map ak)[j]? = some (ak x) by rw[GY,hx]; rfl);injection e with e1 e2 e3
    subst e1;have HXV:=Ag (Ak.make (r:=ak x) rfl hn hd);obtain⟨An,cn,rfl,-,-⟩:=hn;obtain⟨Ad,cd,rfl,-,-⟩:=hd;have hjr:(j:Int) < row.length:=FI;have HXL:=Ag (show(ak x).num.length<=100000/\(ak x).den.length<=100000 by have:=fU x; have:=fV x; rw[oD]; exact⟨FI,by show(dig x.den).length<=_; omega⟩);clear e2 e3 hx;gi_upto_region 14 with(fail)
    generalize hW7:G5 _ _=W7;obtain⟨r7,hb7,hz7⟩:=aI hW7;obtain⟨xb,hxb⟩:=Gp wb.heap.size;replace HXV:=Ag (Ak.below HXV.o hb7);have HB7:=Ag (hbj.trans (hb7.mono hbj.size));have HT7:=Ag (HT.o.on (hB2.trans (hb7.mono hB2.size)));rw[<-hxb] at r7 ⊢;clear hW7 hb7 hz7 hxb y0 y1 y2;have x0:=r7.cell (i:=0) rfl;have x1:=r7.cell (i:=1) rfl;have x2:=r7.cell (i:=2) rfl;gi_wp2_with fail;refine⟨trivial,(CallsIn.inRound l (callsIn_wide.2 (qF W7 _ _ (ak x) HXV.o (afH x) HXL.o.1 HXL.o.2 HT7.o))).mono ?_⟩;rintro e w8 ⟨_,rfl,hb8,rfl⟩;rw[zO FI];replace x0:=ah x0 hb8;rw[HNG.o] at x0;have HB8:=Ag (HB7.o.trans (hb8.mono HB7.o.size));clear hb8 x1 x2 r7;dsimp only;gi_wp2_with fail;go_roundw
    case rel=>exact⟨j+1,FI,by go_num,HB8.o⟩
    case measure=>exact zMs
   ·have hje:j=row.length:=FI;subst hje;have y0:=(hB2.cell (p:=⟨w.heap.size+1,0,none⟩) rm.lt).trans (rm.cell (i:=0) rfl);have m1:=(hB2.cell (p:=⟨mb,mo+k,none⟩) uq).trans HVR.o;have HMB:=Ag (HMK.o.below hbj);have HOB:=Ag (HO.o.below hbj HO.o.lt);have o0:=HOB.o.cell (i:=0) rfl;have HNV:=Ag (HRV.o.on (GL hB2 _));have hBe:=hbj;gi_wp2_with fail;refine adY (λw'=>w'.cell? ⟨w.heap.size+1,0,none⟩=some (Gw (some ⟨mb,mo,none⟩) n cm)/\w'.cell? ⟨mb,mo+k,none⟩=some (Gw Ar row.length cr)/\w'.cell? ⟨ob,0,none⟩=some (Gw (some ⟨bo,0,none⟩) n n)) 8 1 aj aj (by rintro⟨_,_,hh⟩; exact hh) rfl aj ⟨y0,m1,o0⟩ λhHeld=>?_
    refine Zo ?_;refine zaT ?_;intro hb;replace y0:=ah y0 hb;replace m1:=ah m1 hb;replace o0:=ah o0 hb;replace HNV:=Ag (Iy HNV.o (GL hb _));replace HMB:=Ag (HMB.o.below hb);replace HOB:=Ag (HOB.o.below hb HOB.o.lt);replace hBe:=hBe.trans (hb.mono hBe.size);clear hb;generalize wb.drew=wn at *;refine tkm [0,1,2,3,4,5] ?_;refine tk2 6 aj rfl λK hK=>?_
    go_simp;refine(abN wn (Old (λ_=>True) W2.heap.size) _ row HNV.o FI (λx hx=>by have:=HRL.o x hx; omega)).mono ?_;rintro e wn ⟨u,rfl,hb,hu⟩;have hsz:=HMB.o.size;have HRW:=Ag (show Gs _ (GoF (λ_=>True) W2 W4.heap.size) u (row.map ay) from IX hu (λb hb _=>hb.imp id λh=>by omega) (GZ _ _));obtain⟨Az,cz,e,-,-⟩:=hu;rw[Gz] at e;subst e;replace y0:=ah y0 hb;replace m1:=ah m1 hb;replace o0:=ah o0 hb;replace HNV:=Ag (Iy HNV.o (GL hb _));replace HMB:=Ag (HMB.o.below hb);replace HOB:=Ag (HOB.o.below hb HOB.o.lt);replace hBe:=hBe.trans (hb.mono hBe.size);clear hb;dsimp only;clear hHeld;refine hK.out _ _ ⟨y0,m1,o0⟩ (λhHeld=>?_);clear hK K;refine Zb ?_;refine tkm [7] ?_;refine Zp ?_;clear hHeld;have c0:=HMB.o.row.cell (i:=k) (by have:=restN_get (vs:=vs) (n:=n) (by rw[HVL.o]; exact hk); rwa [HVL.o] at this);have fz:=HMB.o.row.frozen k;obtain⟨W9,hW9⟩:=Gp (wn.setCell ⟨bo,k,none⟩ (Gw Az row.length cz));have hob:=HOB.o.lt;have HM9:=Ag (show MkO (λ_=>True) W2 bo 61 n W4.heap.size (vs ++ [Gw Az row.length cz]) ((r.take (k+1)).map (Iq ay)) W9 by rw[hW9,Gv AV.o,List.map_append]; exact HMB.o.lay (by rw[HVL.o]; exact hk) HRW.o HVL.o);have HO9:=Ag (show Row W9 ob _ _ from hW9▸HOB.o.other (a:=⟨bo,k,none⟩) aB _);have HK9:=Ag (show KeepsFrom W4.heap.size W W9 from hW9▸(wB hBe _).trans ((KeepsOthers.setCell _ _ _).from _));have hWW:=hBe.size;have HB9:=Ag (show Below W2.heap.size W W9 from hW9▸(hBe.mono (by have:=hbel.size; omega)).setCell (p:=⟨bo,k,none⟩) ko1 _);have HW9:=Ag hW9;have hb29:=HM9.o.bel;clear hW9 HMB HOB HNV hBe hob hWW HRW;go_wp2
    rw[<-HW9.o];unfold AY;refine Z4 ?_;clear c0 fz o0 y0 m1 HW9;obtain⟨A',c',e,_,hxu⟩:=HU.o;rw[aS,HGI.o] at e;injection e with e1 e2 e3
    subst e1;obtain⟨pb,po,rfl,_,hpb,hcu⟩:=hxu (by rw[aS,HGI.o]; omega);obtain⟨q0,q1⟩:=hcu k s HSG.o;have p0:=(hb29.cell (p:=⟨pb,po+k*2,none⟩) hpb).trans q0;have p1:=(hb29.cell (p:=⟨pb,po+k*2+1,none⟩) hpb).trans q1;have u0:=(hb29.cell (p:=⟨ub,0,none⟩) ru.lt).trans (ru.cell (i:=0) rfl);have c9:=HM9.o.row.cell (i:=k) (v:=Gw Az row.length cz) (by unfold restN; rw[IB (by rw[G9,HVL.o]; simp),JI (by rw[HVL.o]; exact Gy _),HVL.o,Nat.sub_self]; rfl);have o0:=HO9.o.cell (i:=0) rfl;obtain⟨s1,s2⟩:=s;dsimp only at p0 p1;have HNV:=Ag (show Gs W9 (GoF (λ_=>True) W2 W4.heap.size) (Gw Az row.length cz) (row.map ay) from HM9.o.done.2 k _ _ (by rw[JI (by rw[HVL.o]; exact Gy _),HVL.o,Nat.sub_self]; rfl) (by rw[GY,KF,LH FI,AV.o]; rfl));have HMB:=HM9;have hBe:=GR W9.heap.size W9;clear e2 e3 hxu hcu q0 q1;gi_wp2_with fail;refine wF (S:=λw'=>w'.cell? ⟨ob,0,none⟩=some (Gw (some ⟨bo,0,none⟩) n n)/\w'.cell? ⟨bo,k,none⟩=some (Gw Az row.length cz)/\w'.cell? ⟨ub,0,none⟩=some (Gw (some ⟨pb,po,none⟩) n cu)/\w'.cell? ⟨pb,po+k*2,none⟩=some (GV GU s1)/\w'.cell? ⟨pb,po+k*2+1,none⟩=some (GV GU s2)) aj aj (by rintro⟨_,_,hh⟩; exact hh) ⟨o0,c9,u0,p0,p1⟩ (λhHeld=>?_);have hb:Below W9.heap.size W9 W9.drew:=aG (GR _ W9) 1;refine YV ?_;clear o0 c9 u0 p0 p1 HNV HMB hBe;intro o0 c9 u0 p0 p1 HNV HMB hBe;clear hb;generalize W9.drew=wn at *;refine tkm [0,1,2,3,5,6,7,8,9] ?_;refine tk2 4 aj rfl λK hK=>?_
    go_simp;refine(sum_any wn (GoF (λ_=>True) W2 W4.heap.size) _ row HNV.o FI (λx hx=>by have:=HRL.o x hx; omega) (uT apd (λx hx=>by have:=HRL.o x hx; omega))).mono ?_;rintro e wn ⟨u,rfl,hb,hu⟩;have HSV:=Ag (Ak.mono (G:=(λ_=>True)) hu (λ_ _ _=>trivial));obtain⟨A5,c5,B5,d5,rfl,-⟩:=hu.opened;clear hu;refine YV ?_;clear o0 c9 u0 p0 p1 HNV HMB hBe;intro o0 c9 u0 p0 p1 HNV HMB hBe;clear hb;dsimp only;clear hHeld;refine hK.out _ _ ⟨o0,c9,u0,p0,p1⟩ (λhHeld=>?_);clear hK K;refine zcf ?_;intro K hK;go_simp;refine(aiI HMB.o (by rw[G9,HVL.o]; rfl) FI (by rw[<-HN.o]; omega) (s1,s2) (HUP.o.imp id λh=>⟨h.1,by have:=h.2.1; omega,h.2.2.1,h.2.2.2⟩)).mono ?_;rintro e wn ⟨u,rfl,hb,hu⟩;have HFV:=Ag (Ak.mono (G:=(λ_=>True)) hu (λ_ _ _=>trivial));obtain⟨A6,c6,B6,d6,rfl,-⟩:=hu.opened;clear hu;refine YV ?_;clear o0 c9 u0 p0 p1 HNV HMB hBe;intro o0 c9 u0 p0 p1 HNV HMB hBe;replace HSV:=Ag (Ak.on HSV.o (GL hb _));clear hb;dsimp only;clear hHeld;refine hK.out _ _ ⟨o0,c9,u0,p0,p1⟩ (λhHeld=>?_);clear hK K;refine Zb ?_;refine tk2 11 aj rfl λK hK=>?_
    go_simp;refine(uO wn (λ_=>True) _ _ (jm row) (eH r (s1,s2)) HSV.o HFV.o (by rw[HSM.o]; have:=HOK.o.afI (s1,s2); omega) (by have:=HOK.o.afI (s1,s2); omega)).mono ?_;rintro e wn ⟨_,rfl,hb,rfl⟩;rw[show iR (jm row) (eH r (s1,s2))=0 from(jc _ _).2 HSM.o];refine YV ?_;clear o0 c9 u0 p0 p1 HNV HMB hBe;intro o0 c9 u0 p0 p1 HNV HMB hBe;replace HSV:=Ag (Ak.on HSV.o (GL hb _));replace HFV:=Ag (Ak.on HFV.o (GL hb _));clear hb;dsimp only;clear hHeld;refine hK.out _ _ ⟨o0,c9,u0,p0,p1⟩ (λhHeld=>?_);clear hK K;refine Zb ?_;refine tkm [12] ?_;refine Z8 ?_;clear hHeld;refine Z4 ?_;have HKF:=Ag (HK9.o.trans (wB hBe _));have HBW2:=Ag (HB9.o.trans (hBe.mono (by have:=HM9.o.bel.size; omega)));have Bo:=Ag (show BInv (λ_=>True) W2 r bo n ob W4.heap.size (k+1) wn from⟨⟨vs ++ [Gw Az row.length cz],by rw[G9,HVL.o]; rfl,HMB.o⟩,HO9.o.below hBe HO9.o.lt⟩);clear o0 c9 u0 p0 p1 hBe HMB HM9;gi_wp2;exact⟨HKF.o,HBW2.o,Bo.o⟩
theorem ajs {g:Gm} (hf:aQ g=0) {q:Nat} {n:Nd} (hn:g.F7[q]? = some n) (hk:n.kind=2):0<=n.info/\n.info.toNat < g.F8.length/\(g.F8.getD n.info.toNat default).aH=n.aH:=by
 obtain⟨hne,_⟩:=dP hf;have hmp:=kF hne (Gx hn) hk;have hi:n.info.toNat < g.F8.length:=FI;obtain⟨h2,h3,h4⟩:=qQ hf hi;grind
def Lo (b:Nat) (x:Rat):Prop:=x.num.natAbs<=b/\x.den<=b
section
variable {g:Gm} {m:List (List Rat)} (hf:aQ g=0) (hp:lH g=0) (hd:∀ (pl:Int) (i:Nat) (n:Nd),g.F7[i]? = some n->n.kind=2->(jB g pl i).length < 5) (hr:BH g m) (hs:∀ l∈m,∀ x∈l,Lo 30 x)
include hf hp hd hr hs
end
def chB (n:Nd):Bool:=decide (n.kind=1)
def vU (g:Gm) (p:Int) (i:Nat):List (Int×Int):=if (g.F8.getD i default).aH=p then (Ig (g.F8.getD i default).actions.toNat).map λa:Nat=>((i:Int),(a:Int)) else []
def dS (g:Gm) (p:Int):Nat->List (Int×Int)
 | 0=>[(-1,-1)]
 | k+1=>dS g p k++vU g p k
def aN (g:Gm) (p:Int):List (Int×Int):=dS g p g.F8.length
theorem pR {g:Gm} {s:Int×Int}:s∈vU g p i↔(g.F8.getD i default).aH=p/\s.1=(i:Int)/\0<=s.2/\s.2 < (((g.F8.getD i default).actions.toNat:Nat):Int):=by
 unfold vU;obtain⟨s1,s2⟩:=s;by_cases h:(g.F8.getD i default).aH=p
 ·rw[LH h];simp only[List.mem_map,List.mem_range,Prod.mk.injEq];constructor
  ·grind
  ·rintro⟨_,h1,h2,h3⟩;exact⟨s2.toNat,FI,h1.symm,FI⟩
 grind
theorem jg {g:Gm} {p:Int} {s:Int×Int}:∀ {k:Nat},s∈dS g p k↔s=(-1,-1)\/∃ i,i < k/\s∈vU g p i
 | 0=>by simp[dS]
 | k+1=>by
  rw[dS,List.mem_append,jg (k:=k)];constructor
  ·rintro((h | ⟨i,h1,h2⟩) | h)
   ·exact .inl h
   ·exact .inr ⟨i,FI,h2⟩
   ·exact .inr ⟨k,FI,h⟩
  ·rintro(h | ⟨i,h1,h2⟩)
   ·exact .inl (.inl h)
   ·by_cases e:i=k
    ·subst e; exact .inr h2
    ·exact .inl (.inr ⟨i,FI,h2⟩)
theorem aiJ {g:Gm} (h:(g.F8.getD k default).aH=p):((k:Int),(a:Int)) ∉ dS g p k++(Ig a).map λa:Nat=>((k:Int),(a:Int)):=by grind [jg,pR]
theorem vV (g:Gm) (p:Int):∀ k,(dS g p k).Nodup
 | 0=>by simp[dS]
 | k+1=>by
  rw[dS,List.nodup_append];refine⟨vV g p k,?_,?_⟩
  ·unfold vU;split
   ·rw[List.nodup_iff_pairwise_ne,List.pairwise_map];refine List.pairwise_lt_range.imp ?_;intro a b hab e;simp only[Prod.mk.injEq,true_and] at e;omega
   ·exact List.nodup_nil
  ·intro s h1 t h2 e;subst e;rw[jg] at h1;have h3:=(pR.1 h2).2.1;rcases h1 with rfl | ⟨i,h4,h5⟩
   ·simp only[] at h3; omega
   ·have:=(pR.1 h5).2.1;omega
theorem dL {g:Gm} {p:Int} (hI:∀ i∈g.F8,i.actions<=10):∀ k,k<=g.F8.length->(dS g p k).length<=1+10*k
 | 0,_=>by simp[dS]
 | k+1,h=>by
  have ih:=dL (p:=p) hI k FI;have h1:(vU g p k).length<=10:=by
   unfold vU;split
   ·obtain⟨x,hx⟩:=Gl (l:=g.F8) (k:=k) FI;have:=hI x (Gx hx);rw[GH,hx];simp;omega
   ·simp
  rw[dS,G9];omega
theorem iJ (g:Gm) (p:Int):∀ k,(dS g p k)[0]? = some (-1,-1)
 | 0=>rfl
 | k+1=>by
  rw[dS,IB (Gn (iJ g p k))];exact iJ g p k
theorem amn (g:Gm) (p:Int):((-1:Int),(-1:Int))∈aN g p:=jg.2 (.inl rfl)
theorem qK {g:Gm} (hi:i < g.F8.length) (hp:(g.F8.getD i default).aH=p) (ha:(a:Int) < (g.F8.getD i default).actions):((i:Int),(a:Int))∈aN g p :=
 jg.2 (.inr ⟨i,hi,pR.2 ⟨hp,rfl,Int.natCast_nonneg _,by simp only[]; omega⟩⟩)
theorem oO {g:Gm} {s:Int×Int} (h:s∈aN g p):s=(-1,-1)\/∃ i a:Nat,i < g.F8.length/\(g.F8.getD i default).aH=p/\(a:Int) < (g.F8.getD i default).actions/\s=((i:Int),(a:Int)):=by
 rcases jg.1 h with h | ⟨i,h1,h2⟩
 ·exact .inl h
 ·obtain⟨h3,h4,h5,h6⟩:=pR.1 h2;exact .inr ⟨i,s.2.toNat,h1,h3,FI,Prod.ext h4 (by simp only[]; omega)⟩
theorem yJ {g:Gm} (hf:aQ g=0) (p:Int) (hc:c < g.F7.length):jh g p c∈aN g p:=by
 rcases zQ (gQ hf) p c c (Gy _) hc with h | ⟨q,j,n,h1,h2,h3,h4,h5,h6⟩
 ·grind [amn]
 ·obtain⟨i1,i2,i3⟩:=ajs hf h2 h3;obtain⟨hne,_⟩:=dP hf;have hmp:=kF hne (Gx h2) h3;obtain⟨inf,hin,hac,_⟩:=mD hf (Gx h2) h3;have ha:(g.F8.getD n.info.toNat default).actions=n.next.length:=by rw[GH,hin];exact hac
  have e:jh g p c=(((n.info.toNat:Nat):Int),(j:Int)):=by rw[h6,Int.toNat_of_nonneg i1]
  rw[e];exact qK i2 (by rw[i3,h4]) FI
theorem mG {g:Gm} (hf:aQ g=0) (hi:i < g.F8.length):(aU g).getD i (-1,-1)∈aN g (g.F8.getD i default).aH:=by grind [aU,jh,kJ,yJ]
def iP (l:List (Int×Int)) (s:Int×Int):Nat:=l.idxOf s
theorem lQ {l:List (Int×Int)} {s:Int×Int} (h:s∈l):iP l s < l.length:=List.idxOf_lt_length_iff.2 h
theorem adl {l:List (Int×Int)} {s:Int×Int} (h:s∈l):l[iP l s]? = some s:=by grind [iP]
theorem ajt {l:List (Int×Int)} (hl:l.Nodup) {s:Int×Int} (h:l[k]? = some s):iP l s=k:=by grind [iP]
theorem amo {l m:List (Int×Int)} {s:Int×Int} (h:s∈l):iP (l++m) s=iP l s:=by grind [iP]
def atS (g:Gm) (p:Int) (c:Nat):Nat:=iP (aN g p) (jh g p c)
theorem abo {g:Gm} (hf:aQ g=0) (p:Int) (hc:c < g.F7.length):atS g p c < (aN g p).length:=lQ (yJ hf p hc)
theorem abp (g:Gm) (p:Int):iP (aN g p) (-1,-1)=0:=ajt (vV g p _) (iJ g p _)
theorem amq {g:Gm} (hf:aQ g=0) (p:Int):atS g p 0=0:=by grind [atS,vS,gQ,abp]
def aiK (g:Gm) (pl:Nat) (i:Nat):Rat:=(((g.F7.getD i default).pay.getD pl 0:Int):Rat)
def aaL (g:Gm) (pl:Nat) (i:Nat):Rat:=eX chB g.F7 [] i*aiK g pl i
def uD (g:Gm) (x y:List Rat) (pl:Nat) (i:Nat):Rat:=x.getD (atS g 0 i) 0*y.getD (atS g 1 i) 0*eX chB g.F7 [] i*aiK g pl i
def nT (g:Gm) (x y:List Rat) (pl:Nat):Rat:=iI g (uD g x y pl) g.F7.length
def fE (g:Gm) (pl:Nat):Nat->Nat->Nat->Rat
 | 0,_,_=>0
 | k+1,r,c=>match g.F7[k]? with
  | some n=>if n.kind=3/\atS g 0 k=r/\atS g 1 k=c then fE g pl k r c+aaL g pl k else fE g pl k r c
  | none=>fE g pl k r c
def nZ (n:Nat) (f:Nat->Rat):Rat:=(Ig n).foldl (λs i=>s+f i) 0
theorem yK (f:Nat->Rat):nZ 0 f=0:=rfl
theorem jA (n:Nat) (f:Nat->Rat):nZ (n+1) f=nZ n f+f n:=by grind [nZ,List.range_succ]
theorem fM {f h:Nat->Rat}:∀ n,(∀ i,i < n->f i=h i)->nZ n f=nZ n h
 | 0,_=>rfl
 | n+1,e=>by rw[jA,jA,fM n (λi hi=>e i FI),e n FI]
theorem oP:∀ n,nZ n (λ_=>0)=0
 | 0=>rfl
 | n+1=>by rw[jA,oP n]; exact JX _
theorem uU {f h:Nat->Rat} {v:Rat} {k:Nat} (he:∀ i,i≠k->h i=f i) (hk:h k=f k+v):∀ n,nZ n h=nZ n f+if k < n then v else 0
 | 0=>by rw[yK,yK,LG FI,JX]
 | n+1=>by
  rw[jA,jA,uU he hk n];by_cases e:n=k
  ·subst e;rw[LG FI,LH FI,hk,JX,Rat.add_assoc]
  ·rw[he n e];by_cases e2:k < n
   ·rw[LH e2,LH FI,Rat.add_assoc,Rat.add_assoc,Rat.add_comm v]
   ·rw[LG e2,LG FI,JX,JX]
def akL (h w:Nat) (M:Nat->Nat->Rat) (x y:List Rat):Rat:=nZ h λr=>x.getD r 0*nZ w λc=>M r c*y.getD c 0
theorem amr {h w:Nat} {M M':Nat->Nat->Rat} {x y:List Rat} {r:Nat} {v:Rat} (hr:r < h) (hc:c < w) (h1:∀ i j,¬ (i=r/\j=c)->M' i j=M i j) (h2:M' r c=M r c+v):akL h w M' x y=akL h w M x y+x.getD r 0*y.getD c 0*v:=by
 unfold akL;have hin:nZ w (λj=>M' r j*y.getD j 0)=nZ w (λj=>M r j*y.getD j 0)+v*y.getD c 0:=by
   have:=uU (f:=λj=>M r j*y.getD j 0) (h:=λj=>M' r j*y.getD j 0) (v:=v*y.getD c 0) (k:=c) (λi hi=>by simp only[h1 r i (λe=>hi e.2)]) (by simp only[h2]; rw[Rat.add_mul]) w;grind
 have:=uU (f:=λi=>x.getD i 0*nZ w λj=>M i j*y.getD j 0) (h:=λi=>x.getD i 0*nZ w λj=>M' i j*y.getD j 0) (v:=x.getD r 0*y.getD c 0*v) (k:=r) (λi hi=>by
  simp only[show nZ w (λj=>M' i j*y.getD j 0)=nZ w (λj=>M i j*y.getD j 0) from fM w λj _=>by rw[h1 i j (λe=>hi e.1)]]) (by
  simp only[hin]; rw[Rat.mul_add,Rat.mul_comm v,<-Rat.mul_assoc]) h
 grind
theorem aeE {g:Gm} (hf:aQ g=0) (x y:List Rat) (pl:Nat):∀ k,k<=g.F7.length->akL (aN g 0).length (aN g 1).length (fE g pl k) x y=iI g (uD g x y pl) k
 | 0,_=>by
  unfold akL;have:∀ r,x.getD r 0*nZ (aN g 1).length (λc=>fE g pl 0 r c*y.getD c 0)=0:=λr=>by
   rw[show nZ (aN g 1).length (λc=>fE g pl 0 r c*y.getD c 0)=0 from(fM _ λc _=>by show(0:Rat)*_=0; exact Rat.zero_mul _).trans (oP _),Rat.mul_zero]
  rw[fM _ λr _=>this r,oP]; rfl
 | k+1,hk=>by
  have ih:=aeE hf x y pl k FI;obtain⟨n,hn⟩:=Gl (l:=g.F7) (k:=k) FI;by_cases h3:n.kind=3
  ·rw[kM hn h3,<-ih];rw[amr (M:=fE g pl k) (M':=fE g pl (k+1)) (r:=atS g 0 k) (c:=atS g 1 k) (v:=aaL g pl k) (abo hf 0 FI) (abo hf 1 FI)]
   ·unfold uD aaL;rw[<-Rat.mul_assoc]
   ·intro i j hij;rw[fE,hn];exact LG λe=>hij ⟨e.2.1.symm,e.2.2.symm⟩
   ·rw[fE,hn];exact LH ⟨h3,rfl,rfl⟩
  ·rw[jL hn h3,<-ih];unfold akL;have:∀ r c,fE g pl (k+1) r c=fE g pl k r c:=λr c=>by rw[fE,hn]; exact LG λe=>h3 e.1
   exact fM _ λr _=>by rw[fM _ λc _=>by rw[this r c]]
theorem ams (w:GK) (F:Gq) (vg vm:GN) (g:Gm) (m:List (List Rat)) (hg:AB w F vg g) (hsm:Small g) (hf:aQ g=0) (hp:lH g=0) (hm:Ba w F vm m) (hr:BH g m) :
  Calls GI 30 #[vg,vm] w (Ret w λu w'=>∃ t,u = .tuple #[t,GV GU 0]/\Ba w' (λ_=>True) t (cO (aU g) m)):=by
 have HG:=Ag (hg.keep (G:=λ_=>True) (λ_ _ _=>trivial) (GZ _ _)); have HM:=Ag (JK (G:=λ_=>True) hm (λ_ _ _=>trivial) (GZ _ _)); have HS:=Ag hsm;have HST:=Ag (hr.agU hf); have HFO:=Ag hf;have HFC:=Ag (hr.facts hf hsm);have HFT:=Ag (afC HST.o);have HRL:=Ag (xQ hr.limbs);have HR2:=Ag (akK hf hsm hr);have HPE:=Ag hp;have HPO:=Ag (show jy g=aU g by
  rcases rU g with⟨_,h⟩ | h
  ·exact h
  ·exact absurd hp h)
 have HLN:=Ag (show ∀ l∈m,l.length<=1000 from λl hl=>by
  obtain⟨k,hk⟩:=H9 hl;obtain⟨i,hi⟩:=Gl (l:=g.F8) (k:=k) (by have:=Gn hk; have:=hr.1; omega);have h1:=(hr.2 k i l hi hk).1;have h2:=dJ hf i (Gx hi);omega)
 have HFL:=Ag (show ∀ l∈cO (aU g) m,l.length<=1000 from λl hl=>by
  obtain⟨k,hk⟩:=H9 hl;obtain⟨inf,hi,h1⟩:=adk hr hk;have h2:=dJ hf inf (Gx hi);omega)
 have hni:=hsm.F8;obtain⟨n,hn⟩:=Gp g.F8.length;have hml:m.length=n:=by rw[hn];exact hr.1
 have HML:=Ag hml;have HNN:=Ag hn;have HOL:=Ag (show(cO (aU g) m).length=n by rw[ad1,hml]);have hn100:n<=100:=FI;obtain⟨vn,vi,rfl,⟨A,c,rfl,hc,_⟩,⟨Ai,ci,rfl,hci,_⟩⟩:=hg;obtain⟨Am,cm,e,_,_⟩:=hm;rw[Gz,hml] at e;subst e;rw[<-hn] at HG ⊢;clear hsm hf hp hr hml hn hni;go_in;go_wp2_with fail
 generalize hW:G5 _ _=W;obtain⟨rx,hB,hz⟩:=aI hW;refine zaW ?_;clear HG HM;intro HG HM;refine Zd ?_;intro x0 x1 x2;clear hW hz rx;go_wp2_with fail
 refine(adh W (λ_=>True) _ _ g _ HG.o HS.o HM.o (by rw[Gz,HML.o]; omega) HFC.o.fine).mono ?_;rintro e w1 ⟨_,rfl,hb,rfl⟩;rw[HST.o];refine YG ?_;clear HG HM hB x0 x1 x2 hb;intro HG HM hB x0 x1 x2;dsimp only;go_wp2_with fail
 refine(rV w1 (λ_=>True) _ g HG.o HS.o HFO.o).mono ?_;rintro e w2 ⟨_,rfl,hb,vp,rfl,hvp⟩;rw[HPE.o];rw[HPO.o] at hvp;refine YG ?_;clear HG HM hB x0 x1 x2 hb;intro HG HM hB x0 x1 x2;refine zdv ?_;intro HU Au cu e;rw[aS,<-HNN.o] at e;subst e;clear hvp;dsimp only;go_wp2_with fail
 refine(anH w2 (λ_=>True) _ _ _ g (aU g) m HG.o HU.o HM.o HFT.o HRL.o (by rw[HML.o]; omega) HLN.o).mono ?_;rintro e w3 ⟨u,rfl,hb,hu⟩;rw[aoA HFT.o] at hu;have HO:=Ag (JK (G:=(λ_=>True)) hu (λ_ _ _=>trivial) (GZ _ _));obtain⟨Ao,co,e,_,_⟩:=hu;rw[Gz,HOL.o] at e;subst e;refine YG ?_;clear HG HM hB x0 x1 x2 hb;intro HG HM hB x0 x1 x2;dsimp only;go_wp2_with fail
 refine(abV w3 (λ_=>True) _ (cO (aU g) m) HO.o (by rw[HOL.o]; omega) HFL.o (λl hl x hx=>by have:=HR2.o l hl x hx; omega)).mono ?_;rintro e w4 ⟨u,rfl,hb,t,rfl,ht⟩;have hE:nH (cO (aU g) m).flatten=0:=adb λx hx=>by obtain⟨l,hl,hx⟩:=List.mem_flatten.1 hx;have:=HR2.o l hl x hx;omega
 have HMX:=Ag (show aaD (cO (aU g) m)=(cO (aU g) m).map (Iq ak) by unfold aaD; rw[hE]; rfl);rw[hE];rw[HMX.o] at ht;have HTT:=Ag ht;refine ZM ?_;clear hB;intro hB;clear ht hE hb x0 x1 x2;dsimp only;go_wp2
 go_ret2;exact⟨_,rfl,hB,_,rfl,HTT.o⟩
structure FP (w0:GK) (ub:Nat) (acc:Rat) (A:Option Addr) (c:Nat) (B:Option Addr) (d:Nat) (wr:GK):Prop where
 uy:Row wr ub 42 [G7 (ak acc).neg,Gw A (ak acc).num.length c,Gw B (ak acc).den.length d]
 fine:(⟨ak acc,Gw A (ak acc).num.length c,Gw B (ak acc).den.length d⟩:RV).fine wr (λb=>b≠ub)
 bel:Below ub w0 wr
theorem aiL (w:GK) (F:Gq) (vg vm:GN) (g:Gm) (r:List (List Rat)) (hg:AB w F vg g) (hsm:Small g) (hf:aQ g=0) (hp:lH g=0) (hm:Ba w F vm r) (hok:DL g r) :
  Calls GI 38 #[vg,vm] w (Ret w λu w'=>∃ t,u = .tuple #[t,GV GU (nH (gB r).flatten)]/\Gt w' (λ_=>True) t (aaD (gB r))):=by
 have HG:=Ag (hg.keep (G:=λ_=>True) (λ_ _ _=>trivial) (GZ _ _)); have HM:=Ag (JK (G:=λ_=>True) hm (λ_ _ _=>trivial) (GZ _ _)); have HS:=Ag hsm;have HOK:=Ag hok; have HA10:=Ag (dJ hf);have HPE:=Ag (show zn g=0 by unfold zn; rw[LG (by rw[hf]; decide)]; exact hp);have HPO:=Ag (show oZ g=aU g by
  unfold oZ;rw[LG (by rw[hf]; decide)];rcases rU g with⟨_,h⟩ | h
  ·exact h
  ·exact absurd hp h)
 have hni:=hsm.F8;obtain⟨n,hn⟩:=Gp g.F8.length;have HRL:=Ag (show r.length=n by rw[hn]; exact hok.len); have HNN:=Ag hn;have hn100:n<=100:=FI;have HL10:=Ag (show ∀ l∈r,l.length<=10 from λl hl=>by
  obtain⟨k,hk⟩:=H9 hl;obtain⟨inf,bU⟩:=Gl (l:=g.F8) (k:=k) (by have:=Gn hk; have:=hok.len; omega);have h1:=hok.acts k l inf hk bU;have h2:=HA10.o inf (Gx bU);omega)
 have HBM:=Ag (back_mem (p:=r) λl hl=>⟨HL10.o l hl,λx hx=>by have:=hok.fits l hl x hx; omega⟩);have HBL:=Ag (show(gB r).length=n by unfold gB; rw[Gz,HRL.o]);obtain⟨vn,vi,rfl,⟨A,c,rfl,hc,_⟩,⟨Ai,ci,rfl,hci,_⟩⟩:=hg;obtain⟨Am,cm,e,_,_⟩:=hm;rw[Gz,HRL.o] at e;subst e;rw[<-hn] at HG ⊢;clear hsm hf hp hok hn hni;go_in;go_wp2_with fail
 generalize hW:G5 _ _=W;obtain⟨rx,hB,hz⟩:=aI hW;obtain⟨gb,hgb⟩:=Gp w.heap.size;rw[<-hgb] at rx ⊢;refine zaW ?_;clear HG HM;intro HG HM;refine Zd ?_;intro x0 x1 x2;clear hW hz rx hgb;go_wp2_with fail
 refine(afE W (λ_=>True) _ g HG.o HS.o).mono ?_;rintro e w2 ⟨_,rfl,hb,vp,rfl,hvp⟩;rw[HPE.o];rw[HPO.o] at hvp;refine YG ?_;clear HG HM hB x0 x1 x2 hb;intro HG HM hB x0 x1 x2;refine zdv ?_;intro HU Au cu e;rw[aS,<-HNN.o] at e;subst e;clear hvp;dsimp only;go_wp2_with fail
 refine(ac1 w2 (λ_=>True) _ _ g _ HG.o HM.o (by rw[Gz,HRL.o]; omega) (by have:=HNN.o; omega)).mono ?_;rintro e w3 ⟨_,rfl,hb,rfl⟩;rw[LG (by rw[Gz,HRL.o]; have:=HNN.o; omega)];replace HU:=Ag (AA.on HU.o (GL hb _));refine YG ?_;clear HG HM hB x0 x1 x2 hb;intro HG HM hB x0 x1 x2;dsimp only;go_wp2_with fail
 have HX0:=Ag x0;have HX1:=Ag x1;have HX2:=Ag x2;have HB3:=Ag hB;clear x0 x1 x2 hB;go_loopw [9] (λiv wr=>∃ k:Nat,k<=n/\iv = GV GU (k:Int)/\Below w3.heap.size w3 wr) (λiv _=>n - (intOf iv).toNat)
 case atStart=>exact⟨0,Hg _,rfl,GR _ _⟩
 case round =>
  obtain⟨k,hk,rfl,hbel⟩:=hrel;obtain⟨wa,rfl⟩:=Gp wr;by_cases hlt:k < n
  ·obtain⟨row,hrow⟩:=Gl (l:=r) (k:=k) (by rw[HRL.o]; exact hlt);obtain⟨inf,bU⟩:=Gl (l:=g.F8) (k:=k) (by rw[<-HNN.o]; exact hlt);obtain⟨s,hs⟩:=Gl (l:=aU g) (k:=k) (by rw[aS,<-HNN.o]; exact hlt);have hact:=HOK.o.acts k row inf hrow bU;have hsum:=HOK.o.sum k row s hrow hs;have hup:=HOK.o.up k s hs;have hl10:=HL10.o row (Gx hrow);have HFT:=Ag (λx (hx:x∈row)=>HOK.o.fits row (Gx hrow) x hx);have HPS:=Ag (λx (hx:x∈row)=>HOK.o.pos row (Gx hrow) x hx);have HSS:=Ag (λj=>uT hl10 (λx hx=>by have:=HFT.o x hx; omega) j);have AV:=Ag hrow;have Df:=Ag bU;have HSQ:=Ag hs;have Dv:=Ag hact;have Ef:=Ag hsum;have HUP:=Ag hup;clear hrow bU hs hact hsum hup;obtain⟨A',c',e,_,hxm⟩:=HM.o;rw[Gz,HRL.o] at e;injection e with e1 e2 e3
   subst e1;obtain⟨mb,mo,rfl,_,uq,hcm⟩:=hxm (by rw[Gz,HRL.o]; omega);have HCM:=Ag hcm;clear e2 e3 hxm;obtain⟨vr,hvr,hra⟩:=hcm k (row.map ak) (by rw[GY,AV.o]; rfl);rw[Ho] at hvr;have oN:=IX (G:=λb=>b < w3.heap.size) hra (λb hb hl=>hl) (GZ _ _);obtain⟨Ar,cr,rfl,-,-⟩:=hra;rw[Gz] at hvr oN;have HRV:=Ag oN;have HVR:=Ag hvr;clear hcm hvr oN;obtain⟨_,_,e,-,A3,c3,he2,_,hxi⟩:=HG.o;simp only[Value.agg.injEq,Array.mk.injEq,List.cons.injEq,and_true,true_and] at e;obtain⟨-,e⟩:=e;rw[he2,<-HNN.o] at e;injection e with e1 e2 e3
   subst e1;obtain⟨bI,oI,rfl,_,hbI,hcI⟩:=hxi (by rw[<-HNN.o]; omega);have i1:=(hbel.cell (p:=⟨bI,oI+k*2+1,none⟩) hbI).trans (hcI k inf Df.o).c1;rw[<-Dv.o] at i1;clear e2 e3 he2 hxi hcI;obtain⟨_,_,e,-,hxp⟩:=HU.o;rw[aS,<-HNN.o] at e;injection e with e1 e2 e3
   subst e1;obtain⟨pb0,po0,rfl,-,hpbl,hcp⟩:=hxp (by rw[aS,<-HNN.o]; omega);obtain⟨hp1,hp2⟩:=hcp k s HSQ.o;have HP1:=Ag hp1;have HP2:=Ag hp2;clear e2 e3 hxp hcp hp1 hp2;have m1:=(hbel.cell (p:=⟨mb,mo+k,none⟩) uq).trans HVR.o;have x2:=ah HX2.o hbel;have aoF:((row.length:Int) != (row.length:Int))=false:=aA;have hkn:(k:Int) < n:=FI;go_wp2_with fail
   refine wp_region_held_drew (S:=λw'=>w'.cell? ⟨mb,mo+k,none⟩=some (Gw Ar row.length cr)/\w'.cell? ⟨gb,2,none⟩=some (Gw (some ⟨bI,oI,none⟩) n ci)/\w'.cell? ⟨bI,oI+k*2+1,none⟩=some (GV GU (row.length:Int))) aj ⟨m1,x2,i1⟩ (λhHeld=>?_);refine zdS ?_;intro hb;replace m1:=ah m1 hb;replace x2:=ah x2 hb;replace i1:=ah i1 hb;replace hbel:=hbel.trans (hb.mono hbel.size);clear hb;generalize wa.drew=wn at *;refine tkm [0,1,2,3,4,5,6,7,8,9,10,11] ?_;refine Z8 ?_;clear hHeld;clear x2 i1 aoF m1;have hbz:=hbel.size;refine Z4 ?_;go_wp2_with fail
   refine(dZ wn 0 au au).mono ?_;rintro e wb ⟨u1,rfl,hb,hu⟩;obtain⟨z0,hz0⟩:∃ y:Rat,y=((0:Int):Rat):=⟨_,rfl⟩;rw[<-hz0] at hu;have HZ:=Ag (show z0=0 by rw[hz0]; rfl);obtain⟨A1,c1,B1,d1,rfl,hf1⟩:=Ak.opened hu;replace hbel:=hbel.trans (hb.mono hbel.size);clear hu hz0 hb hbz;dsimp only;go_upto_region 13 with(fail)
   generalize hW3:G5 _ _=W3;obtain⟨r3,hb,hz3⟩:=aI hW3;obtain⟨ub,hub⟩:=Gp wb.heap.size;have hf3:RV.fine W3 (λb=>b≠ub) ⟨ak z0,Gw A1 (ak z0).num.length c1,Gw B1 (ak z0).den.length d1⟩:=RV.fine.keep hf1 (λb hb hl=>by omega) (GL hb _);have hub9:w3.heap.size<=ub:=by rw[hub];exact hbel.size
   rw[<-hub] at r3 ⊢;replace hbel:=hbel.trans (hb.mono hbel.size);have hub3:ub < W3.heap.size:=r3.lt;have hst:FP W3 ub z0 A1 c1 B1 d1 W3:=⟨r3,hf3,GR _ _⟩;have HST:=Ag hst;have HBL3:=Ag hbel;clear hf1 hb hz3 hub hW3 r3 hf3 hst hbel;go_wp2_with fail
   go_loopw [11] (λiv wr=>∃ (j:Nat) (acc:Rat) (A:Option Addr) (c:Nat) (B:Option Addr) (d:Nat),j<=row.length/\iv = GV GU (j:Int)/\acc=jm (row.take j)/\FP W3 ub acc A c B d wr) (λiv _=>row.length - (intOf iv).toNat)
   case atStart=>exact⟨0,z0,_,_,_,_,Hg _,rfl,by rw[HZ.o]; rfl,HST.o⟩
   case round =>
    clear HST;obtain⟨j,acc,A2,c2,B2,d2,hj,rfl,hacc,hst⟩:=hrel;obtain⟨wd,rfl⟩:=Gp wr;have HST:=Ag hst;have HAC:=Ag hacc;have hBu:=hst.bel;have adg:=HBL3.o.trans (hBu.mono hub9);have m1:=(adg.cell (p:=⟨mb,mo+k,none⟩) uq).trans HVR.o;have amm:rl acc<=20000:=by rw[hacc];exact HSS.o j
    have mF:=hst.uy.lt;clear hst hacc;by_cases hjt:j < row.length
    ·obtain⟨x,hx⟩:=Gl hjt;have HX:=Ag hx;have hxl:=HFT.o x (Gx hx);have hneg:(ak x).neg=false:=HPS.o x (Gx hx);obtain⟨rb,ro,rc,vn,vd,e,ad2,afF,y0,y1,y2,hn,hd⟩:=Gs.at (HRV.o.on (GL adg _)) (show(row.map ak)[j]? = some (ak x) by rw[GY,hx]; rfl);injection e with e1 e2 e3
     subst e1;have HXV:=Ag (Ak.mono (Ak.make (r:=ak x) rfl hn hd) (G:=λb=>b≠ub) (λb hb _=>by have:b < w3.heap.size:=hb; omega));obtain⟨An,cn,rfl,-,-⟩:=hn;obtain⟨Ad,cd,rfl,-,-⟩:=hd;rw[hneg] at y0 HXV;refine zcb ?_;intro HUB HAV;have hBn:=hBu;have hjr:(j:Int) < row.length:=FI;have HRE:=Ag (zO (x:=x) FI);have hq1:=fU x;have hq2:=fV x;clear HST e2 e3 hx ad2 afF hneg;go_wp2_with fail
     refine(uo wd (λb=>b≠ub) _ (ak x) HXV.o (afH x) (by rw[oD]; omega) (by show(dig x.den).length<=100000; omega)).mono ?_;rintro e we ⟨_,rfl,hb,rfl⟩;rw[HRE.o];replace m1:=ah m1 hb;replace y0:=ah y0 hb;replace y1:=ah y1 hb;replace y2:=ah y2 hb;have hbz:=hb.size;replace HXV:=Ag (Ak.below HXV.o hb);refine YF ?_;clear HAV HUB hBn mF hb;intro HAV HUB hBn mF;dsimp only;go_upto_region 21 with(fail)
     have u0:=HUB.o.cell (i:=0) rfl;have u1:=HUB.o.cell (i:=1) rfl;have u2:=HUB.o.cell (i:=2) rfl;refine aP (λw'=>w'.cell? ⟨ub,0,none⟩=some (G7 (ak acc).neg)/\w'.cell? ⟨ub,1,none⟩=some (Gw A2 (ak acc).num.length c2)/\w'.cell? ⟨ub,2,none⟩=some (Gw B2 (ak acc).den.length d2)/\w'.cell? ⟨mb,mo+k,none⟩=some (Gw (some ⟨rb,ro,none⟩) row.length cr)/\w'.cell? ⟨rb,ro+j*3,none⟩=some (G7 false)/\w'.cell? ⟨rb,ro+j*3+1,none⟩=some (Gw An (ak x).num.length cn)/\w'.cell? ⟨rb,ro+j*3+2,none⟩=some (Gw Ad (ak x).den.length cd)) 9 1 aj rfl aj ⟨u0,u1,u2,m1,y0,y1,y2⟩ λhHeld=>?_
     refine Zo ?_;have hb:Below we.heap.size we we.drew:=aG (GR _ we) 1;refine ZQ ?_;clear u0 u1 u2 m1 y0 y1 y2 HXV;intro u0 u1 u2 m1 y0 y1 y2 HXV;refine YF ?_;clear HAV HUB hBn mF hb;intro HAV HUB hBn mF;generalize we.drew=wn at *;refine tkm [0,1,2,3,4,5,6,7] ?_;refine tk2 8 aj rfl λK hK=>?_
     go_simp;refine(mg wn (λb=>b≠ub) _ _ acc x HAV.o HXV.o amm FI).mono ?_;rintro e wn ⟨vp,rfl,hb,hu⟩;obtain⟨pr,hpr⟩:=Gp (acc+x);rw[<-hpr] at hu;have HPV:=Ag (hu.mono (G:=(λb=>b≠ub)) (λb hb _=>hb.elim id λh=>by omega));have HPR:=Ag hpr;obtain⟨A4,c4,B4,d4,rfl,-⟩:=hu.opened;clear hu hpr;refine ZQ ?_;clear u0 u1 u2 m1 y0 y1 y2 HXV;intro u0 u1 u2 m1 y0 y1 y2 HXV;refine YF ?_;clear HAV HUB hBn mF hb;intro HAV HUB hBn mF;refine zdH ?_;clear hHeld;intro hHeld;refine zal ?_;clear hK K hHeld;intro f0 f1 f2 Wz hWz hrz hwz HWZ;have HPZ:=Ag (Ak.on HPV.o (hwz.same λb hb=>hb));have hBz:=Ht hBn hwz (λb hb=>by omega) FI;clear hWz hwz HPV;go_wp2
     refine zbP ?_;clear f0 f1 f2 u0 u1 u2 m1 y0 y1 y2 HWZ HXV HAV HUB;have hst2:FP W3 ub pr A4 c4 B4 d4 Wz:=⟨hrz,Ak.uz HPZ.o,hBz⟩;have Cm:=Ag hst2;clear hst2 hrz hBz HPZ;go_wp2
     go_roundw
     case rel=>exact⟨j+1,pr,_,_,_,_,FI,by go_num,by rw[HPR.o,Gv HX.o,oG,<-HAC.o],Cm.o⟩
     case measure=>exact zMs
    ·have hje:j=row.length:=FI;subst hje;have HSR:=Ag (show acc=jm row by rw[HAC.o,List.take_of_length_le (Gy _)]);refine zcb ?_;intro HUB HAV;have hbel:=adg;clear HST hBu adg HAC;go_wp2_with fail
     clear m1;refine(dZ wd 1 au au).mono ?_;rintro e we ⟨v,rfl,hb,hv⟩;obtain⟨z1,hz1⟩:∃ y:Rat,y=((1:Int):Rat):=⟨_,rfl⟩;rw[<-hz1] at hv;have HZ1:=Ag (show z1=1 by rw[hz1]; rfl);obtain⟨AU,cU,BU,dU,rfl,hv2⟩:=Ak.opened hv;have HV:=Ag (show RtV we (λ_=>True) _ z1 from hv.mono λ_ _ _=>trivial);refine zcS ?_;clear HUB HAV hbel mF;intro HUB HAV hbel mF;clear hv hv2 hz1 hb;dsimp only;go_upto_region 23 with(fail)
     generalize hwc:G5 _ _=wC;obtain⟨ru,hb,hz⟩:=aI hwc;obtain⟨qb,hqb⟩:=Gp we.heap.size;replace HAV:=Ag (Ak.keep (G:=λb=>b < we.heap.size) HAV.o (λb _ hl=>hl) (GZ _ _));have HQE:=Ag (show(λb=>b < we.heap.size)=λb=>b < qb by rw[hqb]);rw[HQE.o] at HAV;clear HQE;rw[<-hqb] at ru hz ⊢;have hq9:w3.heap.size<=qb/\ub < qb:=⟨by rw[hqb]; exact hbel.size,FI⟩;replace HV:=Ag (Ak.below HV.o hb);refine zcS ?_;clear HUB HAV hbel mF;intro HUB HAV hbel mF;clear hwc hqb hb;have q0:=(hbel.cell (p:=⟨pb0,po0+k*2,none⟩) hpbl).trans HP1.o;have q1:=(hbel.cell (p:=⟨pb0,po0+k*2+1,none⟩) hpbl).trans HP2.o;go_upto_region 24 with(fail)
     generalize hwd:G5 _ _=wD;obtain⟨rp,hb,hz2⟩:=aI hwd;obtain⟨pb,hpb⟩:=Gp wC.heap.size;rw[<-hpb] at rp hz2 ⊢;have hup:qb < pb/\pb < wD.heap.size:=FI;replace ru:=ru.below hb ru.lt;replace HV:=Ag (Ak.below HV.o hb);refine zcS ?_;clear HUB HAV hbel mF;intro HUB HAV hbel mF;clear hwd hpb hb q0 q1 HP1 HP2 hz hz2;have p0:=rp.cell (i:=0) rfl;have p1:=rp.cell (i:=1) rfl;obtain⟨tg,htg⟩:=Gp (eH r s);have HTG:=Ag htg;clear htg;have hnu:ub≠qb:=FI;go_upto_if 92 with(fail)
     go_cut [] from 90 to 101 (λwx=>∃ AU cU BU dU,Row wx qb 42 [G7 (ak tg).neg,Gw AU (ak tg).num.length cU,Gw BU (ak tg).den.length dU]/\RtV wx (λ_=>True) (.agg #[G7 (ak tg).neg,Gw AU (ak tg).num.length cU,Gw BU (ak tg).den.length dU]) tg/\Wrote (λb=>b=qb) wD wx)
     case first =>
      rcases HUP.o with hs | ⟨h1,h2,h3,h4⟩
      ·have hu1:tg=z1:=by rw[HTG.o,HZ1.o];unfold eH;rw[LH hs]
       have hd0:decide (0<=s.1)=false:=LJ FI;have hng:¬ (0:Int)<=s.1:=FI;go_wp2_with fail
       go_meet
       exact⟨AU,cU,BU,dU,by rw[hu1]; exact ru,by rw[hu1]; exact HV.o,Ir _ _⟩
      ·obtain⟨q,hq⟩:∃ a:Nat,s.1=(a:Int):=⟨s.1.toNat,FI⟩;obtain⟨a2,ha2⟩:∃ a:Nat,s.2=(a:Int):=⟨s.2.toNat,FI⟩;obtain⟨s1,s2⟩:=s;dsimp only at hq ha2 h1 h2 h3 h4 p0 p1 ⊢;subst hq;subst ha2;rw[Ic] at h4;obtain⟨rq,hrq⟩:=Gl (l:=r) (k:=q) (by rw[HRL.o]; omega);have hrd:r.getD q []=rq:=by rw[GH,hrq];rfl
       rw[hrd] at h4;have haq:a2 < rq.length:=FI;obtain⟨x,hx⟩:=Gl haq;have hux:tg=x:=by rw[HTG.o];unfold eH;rw[LG (by show ¬ ((q:Int) < 0); omega)];show(r.getD (Int.toNat (q:Int)) []).getD (Int.toNat (a2:Int)) 0=x;rw[Ic,Ic,hrd,GH,hx];rfl
       obtain⟨vr,hvr,hra⟩:=HCM.o q (Iq ak rq) (by rw[GY,hrq]; rfl);rw[Ho] at hvr;have oN:=IX (G:=λb=>b < w3.heap.size) hra (λb hb hl=>hl) (GZ _ _);obtain⟨AQ,cQ,rfl,-,-⟩:=hra;rw[Gz] at hvr oN;have mq:=(hbel.cell (p:=⟨mb,mo+q,none⟩) uq).trans hvr;obtain⟨eb,eo,ec,vn,vd,e,-,hebl,h0',h1',h2',hn,hd⟩:=Gs.at (oN.on (GL hbel _)) (show(Iq ak rq)[a2]? = some (ak x) by rw[GY,hx]; rfl);injection e with e1 e2 e3
       subst e1;have HXV:=Ag (Ak.make (r:=ak x) rfl hn hd);obtain⟨Axn,cxn,rfl,-,-⟩:=hn;obtain⟨Axd,cxd,rfl,-,-⟩:=hd;have hra3:=oN;have c5:(q:Int) < n:=FI;have c7:(a2:Int) < rq.length:=FI;have c8:(0:Int)<=q:=FI;have hd0:decide ((0:Int)<=(q:Int))=true:=LK c8;clear hrq hvr oN hra3 hx e2 e3 h1 h2 h3 h4 hrd;go_wp2_with fail
       have aju:=GR wD.heap.size wD;refine aP (λw'=>w'.cell? ⟨pb,0,none⟩=some (GV GU (q:Int))/\w'.cell? ⟨pb,1,none⟩=some (GV GU (a2:Int))/\w'.cell? ⟨mb,mo+q,none⟩=some (Gw (some ⟨eb,eo,none⟩) rq.length cQ)/\w'.cell? ⟨eb,eo+a2*3,none⟩=some (G7 (ak x).neg)/\w'.cell? ⟨eb,eo+a2*3+1,none⟩=some (Gw Axn (ak x).num.length cxn)/\w'.cell? ⟨eb,eo+a2*3+2,none⟩=some (Gw Axd (ak x).den.length cxd)) 9 1 aj rfl aj ⟨p0,p1,mq,h0',h1',h2'⟩ λhHeld=>?_
       refine Zo ?_;have hb:Below wD.heap.size wD wD.drew:=aG (GR _ wD) 1;replace p0:=ah p0 hb;replace p1:=ah p1 hb;replace mq:=ah mq hb;replace h0':=ah h0' hb;replace h1':=ah h1' hb;replace h2':=ah h2' hb;replace ru:=ru.below hb ru.lt;replace HXV:=Ag (Ak.below HXV.o hb);replace aju:=aju.trans (hb.mono aju.size);clear hb;generalize wD.drew=wn at *;refine tkm [0,1,2,3,4,5,6,7,8] ?_;refine Zp ?_;clear hHeld;have r0:=ru.cell (i:=0) rfl;have r1:=ru.cell (i:=1) rfl;have r2:=ru.cell (i:=2) rfl;have f0:=ru.frozen 0;have f1:=ru.frozen 1;have f2:=ru.frozen 2;go_wp2
       obtain⟨wf,hwf,rf,hwr⟩:=ajp ru (G7 (ak x).neg) (Gw Axn (ak x).num.length cxn) (Gw Axd (ak x).den.length cxd);rw[<-hwf];clear hwf;unfold AY;refine Z4 ?_;go_wp2_with fail
       go_meet
       exact⟨Axn,cxn,Axd,cxd,by rw[hux]; exact rf,by rw[hux]; exact Ak.keep (G:=λ_=>True) HXV.o (λ_ _ _=>trivial) (hwr.same λb hb e=>by have:b < w3.heap.size:=hb; have:=hq9.1; omega),(Below.wrote aju _).trans hwr⟩
     case rest =>
      clear ru HV rp p0 p1;obtain⟨AU,cU,BU,dU,ru,hV,hwr⟩:=hcut;obtain⟨wk,hwk⟩:=Gp wc;rw[<-hwk] at ru hV hwr ⊢;have HTV:=Ag hV;replace HUB:=Ag (HUB.o.wrote hwr FI);replace HAV:=Ag (Ak.keep (G:=λ_=>True) HAV.o (λ_ _ _=>trivial) (hwr.same λb hb e=>by have:b < qb:=hb; omega));replace hbel:=Below.wr hbel hwr hbel.size λb e=>by omega
      have u0:=HUB.o.cell (i:=0) rfl;have u1:=HUB.o.cell (i:=1) rfl;have u2:=HUB.o.cell (i:=2) rfl;have v0:=ru.cell (i:=0) rfl;have v1:=ru.cell (i:=1) rfl;have v2:=ru.cell (i:=2) rfl;have htl:rl tg<=20000:=by rw[HTG.o];have:=HOK.o.afI s;omega
      have Dk:=Ag (show iR acc tg=0 by rw[HSR.o,HTG.o,Ef.o]; exact(jc _ _).2 rfl);clear hV hwr hwk ru mF hup hq9;go_wp2_with fail
      refine(pK wk (λ_=>True) _ _ acc tg HAV.o HTV.o amm htl).mono ?_;rintro e wl ⟨_,rfl,hb,rfl⟩;rw[Dk.o];replace hbel:=hbel.trans (hb.mono hbel.size);clear hb u0 u1 u2 v0 v1 v2;dsimp only;go_wp2_with fail
      go_roundw
      case rel=>exact⟨k+1,FI,by go_num,hbel⟩
      case measure=>exact zMs
  ·have hke:k=n:=FI;subst hke;have hB:=HB3.o.trans (hbel.mono HB3.o.size);have x0:=ah HX0.o hbel;have x1:=ah HX1.o hbel;have x2:=ah HX2.o hbel;replace HG:=Ag (HG.o.on (GL hbel _));replace HM:=Ag (Gt.on HM.o (GL hbel _));clear hbel;go_wp2_with fail
   refine(akJ wa (λ_=>True) _ _ g r HG.o HM.o (by rw[HRL.o]; omega) (λl hl=>by have:=HL10.o l hl; omega) (λl hl x hx=>by have:=HOK.o.fits l hl x hx; omega) (λl hl j=>uT (HL10.o l hl) (λx hx=>by have:=HOK.o.fits l hl x hx; omega) j)).mono ?_;rintro e wb ⟨u,rfl,hb,hu⟩;have HO:=Ag (JK (G:=(λ_=>True)) hu (λ_ _ _=>trivial) (GZ _ _));obtain⟨Ao,co,e,_,_⟩:=hu;rw[Gz,HBL.o] at e;subst e;refine ZM ?_;clear hB;intro hB;clear hb x0 x1 x2;dsimp only;go_wp2_with fail
   refine(abV wb (λ_=>True) _ (gB r) HO.o (by rw[HBL.o]; omega) (λl hl=>by have:=(HBM.o l hl).1; omega) (λl hl x hx=>by have:=(HBM.o l hl).2 x hx; omega)).mono ?_;rintro e wc ⟨u,rfl,hb,t,rfl,ht⟩;have HTT:=Ag ht;refine ZM ?_;clear hB;intro hB;clear ht hb;generalize aoE:nH (gB r).flatten=er at *;dsimp only;go_wp2
   go_ret2;exact⟨_,rfl,hB,_,by rw[aoE]; rfl,HTT.o⟩
def iy (xs ys:List Rat) (k:Nat):Rat:=nZ k λi=>xs.getD i 0*ys.getD i 0
theorem ag8 {xs ys:List Rat} {x y:Rat} (hx:xs[k]? = some x) (hy:ys[k]? = some y):iy xs ys (k+1)=iy xs ys k+x*y:=by grind [iy,jA]
theorem abW (w:GK) (F:Gq) (va vb:GN) (xs ys:List Rat) (ha:CB w F va xs) (hb:CB w F vb ys) (hl:xs.length<=ys.length) (hn:ys.length<=100000) (hx:∀ x∈xs,rl x<=19000) (hy:∀ y∈ys,rl y<=1000) (hs:∀ k,k<=xs.length->rl (iy xs ys k)<=20000) :
  Calls GI 46 #[va,vb] w (Ret w λv w'=>RtV w' (Ext (Old F w.heap.size) w.heap.size) v (iy xs ys xs.length)):=by
 have hao:=IX (G:=Old F w.heap.size) ha (λb hb hl=>⟨hb,hl⟩) (GZ _ _);have hbo:=IX (G:=Old F w.heap.size) hb (λb hb hl=>⟨hb,hl⟩) (GZ _ _);have HX:=Ag hao;have HY:=Ag hbo;obtain⟨A,c,rfl,_,_⟩:=ha;obtain⟨A',c',rfl,_,_⟩:=hb;have HXL:=Ag hx;have HYL:=Ag hy;have HSL:=Ag hs;rw[Gz] at HX HY;obtain⟨F0,hF0⟩:=Gp (Old F w.heap.size);have HF0:=Ag (show ∀ b,F0 b->b < w.heap.size by intro b hb; rw[hF0] at hb; exact hb.2);rw[<-hF0] at HX HY ⊢;show Calls _ _ #[Gw A (xs.map ak).length c,Gw A' (ys.map ak).length c'] _ _;rw[Gz,Gz];clear hao hbo hx hy hs hF0;go_in
 go_upto_region 1 with(fail)
 generalize hW1:G5 _ _=W1;obtain⟨rb,hB1,hz1⟩:=aI hW1;obtain⟨qb,hqb⟩:=Gp w.heap.size;rw[<-hqb] at rb ⊢;have hq1:qb < W1.heap.size:=rb.lt;have hq0:=hq1;have HQB:=Ag hqb;clear hW1 hz1 hqb;have hw1:=dZ W1 0 au au;obtain⟨zz,hzz⟩:∃ x:Rat,x=((0:Int):Rat):=⟨_,rfl⟩;rw[<-hzz] at hw1;have HZZ:=Ag (show zz=0 by rw[hzz]; rfl);clear hzz;go_wp2_with fail
 refine hw1.mono ?_;rintro e W2 ⟨v1,rfl,hb,hv1⟩;obtain⟨A1,c1,B1,d1,rfl,bH⟩:=hv1.opened;replace hB1:=hB1.trans (hb.mono hB1.size);replace rb:=rb.below hb rb.lt;replace hq1:=Nat.lt_of_lt_of_le hq1 hb.size;clear hv1 hb hw1;dsimp only;go_upto_region 2 with(fail)
 obtain⟨W3,hW3,hacc,hb,hlt3⟩:=Acc.start 42 (G:=λb=>F0 b\/qb < b) bH (λb hb _=>.inr FI);rw[<-hW3];obtain⟨ub,hub⟩:=Gp W2.heap.size;rw[<-hub] at hacc hlt3 ⊢;replace hB1:=hB1.trans (hb.mono hB1.size);replace rb:=rb.below hb rb.lt;have hqu:qb < ub:=FI;have DN:=Ag hacc;have HB1:=Ag hB1;have HRB:=Ag rb;clear hW3 hacc hb bH hub hB1 rb hq0;go_wp2_with fail
 go_loopw [6] (λiv wr=>∃ (k:Nat) (acc:Rat) (A:Option Addr) (c:Nat) (B:Option Addr) (d:Nat),k<=xs.length/\iv = GV GU (k:Int)/\acc=iy xs ys k/\Acc 42 (λb=>F0 b\/qb < b) W3 ub (ak acc) A c B d wr) (λiv _=>xs.length - (intOf iv).toNat)
 case atStart=>exact⟨0,zz,_,_,_,_,Hg _,rfl,HZZ.o,DN.o⟩
 case round =>
  clear DN;obtain⟨k,acc,A2,c2,B2,d2,hk,rfl,hac,hst⟩:=hrel;obtain⟨wa,rfl⟩:=Gp wr;have HST:=Ag hst;have HAC:=Ag hac;have hal:rl acc<=20000:=by rw[hac];exact HSL.o k hk
  have hbel:=Ht HB1.o hst.wr (λb hb=>by have:=HQB.o; omega) (by have:=HQB.o; omega);have amu:Below qb W3 wa:=Ht (GR qb W3) hst.wr (λb hb=>by omega) FI;refine zaL ?_;intro u0 u1 u2 HUV hul;clear hst hac;by_cases hlt:k < xs.length
  case neg =>
   obtain rfl:k=xs.length:=FI;have hr2:=HRB.o.wrote HST.o.wr FI;have hbw:=HB1.o.trans (show Below w.heap.size W3 wa from by rw[<-HQB.o]; exact amu);have HBW:=Ag hbw;clear hbw hbel amu;have q0:=hr2.cell (i:=0) rfl;have y0:=hr2.frozen 0;have q1:=hr2.cell (i:=1) rfl;have y1:=hr2.frozen 1;have q2:=hr2.cell (i:=2) rfl;have y2:=hr2.frozen 2;go_wp2
   obtain⟨Wz,hWz,hrz,hwz,hkz⟩:=aY hr2 (G7 (ak acc).neg) (Gw A2 (ak acc).num.length c2) (Gw B2 (ak acc).den.length d2);refine Zg ?_;clear hWz q0 q1 q2 y0 y1 y2;intro t0 t1 t2;refine bodyPost_ret (v:=.agg #[G7 (ak acc).neg,Gw A2 (ak acc).num.length c2,Gw B2 (ak acc).den.length d2]) (by simp[results,Tryz.results46,go_sem,t0,t1,t2]) rfl ?_;refine⟨_,rfl,hwz _ _ (Nat.le_of_eq HQB.o.symm) HBW.o,?_⟩;rw[<-HAC.o];have h:=HUV.o.mono (G:=λb=>(F0 b\/qb < b)/\b≠qb) λb hb hl=>⟨hb.1,λe=>hb.1.elim (λh=>by have:=HF0.o b h; have:=HQB.o; omega) (λh=>by omega)⟩
   exact(Ak.on h (hkz _ λh=>h.2 rfl)).mono λb hb _=>hb.1.imp id λh=>by have:=HQB.o;omega
  obtain⟨x,hx⟩:=Gl hlt;obtain⟨y,hy⟩:=Gl (l:=ys) (k:=k) FI;have HXM:=Ag (HXL.o x (Gx hx));have HYM:=Ag (HYL.o y (Gx hy));have HSU:=Ag (ag8 hx hy);obtain⟨xb,xo,cx,vn,vd,e,hFx,hxl,x0,x1,x2,hn,hd⟩:=Gs.at (Iy HX.o (GL hbel _)) (show(xs.map ak)[k]? = some (ak x) by rw[GY,hx]; rfl);obtain⟨yb,yo,cy,wn',wd',e',hFy,hyl,y0,y1,y2,hn',hd'⟩:=Gs.at (Iy HY.o (GL hbel _)) (show(ys.map ak)[k]? = some (ak y) by rw[GY,hy]; rfl);rw[Gz] at e e';simp only[Value.slice.injEq,true_and] at e e';obtain⟨rfl,rfl⟩:=e;obtain⟨rfl,rfl⟩:=e';have HXV:=Ag (Ak.mono (Ak.make (r:=ak x) rfl hn hd) (G:=λb=>(F0 b\/qb < b)/\b≠ub) (λb hb _=>⟨.inl hb,by have:=HF0.o b hb; have:=HQB.o; omega⟩));have HYV:=Ag (Ak.mono (Ak.make (r:=ak y) rfl hn' hd') (G:=λb=>(F0 b\/qb < b)/\b≠ub) (λb hb _=>⟨.inl hb,by have:=HF0.o b hb; have:=HQB.o; omega⟩));obtain⟨A3,c3,rfl,-,-⟩:=hn;obtain⟨A4,c4,rfl,-,-⟩:=hd;obtain⟨A5,c5,rfl,-,-⟩:=hn';obtain⟨A6,c6,rfl,-,-⟩:=hd';have hky:k < ys.length:=FI;have hqw:qb < wa.heap.size:=FI;have hB:=GR wa.heap.size wa;clear hx hy hbel amu hFx hxl hFy hyl;go_wp2_with fail
  have hze:=Gy wa.heap.size;refine aP (λw'=>w'.cell? ⟨ub,0,none⟩=some (G7 (ak acc).neg)/\w'.cell? ⟨ub,1,none⟩=some (Gw A2 (ak acc).num.length c2)/\w'.cell? ⟨ub,2,none⟩=some (Gw B2 (ak acc).den.length d2)/\w'.cell? ⟨xb,xo+k*3,none⟩=some (G7 (ak x).neg)/\w'.cell? ⟨xb,xo+k*3+1,none⟩=some (Gw A3 (ak x).num.length c3)/\w'.cell? ⟨xb,xo+k*3+2,none⟩=some (Gw A4 (ak x).den.length c4)/\w'.cell? ⟨yb,yo+k*3,none⟩=some (G7 (ak y).neg)/\w'.cell? ⟨yb,yo+k*3+1,none⟩=some (Gw A5 (ak y).num.length c5)/\w'.cell? ⟨yb,yo+k*3+2,none⟩=some (Gw A6 (ak y).den.length c6)) 11 1 aj rfl aj ⟨u0,u1,u2,x0,x1,x2,y0,y1,y2⟩ λhHeld=>?_
  refine Zo ?_;refine zdS ?_;intro hb;refine zbQ ?_;clear u0 u1 u2 x0 x1 x2 y0 y1 y2 HST HUV HXV HYV;intro u0 u1 u2 x0 x1 x2 y0 y1 y2 HST HUV HXV HYV;refine ZM ?_;clear hB;intro hB;clear hb;generalize wa.drew=wn at *;refine tkm [0,1,2,3,4,5,6,7,8] ?_;have hwn:wa.heap.size<=wn.heap.size:=hB.size;refine tk2 9 aj rfl λK hK=>?_
  go_simp;refine(mY wn (λb=>(F0 b\/qb < b)/\b≠ub) _ _ x y HXV.o HYV.o (by have:=HXM.o; omega) (by have:=HYM.o; omega)).mono ?_;rintro e wn ⟨vp,rfl,hb,hu⟩;obtain⟨pr,hpr⟩:=Gp (x*y);rw[<-hpr] at hu HSU;have HPV:=Ag (hu.mono (G:=(λb=>(F0 b\/qb < b)/\b≠ub)) (λb hb _=>hb.elim id λh=>⟨.inr FI,FI⟩));have HPL:=Ag (show rl pr<=20000 by rw[hpr]; have:=jQ x y; have:=HXM.o; have:=HYM.o; omega);obtain⟨A7,c7,B7,d7,rfl,-⟩:=hu.opened;replace hwn:=He hwn hb.size;clear hu hpr;refine zbQ ?_;clear u0 u1 u2 x0 x1 x2 y0 y1 y2 HST HUV HXV HYV;intro u0 u1 u2 x0 x1 x2 y0 y1 y2 HST HUV HXV HYV;refine YQ ?_;clear hB hb;intro hB;clear hHeld;refine hK.out _ _ ⟨u0,u1,u2,x0,x1,x2,y0,y1,y2⟩ (λhHeld=>?_);clear hK K;refine zcf ?_;intro K hK;go_simp;refine(mg wn (λb=>(F0 b\/qb < b)/\b≠ub) _ _ acc pr HUV.o HPV.o hal HPL.o).mono ?_;rintro e wn ⟨vp,rfl,hb,hu⟩;obtain⟨sm,hsm⟩:=Gp (acc+pr);rw[<-hsm] at hu;have HSM:=Ag hsm;have HSV:=Ag (hu.mono (G:=(λb=>(F0 b\/qb < b)/\b≠ub)) (λb hb _=>hb.elim id λh=>⟨.inr FI,FI⟩));obtain⟨A8,c8,B8,d8,rfl,-⟩:=hu.opened;clear hu hsm;refine zbQ ?_;clear u0 u1 u2 x0 x1 x2 y0 y1 y2 HST HUV HXV HYV;intro u0 u1 u2 x0 x1 x2 y0 y1 y2 HST HUV HXV HYV;replace HPV:=Ag (HPV.o.below hb);refine YQ ?_;clear hB hb;intro hB;clear hHeld;refine hK.out _ _ ⟨u0,u1,u2,x0,x1,x2,y0,y1,y2⟩ (λhHeld=>?_);refine zab ?_;clear hK K hHeld;intro f0 f1 f2 Wz hWz hst2;have HWZ:=Ag hWz;have Cm:=Ag hst2;clear hWz hst2;go_wp2
  refine zbP ?_;clear f0 f1 f2 u0 u1 u2 x0 x1 x2 y0 y1 y2;go_wp2
  go_roundw
  case rel=>exact⟨k+1,sm,_,_,_,_,FI,by go_num,by rw[HSM.o,HSU.o,<-HAC.o],Cm.o⟩
  case measure=>exact zMs
