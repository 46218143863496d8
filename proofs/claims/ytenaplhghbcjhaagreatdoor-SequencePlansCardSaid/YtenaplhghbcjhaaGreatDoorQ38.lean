import Derived.Laws.StructEq
import Derived.Maps.OwnOps
import Derived.Test.YtenaplhghbcjhaaGreatDoorQ34
import Derived.Test.YtenaplhghbcjhaaGreatDoorQ37
set_option linter.all false
set_option maxRecDepth 100000
set_option maxHeartbeats 0
namespace Go.Proofs.YtenaplhghbcjhaaGreatDoor
open Go.RowKit.Below renaming refl->GR
open Below renaming same'->GL,wrote->I9
open Go.IntKind renaming i64->GU
open Go renaming Value->GN,World->GK
open Go.Value renaming bool->G7,int->GV,slice->Gw
open Gs renaming keep->IX,on->Iy
open Gt renaming keep->JK
open List renaming append_assoc->IU,ext_getElem?->IW,getD_eq_getElem?_getD->GH,getElem?_eq_none->Ij,getElem?_map->GY,getElem?_of_mem->H9,getElem?_replicate->I4,getElem?_set_ne->G6,getElem?_set_self->Hq,length->JB,length_append->G9,length_map->Gz,length_range->Je,length_replicate->Io,length_set->Hy,length_take->Ik,map->Iq,map_append->Hf,map_cons->Ju,map_set->Jj,mem_map_of_mem->IL,mem_of_getElem?->Gx,mem_or_eq_of_mem_set->JG,range->Ig,range_succ->JJ,replicate->GX,take_of_length_le->G8
open Nat renaming add_zero->Jb,le_refl->Gy,le_trans->He,lt_of_lt_of_le->Hz,zero_add->I5,zero_le->Hg,zero_mul->Jc
open Option renaming getD_some->Jt
open Option.some renaming inj->IE,injEq->JD
open Same renaming refl->GZ
open Tryz renaming infoRat->JR
open Go.Proofs.Tryz renaming prog->GI,underlying29->KR,underlying63->KC
open Go.World renaming alloc->G5
open Go.World.ownsRow renaming cellAt->J7
open Wrote renaming below->Ht,refl->Ir,setCell->KL
open Go.RowKit
variable {ops:Array Oper} {F K:Gq} {aC e p:Int} {P m:List (List Rat)} {rest:List Oper} {l x xs y:List Rat} {B B' N a b base c d fb g i j k mb mp n ni q:Nat} {o:Oper} {r:Raw} {α β:Type} {et et':TypeId}
def qg (s:Int×Int):GN:=.agg #[GV GU s.1,GV GU s.2]
def rX:List (Int×Int)->Nat->List MapEntry
 | [],_=>[]
 | s :: l,k=>⟨qg s,GV GU (k:Int),k⟩ :: rX l (k+1)
theorem adn (s:Int×Int):∀ (l:List (Int×Int)) (k:Nat),rX (l ++ [s]) k=rX l k ++ [⟨qg s,GV GU ((k+l.length:Nat):Int),k+l.length⟩]
 | [],k=>rfl
 | t :: l,k=>by
  have e:k+1+l.length=k+(t :: l).length:=aB;rw[List.cons_append,rX,adn s l (k+1),rX,List.cons_append,e]
def AP (w:GK) (b:Nat) (l:List (Int×Int)):Prop:=w.heap[b]? = some (.map (rX l 0).toArray l.length)
theorem AP.lt {w:GK} {l:List (Int×Int)} (h:AP w b l):b < w.heap.size:=(Array.getElem?_eq_some_iff.1 h).1
theorem AP.of {w w':GK} {l:List (Int×Int)} (h:AP w b l) (e:w'.heap[b]? = w.heap[b]?):AP w' b l:=e.trans h
theorem AP.below {w w':GK} {l:List (Int×Int)} (h:AP w b l) (hb:Below B w w') (hB:b < B):AP w' b l:=h.of (hb.block b hB)
theorem AP.wrote {w w':GK} {l:List (Int×Int)} (h:AP w b l) (hw:Wrote K w w') (hK:¬ K b):AP w' b l:=h.of (hw.block b h.lt hK)
theorem zo (em:Bool) (w:GK) (s:Int×Int):(Instr.checkKey em 10000 71 (qg s)).run GI w = .ok () w:=by
 have h:∀ n:Nat,(Instr.checkKey em (n+2) 71 (qg s)).run GI w = .ok () w:=by
  intro n;simp[Instr.checkKey,qg,part,go_sem]
 exact h 9998
theorem aaM (w:GK) (s:Int×Int):∀ (l:List (Int×Int)) (k i:Nat),(Instr.findAsking 71 (qg s) (rX l k) i).run GI w = .ok (if s∈l then some (i+l.idxOf s,GV GU ((k+l.idxOf s:Nat):Int)) else none) w
 | [],k,i=>by simp[rX,Instr.findAsking,go_sem]
 | t :: l,k,i=>by
  have he:(Op.equal 71 (qg s) (qg t)).run GI w = .ok ((s.1==t.1)&&(s.2==t.2)) w:=rW w s.1 s.2 t.1 t.2;have ih:=aaM w s l (k+1) (i+1);by_cases e:s=t
  ·subst e;simp[rX,Instr.findAsking,he,go_sem]
  ·have hf:((s.1==t.1)&&(s.2==t.2))=false:=by
    rw[Bool.eq_false_iff];intro h;simp at h;exact e (Prod.ext h.1 h.2)
   have e2:¬ t=s:=λh=>e h.symm
   rw[hf] at he;have e3:(if s∈t :: l then some (i+(t :: l).idxOf s,Value.int .i64 ((k+(t :: l).idxOf s:Nat):Int)) else none)=(if s∈l then some (i+1+l.idxOf s,Value.int .i64 ((k+1+l.idxOf s:Nat):Int)) else none):=by
    have e4:(t :: l).idxOf s=l.idxOf s+1:=by rw[List.idxOf_cons,beq_eq_false_iff_ne.2 e2];rfl
    rw[e4];by_cases h:s∈l
    ·rw[LH h,LH (List.mem_cons_of_mem _ h),show i+(l.idxOf s+1)=i+1+l.idxOf s by omega,show k+(l.idxOf s+1)=k+1+l.idxOf s by omega]
    ·rw[LG h,LG (by simp[e,h])]
   rw[e3,<-ih];simp only[rX,Instr.findAsking];simp[he,go_sem]
theorem abX (w:GK) (s:Int×Int) (l:List (Int×Int)):(Instr.findKey 71 (qg s) (rX l 0)).run GI w = .ok (if s∈l then some (l.idxOf s,GV GU ((l.idxOf s:Nat):Int)) else none) w:=by
 cases l with
 | nil=>simp[Instr.findKey,Instr.findNow,rX,go_sem]
 | cons t l =>
  have h:=aaM w s (t :: l) 0 0;simp only[I5] at h;rw[<-h];simp[Instr.findKey,Instr.findNow,Instr.sameNow,rX,qg,go_sem]
theorem nU {w:GK} {l:List (Int×Int)} {s:Int×Int} (h:AP w b l) (hs:s∈l):(Instr.lookup 65 (.map (some b)) (qg s) false).run GI w = .ok (GV GU (iP l s:Int)) w:=by
 have e1:=abX w s l;rw[LH hs] at e1;unfold AP at h;have e2:=zo (rX l 0).toArray.isEmpty w s;simp[Instr.lookup,getObj,Sem.run,h,go_sem] at e2 ⊢;simp[e2,e1,iP,Result.andThen]
theorem ag9 {w:GK} {l:List (Int×Int)} {s:Int×Int} (h:AP w b l) (hs:s ∉ l):∃ w',(Instr.mapUpdate 65 (.map (some b)) (qg s) (GV GU (l.length:Int))).run GI w = .ok () w'/\AP w' b (l ++ [s])/\Wrote (λk=>k=b) w w':=by
 have e1:=abX w s l;rw[LG hs] at e1;have hlt:=h.lt;unfold AP at h;have e2:=zo false w s;refine⟨{ w with heap:=w.heap.setIfInBounds b (.map (rX (l ++ [s]) 0).toArray (l ++ [s]).length) },?_,?_,?_⟩
 ·rw[adn];simp[Instr.mapUpdate,getObj,setObj,Sem.run,h,e1,e2,go_sem]
 ·unfold AP;simp[hlt]
 ·exact⟨rfl,rfl,rfl,aA,λi _ hi=>by simp[Ne.symm hi]⟩
theorem aha {w:GK} {a:Act} {Q:Exit->Act->GK->Prop} (hg:o.guard=none) (m x v:Operand) (hop:o.op=Op.mapUpdate 65 m x v) (b:Nat) (l:List (Int×Int)) (s:Int×Int)
  (hm:a.eval m = .map (some b)) (hx:a.eval x=qg s) (hv:a.eval v = GV GU (l.length:Int)) (h:AP w b l) (hs:s ∉ l)
  (hK:∀ w',AP w' b (l ++ [s])->Wrote (λk=>k=b) w w'->wpList GI ops Q rest (a.put o.dst undef) w'):wpList GI ops Q (o :: rest) a w:=by
 refine wpList_plain hg λK' hK'=>?_
 obtain⟨w',hrun,h1,h2⟩:=ag9 h hs;unfold Oper.wp;simp[execOp,hop,hm,hx,hv,hrun,Result.andThen];exact hK' _ _ (hK w' h1 h2)
theorem aiM (w:GK):AP (w.alloc (.map #[] 0)) w.heap.size []:=heap_alloc_new w _
open List renaming getElem_toArray → lq1, getElem_cons_zero → lq2, getElem_cons_succ → lq3, setIfInBounds_toArray → lq4, set_cons_zero → lq5, set_cons_succ → lq6
theorem AA.ape {w:GK} {v:GN} {L:List (Int×Int)} (h:OwnSl kH w base et F v L):∃ A c,v = Gw A L.length c:=(h.pairs (G:=λ_=>True) (λ_ _=>trivial)).open
theorem akM (w:GK) (xb pb fb mp p B:Nat) (s:Int×Int) (V:GN) (L:List (Int×Int)) (vs:List GN) (hx:Row w xb 57 [.pointer (some ⟨fb,0,none⟩)]) (hp:Row w pb 3 [GV GU (p:Int)]) (hf:Row w fb 68 vs) (hp2:p < 2)
  (hV:vs[3+p]? = some V) (hM:vs[5+p]? = some (.map (some mp))) (hmap:AP w mp L) (hown:OwnSl kH w B 71 (λ_=>False) V L) (hL:L.length<=1000) (hs:s ∉ L) (hxB:xb < B) (hpB:pb < B) (hfB:fb < B) (hmB:mp < B) (hBw:B<=w.heap.size) (hxf:xb≠fb) (hpf:pb≠fb) :
  Calls GI 66 #[qg s,.pointer (some ⟨xb,0,none⟩),.pointer (some ⟨pb,0,none⟩)] w λe w'=>e = .returned (.tuple #[])/\∃ V',Row w' fb 68 (vs.set (3+p) V')/\AP w' mp (L ++ [s])/\OwnSl kH w' B 71 (λ_=>False) V' (L ++ [s])/\Wrote (λk=>k=fb\/k=mp\/V.ownBlock=some k) w w':=by
 obtain⟨A,c,rfl⟩:=AA.ape hown;have HVB:=Ag (λb (e:(Value.slice A L.length c).ownBlock=some b)=>(hown.row.lt b e).2);have HO:=Ag hown;have HMP:=Ag hmap;have HV:=Ag hV;have HM:=Ag hM;have HS:=Ag hs;have hmf:mp≠fb:=by rintro rfl;unfold AP at hmap;unfold Row at hf;rw[hf] at hmap;cases hmap
 have hmx:mp≠xb:=by rintro rfl;unfold AP at hmap;unfold Row at hx;rw[hx] at hmap;cases hmap
 have hmpb:mp≠pb:=by rintro rfl;unfold AP at hmap;unfold Row at hp;rw[hp] at hmap;cases hmap
 have hp2i:(p:Int) < 2:=FI;clear hown hmap hV hM hs;obtain⟨s1,s2⟩:=s;unfold qg;go_in
 go_upto_region 1 with(fail)
 generalize hW:G5 _ _=W;obtain⟨rx,hB,hz⟩:=aI hW;replace hx:=hx.below hB hx.lt;replace hp:=hp.below hB hp.lt;replace hf:=hf.below hB hf.lt;replace HO:=Ag (HO.o.below hB);replace HMP:=Ag (HMP.o.below hB HMP.o.lt);have hWr:=(I9 hB (λk=>k=fb\/k=mp\/(Value.slice A L.length c).ownBlock=some k));obtain⟨ab,hab⟩:=Gp w.heap.size;rw[<-hab] at rx hBw HVB ⊢;have hz1:ab < W.heap.size:=FI;clear hW hB hz hab;have x0:=hx.cell (i:=0) rfl;have p0:=hp.cell (i:=0) rfl;have v0:=hf.cell HV.o;have m0:=hf.cell HM.o;have a0:=rx.cell (i:=0) rfl;have a1:=rx.cell (i:=1) rfl;refine aP (λw'=>w'.cell? ⟨xb,0,none⟩=some (.pointer (some ⟨fb,0,none⟩))/\w'.cell? ⟨pb,0,none⟩=some (GV GU (p:Int))/\w'.cell? ⟨fb,3+p,none⟩=some (Gw A L.length c)/\w'.cell? ⟨fb,5+p,none⟩=some (.map (some mp))/\w'.cell? ⟨ab,0,none⟩=some (GV GU s1)/\w'.cell? ⟨ab,1,none⟩=some (GV GU s2)) 14 1 aj rfl aj ⟨x0,p0,v0,m0,a0,a1⟩ λhHeld=>?_
 refine Zo ?_;refine Yx ?_;intro hb;replace HMP:=Ag (HMP.o.below hb HMP.o.lt);replace hWr:=hWr.trans (I9 hb _);have hzn:W.heap.size<=W.drew.heap.size:=hb.size;replace x0:=ah x0 hb;replace p0:=ah p0 hb;replace v0:=ah v0 hb;replace m0:=ah m0 hb;replace a0:=ah a0 hb;replace a1:=ah a1 hb;replace HO:=Ag (HO.o.below hb);replace hx:=hx.below hb hx.lt;replace hp:=hp.below hb hp.lt;replace hf:=hf.below hb hf.lt;replace rx:=rx.below hb rx.lt;replace hz1:=He hz1 hb.size;clear hb;generalize W.drew=wn at *;refine tkm [0,1,2,3,4,5,6,7,8,9,10,11,12,13] ?_;refine Zp ?_;clear hHeld;refine aha rfl _ _ _ rfl mp L (s1,s2) rfl rfl rfl HMP.o HS.o ?_;intro w1 hm1 hw1;have hma:mp≠ab:=FI;replace hx:=hx.wrote hw1 (λe=>hmx e.symm);replace hp:=hp.wrote hw1 (λe=>hmpb e.symm);replace hf:=hf.wrote hw1 (λe=>hmf e.symm);replace rx:=rx.wrote hw1 (λe=>hma e.symm);have HUB:=Ag HO.o.row.lt;replace HO:=Ag (HO.o.wrote hw1 (λb hb e=>hb.elim id λe2=>by have:=(HUB.o b e2).1; omega));replace hWr:=hWr.step hw1 (λi _ e=>.inr (.inl e));replace HMP:=Ag hm1;replace hz1:=He hz1 hw1.size;clear hm1 hw1 hzn x0 p0 v0 m0 a0 a1 HS HUB HM;obtain⟨W,rfl⟩:=Gp w1;have x0:=hx.cell (i:=0) rfl;have p0:=hp.cell (i:=0) rfl;have v0:=hf.cell HV.o;have a0:=rx.cell (i:=0) rfl;have a1:=rx.cell (i:=1) rfl;unfold AY;refine Z4 ?_;go_wp2_with fail
 refine aP (λw'=>w'.cell? ⟨xb,0,none⟩=some (.pointer (some ⟨fb,0,none⟩))/\w'.cell? ⟨pb,0,none⟩=some (GV GU (p:Int))/\w'.cell? ⟨fb,3+p,none⟩=some (Gw A L.length c)/\w'.cell? ⟨ab,0,none⟩=some (GV GU s1)/\w'.cell? ⟨ab,1,none⟩=some (GV GU s2)) 14 1 aj rfl aj ⟨x0,p0,v0,a0,a1⟩ λhHeld=>?_
 refine Zo ?_;refine Yx ?_;intro hb;replace HMP:=Ag (HMP.o.below hb HMP.o.lt);replace hWr:=hWr.trans (I9 hb _);have hzn:W.heap.size<=W.drew.heap.size:=hb.size;replace x0:=ah x0 hb;replace p0:=ah p0 hb;replace v0:=ah v0 hb;replace a0:=ah a0 hb;replace a1:=ah a1 hb;replace HO:=Ag (HO.o.below hb);replace hx:=hx.below hb hx.lt;replace hp:=hp.below hb hp.lt;replace hf:=hf.below hb hf.lt;replace rx:=rx.below hb rx.lt;replace hz1:=He hz1 hb.size;clear hb;generalize W.drew=wn at *;refine tkm [0,1,2,3,4,5,6,7,8,11,12] ?_;refine tk2 9 aj rfl λK hK=>?_
 go_simp;refine hK.out _ _ ⟨bQ x0 _,bQ p0 _,bQ v0 _,bQ a0 _,bQ a1 _⟩ (λhHeld=>?_);clear hK K;refine zcf ?_;intro K hK;refine xH (K:=kH) (F:=λ_=>False) (W:=wn) rfl _ _ 63 71 16 _ KC Tryz.infoSeq rfl au rfl B FI (Gw A L.length c) L rfl (s1,s2) _ rfl FI rfl HO.o trivial ?_;intro g cap wq hown hwq hat hlt;have HUB:=Ag HO.o.row.lt;have une:∀ b,b < B->(Value.slice A L.length c).ownBlock≠some b:=λb hb e=>by have:=(HUB.o b e).1;omega
 have hab:(Value.slice A L.length c).ownBlock≠some ab:=λe=>by have:=HVB.o ab e;omega
 replace x0:=fK x0 hwq (une _ hxB);replace p0:=fK p0 hwq (une _ hpB);replace v0:=fK v0 hwq (une _ hfB);replace hf:=hf.wrote hwq (une _ hfB);replace HMP:=Ag (HMP.o.wrote hwq (une _ hmB));replace hWr:=hWr.step hwq (λi hi e=>.inr (.inr e));replace a0:=fK a0 hwq hab;replace a1:=fK a1 hwq hab;have HO2:=Ag hown;clear hown hwq hat hlt une hab HUB HO hHeld;refine hK.out _ _ ⟨x0,p0,v0,a0,a1⟩ (λhHeld=>?_);clear hK K;refine Zb ?_;refine tkm [13] ?_;refine Zp ?_;clear hHeld;have f0:=hf.frozen (3+p);obtain⟨Wz,hWz⟩:=Gp (wq.setCell ⟨fb,3+p,none⟩ (Gw (some ⟨g,0,none⟩) (L.length+1) cap));have HFZ:=Ag (ste hWz hf);have hwz:Wrote (λb=>b=fb) wq Wz:=hWz▸KL (K:=λb=>b=fb) (p:=⟨fb,3+p,none⟩) (Ir _ _) (.inl rfl) _;have HMZ:=Ag (HMP.o.wrote hwz hmf);have HOZ:=Ag (HO2.o.wrote hwz λb hb e=>hb.elim id λe2=>by have:=(HO2.o.row.lt b e2).1; omega);have HWZ:=Ag (hWr.step hwz λi _ e=>.inl e);have HX:=Ag hWz;clear hWz hwz HO2 HMP hWr hf x0 p0 a0 a1;go_wp2
 rw[<-HX.o];unfold AY;go_end0;exact⟨rfl,_,HFZ.o,HMZ.o,HOZ.o,HWZ.o⟩
def zq (g:Gm) (vn vi vp:GN) (V M:Nat->GN):List GN:=[GV GU g.aC,vn,vi,V 0,V 1,M 0,M 1,vp]
def wH (V:Nat->GN) (p:Nat) (v:GN):Nat->GN:=λq=>if q=p then v else V q
theorem uV (V:Nat->GN) (p:Nat) (v:GN):wH V p v p=v:=LH rfl
theorem rY (V:Nat->GN) {p:Nat} (v:GN) (h:q≠p):wH V p v q=V q:=LG h
theorem aiN (V:Nat->GN) (p:Nat) (u v:GN):wH (wH V p u) p v=wH V p v:=by grind [wH]
theorem mJ {g:Gm} {vn vi vp:GN} {V M:Nat->GN} {p:Nat} (hp:p < 2):(zq g vn vi vp V M)[3+p]? = some (V p):=by rcases (show p=0\/p=1 by omega) with rfl | rfl <;> rfl
theorem uX {g:Gm} {vn vi vp:GN} {V M:Nat->GN} {p:Nat} (hp:p < 2):(zq g vn vi vp V M)[5+p]? = some (M p):=by rcases (show p=0\/p=1 by omega) with rfl | rfl <;> rfl
theorem aiO {g:Gm} {vn vi vp:GN} {V M:Nat->GN} {p:Nat} (hp:p < 2) (v:GN):(zq g vn vi vp V M).set (3+p) v=zq g vn vi vp (wH V p v) M:=by rcases (show p=0\/p=1 by omega) with rfl | rfl <;> rfl
theorem aiP {g:Gm} {vn vi vp:GN} {V M:Nat->GN} {p:Nat} (hp:p < 2) (v:GN):(zq g vn vi vp V M).set (5+p) v=zq g vn vi vp V (wH M p v):=by rcases (show p=0\/p=1 by omega) with rfl | rfl <;> rfl
structure DR (w:GK) (B:Nat) (V M:GN) (l:List (Int×Int)):Prop where
 list:AA w (λb=>B<=b) V l
 num:∃ mb,M = .map (some mb)/\B<=mb/\AP w mb l
theorem DR.wrote {w w':GK} {V M:GN} {l:List (Int×Int)} (h:DR w B V M l) (hw:Wrote K w w') (hK:∀ b,B<=b->b < w.heap.size->¬ K b):DR w' B V M l:=by
 obtain⟨mb,h1,h2,h3⟩:=h.num;refine⟨h.list.on ⟨hw.size,λb hb hl=>hw.block b hl (hK b hb hl)⟩,mb,h1,h2,h3.of (hw.block mb h3.lt (hK mb h2 h3.lt))⟩
theorem DR.mono {w:GK} {V M:GN} {l:List (Int×Int)} (h:DR w B V M l) (hB:B'<=B):DR w B' V M l:=by
 obtain⟨mb,h1,h2,h3⟩:=h.num;exact⟨h.list.keep (λb hb _=>He hB hb) (GZ _ _),mb,h1,He hB h2,h3⟩
theorem DR.below {w w':GK} {V M:GN} {l:List (Int×Int)} (h:DR w B V M l) (hb:Below w.heap.size w w'):DR w' B V M l:=h.wrote (I9 hb (λ_=>False)) (λ_ _ _=>id)
structure BZ (w:GK) (B:Nat) (F:Gq) (g:Gm) (fb:Nat) (vn vi vp:GN) (V M:Nat->GN):Prop where
 row:Row w fb 68 (zq g vn vi vp V M)
 game:AB w F (.agg #[GV GU g.aC,vn,vi]) g
 ad4:∀ p,p < 2->DR w B (V p) (M p) (aN g p)
 par:AA w (λb=>B<=b) vp (aU g)
theorem BZ.below {w w':GK} {g:Gm} {vn vi vp:GN} {V M:Nat->GN} (h:BZ w B F g fb vn vi vp V M) (hb:Below w.heap.size w w'):BZ w' B F g fb vn vi vp V M :=
 ⟨h.row.below hb h.row.lt,h.game.on (GL hb F),λp hp=>(h.ad4 p hp).below hb,h.par.on (GL hb _)⟩
def fQ (g:Gm):Int:=if aQ g≠0 then aQ g else if g.aC≠2 then 10 else lH g
def seatE (g:Gm) (pl:Int):Int:=if fQ g≠0 then fQ g else if pl < 0\/1 < pl then 2 else 0
theorem pU {g:Gm} (h:fQ g=0):aQ g=0/\g.aC=2/\lH g=0:=by grind [fQ]
theorem aaN {g:Gm} {pl:Int} (h:seatE g pl=0):fQ g=0/\0<=pl/\pl<=1:=by grind [seatE]
def CG (w w':GK) (F:Gq) (g:Gm) (e:Int) (u:GN):Prop:=(e≠0->u = .pointer none)/\(e=0->∃ fb vn vi vp V M,u = .pointer (some ⟨fb,0,none⟩)/\w.heap.size<=fb/\BZ w' w.heap.size F g fb vn vi vp V M)
theorem CG.ptr {w w':GK} {g:Gm} {u:GN} (h:CG w w' F g e u):∃ a,u = .pointer a:=by
 by_cases h0:e=0
 ·obtain⟨fb,_,_,_,_,_,rfl,_⟩:=h.2 h0;exact⟨_,rfl⟩
 ·exact⟨none,h.1 h0⟩
theorem aaO (w:GK):Calls GI 25 #[] w (Ret w λv _=>v = .agg #[GV GU (-1),GV GU (-1)]):=by
 go_in;go_wp2_with fail
 generalize hW:G5 _ _=W;obtain⟨rx,hB,hz⟩:=aI hW;have t0:=rx.cell (i:=0) rfl;have t1:=rx.cell (i:=1) rfl;clear hW;refine bodyPost_ret (v:=.agg #[GV GU (-1),GV GU (-1)]) (by simp[results,Tryz.results25,go_sem,t0,t1]) rfl ?_;exact⟨_,rfl,hB,rfl⟩
structure BR (g:Gm) (vn vi vp:GN) (V M:Nat->GN) (fb mp p B:Nat) (wp:GK) (l:List (Int×Int)) (wr:GK):Prop where
 st:∃ v,Row wr fb 68 (zq g vn vi vp (wH V p v) M)/\OwnSl kH wr B 71 (λ_=>False) v l
 map:AP wr mp l
 wr:Wrote (λk=>k=fb\/k=mp\/B<=k) wp wr
theorem BR.below {g:Gm} {vn vi vp:GN} {V M:Nat->GN} {p:Nat} {wp wr w':GK} {l:List (Int×Int)} (h:BR g vn vi vp V M fb mp p B wp l wr) (hb:Below wr.heap.size wr w'):BR g vn vi vp V M fb mp p B wp l w':=by
 obtain⟨v,h1,h2⟩:=h.st;exact⟨⟨v,h1.below hb h1.lt,h2.below hb⟩,h.map.below hb h.map.lt,h.wr.trans (I9 hb _)⟩
theorem BR.add {g:Gm} {vn vi vp:GN} {V M:Nat->GN} {p xb pb:Nat} {wp wr:GK} {l:List (Int×Int)} (h:BR g vn vi vp V M fb mp p B wp l wr) (hx:Row wr xb 57 [.pointer (some ⟨fb,0,none⟩)]) (hp:Row wr pb 3 [GV GU (p:Int)]) (hp2:p < 2) (hM:M p = .map (some mp)) (hl:l.length<=1000)
  (hxB:xb < B) (hpB:pb < B) (hfB:fb < B) (hmB:mp < B) (hBw:B<=wr.heap.size) (hxf:xb≠fb) (hpf:pb≠fb) {s:Int×Int} (hs:s ∉ l) :
  Calls GI 66 #[qg s,.pointer (some ⟨xb,0,none⟩),.pointer (some ⟨pb,0,none⟩)] wr λe w'=>e = .returned (.tuple #[])/\BR g vn vi vp V M fb mp p B wp (l ++ [s]) w'/\∀ nb t vs,nb≠fb->t≠71->Row wr nb t vs->Row w' nb t vs:=by
 obtain⟨v,h1,h2⟩:=h.st;refine(akM wr xb pb fb mp p B s v l _ hx hp h1 hp2 ((mJ hp2).trans (by rw[uV])) ((uX hp2).trans (by rw[hM])) h.map h2 hl hs hxB hpB hfB hmB hBw hxf hpf).mono ?_;rintro e w' ⟨rfl,V',h3,h4,h5,h6⟩;refine⟨rfl,⟨⟨V',?_,h5⟩,h4,h.wr.step h6 (λi hi e=>?_)⟩,λnb t vs hnb ht hr=>hr.wrote h6 (λe=>?_)⟩
 ·grind [aiO,aiN]
 ·rcases e with e | e | e
  ·exact .inl e
  ·grind
  ·exact .inr (.inr (h2.row.lt i e).1)
 ·rcases e with e | rfl | e
  ·exact hnb e
  ·have hm:=h.map;grind [AP,Row]
  grind [OwnSl.apart]
theorem ahb (w:GK) (F:Gq) (u:GN) (g:Gm) (hg:AB w F u g) (hsm:Small g) :
  Calls GI 32 #[u] w (Ret w λv w'=>∃ u',v = .tuple #[u',GV GU (fQ g)]/\CG w w' F g (fQ g) u'):=by
 have HSM:=Ag hsm;have HGO:=Ag (AB.keep (G:=Old F w.heap.size) hg (λb hb hl=>⟨hb,hl⟩) (GZ _ _));have HG:=Ag hg;have hni:=hsm.F8;obtain⟨vn,vi,rfl,⟨A,c,rfl,hc,_⟩,⟨Ai,ci,rfl,hci,hI⟩⟩:=hg;have HI:=Ag hI;have hoe:fQ g=if aQ g≠0 then aQ g else if g.aC≠2 then 10 else lH g:=rfl
 have HE:=Ag hoe;obtain⟨oe,hoe⟩:=Gp (fQ g);rw[<-hoe] at HE ⊢;have HOE:=Ag hoe;clear hsm hI hoe;go_in;go_wp2_with fail
 generalize hW:G5 _ _=W;obtain⟨rx,hB,hz⟩:=aI hW;replace HG:=Ag (HG.o.on (GL hB F));replace HGO:=Ag (HGO.o.on (GL hB _));refine Zd ?_;intro x0 x1 x2;clear hW hz;go_wp2_with fail
 clear x0 x1 x2;refine(abg W F _ g HG.o HSM.o).mono ?_;rintro e w1 ⟨_,rfl,hb,rfl⟩;rw[yD];refine zdg ?_;clear HG;intro HG;replace HGO:=Ag (HGO.o.on (GL hb _));refine Ya ?_;clear rx hB;intro rx hB;refine Zd ?_;intro x0 x1 x2;obtain⟨fe,hfe⟩:=Gp (aQ g);rw[<-hfe] at HE ⊢;have HFE:=Ag hfe;clear hb hfe;dsimp only;by_cases h0:fe=0
 case neg =>
  refine zaq ?_;intro t0 H0;clear h0;go_wp2_with fail
  go_ret2;refine zdL ?_;intro e0;exact zeh
 subst h0;by_cases h2:g.aC=2
 case neg =>
  have t0:(g.aC != 2)=true:=by simp[h2]
  have H2:=Ag h2;clear h2;go_wp2_with fail
  go_ret2;have e0:=HE.o;rw[LG au,LH H2.o] at e0;exact⟨_,rfl,hB,_,by rw[e0]; rfl,λ_=>rfl,λh=>absurd (e0.symm.trans h) au⟩
 have t0:(g.aC != 2)=false:=by simp[h2]
 have H2:=Ag h2;clear h2;go_wp2_with fail
 clear t0 x0 x1 x2;refine(tV w1 F _ g HG.o HSM.o).mono ?_;rintro e w2 ⟨_,rfl,hb,vp,rfl,hvp⟩;have hps:zn g=lH g:=by unfold zn;rw[<-HFE.o];rfl
 have hpo:oZ g=jy g:=by unfold oZ;rw[<-HFE.o];rfl
 rw[hps];rw[hpo] at hvp;refine zdg ?_;clear HG;intro HG;replace HGO:=Ag (HGO.o.on (GL hb _));replace rx:=rx.below hb rx.lt;have hB1:=hB.size;refine ZM ?_;clear hB;intro hB;refine Zd ?_;intro x0 x1 x2;have HVP:=Ag (AA.keep (G:=λb=>w.heap.size<=b/\b < w2.heap.size) hvp (λb h hl=>⟨FI,hl⟩) (GZ _ _));obtain⟨Ap,cp,rfl⟩:=hvp.open;have HPC:=Ag (rU g);obtain⟨pe,hpe⟩:=Gp (lH g);rw[<-hpe] at HE HPC ⊢;clear hb hvp hpe hps hpo hB1;dsimp only;by_cases h0:pe=0
 case neg =>
  have t0:(pe != 0)=true:=by simp[h0]
  have H0:=Ag h0;clear h0;go_wp2_with fail
  go_ret2;have e0:=HE.o;rw[LG au,LG (λh=>h H2.o)] at e0;exact zeh
 subst h0;have hpo:jy g=aU g:=by
  rcases HPC.o with h | h
  ·exact h.2
  ·exact absurd rfl h
 rw[hpo,aS] at HVP;rw[hpo,aS];clear hpo HPC;go_upto_region 10 with(fail)
 generalize hW2:G5 _ _=W2;obtain⟨rf,rq,hB2,hz2⟩:=gW hW2;clear hW2;obtain⟨fb,hfb⟩:=Gp w2.heap.size;rw[<-hfb] at rf rq hz2 HVP ⊢;obtain⟨xb,hxb⟩:=Gp (fb+1);rw[<-hxb] at rq ⊢;have q1:w.heap.size < fb:=by have:=rx.lt;omega
 have q2:fb < xb:=FI;have q3:xb < W2.heap.size:=rq.lt;replace HGO:=Ag (HGO.o.on (GL hB2 _));replace HVP:=Ag (HVP.o.on (GL hB2 _));replace rx:=rx.below hB2 rx.lt;replace hB:=hB.trans (hB2.mono hB.size);have HX:=Ag rx;have HF:=Ag rf;have HQ:=Ag rq;have HB:=Ag hB;clear hfb hxb hB2 hz2 x0 x1 x2 rx rf rq hB;go_wp2_with fail
 go_loopw [33] (λiv wr=>∃ (k:Nat) (V M:Nat->GN),k<=2/\iv = GV GU (k:Int)/\Row wr fb 68 (zq g (Gw A g.F7.length c) (Gw Ai g.F8.length ci) (Gw Ap g.F8.length cp) V M)/\(∀ p,p < k->DR wr W2.heap.size (V p) (M p) (aN g p))/\(∀ p,k<=p->V p = Gw none 0 0/\M p = .map none)/\Wrote (λx=>x=fb) W2 wr) (λiv _=>2 - (intOf iv).toNat)
 case atStart=>exact⟨0,λ_=>Gw none 0 0,λ_=>.map none,FI,rfl,HF.o,λp h=>by omega,λp _=>⟨rfl,rfl⟩,Ir _ _⟩
 case round =>
  clear HF;obtain⟨k,V,M,hk,rfl,hrow,hdone,hrest,hwr⟩:=hrel;obtain⟨wa,rfl⟩:=Gp wr;have HW:=Ag hwr;have HD:=Ag hdone;have HR:=Ag hrest;have HRW:=Ag hrow;have hxr:=HQ.o.wrote hwr FI;have hgr:=HX.o.wrote hwr FI;have q4:W2.heap.size<=wa.heap.size:=hwr.size;clear hdone hrest hwr hrow;by_cases hlt:k < 2
  case neg =>
   obtain rfl:k=2:=FI;have c0:=hxr.cell (i:=0) rfl;go_wp2_with fail
   clear c0;go_ret2;have e0:=HE.o;rw[LG au,LG (λh=>h H2.o)] at e0;refine⟨_,rfl,Ht HB.o HW.o (λb hb=>by omega) FI,_,by rw[e0]; rfl,λh=>absurd e0 h,λ_=>⟨fb,_,_,_,V,M,rfl,FI,HRW.o,AB.keep HGO.o (λ(b:Nat) (hb:Old F w.heap.size b) _=>hb.1) (HW.o.same (λ(b:Nat) (hb:Old F w.heap.size b) e=>by have:=hb.2; omega)),λp hp=>(HD.o p hp).mono FI,AA.keep HVP.o (λ(b:Nat) (hb:w.heap.size<=b/\b < fb) _=>hb.1) (HW.o.same (λ(b:Nat) (hb:w.heap.size<=b/\b < fb) e=>by omega))⟩⟩
  have k2:(k:Int) < 2:=FI;have hM0:=(HR.o k (Gy _)).1;go_upto_region 13 with(fail)
  generalize hW3:G5 _ _=W3;obtain⟨rp,hB3,hz3⟩:=aI hW3;clear hW3;obtain⟨pb,hpb⟩:=Gp wa.heap.size;have q5:W2.heap.size<=pb:=FI;have hrow:=HRW.o.below hB3 HRW.o.lt;replace hxr:=hxr.below hB3 hxr.lt;replace hgr:=hgr.below hB3 hgr.lt;replace HW:=Ag (HW.o.trans (I9 hB3 _));have hBa:=GR W3.heap.size W3;rw[<-hpb] at rp ⊢;have q6:pb < W3.heap.size:=rp.lt;have HDa:=Ag (λp (hp:p < k)=>(HD.o p hp).below hB3);have HW3:=Ag (Ir (λb=>b=fb) W3);have q10:W3.heap.size<=W3.heap.size:=Gy _;clear hpb hB3 hz3;have x0:=hxr.cell (i:=0) rfl;have p0:=rp.cell (i:=0) rfl;refine aP (λw'=>w'.cell? ⟨xb,0,none⟩=some (.pointer (some ⟨fb,0,none⟩))/\w'.cell? ⟨pb,0,none⟩=some (GV GU (k:Int))) 6 1 aj rfl aj ⟨x0,p0⟩ λhHeld=>?_
  refine Zo ?_;have hb:Below W3.heap.size W3 W3.drew:=aG (GR _ W3) 1;have hzd:W3.heap.size<=W3.drew.heap.size:=hb.size;generalize W3.drew=wn at *;refine tkm [0,1,3,4] ?_;refine tk2 2 aj rfl λK hK=>?_
  have hmm:=@run_makeMap GI;go_simp;clear hmm;obtain⟨W4,hW4⟩:=Gp (wn.alloc (.map #[] 0));have hm4:AP W4 wn.heap.size []:=by rw[hW4];exact aiM wn
  replace hb:=hb.trans (show Below W3.heap.size wn W4 by rw[hW4]; exact(GR _ _).alloc FI _);have hz4:wn.heap.size < W4.heap.size:=hm4.lt;rw[<-hW4];obtain⟨mp,hmp⟩:=Gp wn.heap.size;have q7:pb < mp:=FI;have q7b:W3.heap.size<=mp:=FI;rw[<-hmp] at hm4 hz4 ⊢;clear hW4 hHeld hmp hzd;replace x0:=ah x0 hb;replace p0:=ah p0 hb;refine hK.out _ _ ⟨x0,p0⟩ (λhHeld=>?_);clear hK K;refine Zb ?_;refine tkm [5] ?_;refine Z8 ?_;clear hHeld;replace hrow:=hrow.below hb hrow.lt;replace hxr:=hxr.below hb hxr.lt;replace hgr:=hgr.below hb hgr.lt;replace rp:=rp.below hb rp.lt;replace HW:=Ag (HW.o.trans (I9 hb _));replace HW3:=Ag (HW3.o.trans (I9 hb _));replace q10:=He q10 hb.size;have y0:=hrow.cell (uX (p:=k) hlt);have y1:=hrow.frozen (5+k);clear hb x0 p0;refine zdr ?_;go_wp2
  obtain⟨W5,hW5⟩:=Gp (W4.setCell ⟨fb,5+k,none⟩ (.map (some mp)));rw[<-hW5];have hM5:wH M k (.map (some mp)) k = .map (some mp):=uV _ _ _;have xu:Row W5 fb 68 (zq g (Gw A g.F7.length c) (Gw Ai g.F8.length ci) (Gw Ap g.F8.length cp) (wH V k (Gw none 0 0)) (wH M k (.map (some mp)))):=by
   have h:=ste hW5 hrow;rw[aiP hlt] at h;have e:wH V k (Gw none 0 0)=V:=by
    funext q
    by_cases e:q=k
    ·subst e;rw[uV,hM0]
    ·rw[rY _ _ e]
   rw[e];exact h
  have hw5:Wrote (λb=>b=fb) W4 W5:=hW5▸KL (K:=λb=>b=fb) (p:=⟨fb,5+k,none⟩) (Ir _ _) (.inl rfl) _;replace hxr:=hxr.wrote hw5 FI;replace hgr:=hgr.wrote hw5 FI;replace rp:=rp.wrote hw5 FI;have hm5:=hm4.wrote hw5 FI;replace HW:=Ag (HW.o.step hw5 (λ_ _ e=>e));replace HW3:=Ag (HW3.o.trans hw5);replace q10:=He q10 hw5.size;have q8:mp < W5.heap.size:=hm5.lt;have hst:BR g (Gw A g.F7.length c) (Gw Ai g.F8.length ci) (Gw Ap g.F8.length cp) V (wH M k (.map (some mp))) fb mp k W5.heap.size W5 [] W5:=⟨⟨_,xu,OwnSl.nil _ _ _ _ _⟩,hm5,Ir _ _⟩;have HST:=Ag hst;have HM5:=Ag hM5;have HX5:=Ag hxr;have HG5:=Ag hgr;have HP5:=Ag rp;clear hst hM5 xu hw5 hm5 hm4 hrow hW5 y0 y1 hM0 hz4 hxr hgr rp;unfold AY;refine Z4 ?_;have hcf:=λargs w=>enters' (f:=66) Tryz.func66 aj aj args w
  go_wp2_with fail
  refine(aaO W5).mono ?_;rintro e w6 ⟨_,rfl,hb,rfl⟩;have q9:=hb.size;have DT:=Ag (HST.o.below hb);have hx6:=HX5.o.below hb HX5.o.lt;have hp6:=HP5.o.below hb HP5.o.lt;clear hb HST;dsimp only;go_wp2_with fail
  refine(DT.o.add hx6 hp6 hlt HM5.o aA FI FI FI FI q9 FI FI (s:=(-1,-1)) aA).mono ?_;rintro e w7 ⟨rfl,hst,_⟩;have akN:BR g (Gw A g.F7.length c) (Gw Ai g.F8.length ci) (Gw Ap g.F8.length cp) V (wH M k (.map (some mp))) fb mp k W5.heap.size W5 (dS g (k:Int) 0) w7:=hst;have HST:=Ag akN;have x2:=(HG5.o.wrote akN.wr FI).cell (i:=2) rfl;clear hst akN DT hx6 hp6 q9 hcf;dsimp only;go_wp2_with fail
  clear x2;go_loopw [49] (λiv wr=>∃ i:Nat,i<=g.F8.length/\iv = GV GU (i:Int)/\BR g (Gw A g.F7.length c) (Gw Ai g.F8.length ci) (Gw Ap g.F8.length cp) V (wH M k (.map (some mp))) fb mp k W5.heap.size W5 (dS g (k:Int) i) wr) (λiv _=>g.F8.length - (intOf iv).toNat)
  case atStart=>exact⟨0,Hg _,rfl,HST.o⟩
  case round =>
   clear HST;obtain⟨i,hi,rfl,hst⟩:=hrel;obtain⟨wb,rfl⟩:=Gp wr;have HST:=Ag hst;clear hst;by_cases hil:i < g.F8.length
   case neg =>
    obtain rfl:i=g.F8.length:=FI;go_wp2_with fail
    go_roundw
    case rel =>
     obtain⟨v,h1,h2⟩:=HST.o.st;have hw3:=HW3.o.step HST.o.wr (λi hi e=>by omega);refine⟨k+1,_,_,FI,by go_num,h1,λp hp=>?_,λp hp=>?_,HW.o.step HST.o.wr (λi hi e=>by omega)⟩
     ·by_cases e:p=k
      ·subst e;rw[uV,uV];exact⟨h2.pairs (λb hb=>by omega),mp,rfl,FI,HST.o.map⟩
      ·rw[rY _ _ e,rY _ _ e];exact(HDa.o p FI).wrote hw3 (λb h3 h4 h5=>by omega)
     ·rw[rY _ _ FI,rY _ _ FI];exact HR.o p FI
    case measure=>exact zMs
   obtain⟨inf,bU⟩:=Gl hil;obtain⟨ib,io,rfl,_,hib,hcell⟩:=HI.o FI;have hBb:=Ht (Ht HB.o HW.o (λb hb=>by omega) FI) HST.o.wr (λb hb=>by omega) FI;have i0:=ah (hcell i inf bU).c0 hBb;have i1:=ah (hcell i inf bU).c1 hBb;have hg0:g.F8.getD i default=inf:=by rw[GH,bU];rfl
   obtain⟨ha1,ha2⟩:=qJ HFE.o.symm bU;have HGI:=Ag hg0;clear hcell bU hBb hg0;go_upto_region 19 with(fail)
   generalize hW6:G5 _ _=W6;obtain⟨ri,hb6,hz6⟩:=aI hW6;clear hW6 i0 i1;have q11:W5.heap.size<=wb.heap.size:=HST.o.wr.size;replace HST:=Ag (HST.o.below hb6);obtain⟨nb,hnb⟩:=Gp wb.heap.size;rw[<-hnb] at ri q11 ⊢;have q12:nb < W6.heap.size:=ri.lt;clear hnb hb6 hz6;have j1:=ri.cell (i:=1) rfl;go_wp2_with fail
   clear j1;obtain⟨pl,hpl⟩:=Gp inf.aH;obtain⟨ac,hac⟩:=Gp inf.actions;rw[<-hac] at ha1 ha2 ri ⊢;rw[<-hpl] at ri ⊢;have hacn:((ac.toNat:Nat):Int)=ac:=Int.toNat_of_nonneg FI;have HAC:=Ag hac;have HPL:=Ag hpl;have HRI:=Ag ri;clear hac hpl ri;go_loopw [56] (λiv wr=>∃ a:Nat,(a:Int)<=ac/\iv = GV GU (a:Int)/\Row wr nb 83 [GV GU pl,GV GU ac]/\BR g (Gw A g.F7.length c) (Gw (some ⟨ib,io,none⟩) g.F8.length ci) (Gw Ap g.F8.length cp) V (wH M k (.map (some mp))) fb mp k W5.heap.size W5 (dS g (k:Int) i++if pl=(k:Int) then (Ig a).map λa:Nat=>((i:Int),(a:Int)) else []) wr) (λiv _=>ac.toNat - (intOf iv).toNat)
   case atStart=>exact⟨0,FI,rfl,HRI.o,by simpa using HST.o⟩
   case round =>
    clear HST HRI;obtain⟨a,ha,rfl,hri,hst⟩:=hrel;obtain⟨wc,rfl⟩:=Gp wr;have HST:=Ag hst;have HRI:=Ag hri;clear hst hri;by_cases hal:(a:Int) < ac
    case neg =>
     have hae:(a:Int)=ac:=FI;have t0:decide ((a:Int) < ac)=false:=by simp[hal]
     clear hal;go_wp2_with fail
     go_roundw
     case rel =>
      refine⟨i+1,FI,by go_num,?_⟩;have h:=HST.o;have e:(if pl=(k:Int) then (Ig a).map λa:Nat=>((i:Int),(a:Int)) else [])=vU g (k:Int) i:=by
       unfold vU;rw[HGI.o,<-HPL.o,<-HAC.o];rw[show ac.toNat=a by omega]
      rw[e] at h;exact h
     case measure=>exact zMs
    have c0:=HRI.o.cell (i:=0) rfl;have d0:=(HP5.o.wrote HST.o.wr FI).cell (i:=0) rfl;by_cases hpk:pl=(k:Int)
    case neg =>
     have t1:(pl==(k:Int))=false:=by simp[hpk]
     have HPK:=Ag hpk;clear hpk;go_wp2_with fail
     go_roundw
     case rel =>
      refine⟨a+1,FI,by go_num,HRI.o,?_⟩;have h:=HST.o;rw[LG HPK.o] at h ⊢;exact h
     case measure=>exact zMs
    have t1:(pl==(k:Int))=true:=by simp[hpk]
    have HPK:=Ag hpk;clear hpk;have hcf:=λargs w=>enters' (f:=66) Tryz.func66 aj aj args w
    go_wp2_with fail
    have hst:=HST.o;rw[LH HPK.o] at hst;have hlen:(dS g (k:Int) i++(Ig a).map λa:Nat=>((i:Int),(a:Int))).length<=1000:=by
     have h1:=dL (g:=g) (p:=(k:Int)) (λi hi=>by
      obtain⟨j,hj⟩:=H9 hi;exact(qJ HFE.o.symm hj).2) i FI
     rw[G9,Gz,Je];have:=HSM.o.F8;omega
    refine(hst.add (HX5.o.wrote hst.wr FI) (HP5.o.wrote hst.wr FI) hlt HM5.o hlen FI FI FI FI hst.wr.size FI FI (s:=((i:Int),(a:Int))) (aiJ (by rw[HGI.o,<-HPL.o,HPK.o]))).mono ?_;rintro e w7 ⟨rfl,hst,hkeep⟩;have hri:=hkeep nb _ _ FI au HRI.o;have akN:BR g (Gw A g.F7.length c) (Gw (some ⟨ib,io,none⟩) g.F8.length ci) (Gw Ap g.F8.length cp) V (wH M k (.map (some mp))) fb mp k W5.heap.size W5 (dS g (k:Int) i++if pl=(k:Int) then (Ig (a+1)).map λa:Nat=>((i:Int),(a:Int)) else []) w7:=by
     rw[LH HPK.o,JJ,Hf,<-IU];exact hst
    have HST7:=Ag akN;have HRI7:=Ag hri;clear hst akN hkeep hri c0 d0 HST HRI hlen t1;dsimp only;go_wp2_with fail
    go_roundw
    case rel=>exact⟨a+1,FI,by go_num,HRI7.o,HST7.o⟩
    case measure=>exact zMs
theorem BZ.mono {w:GK} {g:Gm} {vn vi vp:GN} {V M:Nat->GN} (h:BZ w B F g fb vn vi vp V M) (hB:B'<=B):BZ w B' F g fb vn vi vp V M :=
 ⟨h.row,h.game,λp hp=>(h.ad4 p hp).mono hB,h.par.keep (λb hb _=>He hB hb) (GZ _ _)⟩
theorem CG.mono {w W w':GK} {g:Gm} {u:GN} (h:CG W w' F g e u) (hB:w.heap.size<=W.heap.size):CG w w' F g e u:=by
 refine⟨h.1,λhe=>?_⟩;obtain⟨fb,vn,vi,vp,V,M,h1,h2,h3⟩:=h.2 he;exact⟨fb,vn,vi,vp,V,M,h1,FI,h3.mono hB⟩
theorem ahc (w:GK) (F:Gq) (u:GN) (g:Gm) (pl:Int) (hg:AB w F u g) (hsm:Small g) :
  Calls GI 22 #[u,GV GU pl] w (Ret w λv w'=>∃ u',v = .tuple #[u',GV GU (seatE g pl)]/\CG w w' F g (seatE g pl) u'):=by
 have HG:=Ag hg;have HSM:=Ag hsm;obtain⟨vn,vi,rfl,⟨A,c,rfl,hc,_⟩,⟨Ai,ci,rfl,hci,_⟩⟩:=hg;have HE:=Ag (show seatE g pl=if fQ g≠0 then fQ g else if pl < 0\/1 < pl then 2 else 0 from rfl);obtain⟨oe,hoe⟩:=Gp (seatE g pl);rw[<-hoe] at HE ⊢;clear hsm hoe;go_in;go_wp2_with fail
 generalize hW:G5 _ _=W;obtain⟨rx,hB,hz⟩:=aI hW;refine zaG ?_;clear HG;intro HG x0 x1 x2;clear hW hz;go_wp2_with fail
 clear x0 x1 x2 rx;refine(ahb W F _ g HG.o HSM.o).mono ?_;rintro e w1 ⟨_,rfl,hb,u',rfl,hu⟩;have hu:=hu.mono hB.size;refine ZM ?_;clear hB;intro hB;have HU:=Ag hu;have HB:=Ag hB;obtain⟨a,rfl⟩:=hu.ptr;obtain⟨fe,hfe⟩:=Gp (fQ g);rw[<-hfe] at HE HU ⊢;clear hb hfe hu hB;dsimp only;by_cases h0:fe=0
 case neg =>
  refine zaq ?_;intro t0 H0;clear h0;go_wp2_with fail
  go_ret2;refine zdL ?_;intro e0;exact⟨_,rfl,HB.o,_,by rw[e0]; rfl,λ_=>rfl,λh=>absurd (e0.symm.trans h) H0.o⟩
 subst h0;by_cases h2:pl < 0\/1 < pl
 ·have H2:=Ag h2;by_cases h3:pl < 0
  ·have d0:decide (pl < 0)=true:=LK h3;clear h2 h3;go_wp2_with fail
   go_ret2;exact zct
  ·have d0:decide (pl < 0)=false:=LJ h3;have d1:decide (1 < pl)=true:=LK FI;clear h2 h3;go_wp2_with fail
   go_ret2;exact zct
 ·have d0:decide (pl < 0)=false:=LJ FI;have d1:decide (1 < pl)=false:=LJ FI;have H2:=Ag h2;clear h2;go_wp2_with fail
  go_ret2;have e0:=HE.o;rw[LG au,LG H2.o] at e0;refine⟨_,rfl,HB.o,_,by rw[e0]; rfl,?_⟩;rw[e0];exact HU.o
def vW (g:Gm) (m:List (List Rat)) (p:Int):List Rat:=(aN g p).map (eH (cO (aU g) m))
def kY (g:Gm) (mr:List (List Raw)) (pl:Int):Int:=if seatE g pl≠0 then seatE g pl else iw g mr
def gX (g:Gm) (mr:List (List Raw)) (pl:Int):List Raw:=if kY g mr pl≠0 then [] else (vW g (mr.map (Iq gK)) pl).map ak
theorem abq (P:List (List Rat)):eH P (-1,-1)=1:=by grind [eH]
theorem akO {up:List (Int×Int)} (h:Dh up m) (hi:i < m.length) (a:Nat):eH (cO up m) ((i:Int),(a:Int))=eH (cO up m) (up.getD i (-1,-1))*(m.getD i []).getD a 0:=by
 obtain⟨t,ht⟩:=Gl (l:=up) (k:=i) (by rw[h.len]; omega);have htd:up.getD i (-1,-1)=t:=by rw[GH,ht];rfl
 have ho:=h.ok _ _ ht;have h0:¬ (((i:Int),(a:Int)):Int×Int).1 < 0:=by simp only[];omega
 have h1:eH (cO up m) ((i:Int),(a:Int))=((cO up m).getD i []).getD a 0:=by grind [eH]
 grind [cO,kL,ada]
theorem aeF {g:Gm} {p:Int} {k:Nat}:∀ {n:Nat},k<=n->∃ r,dS g p n=dS g p k++r
  | 0,h=>by obtain rfl:k=0:=FI;exact⟨[],aA⟩
  | n+1,h=>by
    by_cases e:k=n+1
    · subst e; exact⟨[],aA⟩
    · obtain⟨r,hr⟩:=aeF (g:=g) (p:=p) (k:=k) (n:=n) FI;exact⟨r++vU g p n,by rw[dS,hr,IU]⟩
theorem anL {l m:List (Int×Int)} {s:Int×Int} (h:s ∉ l):l.length<=iP (l++m) s:=by grind [iP]
theorem ado {g:Gm} (hf:aQ g=0) (hi:i < g.F8.length) (a:Nat):iP (aN g (g.F8.getD i default).aH) ((aU g).getD i (-1,-1)) < iP (aN g (g.F8.getD i default).aH) ((i:Int),(a:Int)):=by
 obtain⟨p,hp⟩:=Gp ((g.F8.getD i default).aH);have hm:=mG hf hi;rw[<-hp] at hm ⊢;obtain⟨s,hs⟩:=Gl (l:=aU g) (k:=i) (by rw[aS]; exact hi);have hsd:(aU g).getD i (-1,-1)=s:=by rw[GH,hs];rfl
 rw[hsd] at hm ⊢;have hin:s∈dS g p i:=by
   rcases jg.1 hm with h | ⟨j,h1,h2⟩
   ·grind [jg]
   ·have hj:=(pR.1 h2).2.1;rcases (zS hf).ok i s hs with h3 | ⟨h3,h4,_⟩
    all_goals grind [jg]
 have hnot:(((i:Int),(a:Int)):Int×Int) ∉ dS g p i:=by grind [jg,pR]
 obtain⟨r,hr⟩:=aeF (g:=g) (p:=p) (k:=i) (n:=g.F8.length) FI;unfold aN;rw[hr,amo hin];exact Hz (lQ hin) (anL hnot)
theorem adp {g:Gm} {s:Int×Int} (h:(aN g p)[k]? = some s):iP (aN g p) s=k:=ajt (vV g p _) h
theorem adq {g:Gm} {s:Int×Int} (h:(aN g p)[k]? = some s):(vW g m p)[k]? = some (eH (cO (aU g) m) s):=by grind [vW]
theorem adr (g:Gm) (m:List (List Rat)) (p:Int):(vW g m p).length=(aN g p).length:=by grind [vW]
theorem aiQ {g:Gm} (hf:aQ g=0) (hft:Dh (aU g) m) (hm:∀ l∈m,∀ x∈l,rl x<=4):∀ x∈vW g m p,rl x<=1+4*m.length:=by
 intro x hx;obtain⟨s,hs,rfl⟩:=List.mem_map.1 hx;refine ag5 hft hm m.length (Gy _) s ?_;have hlen:=hft.len;grind [aS,oO]
theorem aeG {g:Gm} (h:iw g (m.map (Iq ak))=0) (hL:BQ (m.map (Iq ak))):BH g m:=by
 obtain⟨hlen,hrows⟩:=vP (tC h);rw[Gz,Gz] at hlen;obtain⟨m',hm,_,hpos⟩:=abl h hL;have hmm:m=m':=by grind [yI]
 subst hmm;refine⟨hlen,λk i l hi hl=>?_⟩;have hr:=yE (hrows k i.actions (l.map ak) (by rw[GY,hi]; rfl) (by rw[GY,hl]; rfl));have hml:=Gx hl;obtain⟨hs,hp⟩:=hpos l hml;refine⟨by have:=hr.1; rwa [Gz] at this,hs,λx hx=>⟨xQ hL l hml x hx,?_,?_⟩⟩
 ·have:=hp x hx;unfold dh at this;rcases Int.lt_or_le x.num 0 with h1 | h1
  ·grind
  ·exact Rat.num_nonneg.1 h1
 ·have h2:=yw hr.2.1 (fD (ak x)) (IL (IL hx));unfold fD at h2;split at h2
  ·grind
  ·split at h2
   ·cases h2
   ·rename_i h3
    have h4:¬ 0 < iR x 1:=λh=>h3 (.inr (by rw[uJ]; exact h))
    rcases (Rat.le_total:x<=1\/1<=x) with h5 | h5
    ·exact h5
    ·by_cases e:x=1
     ·grind
     ·exact absurd ((aah x 1).2 (Rat.lt_of_le_of_ne h5 (Ne.symm e))) h4
def xU (g:Gm) (P:List (List Rat)) (p:Int) (k:Nat):List Rat:=(dS g p k).map (eH P)
theorem akP (g:Gm) (m:List (List Rat)) (p:Int):xU g (cO (aU g) m) p g.F8.length=vW g m p:=rfl
theorem aiR (g:Gm) (P:List (List Rat)) (p:Int):xU g P p 0 = [1]:=by
 show[eH P (-1,-1)]=_;rw[abq]
theorem aeH (l:List Rat) (n:Nat) (h:l.length=n):(Ig n).map (λa=>l.getD a 0)=l:=by
 refine IW λj=>?_
 grind
theorem akQ {g:Gm} {inf:Inf} {row:List Rat} (hi:g.F8[k]? = some inf) (hp:inf.aH=p) (hr:P[k]? = some row) (hl:(row.length:Int)=inf.actions):xU g P p (k+1)=xU g P p k++row:=by
 unfold xU;rw[dS,Hf];congr 1;unfold vU;rw[GH,hi,Jt,LH hp,List.map_map];have e:(eH P ∘ λa:Nat=>((k:Int),(a:Int)))=λa=>row.getD a 0:=by grind [eH]
 grind [aeH]
theorem ahd {g:Gm} {inf:Inf} (hi:g.F8[k]? = some inf) (hp:inf.aH≠p):xU g P p (k+1)=xU g P p k:=by grind [xU,dS,vU]
theorem akR {g:Gm} (hf:aQ g=0) (hk:k<=g.F8.length):(xU g P p k).length<=1+10*k:=by grind [xU,dL,dJ]
theorem OwnSl.lit {K:Knd α} (w:GK) (base:Nat) (et:TypeId) (F:Gq) (q:α) (c:Array GN) (hc:c=(K.cells q).toArray) (hb:base<=w.heap.size) (hq:K.fine w (λb=>F b/\b < w.heap.size) q):OwnSl K (w.alloc (.cells c et)) base et F (Gw (some ⟨w.heap.size,0,none⟩) 1 1) [q]:=by
 subst hc;have h:=World.ownsRow_lit (e:=et) (size:=K.n) (base:=base) w (K.cells q).toArray 1 hb (by unfold maxLen; omega) (by rw[Nat.one_mul]; simpa using K.len q);refine⟨by simpa using h,λp hp=>?_⟩;rw[List.mem_singleton.1 hp];exact K.keep hq (λb hb _=>⟨hb.1,λe=>by
  have e:some w.heap.size=some b:=e;injection e with e
  have:=hb.2;omega⟩) (GL ((GR w.heap.size w).alloc (Gy _) _) _)
def rZ (r:Raw):Int:=if dF r≠0 then dF r else if r.neg=true then 2 else 0
def gG (l:List Raw):Int:=fZ (l.map rZ)
theorem anM (h:rZ r=0):∃ x:Rat,r=ak x/\dh x=false:=by grind [rZ,dF,yu,ak]
theorem su:∀ {l:List Raw},gG l=0->∃ xs:List Rat,l=xs.map ak/\∀ x∈xs,dh x=false
  | [],_=>⟨[],rfl,λ_ h=>by cases h⟩
  | r :: l,h=>by
    unfold gG at h;rw[Ju] at h;unfold fZ at h;by_cases hy:rZ r≠0
    · rw[LH hy] at h; exact absurd h hy
    · rw[LG hy] at h;obtain⟨x,hx,hn⟩:=anM (Decidable.not_not.1 hy);obtain⟨xs,hxs,hns⟩:=su (l:=l) h;refine⟨x :: xs,by rw[Ju,<-hx,<-hxs],λy hy=>?_⟩;rcases List.mem_cons.1 hy with rfl | hy
      · exact hn
      · exact hns y hy
def abr (g:Gm) (p:Int) (i:Nat):Nat:=iP (aN g p) ((aU g).getD i (-1,-1))
def nV (g:Gm) (p:Int) (x:List Rat) (i a:Nat):Rat:=nZ a λa=>x.getD (iP (aN g p) ((i:Int),(a:Int))) 0
def afJ (g:Gm) (p:Int) (x:List Rat) (i:Nat):Bool:=decide ((g.F8.getD i default).aH≠p)||decide (nV g p x i (g.F8.getD i default).actions.toNat=x.getD (abr g p i) 0)
def lI (g:Gm) (p:Int) (x:List Rat):Nat->Bool
  | 0=>decide (x.getD 0 0=1)
  | k+1=>lI g p x k&&afJ g p x k
def pV (g:Gm) (p:Int) (x:List Rat):Bool:=lI g p x g.F8.length
theorem ads {g:Gm} {p:Int} {x:List Rat} {k:Nat}:∀ {n:Nat},k<=n->lI g p x n=true->lI g p x k=true
  | 0,h,h1=>by obtain rfl:k=0:=FI;exact h1
  | n+1,h,h1=>by
    by_cases e:k=n+1
    · subst e; exact h1
    · rw[lI,Bool.and_eq_true] at h1;exact ads (n:=n) FI h1.1
theorem anN {g:Gm} (h:pV g p x=true) (hi:i < g.F8.length) (hp:(g.F8.getD i default).aH=p):nV g p x i (g.F8.getD i default).actions.toNat=x.getD (abr g p i) 0:=by
 have h1:=ads (k:=i+1) FI h;grind [lI,afJ]
theorem akS {g:Gm} (h:pV g p x=true):x.getD 0 0=1:=by
 have h1:=ads (k:=0) FI h;grind [lI]
theorem xW {g:Gm} {p:Int} {x:List Rat} {k:Nat}:∀ {n:Nat},k<=n->lI g p x k=false->lI g p x n=false
  | 0,h,h1=>by obtain rfl:k=0:=FI;exact h1
  | n+1,h,h1=>by
    by_cases e:k=n+1
    · subst e; exact h1
    · rw[lI,xW (n:=n) FI h1]; rfl
def jV (g:Gm) (p:Int) (i:Nat):Nat->List Rat
  | 0=>(GX (aN g p).length (0:Rat)).set (abr g p i) (-1)
  | a+1=>(jV g p i a).set (iP (aN g p) ((i:Int),(a:Int))) 1
def amv (g:Gm) (p:Int) (i:Nat):List Rat:=jV g p i (g.F8.getD i default).actions.toNat
def row0 (g:Gm) (p:Int):List Rat:=(GX (aN g p).length (0:Rat)).set 0 1
def jW (g:Gm) (p:Int):Nat->List (List Rat×Rat)
  | 0=>[(row0 g p,1)]
  | k+1=>if (g.F8.getD k default).aH=p then jW g p k ++ [(amv g p k,0)] else jW g p k
theorem yL (g:Gm) (p:Int) (i:Nat):∀ a,(jV g p i a).length=(aN g p).length
  | 0=>by rw[jV,Hy,Io]
  | a+1=>by rw[jV,Hy,yL g p i a]
theorem abt {g:Gm} {p:Int}:∀ k,∀ e∈jW g p k,e.1.length=(aN g p).length
  | 0,e,h=>by rw[List.mem_singleton.1 h]; show(row0 g p).length=_; unfold row0; rw[Hy,Io]
  | k+1,e,h=>by
    rw[jW] at h;split at h
    · rcases List.mem_append.1 h with h | h
      · exact abt k e h
      · rw[List.mem_singleton.1 h]; exact yL g p k _
    · exact abt k e h
theorem aeI (n:Nat) (x:List Rat) (k:Nat):iy (GX n (0:Rat)) x k=0:=by
 unfold iy;rw[fM (h:=λ_=>0) k λi _=>?_,oP];grind
theorem adt (v:Rat) (hk:k < l.length) (h0:l.getD k 0=0) (hn:k < n):iy (l.set k v) x n=iy l x n+v*x.getD k 0:=by
 unfold iy;have h:=uU (f:=λi=>l.getD i 0*x.getD i 0) (h:=λi=>(l.set k v).getD i 0*x.getD i 0) (v:=v*x.getD k 0) (k:=k) (λi hi=>by
   simp only[GH,G6 (Ne.symm hi)]) (by
   simp only[GH,Hq hk,Jt];rw[GH] at h0;rw[h0,Rat.zero_mul,Rat.zero_add]) n
 grind
theorem own_ne {g:Gm} {s:Int×Int} (hs:s∈aN g p) (h:s≠((i:Int),(a:Int))):iP (aN g p) s≠iP (aN g p) ((i:Int),(a:Int)):=by grind [adl,iP]
theorem adu {g:Gm} (hf:aQ g=0) {p:Int} {i:Nat} (hi:i < g.F8.length) (hp:(g.F8.getD i default).aH=p) (x:List Rat):∀ a:Nat,(a:Int)<=(g.F8.getD i default).actions->(∀ b:Nat,a<=b->(b:Int) < (g.F8.getD i default).actions->(jV g p i a).getD (iP (aN g p) ((i:Int),(b:Int))) 0=0)/\iy (jV g p i a) x (aN g p).length=nV g p x i a + -1*x.getD (abr g p i) 0
  | 0,_=>by
    have hm:=mG hf hi;rw[hp] at hm;refine⟨λb _ hb=>?_,?_⟩
    · have hbef:=ado hf hi b;rw[hp] at hbef;rw[jV,GH,G6 (by unfold abr; omega),I4];split <;> rfl
    · have hlt:abr g p i < (aN g p).length:=lQ hm;rw[jV,adt (-1) (by rw[Io]; exact hlt) (by
        rw[GH,I4];split <;> rfl) hlt,aeI]
      show 0+_=nZ 0 _+_;rw[yK]
  | a+1,ha=>by
    obtain⟨h1,h2⟩:=adu hf hi hp x a FI;have hm:=qK (a:=a) hi hp FI;refine⟨λb hb hb2=>?_,?_⟩
    · have hbm:=qK (a:=b) hi hp hb2;rw[jV,GH,G6 (own_ne hm (by
        intro e;have:=congrArg Prod.snd e;simp at this;omega)),<-GH]
      exact h1 b FI hb2
    · rw[jV,adt _ (by rw[yL]; exact lQ hm) (h1 a (Gy _) FI) (lQ hm),h2];unfold nV;rw[jA,Rat.one_mul,Rat.add_assoc,Rat.add_assoc,Rat.add_comm (-1*_)]
def eqB (x:List Rat) (e:List Rat×Rat):Bool:=decide (iy e.1 x e.1.length=e.2)
theorem afK {a b:Rat}:a + -1*b=0↔a=b:=by grind
theorem ajv {g:Gm} (hf:aQ g=0) (p:Int) (x:List Rat):∀ k,k<=g.F8.length->(jW g p k).all (eqB x)=lI g p x k
  | 0,_=>by
    rw[jW,List.all_cons,List.all_nil,Bool.and_true,lI];unfold eqB;have h0:0 < (aN g p).length:=Gn (iJ g p _);have e:iy (row0 g p) x (row0 g p).length=x.getD 0 0:=by
      unfold row0;rw[Hy,Io,adt _ (by rw[Io]; exact h0) (by
        rw[GH,I4];split <;> rfl) h0,aeI,Rat.one_mul,Rat.zero_add]
    simp only[e]
  | k+1,hk=>by
    have ih:=ajv hf p x k FI;rw[jW,lI];by_cases hp:(g.F8.getD k default).aH=p
    · rw[LH hp,List.all_append,ih,List.all_cons,List.all_nil,Bool.and_true];congr 1;unfold eqB afJ;obtain⟨inf,bU⟩:=Gl (l:=g.F8) (k:=k) FI;have ha:=qJ hf bU;have apf:g.F8.getD k default=inf:=by rw[GH,bU];rfl
      have h2:=(adu hf (i:=k) FI hp x (g.F8.getD k default).actions.toNat (by rw[apf]; omega)).2;have e:iy (amv g p k) x (amv g p k).length=nV g p x k (g.F8.getD k default).actions.toNat + -1*x.getD (abr g p k) 0:=by
        unfold amv;rw[yL];exact h2
      simp only[e,hp,ne_eq,not_true_eq_false,decide_false,Bool.false_or];exact decide_eq_decide.2 afK
    · rw[LG hp,ih];have e:afJ g p x k=true:=by unfold afJ;rw[LK hp];rfl
      rw[e,Bool.and_true]
def qh (g:Gm) (xr yr:List Raw):Int :=
  if xr.length≠(aN g 0).length\/yr.length≠(aN g 1).length then 3 else if gG xr≠0 then gG xr else if gG yr≠0 then gG yr else if pV g 0 (xr.map gK)=false then 14 else if pV g 1 (yr.map gK)=false then 14 else 0
theorem aeJ (w:GK):Calls GI 78 #[] w (Ret w λv _=>v = .agg #[GV GU (-1),GV GU (-1)]):=by
 go_in;go_wp2_with fail
 generalize hW:G5 _ _=W;obtain⟨rx,hB,hz⟩:=aI hW;have t0:=rx.cell (i:=0) rfl;have t1:=rx.cell (i:=1) rfl;clear hW;refine bodyPost_ret (v:=.agg #[GV GU (-1),GV GU (-1)]) (by simp[results,Tryz.results78,go_sem,t0,t1]) rfl ?_;exact⟨_,rfl,hB,rfl⟩
def yM (g:Gm):List (Int×Int):=if fQ g≠0 then [] else aU g
def afL (g:Gm) (pl:Int):List (Int×Int):=if seatE g pl≠0 then [] else aU g
theorem aeK (w:GK) (F:Gq) (u:GN) (g:Gm) (hg:AB w F u g) (hsm:Small g) :
  Calls GI 58 #[u] w (Ret w λv w'=>∃ vp,v = .tuple #[vp,GV GU (fQ g)]/\AA w' (λb=>w.heap.size<=b) vp (yM g)):=by
 have HG:=Ag hg;have HSM:=Ag hsm;obtain⟨vn,vi,rfl,⟨A,c,rfl,hc,_⟩,⟨Ai,ci,rfl,hci,_⟩⟩:=hg;have HE:=Ag (show fQ g=if aQ g≠0 then aQ g else if g.aC≠2 then 10 else lH g from rfl);have HO:=Ag (show yM g=if fQ g≠0 then [] else aU g from rfl);obtain⟨oe,hoe⟩:=Gp (fQ g);obtain⟨oo,hoo⟩:=Gp (yM g);rw[<-hoe] at HE HO ⊢;rw[<-hoo] at HO ⊢;clear hsm hoe hoo;go_in;go_wp2_with fail
 generalize hW:G5 _ _=W;obtain⟨rx,hB,hz⟩:=aI hW;refine zaG ?_;clear HG;intro HG x0 x1 x2;clear hW hz;go_wp2_with fail
 clear x0 x1 x2;refine(aa3 W F _ g HG.o HSM.o).mono ?_;rintro e w1 ⟨_,rfl,hb,rfl⟩;refine zdg ?_;clear HG;intro HG;refine Ya ?_;clear rx hB;intro rx hB;refine Zd ?_;intro x0 x1 x2;obtain⟨fe,hfe⟩:=Gp (aQ g);rw[<-hfe] at HE ⊢;have HFE:=Ag hfe;clear hb hfe;dsimp only;by_cases h0:fe=0
 case neg =>
  refine zaq ?_;intro t0 H0;clear h0;go_wp2_with fail
  go_ret2;refine zdL ?_;intro e0;exact⟨_,rfl,hB,_,by rw[e0]; rfl,by rw[HO.o,LH (by rw[e0]; exact H0.o)]; exact AA.nil _ _⟩
 subst h0;by_cases h2:g.aC=2
 case neg =>
  have t0:(g.aC != 2)=true:=by simp[h2]
  have H2:=Ag h2;clear h2;go_wp2_with fail
  go_ret2;have e0:=HE.o;rw[LG au,LH H2.o] at e0;exact⟨_,rfl,hB,_,by rw[e0]; rfl,by rw[HO.o,LH (by rw[e0]; decide)]; exact AA.nil _ _⟩
 have t0:(g.aC != 2)=false:=by simp[h2]
 have H2:=Ag h2;clear h2;go_wp2_with fail
 clear t0 x0 x1 x2;refine(rV w1 F _ g HG.o HSM.o HFE.o.symm).mono ?_;rintro e w2 ⟨_,rfl,hb,vp,rfl,hvp⟩;have hB1:=hB.size;replace hB:=hB.trans (hb.mono hB.size);have HVP:=Ag (AA.keep (G:=λb=>w.heap.size<=b) hvp (λb h hl=>by omega) (GZ _ _));have HB:=Ag hB;obtain⟨Ap,cp,rfl⟩:=hvp.open;have HPC:=Ag (rU g);have HPO:=Ag (show jy g=if lH g=0 then aU g else [] by
  unfold jy lH;cases lN g g.aC.toNat <;> rfl)
 clear hb hvp hB hB1;dsimp only;go_wp2_with fail
 go_ret2;have e0:=HE.o;rw[LG au,LG (λh=>h H2.o)] at e0;refine⟨_,rfl,HB.o,_,by rw[e0]; rfl,?_⟩;rw[HO.o,e0];have h:=HVP.o;by_cases h1:lH g=0
 ·rw[LG (λh=>h h1)];have e1:=HPO.o;rw[LH h1] at e1;rw[e1] at h ⊢;exact h
 ·rw[LH h1];have e1:=HPO.o;rw[LG h1] at e1;rw[e1] at h ⊢;exact h
theorem aeL (w:GK) (F:Gq) (u:GN) (g:Gm) (pl:Int) (hg:AB w F u g) (hsm:Small g) :
  Calls GI 29 #[u,GV GU pl] w (Ret w λv w'=>∃ vp,v = .tuple #[vp,GV GU (seatE g pl)]/\AA w' (λb=>w.heap.size<=b) vp (afL g pl)):=by
 have HG:=Ag hg;have HSM:=Ag hsm;obtain⟨vn,vi,rfl,⟨A,c,rfl,hc,_⟩,⟨Ai,ci,rfl,hci,_⟩⟩:=hg;have HE:=Ag (show seatE g pl=if fQ g≠0 then fQ g else if pl < 0\/1 < pl then 2 else 0 from rfl);have HO:=Ag (show afL g pl=if seatE g pl≠0 then [] else aU g from rfl);obtain⟨oe,hoe⟩:=Gp (seatE g pl);obtain⟨oo,hoo⟩:=Gp (afL g pl);rw[<-hoe] at HE HO ⊢;rw[<-hoo] at HO ⊢;clear hsm hoe hoo;go_in;go_wp2_with fail
 generalize hW:G5 _ _=W;obtain⟨rx,hB,hz⟩:=aI hW;refine zaG ?_;clear HG;intro HG x0 x1 x2;clear hW hz;go_wp2_with fail
 clear x0 x1 x2 rx;refine(aeK W F _ g HG.o HSM.o).mono ?_;rintro e w1 ⟨_,rfl,hb,vp,rfl,hvp⟩;have hB1:=hB.size;refine ZM ?_;clear hB;intro hB;have HVP:=Ag (AA.keep (G:=λb=>w.heap.size<=b) hvp (λb h hl=>by omega) (GZ _ _));have HB:=Ag hB;obtain⟨Ap,cp,rfl⟩:=hvp.open;have HLO:=Ag (show yM g=if fQ g≠0 then [] else aU g from rfl);obtain⟨fe,hfe⟩:=Gp (fQ g);rw[<-hfe] at HE HLO ⊢;clear hb hfe hvp hB hB1;dsimp only;by_cases h0:fe=0
 case neg =>
  refine zaq ?_;intro t0 H0;clear h0;go_wp2_with fail
  go_ret2;refine zdL ?_;intro e0;exact⟨_,rfl,HB.o,_,by rw[e0]; rfl,by rw[HO.o,LH (by rw[e0]; exact H0.o)]; exact AA.nil _ _⟩
 subst h0;by_cases h2:pl < 0\/1 < pl
 ·have H2:=Ag h2;by_cases h3:pl < 0
  ·have d0:decide (pl < 0)=true:=LK h3;clear h2 h3;go_wp2_with fail
   go_ret2;exact zca
  ·have d0:decide (pl < 0)=false:=LJ h3;have d1:decide (1 < pl)=true:=LK FI;clear h2 h3;go_wp2_with fail
   go_ret2;exact zca
 ·have d0:decide (pl < 0)=false:=LJ FI;have d1:decide (1 < pl)=false:=LJ FI;have H2:=Ag h2;clear h2;go_wp2_with fail
  go_ret2;have e0:=HE.o;rw[LG au,LG H2.o] at e0;refine⟨_,rfl,HB.o,_,by rw[e0]; rfl,?_⟩;rw[HO.o,LG (by rw[e0]; decide)];have h:=HVP.o;have e1:=HLO.o;rw[LG au] at e1;rw[e1] at h ⊢;exact h
def qj (g:Gm) (p:Int) (i a:Nat):List (Int×Int):=dS g p i++(Ig a).map λa:Nat=>((i:Int),(a:Int))
theorem abY (g:Gm) (p:Int) (i:Nat):qj g p i 0=dS g p i:=by simp[qj]
theorem ahe (g:Gm) (p:Int) (i a:Nat):qj g p i (a+1)=qj g p i a ++ [((i:Int),(a:Int))]:=by grind [qj,JJ]
theorem aiS {g:Gm} {inf:Inf} (hi:g.F8[i]? = some inf) (hp:inf.aH=p) (ha:(a:Int)=inf.actions):qj g p i a=dS g p (i+1):=by grind [qj,dS,vU]
theorem afM {g:Gm} {inf:Inf} (hi:g.F8[i]? = some inf) (hp:inf.aH≠p):qj g p i 0=dS g p (i+1):=by grind [abY,dS,vU]
theorem aiT {l:List (Int×Int)} {s:Int×Int} (h:l[k]? = some s) (hn:∀ j,j < k->l[j]?≠some s):iP l s=k:=by
 have hm:=Gx h;have h1:=adl hm;rcases Nat.lt_trichotomy (iP l s) k with h2 | h2 | h2
 ·grind
 ·exact h2
 ·unfold iP at h2;have hk:=Gn h;have h3:=List.not_of_lt_findIdx (p:=(· == s)) (xs:=l) (i:=k) h2;grind
theorem oQ (w:GK) (F:Gq) (u:GN) (g:Gm) (p:Int) (hg:AB w F u g) (hsm:Small g) (hf:aQ g=0) :
  Calls GI 36 #[u,GV GU p] w (Ret w λv w'=>AA w' (λb=>w.heap.size<=b) v (aN g p)):=by
 have HSM:=Ag hsm;have HFO:=Ag hf;have hni:=hsm.F8;obtain⟨vn,vi,rfl,⟨A,c,rfl,hc,_⟩,⟨Ai,ci,rfl,hci,hI⟩⟩:=hg;have HI:=Ag hI;clear hsm hI hf;go_in;go_wp2_with fail
 generalize hW:G5 _ _=W;obtain⟨rx,hB,hz⟩:=aI hW;clear hW hz;refine(aeJ W).mono ?_;rintro e w1 ⟨_,rfl,hb,rfl⟩;have HRX:=Ag (rx.below hb rx.lt);have HB:=Ag (hB.trans (hb.mono hB.size));clear hb hB rx;dsimp only;go_upto_region 2 with(fail)
 have hown:=OwnSl.lit (K:=kH) w1 w1.heap.size 71 (λ_=>False) (-1,-1) #[GV GU (-1),GV GU (-1)] rfl (Gy _) trivial;obtain⟨W4,hW4⟩:=Gp (w1.alloc (.cells #[GV GU (-1),GV GU (-1)] 71));have hB4:Below w1.heap.size w1 W4:=hW4▸(GR w1.heap.size w1).alloc (Gy _) _;rw[<-hW4] at hown ⊢;have HOWN:=Ag hown;have HB4:=Ag hB4;obtain⟨o4,ho4⟩:=Gp ((Value.slice (some ⟨w1.heap.size,0,none⟩) 1 1));rw[<-ho4] at HOWN ⊢;clear hown hW4 hB4 ho4;go_wp2_with fail
 go_loopw [5,6] (λu iv wr=>∃ i:Nat,i<=g.F8.length/\iv = GV GU (i:Int)/\OwnSl kH wr w1.heap.size 71 (λ_=>False) u (dS g p i)/\Below w1.heap.size w1 wr) (λ_ iv _=>g.F8.length - (intOf iv).toNat)
 case atStart=>exact⟨0,Hg _,rfl,HOWN.o,HB4.o⟩
 case round =>
  clear HOWN HB4;obtain⟨i,hi,rfl,hown,hbel⟩:=hrel;obtain⟨wa,rfl⟩:=Gp wr;have HOWN:=Ag hown;have x2:=(HRX.o.below hbel HRX.o.lt).cell (i:=2) rfl;have hkz:=hbel.size;clear hown;by_cases hlt:i < g.F8.length
  case neg =>
   obtain rfl:i=g.F8.length:=FI;go_wp2_with fail
   go_ret;exact⟨_,rfl,HB.o.trans (hbel.mono HB.o.size),HOWN.o.pairs (λb hb=>by have:=HB.o.size; omega)⟩
  go_wp2_with fail
  obtain⟨inf,bU⟩:=Gl hlt;obtain⟨ib,io,rfl,_,hib,hcell⟩:=HI.o FI;have HCE:=Ag (hcell i inf bU);obtain⟨ha1,ha2⟩:=qJ HFO.o bU;have Df:=Ag bU;have HBA:=Ag hbel;clear hcell bU x2 hbel;go_loopw [5,7] (λu av wr=>∃ a:Nat,(a:Int)<=inf.actions/\(inf.aH≠p->a=0)/\av = GV GU (a:Int)/\OwnSl kH wr w1.heap.size 71 (λ_=>False) u (qj g p i a)/\Below w1.heap.size w1 wr) (λ_ av _=>inf.actions.toNat - (intOf av).toNat)
  case atStart=>exact⟨0,FI,λ_=>rfl,rfl,by rw[abY]; exact HOWN.o,HBA.o⟩
  case round =>
   clear HOWN HBA;obtain⟨a,ha,hne,rfl,hown,hbel⟩:=hrel;obtain⟨wb,rfl⟩:=Gp wr;have HOWN:=Ag hown;have HNE:=Ag hne;have x2:=(HRX.o.below hbel HRX.o.lt).cell (i:=2) rfl;have hbb:=HB.o.trans (hbel.mono HB.o.size);have i0:=ah HCE.o.c0 hbb;have i1:=ah HCE.o.c1 hbb;have hbz:=hbel.size;obtain⟨pl,hpl⟩:=Gp inf.aH;obtain⟨ac,hac⟩:=Gp inf.actions;rw[<-hpl] at i0;rw[<-hac] at i1;have HPL:=Ag hpl;have HAC:=Ag hac;have haa:(a:Int)<=ac:=FI;have haa1:1<=ac/\ac<=10:=FI;clear hown hbb hne hpl hac ha ha1 ha2;by_cases hpp:pl=p
   case neg =>
    have t0:(pl==p)=false:=by simp[hpp]
    have HPP:=Ag (show inf.aH≠p by rw[<-HPL.o]; exact hpp);have ha0:=HNE.o HPP.o;subst ha0;clear hpp;go_wp2_with fail
    go_roundw
    case rel=>exact⟨i+1,FI,by go_num,by rw[<-afM Df.o HPP.o]; exact HOWN.o,hbel⟩
    case measure=>exact zMs
   have t0:(pl==p)=true:=by simp[hpp]
   have HPP:=Ag (show inf.aH=p by rw[<-HPL.o]; exact hpp);clear hpp;by_cases hal:(a:Int) < ac
   case neg =>
    have t1:decide ((a:Int) < ac)=false:=by simp[hal]
    have hae:(a:Int)=ac:=FI;clear hal;go_wp2_with fail
    go_roundw
    case rel=>exact⟨i+1,FI,by go_num,by rw[<-aiS Df.o HPP.o (by rw[<-HAC.o]; exact hae)]; exact HOWN.o,hbel⟩
    case measure=>exact zMs
   have t1:decide ((a:Int) < ac)=true:=by simp[hal]
   have hlen:(qj g p i a).length<=2000:=by
    have h1:=dL (g:=g) (p:=p) (λi hi=>dJ HFO.o i hi) i FI;unfold qj;rw[G9,Gz,Je];omega
   go_wp2_with (at_builtin; refine jI (K:=kH) (F:=λ_=>False) (W:=wb) rfl _ _ 63 71 16 _ KC Tryz.infoSeq rfl au rfl w1.heap.size hbz u5 (qj g p i a) rfl ((i:Int),(a:Int)) _ rfl FI rfl HOWN.o trivial ?_; intro g' cap w' hown' nX hat' hlt')
   have HO9:=Ag hown';have hb9:=Ht hbel nX (λb hb=>(HOWN.o.row.lt b hb).1) hbz;clear hown' nX hat';go_wp2_with fail
   go_roundw
   case rel=>exact⟨a+1,by have:=HAC.o; omega,λh=>absurd HPP.o h,by go_num,by rw[ahe]; exact HO9.o,hb9⟩
   case measure=>have:=HAC.o; simp[intOf]; omega
theorem mM (w:GK) (F:Gq) (v:GN) (l:List (Int×Int)) (s:Int×Int) (hv:AA w F v l) (hs:s∈l) (hl:l.length<=1000000) :
  Calls GI 37 #[v,qg s] w (Ret w λu _=>u = GV GU (iP l s:Int)):=by
 have HV:=Ag hv;have HS:=Ag hs;obtain⟨A,c,rfl⟩:=hv.open;clear hv hs;unfold qg;go_in;go_wp2_with fail
 generalize hW:G5 _ _=W;obtain⟨rx,hB,hz⟩:=aI hW;have HRX:=Ag rx;have HB:=Ag hB;clear hW hz rx hB;go_loopw [5] (λiv wr=>∃ k:Nat,k<=l.length/\iv = GV GU (k:Int)/\(∀ j,j < k->l[j]?≠some s)/\Below W.heap.size W wr) (λiv _=>l.length - (intOf iv).toNat)
 case atStart=>exact⟨0,Hg _,rfl,λj h=>by omega,GR _ _⟩
 case round =>
  obtain⟨k,hk,rfl,hno,hbel⟩:=hrel;obtain⟨wa,rfl⟩:=Gp wr;have HNO:=Ag hno;clear hno;by_cases hlt:k < l.length
  case neg =>
   exfalso
   obtain⟨j,hj⟩:=H9 HS.o;exact HNO.o j (by have:=Gn hj; omega) hj
  obtain⟨t,ht⟩:=Gl hlt;have hbb:=HB.o.trans (hbel.mono HB.o.size);obtain⟨A1,c1,e,_,h⟩:=HV.o;obtain⟨sb,so,e2,hFs,hsl,hcell⟩:=h FI;simp only[Value.slice.injEq] at e;obtain⟨rfl,_,rfl⟩:=e;subst e2;obtain⟨y0,y1⟩:=hcell k t ht;replace y0:=ah y0 hbb;replace y1:=ah y1 hbb;have x0:=(HRX.o.below hbel HRX.o.lt).cell (i:=0) rfl;have x1:=(HRX.o.below hbel HRX.o.lt).cell (i:=1) rfl;obtain⟨tb,htb⟩:=Gp (((t.1==s.1)&&(t.2==s.2)));have heq:=λw=>rW w t.1 t.2 s.1 s.2
  simp only[<-htb] at heq;have HTB:=Ag htb;have HT:=Ag ht;clear htb ht hcell h hbb;cases tb
  case true =>
   go_wp2
   go_quiet (fail)
   go_wp2
   go_ret;refine⟨_,rfl,aG (HB.o.trans (hbel.mono HB.o.size)) _,?_⟩;have hts:t=s:=by
    exact zaj
   have h:=HT.o;rw[hts] at h;rw[aiT h HNO.o];rfl
  go_wp2
  go_quiet (fail)
  go_wp2
  go_roundw
  case rel =>
   refine⟨k+1,FI,by go_num,λj hj=>?_,aG hbel _⟩;by_cases e:j=k
   ·subst e;rw[HT.o];intro h;injection h with h
    have h1:=HTB.o;rw[h] at h1;simp at h1
   ·exact HNO.o j FI
  case measure=>exact zMs
theorem zV (w:GK) (n:Nat) (hn:n<=100000) :
  Calls GI 89 #[GV GU (n:Int)] w (Ret w λv w'=>∃ L:List RV,L.length=n/\(∀ q∈L,q.r=ak 0)/\OwnSl ratK w' w.heap.size 42 (λb=>w.heap.size<=b) v L):=by
 go_in;go_wp2_with fail
 go_loopw [3,4] (λu iv wr=>∃ (k:Nat) (L:List RV),k<=n/\iv = GV GU (k:Int)/\L.length=k/\(∀ q∈L,q.r=ak 0)/\OwnSl ratK wr w.heap.size 42 (λb=>w.heap.size<=b) u L/\Below w.heap.size w wr) (λ_ iv _=>n - (intOf iv).toNat)
 case atStart=>exact⟨0,[],Hg _,rfl,rfl,λq hq=>(by cases hq),OwnSl.nil _ _ _ _ _,GR _ _⟩
 case round =>
  obtain⟨k,L,hk,rfl,hlen,hz,hown,hbel⟩:=hrel;obtain⟨wa,rfl⟩:=Gp wr;have HO:=Ag hown;have HZ:=Ag hz;have HL:=Ag hlen;have hwz:=hbel.size;clear hown hz hlen;by_cases hlt:k < n
  case neg =>
   obtain rfl:k=n:=FI;go_wp2_with fail
   go_ret;exact⟨_,rfl,hbel,L,HL.o,HZ.o,HO.o⟩
  have hw1:=dZ wa 0 au au;obtain⟨zz,hzz⟩:∃ x:Rat,x=((0:Int):Rat):=⟨_,rfl⟩;rw[<-hzz] at hw1;have HZZ:=Ag hzz;clear hzz;go_wp2_with fail
  refine hw1.mono ?_;rintro e wb ⟨v1,rfl,hb,hv1⟩;obtain⟨A1,c1,B1,d1,rfl,bH⟩:=hv1.opened;obtain⟨q,hq⟩:∃ q:RV,q=⟨ak zz,Gw A1 (ak zz).num.length c1,Gw B1 (ak zz).den.length d1⟩:=⟨_,rfl⟩;rw[<-hq] at bH;have HF1:=Ag (show ratK.fine wb (Apart (λb=>w.heap.size<=b) u3) q from bH.keep (λb hb _=>⟨FI,λe=>by have:=(HO.o.row.lt b e).2; omega⟩) (GZ _ _));have HQ:=Ag (show q.r=ak 0 by rw[hq,HZZ.o]; rfl);have hcells:(#[G7 (ak zz).neg,Gw A1 (ak zz).num.length c1,Gw B1 (ak zz).den.length d1]:Array GN)=(ratK.cells q).toArray:=by rw[hq];rfl
  have HCC:=Ag hcells;replace HO:=Ag (HO.o.below hb);have fC:=hbel.trans (hb.mono hbel.size);have aaP:=fC.size;clear hv1 bH hq hcells hb hw1;dsimp only;go_wp2_with (at_builtin; refine jI (K:=ratK) (F:=λb=>w.heap.size<=b) (W:=wb) rfl _ _ 29 42 56 _ KR JR rfl au rfl w.heap.size aaP u3 L rfl q _ HCC.o (by have:=HL.o; omega) rfl HO.o HF1.o ?_; intro g' cap w' hown' nX hat' hlt')
  have HO9:=Ag hown';have hb9:=Ht fC nX (λb hb=>(HO.o.row.lt b hb).1) aaP;clear hown' nX hat';go_wp2_with fail
  go_roundw
  case rel=>exact⟨k+1,L ++ [q],FI,by go_num,by rw[G9,HL.o]; rfl,λp hp=>by
   rcases List.mem_append.1 hp with hp | hp
   ·exact HZ.o p hp
   ·rw[List.mem_singleton.1 hp]; exact HQ.o,HO9.o,hb9⟩
  case measure=>exact zMs
theorem Tryz.infoVec:(Tryz.prog.info? 29).map (λi=>(i.zero,i.size,i.bytes))=some (some (Gw none 0 0),rG.n,24):=aj
theorem OwnSl.ne {K:Knd α} {K':Knd β} {w:GK} {F':Gq} {v u:GN} {L:List α} {M:List β} (h:OwnSl K w B et F v L) (h':OwnSl K' w B' et' F' u M) (hne:et≠et'):∀ b,v.ownBlock=some b->u.ownBlock≠some b:=by
 intro b h1 h2;rcases h.row.2 with⟨e,_⟩ | ⟨g,cap,cur,e,_,hg,_⟩
 ·rw[e] at h1;cases h1
 ·rcases h'.row.2 with⟨e',_⟩ | ⟨g',cap',cur',e',_,hg',_⟩
  ·rw[e'] at h2;cases h2
  ·rw[e] at h1;rw[e'] at h2;have e1:some g=some b:=h1;have e2:some g'=some b:=h2;grind
structure Dp (g:Gm) (p:Int) (B k:Nat) (vr vb:GN) (w:GK):Prop where
 rows:∃ L:List (GN×List Raw),L.map Prod.snd=(jW g p k).map (λe=>e.1.map ak)/\OwnSl rG w B 29 (λb=>B<=b/\vb.ownBlock≠some b) vr L
 rhs:∃ L:List RV,L.map RV.r=(jW g p k).map (λe=>ak e.2)/\OwnSl ratK w B 42 (λb=>B<=b/\vr.ownBlock≠some b) vb L
theorem Dp.same {g:Gm} {k':Nat} {vr vb:GN} {w:GK} (h:Dp g p B k vr vb w) (he:jW g p k'=jW g p k):Dp g p B k' vr vb w:=by
 obtain⟨L,h1,h2⟩:=h.rows;obtain⟨M,h3,h4⟩:=h.rhs;exact⟨⟨L,by rw[he]; exact h1,h2⟩,M,by rw[he]; exact h3,h4⟩
theorem OwnSl.yN {w:GK} {v:GN} {L:List RV} (h:OwnSl ratK w base et F v L) (hk:k < L.length):∃ g cap,v = Gw (some ⟨g,0,none⟩) L.length cap/\base<=g/\g < w.heap.size/\(∃ q0:RV,L[k]? = some q0/\w.cell? ⟨g,k*3,none⟩=some (G7 q0.r.neg)/\w.cell? ⟨g,k*3+1,none⟩=some q0.vn/\w.cell? ⟨g,k*3+2,none⟩=some q0.vd)/\(∀ i,w.frozen? ⟨g,i,none⟩=false):=by
 obtain⟨g,cap,e,hb,hg⟩:=h.row.form FI;subst e;obtain⟨q0,hq0⟩:=Gl hk;refine⟨g,cap,rfl,hb,hg,⟨q0,hq0,?_⟩,λi=>h.fz i⟩;have hc:∀ j,j < 3->w.cell? ⟨g,k*3+j,none⟩=(L.flatMap RV.cells)[k*3+j]?:=λj hj=>J7 h.row (k*3+j) (by show k*3+j < L.length*3; omega)
 have hv:∀ j,j < 3->(L.flatMap RV.cells)[k*3+j]? = q0.cells[j]?:=λj hj=>lF (f:=RV.cells) (s:=3) (λ_=>rfl) L k j q0 hq0 hj
 exact⟨(hc 0 FI).trans (hv 0 FI),(hc 1 FI).trans (hv 1 FI),(hc 2 FI).trans (hv 2 FI)⟩
theorem OwnSl.other {K:Knd α} {K':Knd β} {w w':GK} {v v' u:GN} {L:List α} {M:List β} (h:OwnSl K w B et F v L) (h2:OwnSl K' w B et' (λb=>B<=b/\v.ownBlock≠some b) u M) (hne:et≠et') (hw:Wrote (λb=>v.ownBlock=some b) w w') (hg:v'.ownBlock=some g) (hat:v.ownBlock=some g\/w.heap.size<=g):OwnSl K' w' B et' (λb=>B<=b/\v'.ownBlock≠some b) u M:=by
 have h3:=h2.widen (G:=λb=>(B<=b/\v.ownBlock≠some b)/\b≠g) (λb hb hl=>⟨hb,λe=>by
  subst e;rcases hat with hat | hat
  ·exact hb.2 hat
  ·omega⟩)
 have h4:=h3.wrote hw (λb hb e=>by
  rcases hb with hb | hb
  ·exact hb.1.2 e
  ·exact h.ne h2 hne b e hb)
 grind [OwnSl.widen]
theorem tX (g:Gm) (p:Int):∀ k,(jW g p k).length<=1+k
 | 0=>by simp[jW]
 | k+1=>by
  have:=tX g p k;rw[jW];split
  ·rw[G9]; simp; omega
  ·omega
theorem aaQ {M:List RV} (h1:M.length=n) (h2:∀ q∈M,q.r=r):M.map RV.r=GX n r:=by grind [List.eq_replicate_iff,Gz]
theorem akT (w:GK) (F Fu:Gq) (vg vu:GN) (g:Gm) (p:Int) (hg:AB w F vg g) (hsm:Small g) (hf:aQ g=0) (hu:AA w Fu vu (aU g)) :
  Calls GI 120 #[vg,vu,GV GU p] w (Ret w λv w'=>∃ t b,v = .tuple #[t,b]/\Gt w' (λx=>w.heap.size<=x) t ((jW g p g.F8.length).map λe=>e.1.map ak)/\Gs w' (λx=>w.heap.size<=x) b ((jW g p g.F8.length).map λe=>ak e.2)):=by
 have HG:=Ag hg;have HSM:=Ag hsm;have HFO:=Ag hf;have hni:=hsm.F8;have hn1:(aN g p).length<=1001:=by
  have h1:=dL (g:=g) (p:=p) (λi hi=>dJ hf i hi) g.F8.length (Gy _);unfold aN;omega
 have hn0:0 < (aN g p).length:=Gn (iJ g p _);obtain⟨vn,vi,rfl,⟨A,c,rfl,hc,_⟩,⟨Ai,ci,rfl,hci,hI⟩⟩:=hg;have HI:=Ag hI;have HU:=Ag hu;obtain⟨Au,cu,rfl⟩:=hu.open;rw[aS] at HU ⊢;clear hsm hI hf hu;go_in;go_wp2_with fail
 generalize hW:G5 _ _=W;obtain⟨rx,hB,hz⟩:=aI hW;refine zaG ?_;clear HG;intro HG x0 x1 x2;clear hW hz;go_wp2_with fail
 clear x0 x1 x2;refine(oQ W F _ g p HG.o HSM.o HFO.o).mono ?_;rintro e w1 ⟨_,rfl,hb,hvl⟩;have HL:=Ag (AA.keep (G:=λb=>w.heap.size<=b/\b < w1.heap.size) hvl (λb h hl=>⟨by have:=hB.size; omega,hl⟩) (GZ _ _));obtain⟨Al,cl,rfl⟩:=hvl.open;obtain⟨n,hn⟩:=Gp ((aN g p).length);rw[<-hn] at HL hn0 hn1 ⊢;have HN:=Ag hn;have HRX:=Ag (rx.below hb rx.lt);have HB:=Ag (hB.trans (hb.mono hB.size));clear hb hB hn hvl rx;dsimp only;go_wp2_with fail
 refine(zV w1 n FI).mono ?_;rintro e w2 ⟨v2,rfl,hb2,M,hML,hM0,hMo⟩;have HM0:=Ag hM0;have HML:=Ag hML;obtain⟨g1,cap1,rfl,hg1,hg1l,_,_⟩:=hMo.yN (k:=0) (by rw[hML]; exact hn0);rw[hML] at hMo ⊢;have HMO:=Ag hMo;have HBC:=Ag hb2;clear hM0 hML hMo hb2;have hw1:=dZ w2 1 au au;refine zaQ ?_;clear hw1;intro one hw1 Bh;dsimp only;go_wp2_with fail
 refine hw1.mono ?_;rintro e w3 ⟨v1,rfl,hb,hv1⟩;obtain⟨A1,c1,B1,d1,rfl,bH⟩:=hv1.opened;replace HMO:=Ag (HMO.o.below hb);have hfq:ratK.fine w3 (Apart (λb=>w1.heap.size<=b) (Gw (some ⟨g1,0,none⟩) n cap1)) ⟨ak one,Gw A1 (ak one).num.length c1,Gw B1 (ak one).den.length d1⟩:=bH.keep (λb hb _=>⟨FI,λe=>by
  have e:some g1=some b:=e;injection e with e
  omega⟩) (GZ _ _)
 have hz32:=hb.size;replace HBC:=Ag (HBC.o.trans (hb.mono HBC.o.size));have hMO:=HMO.o;rw[<-HML.o] at hMO;obtain⟨_,_,e,_,_,⟨q0,hq0,c0,c1',c2⟩,hfz⟩:=hMO.yN (k:=0) (by rw[HML.o]; exact hn0);simp only[Value.slice.injEq,JD,Addr.mk.injEq,and_true,true_and] at e;obtain⟨rfl,rfl⟩:=e;have f0:=hfz 0;have f1:=hfz 1;have f2:=hfz 2;simp only[Jc,I5] at c0 c1' c2;obtain⟨W3,hW3,ho3,hw3⟩:=HMO.o.afu 0 _ hfq;simp only[Jc,I5] at hW3;have HO3:=Ag ho3;have HB3:=Ag (Ht HBC.o hw3 (λb hb=>by omega) HBC.o.size);have HW3:=Ag hW3;clear hv1 bH hb hw1 hMO hfz hfq hW3 ho3 hw3 HBC HMO hq0;dsimp only;go_upto_region 4 with(fail)
 rw[<-HW3.o];have hrow0:Gs W3 (λb=>w1.heap.size<=b/\b < W3.heap.size) (Gw (some ⟨g1,0,none⟩) n cap1) ((row0 g p).map ak):=by
  have h:=HO3.o.raws (G:=λb=>w1.heap.size<=b) (λb hb=>hb) (λb hb=>hb);have e:(M.set 0 ⟨ak one,Gw A1 (ak one).num.length c1,Gw B1 (ak one).den.length d1⟩).map RV.r=(row0 g p).map ak:=by
   unfold row0;rw[Jj,Jj,aaQ HML.o HM0.o,List.map_replicate,Bh.o,HN.o]
  rw[e] at h;exact IX h (λb hb hl=>⟨hb,hl⟩) (GZ _ _)
 have hlit:=OwnSl.lit (K:=rG) W3 w1.heap.size 29 (λb=>w1.heap.size<=b) (Gw (some ⟨g1,0,none⟩) n cap1,(row0 g p).map ak) #[Gw (some ⟨g1,0,none⟩) n cap1] rfl HB3.o.size hrow0;have ET:=Ag hlit;clear hrow0 hlit c0 c1' c2 f0 f1 f2;have hw1:=dZ (W3.alloc (.cells #[Gw (some ⟨g1,0,none⟩) n cap1] 29)) 1 au au;rw[show((1:Int):Rat)=one from Bh.o.symm] at hw1;go_wp2_with fail
 obtain⟨W4,hW4⟩:=Gp (W3.alloc (.cells #[Gw (some ⟨g1,0,none⟩) n cap1] 29));have hB4:Below w1.heap.size w1 W4:=hW4▸HB3.o.alloc HB3.o.size _;rw[<-hW4] at hw1 ⊢;have hlit:=ET.o;rw[<-hW4] at hlit;obtain⟨gr,hgr⟩:=Gp W3.heap.size;rw[<-hgr] at hlit ⊢;have hgr4:gr < W4.heap.size:=(hlit.row.lt gr rfl).2;have hB4w:=hB4.size;clear ET hW4 hgr;refine hw1.mono ?_;rintro e w5 ⟨v1,rfl,hb,hv1⟩;obtain⟨A2,c2,B2,d2,rfl,bH⟩:=hv1.opened;have hgr5:gr < w5.heap.size:=Hz hgr4 hb.size;have hrows:=(hlit.below hb).widen (G:=λb=>w1.heap.size<=b/\b≠w5.heap.size) (λb hb hl=>⟨hb,FI⟩);replace hB4:=hB4.trans (hb.mono hB4.size);have hB4z:=hB4.size;have hz54:=hb.size;have hlit2:=OwnSl.lit (K:=ratK) w5 w1.heap.size 42 (λb=>w1.heap.size<=b/\b≠gr) ⟨ak one,Gw A2 (ak one).num.length c2,Gw B2 (ak one).den.length d2⟩ #[G7 (ak one).neg,Gw A2 (ak one).num.length c2,Gw B2 (ak one).den.length d2] rfl hB4z (bH.keep (λb hb hl=>⟨⟨FI,FI⟩,hl⟩) (GZ _ _));have HR5:=Ag hrows;have ET:=Ag hlit2;have HB5:=Ag hB4;clear hv1 bH hb hw1 hrows hlit2 hB4 hlit;dsimp only;go_upto_region 5 with(fail)
 obtain⟨W6,hW6⟩:=Gp (w5.alloc (.cells #[G7 (ak one).neg,Gw A2 (ak one).num.length c2,Gw B2 (ak one).den.length d2] 42));have hb6:Below w5.heap.size w5 W6:=hW6▸(GR w5.heap.size w5).alloc (Gy _) _;have hlit2:=ET.o;rw[<-hW6] at hlit2 ⊢;have hst:Dp g p w1.heap.size 0 (Gw (some ⟨gr,0,none⟩) 1 1) (Gw (some ⟨w5.heap.size,0,none⟩) 1 1) W6:=by
  refine⟨⟨_,?_,(HR5.o.below hb6).widen (λb hb _=>⟨hb.1,λe=>?_⟩)⟩,_,?_,hlit2.widen (λb hb _=>⟨hb.1,λe=>?_⟩)⟩
  ·rfl
  ·have e:some w5.heap.size=some b:=e;injection e with e
   exact hb.2 e.symm
  ·show[ak one] = [ak 1];rw[Bh.o]
  ·have e:some gr=some b:=e;injection e with e
   exact hb.2 e.symm
 obtain⟨vr,hvr⟩:=Gp (Value.slice (some ⟨gr,0,none⟩) 1 1);obtain⟨vb,hvb⟩:=Gp (Value.slice (some ⟨w5.heap.size,0,none⟩) 1 1);rw[<-hvr,<-hvb] at hst ⊢;have HST:=Ag hst;have HB6:=Ag (HB5.o.trans (hb6.mono HB5.o.size));clear hlit2 hb6 hW6 hst hvr hvb ET HR5 HB5;go_wp2_with fail
 go_loopw [10,11,12] (λur ub iv wr=>∃ i:Nat,i<=g.F8.length/\iv = GV GU (i:Int)/\Dp g p w1.heap.size i ur ub wr/\Below w1.heap.size w1 wr) (λ_ _ iv _=>g.F8.length - (intOf iv).toNat)
 case atStart=>exact⟨0,Hg _,rfl,HST.o,HB6.o⟩
 case round =>
  clear HST HB6;obtain⟨i,hi,rfl,hst,hbel⟩:=hrel;obtain⟨wa,rfl⟩:=Gp wr;have HST:=Ag hst;have hkz:=hbel.size;have x2:=(HRX.o.below hbel HRX.o.lt).cell (i:=2) rfl;clear hst;by_cases hlt:i < g.F8.length
  case neg =>
   obtain rfl:i=g.F8.length:=FI;go_wp2_with fail
   go_ret2;obtain⟨Lr,e1,h1⟩:=HST.o.rows;obtain⟨Lb,e2,h2⟩:=HST.o.rhs;have hws:=HB.o.size;refine⟨_,rfl,HB.o.trans (hbel.mono hws),_,_,rfl,?_,?_⟩
   ·rw[<-e1];exact JK (h1.rows (G:=λb=>w1.heap.size<=b) (λb hb=>hb.1) (λb hb=>hb)) (λb hb _=>by omega) (GZ _ _)
   ·rw[<-e2];exact IX (h2.raws (G:=λb=>w1.heap.size<=b) (λb hb=>hb.1) (λb hb=>hb)) (λb hb _=>by omega) (GZ _ _)
  obtain⟨inf,bU⟩:=Gl hlt;have hg0:g.F8.getD i default=inf:=by rw[GH,bU];rfl
  obtain⟨ib,io,rfl,_,hib,hcell⟩:=HI.o FI;have hbb:=HB.o.trans (hbel.mono HB.o.size);have HCE:=Ag (hcell i inf bU);have i0:=ah HCE.o.c0 hbb;obtain⟨ha1,ha2⟩:=qJ HFO.o bU;obtain⟨pl,hpl⟩:=Gp inf.aH;rw[<-hpl] at i0;have Df:=Ag bU;have HG0:=Ag hg0;have HPL:=Ag hpl;have HBB:=Ag hbb;clear hcell bU hg0 hpl hbb;by_cases hpp:pl=p
  case neg =>
   have t0:(pl != p)=true:=by simp[hpp]
   have HPP:=Ag hpp;clear hpp;go_wp2_with fail
   go_roundw
   case rel=>exact⟨i+1,FI,by go_num,HST.o.same (by rw[jW,HG0.o,LG (by rw[<-HPL.o]; exact HPP.o)]),hbel⟩
   case measure=>exact zMs
  have t0:(pl != p)=false:=by simp[hpp]
  have HPP:=Ag (show(g.F8.getD i default).aH=p by rw[HG0.o,<-HPL.o]; exact hpp);clear hpp;go_wp2_with fail
  refine(zV wa n FI).mono ?_;rintro e wb ⟨v2,rfl,hb2,M,hML,hM0,hMo⟩;have hMr:M.map RV.r=(GX n (0:Rat)).map ak:=by rw[aaQ hML hM0,List.map_replicate]
  obtain⟨g2,cap2,rfl,hg2,hg2l,_,_⟩:=hMo.yN (k:=0) (by rw[hML]; exact hn0);rw[hML] at hMo ⊢;have HMO:=Ag hMo;have HMR:=Ag hMr;have HML:=Ag hML;have HBW:=Ag hb2;have hwb:=hb2.size;obtain⟨u,hu⟩:=Gl (l:=aU g) (k:=i) (by rw[aS]; exact hlt);have hud:(aU g).getD i (-1,-1)=u:=by rw[GH,hu];rfl
  have hum:u∈aN g p:=by
   have h:=mG HFO.o hlt;rw[hud,HPP.o] at h;exact h
  obtain⟨pb,po,rfl⟩:∃ pb po,Au=some ⟨pb,po,none⟩:=by
   obtain⟨A1,c1,e,_,h⟩:=HU.o;exact zam
  obtain⟨p0,p1⟩:=HU.o.at2 hu;replace p0:=ah (ah p0 HBB.o) hb2;replace p1:=ah (ah p1 HBB.o) hb2;obtain⟨pn,hpn⟩:=Gp (iP (aN g p) u);have aoG:pn < n:=by rw[hpn,HN.o];exact lQ hum
  have HPN:=Ag (show abr g p i=pn by unfold abr; rw[hud,hpn]);have HPE:=Ag hpn;have HUM:=Ag hum;have x2':=ah x2 hb2;have hix:=mM wb _ _ (aN g p) u (HL.o.on (GL (hbel.trans (hb2.mono hkz)) _)) hum (by rw[<-HN.o]; omega);rw[<-hpn] at hix;obtain⟨u1,u2⟩:=u;dsimp only at p0 p1;clear hMr hM0 hML hMo hud hu hpn x2 i0 hum hb2;dsimp only;go_wp2_with fail
  refine hix.mono ?_;rintro e wc ⟨_,rfl,hb,rfl⟩;replace HMO:=Ag (HMO.o.below hb);replace x2':=ah x2' hb;replace HBW:=Ag (HBW.o.trans (hb.mono HBW.o.size));have hwc:=hb.size;have hw1:=dZ wc (-1) au au;obtain⟨mo,hmo⟩:∃ x:Rat,x=((-1:Int):Rat):=⟨_,rfl⟩;rw[<-hmo] at hw1;have HMO1:=Ag (show mo = -1 by rw[hmo]; rfl);clear hmo hix hb p0 p1;dsimp only;go_wp2_with fail
  refine hw1.mono ?_;rintro e wd ⟨v1,rfl,hb,hv1⟩;obtain⟨A1',c1',B1',d1',rfl,bH⟩:=hv1.opened;replace HMO:=Ag (HMO.o.below hb);replace x2':=ah x2' hb;have hfq:ratK.fine wd (Apart (λb=>wa.heap.size<=b) (Gw (some ⟨g2,0,none⟩) n cap2)) ⟨ak mo,Gw A1' (ak mo).num.length c1',Gw B1' (ak mo).den.length d1'⟩:=bH.keep (λb hb _=>⟨FI,λe=>by
   have e:some g2=some b:=e;injection e with e
   omega⟩) (GZ _ _)
  have hwd:=hb.size;replace HBW:=Ag (HBW.o.trans (hb.mono HBW.o.size));have hMO:=HMO.o;rw[<-HML.o] at hMO;obtain⟨_,_,e,_,_,⟨q0,hq0,c0,aoH,aoI⟩,hfz⟩:=hMO.yN (k:=pn) (by rw[HML.o]; exact aoG);simp only[Value.slice.injEq,JD,Addr.mk.injEq,and_true,true_and] at e;obtain⟨rfl,rfl⟩:=e;have f0:=hfz (pn*3);have f1:=hfz (pn*3+1);have f2:=hfz (pn*3+2);obtain⟨W3,hW3,ho3,hw3⟩:=HMO.o.afu pn _ hfq;have HO3:=Ag ho3;have HB3:=Ag (Ht HBW.o hw3 (λb hb=>by omega) HBW.o.size);have HW3:=Ag hW3;have hL3:(M.set pn ⟨ak mo,Gw A1' (ak mo).num.length c1',Gw B1' (ak mo).den.length d1'⟩).map RV.r=(jV g p i 0).map ak:=by
   rw[jV,HPN.o,Jj,Jj,HMR.o,<-HN.o,HMO1.o]
  have HL3:=Ag hL3;have hl3:(M.set pn ⟨ak mo,Gw A1' (ak mo).num.length c1',Gw B1' (ak mo).den.length d1'⟩).length=n:=by rw[Hy,HML.o]
  have Ed:=Ag hl3;have x2w:=x2';clear hv1 bH hb hw1 hMO hfz hfq hW3 ho3 hq0 hL3 hl3 x2';dsimp only;go_upto_region 11 with(fail)
  rw[<-HW3.o];have HX2:=Ag (HRX.o.below (hbel.trans (HB3.o.mono hkz)) HRX.o.lt);have HL2:=Ag (HL.o.on (GL (hbel.trans (HB3.o.mono hkz)) _));obtain⟨N0,hN0,hN0l,hN0o⟩:∃ N:List RV,N.map RV.r=(jV g p i 0).map ak/\N.length=n/\OwnSl ratK W3 wa.heap.size 42 (λb=>wa.heap.size<=b) (Gw (some ⟨g2,0,none⟩) n cap2) N:=⟨_,HL3.o,Ed.o,HO3.o⟩;have HN0:=Ag hN0;have HN0L:=Ag hN0l;have HN0O:=Ag hN0o;clear hN0 hN0l hN0o HW3 c0 aoH aoI f0 f1 f2 x2w Ed HL3 HO3 hw3 HMO;have HBI:=Ag (GR W3.heap.size W3);have hw3z:=HB3.o.size;go_wp2_with fail
  go_loopw [14] (λav wr=>∃ (a:Nat) (N:List RV),(a:Int)<=inf.actions/\av = GV GU (a:Int)/\N.map RV.r=(jV g p i a).map ak/\N.length=n/\OwnSl ratK wr wa.heap.size 42 (λb=>wa.heap.size<=b) (Gw (some ⟨g2,0,none⟩) n cap2) N/\Below wa.heap.size W3 wr) (λav _=>inf.actions.toNat - (intOf av).toNat)
  case atStart=>exact⟨0,N0,FI,rfl,HN0.o,HN0L.o,HN0O.o,GR _ _⟩
  case round =>
   clear HN0 HN0L HN0O HBI;obtain⟨a,N,ha,rfl,hNm,hNl,hNo,hbr⟩:=hrel;obtain⟨we,rfl⟩:=Gp wr;have HNM:=Ag hNm;have HNL:=Ag hNl;have HNO:=Ag hNo;have ahf:=HB3.o.trans hbr;have hez:=ahf.size;have x2:=(HRX.o.below (hbel.trans (ahf.mono hkz)) HRX.o.lt).cell (i:=2) rfl;have i1:=ah HCE.o.c1 (HBB.o.trans (ahf.mono HBB.o.size));obtain⟨ac,hac⟩:=Gp inf.actions;rw[<-hac] at i1 ha;have HAC:=Ag hac;have hac1:1<=ac/\ac<=10:=FI;clear hNm hNl hNo hac;by_cases hal:(a:Int) < ac
   case neg =>
    have t1:decide ((a:Int) < ac)=false:=by simp[hal]
    have hae:(a:Int)=ac:=FI;have HAE:=Ag (show jW g p (i+1)=jW g p i ++ [(jV g p i a,0)] by
     rw[jW,LH HPP.o];unfold amv;rw[HG0.o,<-HAC.o,show ac.toNat=a by omega])
    have hrow:Gs we (λb=>wa.heap.size<=b) (Gw (some ⟨g2,0,none⟩) n cap2) ((jV g p i a).map ak):=by
     have h:=HNO.o.raws (G:=λb=>wa.heap.size<=b) (λb hb=>hb) (λb hb=>hb);rw[HNM.o] at h;exact h
    obtain⟨Lr,e1,h1⟩:=HST.o.rows;obtain⟨Lb,e2,h2⟩:=HST.o.rhs;have hlr:Lr.length<=1+i:=by
     have h:=congrArg JB e1;rw[Gz,Gz] at h;have:=tX g p i;omega
    have hlb:Lb.length<=1+i:=by
     have h:=congrArg JB e2;rw[Gz,Gz] at h;have:=tX g p i;omega
    have hr2:=h1.below ahf;have hb2:=h2.below ahf;have HR2:=Ag hr2;have HBH2:=Ag hb2;have HE1:=Ag e1;have HE2:=Ag e2;have Gi:=Ag (show rG.fine we (Apart (λb=>w1.heap.size<=b/\u11.ownBlock≠some b) u10) (Gw (some ⟨g2,0,none⟩) n cap2,(jV g p i a).map ak) from IX hrow (λb hb hl=>⟨⟨FI,λe=>by have:=(h2.row.lt b e).2; omega⟩,λe=>by have:=(h1.row.lt b e).2; omega⟩) (GZ _ _));clear hal h1 h2 e1 e2 hr2 hb2 hrow;go_wp2_with (at_builtin; refine jI (K:=rG) (F:=λb=>w1.heap.size<=b/\u11.ownBlock≠some b) (W:=we) rfl _ _ 97 29 24 _ Tryz.underlying97 Tryz.infoVec rfl au rfl w1.heap.size (He hkz hez) u10 Lr rfl (Gw (some ⟨g2,0,none⟩) n cap2,(jV g p i a).map ak) _ rfl FI rfl HR2.o Gi.o ?_; intro g3 cap3 wg hown' nX hat' hlt')
    have hrhs:=HR2.o.other (v':=Gw (some ⟨g3,0,none⟩) (Lr.length+1) cap3) HBH2.o au nX rfl hat';have hbwg:=Ht (hbel.trans (ahf.mono hkz)) nX (λb hb=>(HR2.o.row.lt b hb).1) (He hkz hez);have hw1:=dZ wg 0 au au;obtain⟨zz,hzz⟩:∃ x:Rat,x=((0:Int):Rat):=⟨_,rfl⟩;rw[<-hzz] at hw1;have HZZ:=Ag (show zz=0 by rw[hzz]; rfl);have hgz:=hbwg.size;have HRO:=Ag hown'; have HRH:=Ag hrhs;have hg3g:g3 < wg.heap.size:=(hown'.row.lt g3 rfl).2;have HU11:=Ag (λb (e:u11.ownBlock=some b)=>(hrhs.row.lt b e).2);clear hzz hown' hrhs nX hat' hlt';refine hw1.mono ?_;rintro e wh ⟨v1,rfl,hb,hv1⟩;obtain⟨A3,c3,B3,d3,rfl,bH⟩:=hv1.opened;obtain⟨q,hq⟩:∃ q:RV,q=⟨ak zz,Gw A3 (ak zz).num.length c3,Gw B3 (ak zz).den.length d3⟩:=⟨_,rfl⟩;rw[<-hq] at bH;replace HRO:=Ag (HRO.o.below hb); replace HRH:=Ag (HRH.o.below hb);have hg3:=(HRO.o.row.lt g3 rfl).2;have hbwh:=hbwg.trans (hb.mono hgz);have hhz:=hbwh.size;have HF1:=Ag (show ratK.fine wh (Apart (λb=>w1.heap.size<=b/\(Value.slice (some ⟨g3,0,none⟩) (Lr.length+1) cap3).ownBlock≠some b) u11) q from bH.keep (λb hb2 _=>⟨⟨FI,λe=>by
     have e:some g3=some b:=e;injection e with e
     omega⟩,λe=>by have:=HU11.o b e; omega⟩) (GZ _ _))
    have HQ:=Ag (show q.r=ak 0 by rw[hq,HZZ.o]);have hcells:(#[G7 (ak zz).neg,Gw A3 (ak zz).num.length c3,Gw B3 (ak zz).den.length d3]:Array GN)=(ratK.cells q).toArray:=by rw[hq];rfl
    have HCC:=Ag hcells;clear hv1 bH hq hcells hb hw1;dsimp only;go_wp2_with (at_builtin; refine jI (K:=ratK) (F:=λb=>w1.heap.size<=b/\(Value.slice (some ⟨g3,0,none⟩) (Lr.length+1) cap3).ownBlock≠some b) (W:=wh) rfl _ _ 29 42 56 _ KR JR rfl au rfl w1.heap.size hhz u11 Lb rfl q _ HCC.o FI rfl HRH.o HF1.o ?_; intro g4 cap4 wj hown' nX hat' hlt')
    have hrows:=HRH.o.other (v':=Gw (some ⟨g4,0,none⟩) (Lb.length+1) cap4) (HRO.o.widen (G:=λb=>w1.heap.size<=b/\u11.ownBlock≠some b) (λb hb _=>hb)) au nX rfl hat';have hbwj:=Ht hbwh nX (λb hb=>(HRH.o.row.lt b hb).1) hhz;have hst2:Dp g p w1.heap.size (i+1) (Gw (some ⟨g3,0,none⟩) (Lr.length+1) cap3) (Gw (some ⟨g4,0,none⟩) (Lb.length+1) cap4) wj:=by
     refine⟨⟨_,?_,hrows⟩,_,?_,hown'⟩
     ·rw[HAE.o,Hf,Hf,HE1.o];rfl
     ·rw[HAE.o,Hf,Hf,HE2.o];show _ ++ [q.r]=_;rw[HQ.o];rfl
    have Cm:=Ag hst2;clear hrows hst2 hown' nX hat' hlt';go_wp2_with fail
    go_roundw
    case rel=>exact⟨i+1,FI,by go_num,Cm.o,hbwj⟩
    case measure=>exact zMs
   have t1:decide ((a:Int) < ac)=true:=by simp[hal]
   have adv:(a:Int) < (g.F8.getD i default).actions:=by rw[HG0.o,<-HAC.o];exact hal
   have hkm:=qK (a:=a) hlt HPP.o adv;obtain⟨kn,hkn⟩:=Gp (iP (aN g p) ((i:Int),(a:Int)));have aiU:kn < n:=by rw[hkn,HN.o];exact lQ hkm
   have hix:=mM we _ _ (aN g p) ((i:Int),(a:Int)) (HL.o.on (GL (hbel.trans (ahf.mono hkz)) _)) hkm (by rw[<-HN.o]; omega);rw[<-hkn] at hix;have HKN:=Ag hkn;have HAL:=Ag (show(a:Int) < inf.actions by rw[<-HAC.o]; exact hal);clear hal adv hkm hkn;go_wp2_with fail
   refine hix.mono ?_;rintro e wc' ⟨_,rfl,hb,rfl⟩;replace HNO:=Ag (HNO.o.below hb);have hbac:=ahf.trans (hb.mono hez);have hcz:=hbac.size;have hbr2:=hbr.trans (hb.mono hez);have hw1:=dZ wc' 1 au au;rw[show((1:Int):Rat)=one from Bh.o.symm] at hw1;clear hix hb i1 x2;dsimp only;go_wp2_with fail
   refine hw1.mono ?_;rintro e wd' ⟨v1,rfl,hb,hv1⟩;obtain⟨A4,c4,B4,d4,rfl,bH⟩:=hv1.opened;have hg2w:g2 < wc'.heap.size:=(HNO.o.row.lt g2 rfl).2;replace HNO:=Ag (HNO.o.below hb);have hfq:ratK.fine wd' (Apart (λb=>wa.heap.size<=b) (Gw (some ⟨g2,0,none⟩) n cap2)) ⟨ak one,Gw A4 (ak one).num.length c4,Gw B4 (ak one).den.length d4⟩:=bH.keep (λb hb _=>⟨FI,λe=>by
    have e:some g2=some b:=e;injection e with e
    omega⟩) (GZ _ _)
   have hbad:=hbac.trans (hb.mono hcz);have hbr3:=hbr2.trans (hb.mono hcz);have hNO:=HNO.o;rw[<-HNL.o] at hNO;obtain⟨_,_,e,_,_,⟨q0,hq0,c0,aoH,aoI⟩,hfz⟩:=hNO.yN (k:=kn) (by rw[HNL.o]; exact aiU);simp only[Value.slice.injEq,JD,Addr.mk.injEq,and_true,true_and] at e;obtain⟨rfl,rfl⟩:=e;have f0:=hfz (kn*3);have f1:=hfz (kn*3+1);have f2:=hfz (kn*3+2);obtain⟨W5,hW5,ho5,hw5⟩:=HNO.o.afu kn _ hfq;have HO5:=Ag ho5;have hbr5:=Ht hbr3 hw5 (λb hb=>by omega) hbad.size;have HW5:=Ag hW5;have hL5:(N.set kn ⟨ak one,Gw A4 (ak one).num.length c4,Gw B4 (ak one).den.length d4⟩).map RV.r=(jV g p i (a+1)).map ak:=by
    rw[jV,Jj,Jj,HNM.o,<-HKN.o,Bh.o]
   have HL5:=Ag hL5;have EF:=Ag (show(N.set kn ⟨ak one,Gw A4 (ak one).num.length c4,Gw B4 (ak one).den.length d4⟩).length=n by rw[Hy,HNL.o]);clear hv1 bH hb hw1 hNO hfz hfq hW5 ho5 hq0 hL5;dsimp only;go_wp2
   rw[<-HW5.o];clear c0 aoH aoI f0 f1 f2;go_roundw
   case rel=>exact⟨a+1,_,by have:=HAL.o; omega,by go_num,HL5.o,EF.o,HO5.o,hbr5⟩
   case measure=>have:=HAL.o; simp[intOf]; omega
def Bc (l:List Raw):Prop:=l.length<=100000/\∀ r∈l,U32 r/\r.num.length<=100000/\r.den.length<=100000
theorem abZ (w:GK) (F:Gq) (v:GN) (l:List Raw) (hv:Gs w F v l) (hfi:Bc l) :
  Calls GI 76 #[v] w (Ret w λu _=>u = GV GU (gG l)):=by
 have HV:=Ag hv;have HFI:=Ag hfi.2;have hl:=hfi.1;obtain⟨A,c,rfl,_,_⟩:=hv;obtain⟨ne,hne⟩:=Gp (gG l);rw[<-hne];have HNE:=Ag hne;clear hfi hne;go_in;go_wp2_with fail
 go_loopw [3] (λiv wr=>∃ k:Nat,k<=l.length/\iv = GV GU (k:Int)/\fZ ((l.map rZ).take k)=0/\Below w.heap.size w wr) (λiv _=>l.length - (intOf iv).toNat)
 case atStart=>exact⟨0,Hg _,rfl,rfl,GR _ _⟩
 case round =>
  obtain⟨k,hk,rfl,hpre,hbel⟩:=hrel;obtain⟨wa,rfl⟩:=Gp wr;have CP:=Ag hpre;clear hpre;by_cases hlt:k < l.length
  case neg =>
   obtain rfl:k=l.length:=FI;have h0:ne=0:=by
    rw[HNE.o];unfold gG;have h:=CP.o;rwa [G8 (by rw[Gz]; exact Gy _)] at h
   subst h0;go_wp2_with fail
   go_ret;exact⟨_,rfl,hbel,rfl⟩
  obtain⟨r,hr⟩:=Gl hlt;have HR:=Ag hr;obtain⟨b,o,c',vn,vd,e,hF,hbl,x0,x1,x2,hn,hd⟩:=Gs.at (Iy HV.o (GL hbel F)) hr;simp only[Value.slice.injEq,true_and] at e;obtain⟨rfl,rfl⟩:=e;have HRV:=Ag (show Ak wa F (.agg #[G7 r.neg,vn,vd]) r from Ak.make rfl hn hd);obtain⟨An,cn,rfl,-,-⟩:=hn;obtain⟨Ad,cd,rfl,-,-⟩:=hd;obtain⟨hu,hn1,hd1⟩:=HFI.o r (Gx hr);have HU:=Ag hu;clear hr hF hbl hu;go_wp2_with fail
  refine(uo wa F _ r HRV.o HU.o hn1 hd1).mono ?_;rintro e wb ⟨_,rfl,hb,rfl⟩;have hmap:(l.map rZ)[k]? = some (rZ r):=by rw[GY,HR.o];rfl
  refine zbc ?_;intro CS re hre CU;refine Zx ?_;clear x0 x1 x2;intro x0 x1 x2;have fC:=hbel.trans (hb.mono hbel.size);clear hmap hre hb hbel;dsimp only;by_cases h0:re=0
  case neg =>
   have t0:(re != 0)=true:=by simp[h0]
   have hE:ne=re:=by
    rw[HNE.o];have e:=CU.o;rw[LH h0] at e;have h:=jG CP.o CS.o (by rw[e]; exact h0);unfold gG;rw[h,e]
   subst hE;clear h0 x0 x1 x2;go_wp2_with fail
   go_ret;exact⟨_,rfl,fC,rfl⟩
  subst h0;cases hneg:r.neg
  case true =>
   have hE:ne=2:=by
    rw[HNE.o];have e:=CU.o;rw[LG au,LH hneg] at e;have h:=jG CP.o CS.o (by rw[e]; decide);unfold gG;rw[h,e]
   subst hE;rw[hneg] at x0;clear hneg;go_wp2_with fail
   go_ret;exact⟨_,rfl,fC,rfl⟩
  case false =>
   have hE:rZ r=0:=by
    have e:=CU.o;rw[LG au,LG (by rw[hneg]; decide)] at e;exact e
   have HN:=Ag (jD CP.o (by rw[CS.o,hE]));rw[hneg] at x0;clear hneg hE;go_wp2_with fail
   go_roundw
   case rel=>exact⟨k+1,FI,by go_num,HN.o,fC⟩
   case measure=>exact zMs
theorem ahg (g:Gm) (p:Int) (i:Nat):∀ a,∀ x∈jV g p i a,rl x<=1
 | 0,x,h=>by
  rw[jV] at h;rcases JG h with h | rfl
  ·rw[List.eq_of_mem_replicate h,lK]; omega
  ·decide +kernel
 | a+1,x,h=>by
  rw[jV] at h;rcases JG h with h | rfl
  ·exact ahg g p i a x h
  ·rw[pX]; omega
theorem adw {g:Gm} {p:Int}:∀ k,∀ e∈jW g p k,(∀ x∈e.1,rl x<=1)/\rl e.2<=1
 | 0,e,h=>by
  rw[List.mem_singleton.1 h];refine⟨λx hx=>?_,by show rl 1<=1; rw[pX]; omega⟩;have hx:x∈row0 g p:=hx;unfold row0 at hx;rcases JG hx with h | rfl
  ·rw[List.eq_of_mem_replicate h,lK]; omega
  ·rw[pX]; omega
 | k+1,e,h=>by
  rw[jW] at h;split at h
  ·rcases List.mem_append.1 h with h | h
   ·exact adw k e h
   ·rw[List.mem_singleton.1 h];exact⟨ahg g p k _,by show rl 0<=1; rw[lK]; omega⟩
  ·exact adw k e h
theorem aci {f:Nat->Rat} {c:Nat}:∀ k,(∀ i,i < k->rl (f i)<=c)->rl (nZ k f)<=1+k*(c+1)
 | 0,_=>by rw[yK,lK]; omega
 | k+1,h=>by
  have ih:=aci k (λi hi=>h i FI);have h1:=h k FI;have h2:=acw (nZ k f) (f k);rw[jA];have h3:(k+1)*(c+1)=k*(c+1)+(c+1):=Nat.succ_mul _ _;omega
theorem aaR (h:∀ x∈l,rl x<=c) (hc:1<=c) (i:Nat):rl (l.getD i 0)<=c:=by grind [lK]
theorem ajw {ys:List Rat} (hx:∀ x∈xs,rl x<=1) (hy:∀ y∈ys,rl y<=10) (hk:k<=1001):rl (iy xs ys k)<=20000:=by
 have h:=aci (f:=λi=>xs.getD i 0*ys.getD i 0) (c:=11) k (λi _=>by
  have h1:=jQ (xs.getD i 0) (ys.getD i 0);have h2:=aaR hx FI i;have h3:=aaR hy FI i;show rl (xs.getD i 0*ys.getD i 0)<=11;omega)
 grind [iy]
def xX (g:Gm) (p:Int) (x:List Rat):Int:=if pV g p x=false then 14 else 0
theorem adx (w:GK) (F Fu Fx:Gq) (vg vu vx:GN) (g:Gm) (p:Int) (xs:List Rat) (hg:AB w F vg g) (hsm:Small g) (hf:aQ g=0) (hu:AA w Fu vu (aU g)) (hx:CB w Fx vx xs) (hxl:xs.length=(aN g p).length) (hx4:∀ x∈xs,rl x<=10) :
  Calls GI 77 #[vg,vu,vx,GV GU p] w (Ret w λv _=>v = GV GU (xX g p xs)):=by
 have HG:=Ag hg;have HSM:=Ag hsm;have HFO:=Ag hf;have HX4:=Ag hx4;have HXL:=Ag hxl;have hn1:xs.length<=1001:=by
  have h1:=dL (g:=g) (p:=p) (λi hi=>dJ hf i hi) g.F8.length (Gy _);have:=hsm.F8;rw[hxl];unfold aN;omega
 have HEQ:=Ag (ajv hf p xs g.F8.length (Gy _));obtain⟨es,hes⟩:=Gp (jW g p g.F8.length);rw[<-hes] at HEQ;have HES:=Ag hes;obtain⟨re,hre⟩:=Gp (xX g p xs);rw[<-hre];have HRE:=Ag hre;obtain⟨vn,vi,rfl,⟨A,c,rfl,hc,_⟩,⟨Ai,ci,rfl,hci,_⟩⟩:=hg;have HU:=Ag hu;have HX:=Ag (IX (G:=λ_=>True) hx (λ_ _ _=>trivial) (GZ _ _));obtain⟨Au,cu,rfl⟩:=hu.open;obtain⟨Ax,cx,rfl,_,_⟩:=hx;rw[aS] at HU ⊢;rw[Gz] at HX ⊢;clear hsm hf hu hx4 hxl hes hre;go_in;go_wp2_with fail
 generalize hW:G5 _ _=W;obtain⟨rx,hB,hz⟩:=aI hW;replace HG:=Ag (HG.o.on (GL hB F));replace HU:=Ag (HU.o.on (GL hB _));replace HX:=Ag (Iy HX.o (GL hB _));refine Zd ?_;intro x0 x1 x2;clear hW hz rx;go_wp2_with fail
 clear x0 x1 x2;refine(akT W F Fu _ _ g p HG.o HSM.o HFO.o HU.o).mono ?_;rintro e w1 ⟨_,rfl,hb,t,b,rfl,ht,hbb⟩;rw[<-HES.o] at ht hbb;have HT:=Ag (JK (G:=λ_=>True) ht (λ_ _ _=>trivial) (GZ _ _));have HBB:=Ag (IX (G:=λ_=>True) hbb (λ_ _ _=>trivial) (GZ _ _));replace HX:=Ag (Iy HX.o (GL hb _));have HB:=Ag (hB.trans (hb.mono hB.size));obtain⟨At,ct,rfl,_,_⟩:=ht;obtain⟨Ab,cb,rfl,_,_⟩:=hbb;rw[Gz] at HT HBB ⊢;rw[Gz];have hel:es.length<=101:=by
  rw[HES.o];have:=tX g p g.F8.length;have:=HSM.o.F8;omega
 clear hb hB;dsimp only;go_wp2_with fail
 go_loopw [11] (λiv wr=>∃ k:Nat,k<=es.length/\iv = GV GU (k:Int)/\(es.take k).all (eqB xs)=true/\Below w1.heap.size w1 wr) (λiv _=>es.length - (intOf iv).toNat)
 case atStart=>exact⟨0,Hg _,rfl,rfl,GR _ _⟩
 case round =>
  obtain⟨k,hk,rfl,hall,hbel⟩:=hrel;obtain⟨wa,rfl⟩:=Gp wr;have DJ:=Ag hall;have HBA:=Ag (HB.o.trans (hbel.mono HB.o.size));clear hall;by_cases hlt:k < es.length
  case neg =>
   obtain rfl:k=es.length:=FI;have h0:re=0:=by
    rw[HRE.o];unfold xX pV;rw[<-HEQ.o];have h:=DJ.o;rw[G8 (Gy _)] at h;rw[h];rfl
   subst h0;go_wp2_with fail
   go_ret;exact⟨_,rfl,HBA.o,rfl⟩
  obtain⟨e0,he0⟩:=Gl hlt;have hmem:e0∈jW g p g.F8.length:=by rw[<-HES.o];exact Gx he0
  have hlen:=abt _ e0 hmem;have hrl:=adw _ e0 hmem;have HE0:=Ag he0;obtain⟨er,eb⟩:=e0;dsimp only at hlen hrl;have hlx:er.length=xs.length:=by rw[hlen,HXL.o]
  have HLX:=Ag hlx;have HRL:=Ag hrl;obtain⟨rb,ro,c3,vr,e3,_,_,r0,hrv⟩:=Gt.at (Gt.on HT.o (GL hbel _)) (k:=k) (l:=er.map ak) (by rw[GY,he0]; rfl);obtain⟨bb,bo,c4,vn,vd,e4,_,_,b0,b1,b2,hn,hd⟩:=Gs.at (Iy HBB.o (GL hbel _)) (k:=k) (r:=ak eb) (by rw[GY,he0]; rfl);rw[Gz] at e3 e4;simp only[Value.slice.injEq,true_and] at e3 e4;obtain⟨rfl,rfl⟩:=e3;obtain⟨rfl,rfl⟩:=e4;have HRV:=Ag hrv;obtain⟨Ar,cr,rfl,_,_⟩:=hrv;rw[Gz,hlx] at r0 HRV;have HEB:=Ag (show RtV wa (λ_=>True) (.agg #[G7 (ak eb).neg,vn,vd]) eb from Ak.make rfl hn hd);obtain⟨An,cn,rfl,-,-⟩:=hn;obtain⟨Ad,cd,rfl,-,-⟩:=hd;have HXW:=Ag (Iy HX.o (GL hbel _));have hB:=GR wa.heap.size wa;have EP:=λ(w':GK) (h1:Gs w' (λ_=>True) (Gw Ar xs.length cr) (er.map ak)) (h2:Gs w' (λ_=>True) (Gw Ax xs.length cx) (xs.map ak))=>abW w' (λ_=>True) _ _ er xs h1 h2 (by rw[HLX.o]; exact Gy _) FI (λx hx=>by have:=HRL.o.1 x hx; omega) (λx hx=>by have:=HX4.o x hx; omega) (λk hk=>ajw HRL.o.1 HX4.o (by have:=HLX.o; omega))
  clear he0 hmem hlen hrl hlx;go_wp2_with fail
  refine wp_region_held_drew (S:=λw'=>w'.cell? ⟨rb,ro+k,none⟩=some (Gw Ar xs.length cr)/\w'.cell? ⟨bb,bo+k*3,none⟩=some (G7 (ak eb).neg)/\w'.cell? ⟨bb,bo+k*3+1,none⟩=some (Gw An (ak eb).num.length cn)/\w'.cell? ⟨bb,bo+k*3+2,none⟩=some (Gw Ad (ak eb).den.length cd)) aj ⟨r0,b0,b1,b2⟩ (λhHeld=>?_);refine zdS ?_;intro hb;refine zbn ?_;clear r0 b0 b1 b2 HEB HRV HXW;intro r0 b0 b1 b2 HEB HRV HXW;refine ZM ?_;clear hB;intro hB;clear hb;generalize wa.drew=wn at *;refine tkm [0,1,2,3,4,6,7,8,9] ?_;refine tk2 5 aj rfl λK hK=>?_
  go_simp;refine(EP wn HRV.o HXW.o).mono ?_;rintro e wn ⟨vp,rfl,hb,hu⟩;have HPL:=Ag (ajw (k:=er.length) HRL.o.1 HX4.o (by have:=HLX.o; omega));have HPV:=Ag (hu.mono (G:=λ_=>True) (λ_ _ _=>trivial));obtain⟨A7,c7,B7,d7,rfl,-⟩:=hu.opened;clear hu;refine zbn ?_;clear r0 b0 b1 b2 HEB HRV HXW;intro r0 b0 b1 b2 HEB HRV HXW;refine YQ ?_;clear hB hb;intro hB;clear hHeld;refine hK.out _ _ ⟨r0,b0,b1,b2⟩ (λhHeld=>?_);clear hK K;refine zcf ?_;intro K hK;go_simp;refine(pK wn (λ_=>True) _ _ (iy er xs er.length) eb HPV.o HEB.o HPL.o (by have:=HRL.o.2; omega)).mono ?_;rintro e wn ⟨_,rfl,hb,rfl⟩;refine zbn ?_;clear r0 b0 b1 b2 HEB HRV HXW;intro r0 b0 b1 b2 HEB HRV HXW;refine ZM ?_;clear hB;intro hB;replace HPV:=Ag (Ak.below HPV.o hb);clear hb;dsimp only;clear hHeld;refine hK.out _ _ ⟨r0,b0,b1,b2⟩ (λhHeld=>?_);clear hK K;refine Zb ?_;refine tkm [11] ?_;refine Z8 ?_;clear hHeld;have hbw:=hbel.trans (hB.mono hbel.size);have HDEC:=Ag (show eqB xs (er,eb)=decide (iy er xs er.length=eb) from rfl);have Dk:=Ag (jc (iy er xs er.length) eb);obtain⟨od,hod⟩:=Gp (iR (iy er xs er.length) eb);rw[<-hod] at Dk ⊢;clear hod r0 b0 b1 b2;by_cases h0:od=0
  case neg =>
   have t0:(od != 0)=true:=by simp[h0]
   have hE:re=14:=by
    have hf:eqB xs (er,eb)=false:=by rw[HDEC.o];exact LJ (λe=>h0 (Dk.o.2 e))
    have h:es.all (eqB xs)=false:=by
     rw[List.all_eq_false];exact⟨(er,eb),Gx HE0.o,by rw[hf]; decide⟩
    rw[HRE.o];unfold xX pV;rw[<-HEQ.o,h];rfl
   subst hE;clear h0;go_wp2_with fail
   go_ret;exact⟨_,rfl,HB.o.trans (hbw.mono HB.o.size),rfl⟩
  subst h0;have HT1:=Ag (show eqB xs (er,eb)=true by rw[HDEC.o]; exact LK (Dk.o.1 rfl));go_wp2_with fail
  go_roundw
  case rel=>exact⟨k+1,FI,by go_num,by rw[Gv HE0.o,List.all_append,DJ.o,List.all_cons,HT1.o]; rfl,hbw⟩
  case measure=>exact zMs
def Bf (l:List Raw):Prop:=∀ r∈l,r.num.length<=4/\r.den.length<=4
theorem Bf.rl (h:Bf (xs.map ak)):∀ x∈xs,rl x<=4:=λx hx=>Nat.max_le.2 (h (ak x) (IL hx))
def lJ (g:Gm) (xr yr:List Raw):Int:=if fQ g≠0 then fQ g else qh g xr yr
theorem aeM (w:GK) (F Fx Fy:Gq) (vg vx vy:GN) (g:Gm) (xr yr:List Raw) (hg:AB w F vg g) (hsm:Small g) (hx:Gs w Fx vx xr) (hy:Gs w Fy vy yr) (hfx:Bc xr) (hfy:Bc yr) (hx4:Bf xr) (hy4:Bf yr) :
  Calls GI 35 #[vg,vx,vy] w (Ret w λv w'=>∃ vp,v = .tuple #[vp,GV GU (lJ g xr yr)]/\∃ A n c,vp = Gw A n c):=by
 refine zdN ?_;intro HSM HFX HFY HX4 HY4;have hxl:=hfx.1;have hyl:=hfy.1;have HG:=Ag hg;obtain⟨vn,vi,rfl,⟨A,c,rfl,hc,_⟩,⟨Ai,ci,rfl,hci,_⟩⟩:=hg;have HX:=Ag hx;have HY:=Ag hy;obtain⟨Ax,cx,rfl,_,_⟩:=hx;obtain⟨Ay,cy,rfl,_,_⟩:=hy;have HE:=Ag (show lJ g xr yr=if fQ g≠0 then fQ g else qh g xr yr from rfl);have HV:=Ag (show qh g xr yr=if xr.length≠(aN g 0).length\/yr.length≠(aN g 1).length then 3 else if gG xr≠0 then gG xr else if gG yr≠0 then gG yr else if pV g 0 (xr.map gK)=false then 14 else if pV g 1 (yr.map gK)=false then 14 else 0 from rfl);obtain⟨be,hbe⟩:=Gp (lJ g xr yr);rw[<-hbe] at HE ⊢;clear hsm hfx hfy hx4 hy4 hbe;go_in;go_wp2_with fail
 generalize hW:G5 _ _=W;obtain⟨rx,hB,hz⟩:=aI hW;clear hW hz;refine Yt ?_;clear HG HX HY;intro x0 x1 x2 HG HX HY;go_wp2_with fail
 clear x0 x1 x2;refine(aeK W F _ g HG.o HSM.o).mono ?_;rintro e w1 ⟨_,rfl,hb,vp,rfl,hvp⟩;obtain⟨Ap,cp,rfl⟩:=hvp.open;have HP:=Ag (AA.keep (G:=λ_=>True) hvp (λ_ _ _=>trivial) (GZ _ _));have HLO:=Ag (show yM g=if fQ g≠0 then [] else aU g from rfl);have HLK:=Ag (show fQ g=0->aQ g=0/\g.aC=2/\lH g=0 from pU);obtain⟨lo,hlo⟩:=Gp (yM g);rw[<-hlo] at HP HLO ⊢;obtain⟨fe,hfe⟩:=Gp (fQ g);rw[<-hfe] at HE HLO HLK ⊢;replace rx:=rx.below hb rx.lt;refine Zl ?_;clear hB HG HX HY;intro hB HG HX HY;refine Zd ?_;intro x0 x1 x2;clear hb;clear hvp hlo hfe;dsimp only;by_cases h0:fe=0
 case neg =>
  refine zaq ?_;intro t0 H0;clear h0;go_wp2_with fail
  go_ret2;refine zdL ?_;intro e0;exact zb0
 subst h0;obtain⟨hform,hpl2,hpar⟩:=HLK.o rfl;have HFO:=Ag hform;have hlo:lo=aU g:=by rw[HLO.o,LG au]
 subst hlo;have hbv:be=qh g xr yr:=HE.o.trans (LG au);subst hbv;rw[aS] at HP ⊢;clear HE HLO HLK hform hpl2 hpar;go_wp2_with fail
 clear x0 x1 x2;refine(oQ w1 F _ g 0 HG.o HSM.o HFO.o).mono ?_;rintro e w2 ⟨_,rfl,hb,hvl⟩;obtain⟨Al,cl,rfl⟩:=hvl.open;obtain⟨n0,hn0⟩:=Gp ((aN g 0).length);rw[<-hn0] at HV ⊢;have HN0:=Ag hn0;refine zaU ?_;clear rx hB HG HX HY HP hb;intro rx hB HG HX HY x0 x1 x2 HP;clear hvl hn0;dsimp only;by_cases h0:xr.length=n0
 case neg =>
  have t0:((xr.length:Int) != (n0:Int))=true:=aB;have H0:=Ag h0;clear h0;go_wp2_with fail
  go_ret2;have e0:=HV.o;rw[LH (.inl H0.o)] at e0;exact zb0
 have t0:((xr.length:Int) != (n0:Int))=false:=aB;have HXN:=Ag h0;clear h0;go_wp2_with fail
 clear x0 x1 x2;refine(oQ w2 F _ g 1 HG.o HSM.o HFO.o).mono ?_;rintro e w3 ⟨_,rfl,hb,hvl⟩;obtain⟨Al2,cl2,rfl⟩:=hvl.open;obtain⟨n1,hn1⟩:=Gp ((aN g 1).length);rw[<-hn1] at HV ⊢;have HN1:=Ag hn1;refine zaU ?_;clear rx hB HG HX HY HP hb;intro rx hB HG HX HY x0 x1 x2 HP;clear hvl hn1;dsimp only;by_cases h1:yr.length=n1
 case neg =>
  have t1:((yr.length:Int) != (n1:Int))=true:=aB;have H1:=Ag h1;clear h1;go_wp2_with fail
  go_ret2;have e0:=HV.o;rw[LH (.inr H1.o)] at e0;exact zb0
 have t1:((yr.length:Int) != (n1:Int))=false:=aB;have HYN:=Ag h1;replace HV:=Ag (HV.o.trans (LG (by rw[HXN.o,HYN.o]; simp)));clear h1;go_wp2_with fail
 clear x0 x1 x2 t0 t1;refine(abZ w3 Fx _ xr HX.o HFX.o).mono ?_;rintro e w4 ⟨_,rfl,hb,rfl⟩;have HXO:=Ag (show gG xr=0->∃ xs:List Rat,xr=xs.map ak/\∀ x∈xs,dh x=false from su);obtain⟨nx,hnx⟩:=Gp (gG xr);rw[<-hnx] at HV HXO ⊢;refine zaU ?_;clear rx hB HG HX HY HP hb;intro rx hB HG HX HY x0 x1 x2 HP;clear hnx;dsimp only;by_cases h0:nx=0
 case neg =>
  have t0:(nx != 0)=true:=by simp[h0]
  have H0:=Ag h0;clear h0;go_wp2_with fail
  go_ret2;have e0:=HV.o;rw[LH H0.o] at e0;exact zb0
 subst h0;replace HV:=Ag (HV.o.trans (LG au));go_wp2_with fail
 clear x0 x1 x2;refine(abZ w4 Fy _ yr HY.o HFY.o).mono ?_;rintro e w5 ⟨_,rfl,hb,rfl⟩;have HYO:=Ag (show gG yr=0->∃ xs:List Rat,yr=xs.map ak/\∀ x∈xs,dh x=false from su);obtain⟨ny,hny⟩:=Gp (gG yr);rw[<-hny] at HV HYO ⊢;refine zaU ?_;clear rx hB HG HX HY HP hb;intro rx hB HG HX HY x0 x1 x2 HP;clear hny;dsimp only;by_cases h0:ny=0
 case neg =>
  have t0:(ny != 0)=true:=by simp[h0]
  have H0:=Ag h0;clear h0;go_wp2_with fail
  go_ret2;have e0:=HV.o;rw[LH H0.o] at e0;exact zb0
 subst h0;replace HV:=Ag (HV.o.trans (LG au));obtain⟨xs,rfl,_⟩:=HXO.o (by trivial);obtain⟨ys,rfl,_⟩:=HYO.o (by trivial);rw[Gz] at HXN HYN hxl hyl;rw[eU,eU] at HV;refine zdh ?_;intro HXR HYR;rw[Gz] at HX HY ⊢;rw[Gz];clear HXO HYO;go_wp2_with fail
 clear x0 x1 x2;refine(adx w5 F (λ_=>True) Fx _ _ _ g 0 xs HG.o HSM.o HFO.o HP.o HX.o (by rw[HXN.o,HN0.o]) HXR.o).mono ?_;rintro e w6 ⟨_,rfl,hb,rfl⟩;have HRE:=Ag (show xX g 0 xs=if pV g 0 xs=false then 14 else 0 from rfl);obtain⟨re,hre⟩:=Gp (xX g 0 xs);rw[<-hre] at HRE ⊢;refine zaU ?_;clear rx hB HG HX HY HP hb;intro rx hB HG HX HY x0 x1 x2 HP;clear hre;dsimp only;cases hf0:pV g 0 xs
 case false =>
  have hr:re=14:=by rw[HRE.o,LH hf0]
  have HV14:=Ag (HV.o.trans (LH hf0));subst hr;clear hf0;go_wp2_with fail
  go_ret2;exact⟨_,rfl,hB,_,by rw[HV14.o]; rfl,_,_,_,rfl⟩
 have hr:re=0:=by rw[HRE.o,LG (by rw[hf0]; decide)]
 subst hr;replace HV:=Ag (HV.o.trans (LG (by rw[hf0]; decide)));clear hf0 HRE;go_wp2_with fail
 clear x0 x1 x2;refine(adx w6 F (λ_=>True) Fy _ _ _ g 1 ys HG.o HSM.o HFO.o HP.o HY.o (by rw[HYN.o,HN1.o]) HYR.o).mono ?_;rintro e w7 ⟨_,rfl,hb,rfl⟩;have HRE:=Ag (show xX g 1 ys=if pV g 1 ys=false then 14 else 0 from rfl);obtain⟨re,hre⟩:=Gp (xX g 1 ys);rw[<-hre] at HRE ⊢;refine ZM ?_;clear hB;intro hB;clear hre hb;dsimp only;cases hf0:pV g 1 ys
 case false =>
  have hr:re=14:=by rw[HRE.o,LH hf0]
  have HV14:=Ag (HV.o.trans (LH hf0));subst hr;clear hf0;go_wp2_with fail
  go_ret2;exact⟨_,rfl,hB,_,by rw[HV14.o]; rfl,_,_,_,rfl⟩
 have hr:re=0:=by rw[HRE.o,LG (by rw[hf0]; decide)]
 have HV0:=Ag (HV.o.trans (LG (by rw[hf0]; decide)));subst hr;clear hf0 HRE;go_wp2_with fail
 go_ret2;exact⟨_,rfl,hB,_,by rw[HV0.o]; rfl,_,_,_,rfl⟩
def xY (g:Gm) (x y:List Rat) (i:Nat):List Rat:=if (g.F8.getD i default).aH=0 then x else y
def sJ (g:Gm) (x y:List Rat) (i a:Nat):List Rat:=(Ig a).map λa:Nat=>(xY g x y i).getD (iP (aN g (g.F8.getD i default).aH) ((i:Int),(a:Int))) 0
def sF (g:Gm) (x y:List Rat) (k:Nat):List (List Rat):=(Ig k).map λi=>sJ g x y i (g.F8.getD i default).actions.toNat
def kN (g:Gm) (x y:List Rat):List (List Rat):=sF g x y g.F8.length
theorem aaS (g:Gm) (x y:List Rat) (i a:Nat):(sJ g x y i a).length=a:=by grind [sJ]
theorem aeN (g:Gm) (x y:List Rat) (i a:Nat):sJ g x y i (a+1)=sJ g x y i a ++ [(xY g x y i).getD (iP (aN g (g.F8.getD i default).aH) ((i:Int),(a:Int))) 0]:=by grind [sJ,JJ]
theorem ahh (g:Gm) (x y:List Rat) (k:Nat):sF g x y (k+1)=sF g x y k ++ [sJ g x y k (g.F8.getD k default).actions.toNat]:=by grind [sF,JJ]
theorem uY {g:Gm} (h:k < g.F8.length):(kN g x y)[k]? = some (sJ g x y k (g.F8.getD k default).actions.toNat):=by grind [kN,sF]
theorem qR (g:Gm) (x y:List Rat):(kN g x y).length=g.F8.length:=by grind [kN,sF]
structure CY (g:Gm) (x y:List Rat):Prop where
 xl:x.length=(aN g 0).length
 yl:y.length=(aN g 1).length
 xn:∀ z∈x,dh z=false
 yn:∀ z∈y,dh z=false
 xr:∀ z∈x,rl z<=4
 yr:∀ z∈y,rl z<=4
 xf:pV g 0 x=true
 yf:pV g 1 y=true
theorem aaT {g:Gm} {xr yr:List Raw} (h:qh g xr yr=0) (hx:Bf xr) (hy:Bf yr):∃ x y:List Rat,xr=x.map ak/\yr=y.map ak/\CY g x y:=by
 unfold qh at h;split at h
 ·cases h
 ·rename_i h1
  split at h
  ·grind
  ·rename_i h2
   split at h
   ·grind
   ·rename_i h3
    obtain⟨x,rfl,hxn⟩:=su (Decidable.not_not.1 h2);obtain⟨y,rfl,hyn⟩:=su (Decidable.not_not.1 h3);rw[eU,eU] at h;split at h
    ·cases h
    ·rename_i h4
     split at h
     ·cases h
     ·rename_i h5
      rw[Gz,Gz] at h1;exact⟨x,y,rfl,rfl,FI,FI,hxn,hyn,hx.rl,hy.rl,by simpa using h4,by simpa using h5⟩
section
variable {g:Gm} {x y:List Rat}
theorem abu (f:Nat->Rat):∀ n,jm ((Ig n).map f)=nZ n f
 | 0=>rfl
 | n+1=>by rw[JJ,Hf,Ju,List.map_nil,oG,abu f n,jA]
theorem xZ (hf:aQ g=0) (h2:g.aC=2) (hi:i < g.F8.length):(g.F8.getD i default).aH=0\/(g.F8.getD i default).aH=1:=by
 obtain⟨n,hn,hk,hin⟩:=kJ hf hi;obtain⟨hne,_⟩:=dP hf;have hmp:=kF hne (Gx hn) hk;grind
theorem abv (h:(g.F8.getD i default).aH=1):xY g x y i=y:=by grind [xY]
theorem zW (h:(g.F8.getD i default).aH=0):xY g x y i=x:=LH h
theorem CY.pick (hv:CY g x y) (hf:aQ g=0) (h2:g.aC=2) (hi:i < g.F8.length):(xY g x y i).length=(aN g (g.F8.getD i default).aH).length/\(∀ z∈xY g x y i,dh z=false/\rl z<=4)/\pV g (g.F8.getD i default).aH (xY g x y i)=true:=by
 rcases xZ hf h2 hi with h | h
 ·rw[zW h,h];exact⟨hv.xl,λz hz=>⟨hv.xn z hz,hv.xr z hz⟩,hv.xf⟩
 ·rw[abv h,h];exact⟨hv.yl,λz hz=>⟨hv.yn z hz,hv.yr z hz⟩,hv.yf⟩
theorem ahi (hv:CY g x y) (hf:aQ g=0) (h2:g.aC=2) (hi:i < g.F8.length):∀ z∈sJ g x y i (g.F8.getD i default).actions.toNat,dh z=false/\rl z<=4:=by
 intro z hz;obtain⟨a,ha,rfl⟩:=List.mem_map.1 hz;grind [CY.pick,qK,xY,iP,aN,lQ]
theorem aiV (hv:CY g x y) (hf:aQ g=0) (h2:g.aC=2) (hi:i < g.F8.length) {s:Int×Int} (hs:s∈aN g (g.F8.getD i default).aH):eH (kN g x y) s=(xY g x y i).getD (iP (aN g (g.F8.getD i default).aH) s) 0:=by
 rcases oO hs with rfl | ⟨j,b,h1,h3,h4,rfl⟩
 ·grind [abq,abp,akS,CY.pick]
 grind [eH,kN,uY,sJ,xY]
theorem CY.plan (hv:CY g x y) (hf:aQ g=0) (h2:g.aC=2):DL g (kN g x y):=by
 have hrow:∀ l∈kN g x y,∃ i,i < g.F8.length/\l=sJ g x y i (g.F8.getD i default).actions.toNat:=λl hl=>by
  obtain⟨i,hi,rfl⟩:=List.mem_map.1 hl;exact⟨i,List.mem_range.1 hi,rfl⟩
 refine⟨qR g x y,λk l inf hl hi=>?_,λl hl z hz=>?_,λl hl z hz=>?_,λk l s hl hs=>?_,λk s hs=>?_⟩
 ·have hk:=Gn hi;rw[uY hk] at hl;obtain rfl:=IE hl;have ha:=qJ hf hi;grind [aaS]
 ·obtain⟨i,hi,rfl⟩:=hrow l hl;exact(ahi hv hf h2 hi z hz).1
 ·obtain⟨i,hi,rfl⟩:=hrow l hl;have:=(ahi hv hf h2 hi z hz).2;omega
 ·have hk:k < g.F8.length:=by have:=Gn hl;rwa [qR] at this
  rw[uY hk] at hl;obtain rfl:=IE hl;have hsd:(aU g).getD k (-1,-1)=s:=by rw[GH,hs];rfl
  have hm:=mG hf hk;rw[hsd] at hm;rw[aiV hv hf h2 hk hm];have hfit:=anN (hv.pick hf h2 hk).2.2 hk rfl;unfold abr at hfit;rw[hsd] at hfit;rw[<-hfit];unfold sJ nV;rw[abu]
 ·have hk:k < g.F8.length:=by have:=Gn hs;rwa [aS] at this
  have hsd:(aU g).getD k (-1,-1)=s:=by rw[GH,hs];rfl
  have hm:=mG hf hk;rw[hsd] at hm;rcases (zS hf).ok k s hs with h | ⟨h3,h4,_⟩
  all_goals grind [oO,kN,uY,aaS]
def oU (g:Gm) (xr yr:List Raw):Int:=if lJ g xr yr≠0 then lJ g xr yr else nH (gB (kN g (xr.map gK) (yr.map gK))).flatten
def iY (g:Gm) (xr yr:List Raw):List (List Raw):=if lJ g xr yr≠0 then [] else aaD (gB (kN g (xr.map gK) (yr.map gK)))
end
def doneRow (done:List ((Int×Int)×Rat)) (i:Nat):List Rat:=(done.filter λe=>decide (e.1.1=(i:Int))).map Prod.snd
def jX (g:Gm) (p:Int) (x:List Rat):List ((Int×Int)×Rat):=(aN g p).zip x
theorem ahj (d e:List ((Int×Int)×Rat)) (i:Nat):doneRow (d++e) i=doneRow d i++doneRow e i:=by grind [doneRow]
theorem aaU (d:List ((Int×Int)×Rat)) (v:Rat) (i:Nat):doneRow (d ++ [((-1,-1),v)]) i=doneRow d i:=by grind [doneRow]
theorem ahk (d:List ((Int×Int)×Rat)) (a:Int) (v:Rat) (i:Nat):doneRow (d ++ [(((i:Int),a),v)]) i=doneRow d i ++ [v]:=by grind [doneRow]
theorem ad5 (d:List ((Int×Int)×Rat)) (a:Int) (v:Rat) (h:j≠i):doneRow (d ++ [(((i:Int),a),v)]) j=doneRow d j:=by grind [doneRow]
theorem ady {g:Gm} {s:Int×Int} {v:Rat} (h1:(aN g p)[k]? = some s) (h2:x[k]? = some v):(jX g p x)[k]? = some (s,v):=by grind [jX]
theorem aaV {g:Gm} (h:x.length=(aN g p).length):(jX g p x).length=(aN g p).length:=by grind [jX]
theorem anO {g:Gm} (h:x.length=(aN g p).length):jX g p x=(aN g p).map λs=>(s,x.getD (iP (aN g p) s) 0):=by
 refine IW λk=>?_
 grind [aN,ady,adp,aaV]
theorem ahl (g:Gm) (p:Int) (k i:Nat):(vU g p k).filter (λs=>decide (s.1=(i:Int)))=if k=i then vU g p k else []:=by grind [List.filter_eq_self,pR,List.filter_eq_nil_iff]
theorem zu (g:Gm) (p:Int) (i:Nat):∀ k,(dS g p k).filter (λs=>decide (s.1=(i:Int)))=if i < k then vU g p i else []
 | 0=>by
  rw[dS,List.filter_cons,LG (by simp only[decide_eq_true_eq]; omega),LG FI]; rfl
 | k+1=>by
  rw[dS,List.filter_append,zu g p i k,ahl];by_cases e:k=i
  ·subst e;rw[LG FI,LH rfl,LH FI]; rfl
  ·rw[LG e,List.append_nil];by_cases e2:i < k
   ·rw[LH e2,LH FI]
   ·rw[LG e2,LG FI]
theorem ab1 {g:Gm} (h:x.length=(aN g p).length) (hi:i < g.F8.length):doneRow (jX g p x) i=if (g.F8.getD i default).aH=p then (Ig (g.F8.getD i default).actions.toNat).map λa:Nat=>x.getD (iP (aN g p) ((i:Int),(a:Int))) 0 else []:=by
 unfold doneRow;rw[anO h,List.filter_map];have e:(aN g p).filter ((λe:(Int×Int)×Rat=>decide (e.1.1=(i:Int))) ∘ λs=>(s,x.getD (iP (aN g p) s) 0))=vU g p i:=by
  have h1:=zu g p i g.F8.length;rw[LH hi] at h1;exact h1
 rw[e];unfold vU;split
 ·rw[List.map_map,List.map_map];rfl
 ·rfl
theorem ahm {g:Gm} (hv:CY g x y) (hf:aQ g=0) (h2:g.aC=2) (hi:i < g.F8.length):doneRow (jX g 0 x++jX g 1 y) i=sJ g x y i (g.F8.getD i default).actions.toNat:=by
 rw[ahj,ab1 hv.xl hi,ab1 hv.yl hi];grind [sJ,xZ,zW,abv]
theorem adz (w:GK) (F:Gq) (vg vm:GN) (g:Gm) (mr:List (List Raw)) (pl:Int) (hg:AB w F vg g) (hsm:Small g) (hm:Gt w F vm mr) (hT:BF w) (hlm:mr.length<=100) (hb:Bv mr) (h4:BQ mr) :
  Calls GI 8 #[vg,vm,GV GU pl] w (Ret w λv w'=>∃ t,v = .tuple #[t,GV GU (kY g mr pl)]/\Gs w' (λb=>w.heap.size<=b) t (gX g mr pl)):=by
 have HG:=Ag hg;have HM:=Ag (JK (G:=Old F w.heap.size) hm (λb hb hl=>⟨hb,hl⟩) (GZ _ _));have HM1:=Ag hm;have HS:=Ag hsm;have HT:=Ag hT;have H4:=Ag h4;have HFR:=Ag hb;obtain⟨vn,vi,rfl,⟨A,c,rfl,hc,_⟩,⟨Ai,ci,rfl,hci,_⟩⟩:=hg;obtain⟨Am,cm,rfl,_,_⟩:=hm;refine zbd ?_;intro oe hoe oo hoo HE HO hni;clear hsm hT h4 hb hoe hoo;go_in;go_wp2_with fail
 obtain⟨W,hW,rx,hB,hz⟩:=dW w 25 #[GV GU g.aC,Gw A g.F7.length c,Gw Ai g.F8.length ci];rw[<-hW];replace HG:=Ag (HG.o.on (GL hB F));replace HM:=Ag (HM.o.below hB);replace HM1:=Ag (HM1.o.below hB);replace HT:=Ag (HT.o.on hB);refine Zd ?_;intro x0 x1 x2;clear hW hz rx;go_wp2_with fail
 refine(ahc W F _ g pl HG.o HS.o).mono ?_;rintro e w1 ⟨_,rfl,hb,u',rfl,hu⟩;have hu:=hu.mono hB.size;refine zdg ?_;clear HG;intro HG;replace HM:=Ag (HM.o.below hb);replace HM1:=Ag (HM1.o.below hb);replace HT:=Ag (HT.o.on hb);refine Zx ?_;clear x0 x1 x2;intro x0 x1 x2;refine ZM ?_;clear hB;intro hB;obtain⟨a,rfl⟩:=hu.ptr;have HU:=Ag hu;refine zc9 ?_;intro HPS;obtain⟨fe,hfe⟩:=Gp (seatE g pl);rw[<-hfe] at HE HU HPS ⊢;clear hb hfe hu;dsimp only;by_cases h0:fe=0
 case neg =>
  refine zaq ?_;intro t0 H0;clear h0;go_wp2_with fail
  go_ret2;refine zdL ?_;intro e0;exact Y6
 subst h0;obtain⟨hlk,hp0,hp1⟩:=HPS.o rfl;obtain⟨hform,hpl2,hpar⟩:=pU hlk;obtain⟨p,rfl⟩:∃ p:Nat,pl=(p:Int):=⟨pl.toNat,FI⟩;have hpp:p < 2:=FI;have hpi:(p:Int) < 2:=FI;obtain⟨fb,vn,vi,vp,V,M,e,hfb,hfa⟩:=HU.o.2 rfl;obtain rfl:=Value.pointer.inj e;have HFA:=Ag hfa;have HFO:=Ag hform;clear e hfa hlk hp0 hp1 HU HPS hpl2 hpar;go_wp2_with fail
 refine(adV w1 F _ _ g mr HG.o HS.o HM1.o HT.o FI HFR.o).mono ?_;rintro e w2 ⟨_,rfl,hb,rfl⟩;replace HM:=Ag (HM.o.below hb);have HFA:=Ag (HFA.o.below hb);refine ZM ?_;clear hB;intro hB;obtain⟨se,hse⟩:=Gp (iw g mr);rw[<-hse] at HE ⊢;have HSE:=Ag hse;clear hse hb x0 x1 x2 HT HG HM1;dsimp only;by_cases h0:se=0
 case neg =>
  have t1:(se != 0)=true:=by simp[h0]
  have H0:=Ag h0;clear h0;go_wp2_with fail
  go_ret2;have e0:=HE.o;rw[LG au] at e0;exact Y6
 subst h0;have hoe:oe=0:=HE.o.trans (LG au);have HRE:=Ag (vP (tC HSE.o.symm)).2;obtain⟨m,hmr,hfit,-⟩:=abl HSE.o.symm H4.o;subst hmr;have HFT:=Ag (afC HSE.o.symm);have HRL:=Ag (xQ H4.o);have hml:m.length<=100:=by simpa using hlm
 have HO2:=Ag (show oo=(vW g m (p:Int)).map ak by rw[HO.o,hoe,LG au,yI]);subst hoe;rw[Gz] at HM ⊢;clear hlm hfit HO HE HSE HFR H4;obtain⟨Ap2,cp2,rfl⟩:=HFA.o.par.open;rw[aS] at HFA;obtain⟨n,hn⟩:=Gp ((aN g (p:Int)).length);obtain⟨Ap,cp,hvp⟩:=((HFA.o.ad4 p hpp).list).open;have y0:=HFA.o.row.cell (mJ hpp);rw[hvp,<-hn] at y0;have hn1:n<=1001:=by
  have h1:=dL (g:=g) (p:=(p:Int)) (λi hi=>dJ HFO.o i hi) g.F8.length (Gy _);rw[hn];unfold aN;omega
 have HNN:=Ag hn;have HVP:=Ag hvp;clear hn hvp;go_wp2_with (at_make; refine abb _ rfl _ _ 62 rfl 74 Tryz.underlying62 Tryz.infoNum n rfl rfl FI ?_; intro w3 hb3 hz3 hm3)
 generalize hW4:G5 _ _=W4;obtain⟨rr,hB4,hz4⟩:=aI hW4;clear hW4;have hB34:=hb3.trans (hB4.mono hb3.size);have HMR:=Ag ((hm3 (λb=>Old F w.heap.size b\/w.heap.size<=b)).below hB4);rw[hz3] at rr;obtain⟨mb,hmb⟩:=Gp w2.heap.size;have HFW:=HFA.o;have AV:=Ag (HFW.row.below hB34 HFW.row.lt);have EU:=Ag (AA.keep (G:=λb=>w.heap.size<=b/\b < mb) (HFW.ad4 p hpp).list (λb h hl=>⟨h,FI⟩) (GL hB34 _));have Ei:=Ag (AA.keep (G:=λb=>w.heap.size<=b/\b < mb) HFW.par (λb h hl=>⟨h,FI⟩) (GL hB34 _));obtain⟨kb,hkb,hkb1,hkb2⟩:=(HFW.ad4 p hpp).num;have hkb3:=hkb2.lt;have CS:=Ag (hkb2.below hB34 hkb2.lt);have HMK:=Ag hkb;have hfb2:=HFW.row.lt;have hws:w.heap.size<=w2.heap.size:=hB.size;replace HM:=Ag (HM.o.below hB34);have HB:=Ag (hB.trans (hB34.mono hB.size));obtain⟨rb,hrb⟩:=Gp (w2.heap.size+1);rw[<-hrb] at rr ⊢;rw[<-hmb] at HMR rr ⊢;rw[<-hmb] at hfb2 hkb3 hws hrb;have q1:rb < W4.heap.size:=rr.lt;have q0:mb < rb:=FI;clear hm3 hB4 hB34 hb3 hz3 hz4 HFA hmb hkb hkb2 y0 hB HFW hrb;refine(put_any W4 rb mb n 0 1 (λb=>Old F w.heap.size b\/w.heap.size<=b) (GX n rv0) (by rw[Io]; exact rr) HMR.o (by rw[Io,HNN.o]; exact Gn (iJ g (p:Int) _)) au au (λb hb=>.inr FI)).mono ?_;rintro e w5 ⟨rfl,q0,hq0,hm5,hw5⟩;have HQ0:=Ag hq0;replace rr:=rr.wrote hw5 FI;replace AV:=Ag (AV.o.wrote hw5 FI);replace CS:=Ag (CS.o.wrote hw5 FI);replace EU:=Ag (EU.o.on (hw5.same (λb hb e=>by omega)));replace Ei:=Ag (Ei.o.on (hw5.same (λb hb e=>by omega)));replace HM:=Ag (HM.o.on (hw5.same (λb hb e=>by have:=hb.2; omega)));replace HB:=Ag (Ht HB.o hw5 (λb hb=>by omega) FI);have q2:rb < w5.heap.size:=rr.lt;have HMR5:=Ag hm5;have HRR:=Ag rr;have y0:=AV.o.cell (mJ hpp);rw[HVP.o,<-HNN.o] at y0;clear hq0 hm5 hw5 HMR rr;dsimp only;go_wp2_with fail
 clear y0;have HV0:=Ag (show(vW g m (p:Int))[0]? = some 1 by rw[adq (iJ g (p:Int) _),abq]);go_loopw [45] (λiv wr=>∃ (k:Nat) (L:List RV),k<=n/\iv = GV GU (k:Int)/\L.length=n/\(∀ j,j < k\/j=0->(L[j]?).map RV.r=((vW g m (p:Int))[j]?).map ay)/\AO wr mb 74 (λb=>Old F w.heap.size b\/w.heap.size<=b) L/\Wrote (λb=>b=mb) w5 wr) (λiv _=>n - (intOf iv).toNat)
 case atStart =>
  refine⟨0,_,FI,rfl,by rw[Hy,Io],λj hj=>?_,HMR5.o,Ir _ _⟩;obtain rfl:j=0:=FI;have h0:0 < n:=by rw[HNN.o];exact Gn (iJ g (p:Int) _)
  rw[HV0.o,Hq (by rw[Io]; exact h0)];show some q0.r=some (ay 1);rw[HQ0.o];rfl
 case round =>
  clear HMR5;obtain⟨k,L,hk,rfl,hlen,aaW,hmr,hwr⟩:=hrel;obtain⟨wa,rfl⟩:=Gp wr;have Ew:=Ag aaW;have HMR:=Ag hmr;have HWR:=Ag hwr;have HLEN:=Ag hlen;have q3:=hwr.size;clear aaW hmr hwr hlen;by_cases hlt:k < n
  case neg =>
   obtain rfl:k=n:=FI;go_wp2_with fail
   have hxs:L.map RV.r=(vW g m (p:Int)).map ay:=by
    refine IW λj=>?_
    refine zd3 ?_;by_cases hj:j < k
    ·exact Ew.o j (.inl hj)
    ·rw[Ij (by rw[HLEN.o]; omega),Ij (by rw[adr,<-HNN.o]; omega)];rfl
   have an5:DZ wa (λb=>Old F w.heap.size b\/w.heap.size<=b) (Gw (some ⟨mb,0,none⟩) k k) (vW g m (p:Int)):=by
    have h:=HMR.o.raws (G:=λb=>Old F w.heap.size b\/w.heap.size<=b) (λb hb=>hb) (.inr FI) (c:=k) (by rw[HLEN.o]; exact Gy _);rw[HLEN.o,hxs] at h;exact h
   have hrr:=HRR.o.wrote HWR.o FI;refine(anC wa _ rb _ (vW g m (p:Int)) hrr an5 (by rw[adr,<-HNN.o]; omega) (λx hx=>by have:=aiQ HFO.o HFT.o HRL.o x hx; omega)).mono ?_;rintro e w6 ⟨_,rfl,hb,t,rfl,ht⟩;have hBB:=Ht HB.o HWR.o (λb hb=>by omega) FI;have hBZ:=hBB.trans (hb.mono hBB.size);have HT6:=Ag (IX (G:=λb=>w.heap.size<=b) ht (λb hb _=>by omega) (GZ _ _));have HBZ:=Ag hBZ;obtain⟨At,ct,e,_,_⟩:=ht;subst e;rw[Gz] at HT6 ⊢;clear hb hBB hBZ an5 hrr hxs;dsimp only;go_wp2
   go_ret2;exact⟨_,rfl,HBZ.o,_,rfl,by rw[HO2.o]; exact HT6.o⟩
  obtain⟨s,hs⟩:=Gl (l:=aN g (p:Int)) (k:=k) (by rw[<-HNN.o]; exact hlt);have HSK:=Ag hs;have hbb:=Ht HB.o HWR.o (λb hb=>by omega) FI;have hsel:=EU.o.on (HWR.o.same (λb hb e=>by omega));rw[HVP.o] at hsel;obtain⟨sb,so,rfl⟩:∃ sb so,Ap=some ⟨sb,so,none⟩:=by
   exact YR
  obtain⟨s0,s1⟩:=hsel.at2 hs;clear hs hsel hbb;go_upto_region 12 with(fail)
  generalize hW6:G5 _ _=W6;obtain⟨rx,hB6,hz6⟩:=aI hW6;clear hW6 hz6 s0 s1;obtain⟨nb,hnb⟩:=Gp wa.heap.size;rw[<-hnb] at rx ⊢;have q5:nb < W6.heap.size:=rx.lt;have q6:w5.heap.size<=nb:=FI;replace HMR:=Ag (HMR.o.below hB6);replace HWR:=Ag (HWR.o.trans (I9 hB6 _));have hB:=GR W6.heap.size W6;have q7:=Gy W6.heap.size;clear hB6 hnb;have x0:=rx.cell (i:=0) rfl;have x1:=rx.cell (i:=1) rfl;obtain⟨tb,htb⟩:=Gp (((s.1 == -1)&&(s.2 == -1)));have heq:=λw=>rW w s.1 s.2 (-1) (-1)
  simp only[<-htb] at heq;refine YC ?_;clear htb x0 x1;intro HTB hHeld hb x0 x1;replace HMR:=Ag (HMR.o.below hb);replace rx:=rx.below hb rx.lt;replace q7:=He q7 hb.size;refine ZM ?_;clear hB;intro hB;clear hb;generalize W6.drew=wn at *;refine tkm [0] ?_;refine tk2 1 aj rfl λK hK=>?_
  go_simp;refine(aaO wn).mono ?_;rintro e wn ⟨_,rfl,hb,rfl⟩;replace x0:=ah x0 hb;replace x1:=ah x1 hb;replace HMR:=Ag (HMR.o.below hb);refine zbv ?_;clear rx q7 hB hb hHeld hK K;intro rx q7 hB hHeld K hK;go_simp;refine zbg ?_;clear hHeld hK K heq HWR;intro HWR;cases tb
  case true =>
   go_wp2_with fail
   go_roundw
   case rel =>
    have hs0:s=(-1,-1):=by
     exact zaj
    have hk0:k=0:=by
     have h1:=adp HSK.o;have h2:=abp g (p:Int);rw[hs0] at h1;exact h1.symm.trans h2
    exact⟨k+1,L,FI,by go_num,HLEN.o,λj hj=>Ew.o j FI,HMR.o,HWR.o⟩
   case measure=>exact zMs
  have ahn:s≠(-1,-1):=by
   intro h;have h1:=HTB.o;rw[h] at h1;cases h1
  obtain⟨i,b,hi,hip,hb,rfl⟩:=(oO (Gx HSK.o)).resolve_left ahn;have an6:=HFT.o.len;rw[aS] at an6;have him:i < m.length:=FI;obtain⟨row,hrow⟩:=Gl him;obtain⟨u,hu⟩:=Gl (l:=aU g) (k:=i) (by rw[aS]; exact hi);have hud:(aU g).getD i (-1,-1)=u:=by rw[GH,hu];rfl
  have hum:u∈aN g (p:Int):=by
   have h:=mG HFO.o hi;rw[hud,hip] at h;exact h
  have hub:iP (aN g (p:Int)) u < k:=by
   have h:=ado HFO.o hi b;rw[hud,hip,adp HSK.o] at h;exact h
  obtain⟨inf,bU⟩:=Gl hi;have hbl:b < row.length:=by
   have h:=(yE (HRE.o i inf.actions (row.map ak) (by rw[GY,bU]; rfl) (by rw[GY,hrow]; rfl))).1;rw[Gz] at h;rw[GH,bU] at hb;simp only[Jt] at hb;omega
  obtain⟨x,hx⟩:=Gl hbl;have hxr:=HRL.o row (Gx hrow) x (Gx hx);have HX:=Ag hxr;have HVK:=Ag (show(vW g m (p:Int))[k]? = some (eH (cO (aU g) m) u*x) by
   rw[adq HSK.o,akO HFT.o him,hud,GH (l:=m),hrow,Jt,GH,hx]; rfl)
  obtain⟨y,hy⟩:=Gp (eH (cO (aU g) m) u);have HYL:=Ag (show rl y<=401 by
   have h:=aiQ HFO.o HFT.o HRL.o (p:=(p:Int)) y (by rw[hy]; exact IL hum);omega)
  have hnum:=adl hum;have hyv:=Ew.o _ (.inl hub);rw[adq hnum,<-hy] at hyv;rw[<-hy] at HVK;have HUM:=Ag hum;obtain⟨un,hun⟩:=Gp (iP (aN g (p:Int)) u);rw[<-hun] at hub hyv;obtain⟨q,hq,hqr⟩:=Option.map_eq_some_iff.1 hyv;have aoC:un < n:=FI;have hqf:=HMR.o.fine q (Gx hq);obtain⟨qr,qvn,qvd⟩:=q;dsimp only at hqr;subst hqr;have n0:wn.cell? ⟨mb,un*3,none⟩=some (G7 (ay y).neg):=HMR.o.cell (j:=0) hq FI rfl;have n1:=HMR.o.cell (j:=1) hq FI rfl;have n2:=HMR.o.cell (j:=2) hq FI rfl;have HNY:=Ag (show NmV wn (λc=>(Old F w.heap.size c\/w.heap.size<=c)/\c≠mb) (.agg #[G7 (ay y).neg,qvn,qvd]) y from Ak.make rfl hqf.1 hqf.2);have hqf2:Aj wn _ qvn (ay y).num/\Aj wn _ qvd (ay y).den:=hqf;clear hqf;obtain⟨⟨A1,c1,rfl,_,_⟩,⟨A2,c2,rfl,_,_⟩⟩:=hqf2;dsimp only at n1 n2 HNY;have hmn:=HM.o.on (HWR.o.same (λb hb e=>by have:=hb.2; omega));obtain⟨ab,ao,c3,vr,e3,_,_,r0,hrv⟩:=Gt.at hmn (k:=i) (l:=row.map ak) (by rw[GY,hrow]; rfl);obtain⟨lb,lo,c4,vxn,vxd,e4,_,_,l0,l1,l2,hln,hld⟩:=Gs.at hrv (k:=b) (r:=ak x) (by rw[GY,hx]; rfl);rw[Gz] at e3 e4;subst e4;simp only[Value.slice.injEq,true_and] at e3;obtain⟨rfl,rfl⟩:=e3;have HRX:=Ag (show RtV wn (Old F w.heap.size) (.agg #[G7 (ak x).neg,vxn,vxd]) x from Ak.make rfl hln hld);obtain⟨A3,c5,rfl,_,_⟩:=hln;obtain⟨A4,c6,rfl,_,_⟩:=hld;have hpn:=Ei.o.on (HWR.o.same (λb hb e=>by omega));obtain⟨pb,po,rfl⟩:∃ pb po,Ap2=some ⟨pb,po,none⟩:=by
   obtain⟨A1,c1,e,_,h⟩:=hpn;exact zam
  obtain⟨p0,p1⟩:=hpn.at2 hu;have z0:=(HRR.o.wrote HWR.o FI).cell (i:=0) rfl;have z1:=(AV.o.wrote HWR.o FI).cell (uX hpp);have z2:=(AV.o.wrote HWR.o FI).cell (i:=7) rfl;rw[HMK.o] at z1;have Gj:=Ag (CS.o.wrote HWR.o FI);have HUN:=Ag hun;obtain⟨u1,u2⟩:=u;dsimp only at x0 x1 p0 p1;clear bU hx hxr hy hnum hyv hun hq hmn hrv hpn hu hud hum hrow ahn hb hip an6;go_wp2_with fail
  have hB:=GR wn.heap.size wn;replace q7:=He q7 (Gy wn.heap.size);have AX:=Gj.o;refine aP (λw'=>w'.cell? ⟨rb,0,none⟩=some (Gw (some ⟨mb,0,none⟩) n n)/\w'.cell? ⟨fb,5+p,none⟩=some (.map (some kb))/\w'.cell? ⟨fb,7,none⟩=some (Gw (some ⟨pb,po,none⟩) g.F8.length cp2)/\w'.cell? ⟨nb,0,none⟩=some (GV GU (i:Int))/\w'.cell? ⟨nb,1,none⟩=some (GV GU (b:Int))/\w'.cell? ⟨pb,po+i*2,none⟩=some (GV GU u1)/\w'.cell? ⟨pb,po+i*2+1,none⟩=some (GV GU u2)/\w'.cell? ⟨mb,un*3,none⟩=some (G7 (ay y).neg)/\w'.cell? ⟨mb,un*3+1,none⟩=some (Gw A1 (ay y).num.length c1)/\w'.cell? ⟨mb,un*3+2,none⟩=some (Gw A2 (ay y).den.length c2)/\w'.cell? ⟨ab,ao+i,none⟩=some (Gw (some ⟨lb,lo,none⟩) row.length c4)/\w'.cell? ⟨lb,lo+b*3,none⟩=some (G7 (ak x).neg)/\w'.cell? ⟨lb,lo+b*3+1,none⟩=some (Gw A3 (ak x).num.length c5)/\w'.cell? ⟨lb,lo+b*3+2,none⟩=some (Gw A4 (ak x).den.length c6)/\AP w' kb (aN g (p:Int))) 32 1 aj rfl aj ⟨z0,z1,z2,x0,x1,p0,p1,n0,n1,n2,r0,l0,l1,l2,AX⟩ λhHeld=>?_
  refine Zo ?_;refine zac ?_;intro hb;refine zaD ?_;clear z0 z1 z2 x0 x1 p0 p1 n0 n1 n2 r0 l0 l1 l2 HMR HNY HRX;intro z0 z1 z2 x0 x1 p0 p1 n0 n1 n2 r0 l0 l1 l2 HMR HNY HRX;replace AX:=AX.below hb AX.lt;replace q7:=He q7 hb.size;refine ZM ?_;clear hB;intro hB;clear hb;generalize wn.drew=wn at *;refine tkm [0,1,2,3,4,5,6,7,8,9,10,11,12,13,14,15,16] ?_;refine wpAnyH_take (i:=17) (v:=GV GU (un:Int)) rfl aj aj aj (λ_ _ _ h=>h) (Or.inl ⟨by rfl,?_⟩) hHeld ?_
  ·intro wx hSx;have hlk:=nU (w:=wx) (b:=kb) (l:=aN g (p:Int)) (s:=(u1,u2)) (by simpa using hSx.2.2.2.2.2.2.2.2.2.2.2.2.2.2) HUM.o;unfold qg at hlk;rw[<-HUN.o] at hlk;clear hSx;go_simp
  refine Zb ?_;refine tkm [18,19,20,21,22,23,24,25,26,27,28] ?_;refine tk2 29 aj rfl λK hK=>?_
  go_simp;refine(kU wn _ _ x HRX.o (by have:=HX.o; omega)).mono ?_;rintro e wn ⟨v9,rfl,hb,hu⟩;obtain⟨A5,c7,B5,d7,rfl,bH⟩:=hu.opened;have HFX:=Ag (Ak.mono (G:=λc=>(Old F w.heap.size c\/w.heap.size<=c)/\c≠mb) hu (λc hc _=>⟨.inl hc,by have:=hc.2; omega⟩));clear hu bH;refine zaD ?_;clear z0 z1 z2 x0 x1 p0 p1 n0 n1 n2 r0 l0 l1 l2 HMR HNY HRX;intro z0 z1 z2 x0 x1 p0 p1 n0 n1 n2 r0 l0 l1 l2 HMR HNY HRX;replace AX:=AX.below hb AX.lt;replace q7:=He q7 hb.size;refine YQ ?_;clear hB hb;intro hB;clear hHeld;refine hK.out _ _ ⟨z0,z1,z2,x0,x1,p0,p1,n0,n1,n2,r0,l0,l1,l2,AX⟩ (λhHeld=>?_);clear hK K;refine Zb ?_;refine tk2 30 aj rfl λK hK=>?_
  go_simp;refine(uN wn _ _ _ y x HNY.o HFX.o (by have:=HYL.o; omega) (by have:=HX.o; omega)).mono ?_;rintro e wn ⟨v9,rfl,hb,hu⟩;obtain⟨A6,c8,B6,d8,rfl,bH⟩:=hu.opened;have HQX:=Ag (bH.keep (G:=λc=>(Old F w.heap.size c\/w.heap.size<=c)/\c≠mb) (λc hc _=>by rcases hc with hc | hc <;> first | exact hc | exact⟨.inr FI,FI⟩) (GZ _ _));clear hu bH;refine zaD ?_;clear z0 z1 z2 x0 x1 p0 p1 n0 n1 n2 r0 l0 l1 l2 HMR HNY HRX;intro z0 z1 z2 x0 x1 p0 p1 n0 n1 n2 r0 l0 l1 l2 HMR HNY HRX;replace HFX:=Ag (HFX.o.below hb);replace AX:=AX.below hb AX.lt;replace q7:=He q7 hb.size;refine YQ ?_;clear hB hb;intro hB;clear hHeld;refine hK.out _ _ ⟨z0,z1,z2,x0,x1,p0,p1,n0,n1,n2,r0,l0,l1,l2,AX⟩ (λhHeld=>?_);clear hK K;refine Zb ?_;refine tkm [31] ?_;refine Zp ?_;clear hHeld;obtain⟨q0,hq0⟩:=Gl (l:=L) (k:=k) (by rw[HLEN.o]; exact hlt);have c0:wn.cell? ⟨mb,k*3,none⟩=some (G7 q0.r.neg):=HMR.o.cell (j:=0) hq0 FI rfl;have c1':=HMR.o.cell (j:=1) hq0 FI rfl;have c2':=HMR.o.cell (j:=2) hq0 FI rfl;have f0:=HMR.o.row.frozen (k*3);have f1:=HMR.o.row.frozen (k*3+1);have f2:=HMR.o.row.frozen (k*3+2);obtain⟨q,hq⟩:∃ q:RV,q=⟨ay (y*x),Gw A6 (ay (y*x)).num.length c8,Gw B6 (ay (y*x)).den.length d8⟩:=⟨_,rfl⟩;have hqf:=HQX.o;rw[<-hq] at hqf;obtain⟨W,hW,hm,hwB,hwS,hwz,hwb⟩:=HMR.o.set k q hqf;have HM2:=Ag hm;have hw2:Wrote (λb=>b=mb) wn W:=⟨(hwB 0 wn (Hg _) (GR _ _)).os,(hwB 0 wn (Hg _) (GR _ _)).tape,(hwB 0 wn (Hg _) (GR _ _)).output,FI,λi hi hn=>hwb i hn⟩;have HWR2:=Ag ((HWR.o.trans (I9 hB _)).trans hw2);have HQ:=Ag (show q.r=ay (y*x) by rw[hq]);rw[hq] at hW;have HW:=Ag hW;clear hm hwB hwS hwz hwb hW hqf hq hq0 hw2 z0 z1 z2 x0 x1 p0 p1 n0 n1 n2 r0 l0 l1 l2 AX;go_wp2
  rw[<-HW.o];refine ZW ?_;go_wp2
  go_roundw
  case rel =>
   refine⟨k+1,L.set k q,FI,by go_num,by rw[Hy]; exact HLEN.o,λj hj=>?_,HM2.o,HWR2.o⟩;by_cases e:j=k
   ·subst e;rw[Hq (by rw[HLEN.o]; exact hlt),HVK.o];show some q.r=some _;rw[HQ.o]
   ·rw[G6 (Ne.symm e)];exact Ew.o j FI
  case measure=>exact zMs
theorem akU {g:Gm} (hx:∀ x∈xs,rl x<=10) (ha:a<=10):rl (nV g p xs k a)<=20000:=by
 have h:=aci (f:=λa=>xs.getD (iP (aN g p) ((k:Int),(a:Int))) 0) (c:=10) a (λi _=>aaR hx FI _);grind [nV]
theorem amw {g:Gm} (h:(g.F8.getD k default).aH=p):afJ g p xs k=decide (nV g p xs k (g.F8.getD k default).actions.toNat=xs.getD (abr g p k) 0):=by grind [afJ]
theorem aiW {g:Gm} (h:(g.F8.getD k default).aH≠p):afJ g p xs k=true:=by grind [afJ]
theorem fits_any (w:GK) (B:Nat) (F Fx:Gq) (g:Gm) (fb p:Nat) (vn vi vp:GN) (V M:Nat->GN) (vx:GN) (xs:List Rat) (h:BZ w B F g fb vn vi vp V M) (hp2:p < 2) (hsm:Small g) (hf:aQ g=0) (hx:CB w Fx vx xs) (hxl:xs.length=(aN g (p:Int)).length) (hx4:∀ x∈xs,rl x<=10) :
  Calls GI 68 #[.pointer (some ⟨fb,0,none⟩),vx,GV GU (p:Int)] w (Ret w λv _=>v = G7 (pV g (p:Int) xs)):=by
 have HSM:=Ag hsm;have HFO:=Ag hf;have HX4:=Ag hx4;have HXL:=Ag hxl;have hni:=hsm.F8;have hpi:(p:Int) < 2:=FI;have hx0:0 < xs.length:=by rw[hxl];exact Gn (iJ g (p:Int) _)
 have hxn:xs.length<=1001:=by
  have h1:=dL (g:=g) (p:=(p:Int)) (λi hi=>dJ hf i hi) g.F8.length (Gy _);rw[hxl];unfold aN;omega
 have AV:=Ag h.row;have hfl:=h.row.lt;obtain⟨kb,hkb,_,hkm⟩:=(h.ad4 p hp2).num;have HMK:=Ag hkb;have CS:=Ag hkm;have hkl:=hkm.lt;have hpar:=h.par;have amx:=h.game;have hX:=IX (G:=λb=>b < w.heap.size) hx (λb _ hl=>hl) (GZ _ _);have HX:=Ag hX;obtain⟨Ap,cp,rfl⟩:=hpar.open;obtain⟨vn',vi',e,hNN,⟨Ai,ci,rfl,hci,hI⟩⟩:=amx;simp only[Value.agg.injEq,Array.mk.injEq,List.cons.injEq,and_true,true_and] at e;obtain⟨rfl,rfl⟩:=e;rw[aS] at hpar;have Ei:=Ag hpar;have HI:=Ag hI;rw[aS] at AV;obtain⟨Ax,cx,rfl,_,_⟩:=hx;rw[Gz] at HX ⊢;obtain⟨fe,hfe⟩:=Gp (pV g (p:Int) xs);rw[<-hfe];have HFE:=Ag hfe;obtain⟨x,hxz⟩:=Gl hx0;obtain⟨xb,xo,c4,vxn,vxd,e4,hF4,amy,l0,l1,l2,hln,hld⟩:=Gs.at HX.o (k:=0) (r:=ak x) (by rw[GY,hxz]; rfl);rw[Gz] at e4;simp only[Value.slice.injEq,true_and] at e4;obtain⟨rfl,rfl⟩:=e4;simp only[Jc,Jb] at l0 l1 l2;have HXV:=Ag (show RtV w (λb=>b < w.heap.size) (.agg #[G7 (ak x).neg,vxn,vxd]) x from Ak.make rfl hln hld);obtain⟨A3,c5,rfl,_,_⟩:=hln;obtain⟨A4,c6,rfl,_,_⟩:=hld;have HX0:=Ag (show xs.getD 0 0=x by rw[GH,hxz]; rfl);have HXR:=Ag (hx4 x (Gx hxz));clear hsm hf hx4 hxl h hpar hkb hkm hX hfe hxz hF4 hI;go_in;go_wp2_with fail
 refine(kU w _ _ x HXV.o (by have:=HXR.o; omega)).mono ?_;rintro e w1 ⟨v9,rfl,hb,hu⟩;obtain⟨A5,c7,B5,d7,rfl,-⟩:=hu.opened;have HU:=Ag (hu.mono (G:=λ_=>True) λ_ _ _=>trivial);have hB:=hb;clear hu hb l0 l1 l2;have hw1:=lG w1 1 au au;refine zaQ ?_;clear hw1;intro one hw1 Bh;dsimp only;go_wp2_with fail
 refine hw1.mono ?_;rintro e w2 ⟨v9,rfl,hb,hu⟩;obtain⟨A6,c8,B6,d8,rfl,-⟩:=hu.opened;have HO:=Ag (hu.mono (G:=λ_=>True) λ_ _ _=>trivial);replace HU:=Ag (Ak.below HU.o hb);refine ZM ?_;clear hB;intro hB;clear hu hb hw1;dsimp only;go_wp2_with fail
 refine(uO w2 _ _ _ x one HU.o HO.o (by have:=HXR.o; omega) (by rw[Bh.o,pX]; omega)).mono ?_;rintro e w3 ⟨_,rfl,hb,rfl⟩;refine ZM ?_;clear hB;intro hB;have Dk:=Ag (jc x one);obtain⟨od,hod⟩:=Gp (iR x one);rw[<-hod] at Dk ⊢;have HB:=Ag hB;clear hb hod hB HU HO;dsimp only;by_cases h0:od=0
 case neg =>
  have t0:(od != 0)=true:=by simp[h0]
  have hE:fe=false:=by
   rw[HFE.o];unfold pV;refine xW (k:=0) (Hg _) ?_;rw[lI,HX0.o];exact LJ (λe=>h0 (Dk.o.2 (by rw[Bh.o]; exact e)))
  subst hE;clear h0;go_wp2_with fail
  go_ret;exact⟨_,rfl,HB.o,rfl⟩
 subst h0;have hft0:lI g (p:Int) xs 0=true:=by
  rw[lI,HX0.o,(Dk.o.1 rfl),Bh.o];rfl
 have HF0:=Ag hft0;have f2:=(AV.o.below HB.o hfl).cell (i:=2) rfl;clear hft0 Dk HX0 HXV;go_wp2_with fail
 clear f2;go_loopw [24] (λiv wr=>∃ k:Nat,k<=g.F8.length/\iv = GV GU (k:Int)/\lI g (p:Int) xs k=true/\Below w.heap.size w wr) (λiv _=>g.F8.length - (intOf iv).toNat)
 case atStart=>exact⟨0,Hg _,rfl,HF0.o,HB.o⟩
 case round =>
  clear HF0 HB;obtain⟨k,hk,rfl,hft,hbel⟩:=hrel;obtain⟨wa,rfl⟩:=Gp wr;have HFT:=Ag hft;have hws:=hbel.size;clear hft;by_cases hlt:k < g.F8.length
  case neg =>
   obtain rfl:k=g.F8.length:=FI;have hE:fe=true:=by rw[HFE.o];exact HFT.o
   subst hE;go_wp2_with fail
   go_ret;exact⟨_,rfl,hbel,rfl⟩
  obtain⟨inf,bU⟩:=Gl hlt;have hg0:g.F8.getD k default=inf:=by rw[GH,bU];rfl
  obtain⟨ib,io,rfl,_,hib,hcell⟩:=HI.o FI;have i0:=ah (hcell k inf bU).c0 hbel;have i1:=ah (hcell k inf bU).c1 hbel;obtain⟨ha1,ha2⟩:=qJ HFO.o bU;have HG0:=Ag hg0;clear hcell bU hg0;go_upto_region 6 with(fail)
  generalize hW6:G5 _ _=W6;obtain⟨ri,hb6,hz6⟩:=aI hW6;clear hW6 i0 i1;obtain⟨nb,hnb⟩:=Gp wa.heap.size;rw[<-hnb] at ri ⊢;have q1:w.heap.size<=nb:=FI;have ajx:=hbel.trans (hb6.mono hws);have q2:nb < W6.heap.size:=ri.lt;have j0:=ri.cell (i:=0) rfl;have j1:=ri.cell (i:=1) rfl;obtain⟨pl,hpl⟩:=Gp inf.aH;obtain⟨ac,hac⟩:=Gp inf.actions;rw[<-hpl] at j0 ri;rw[<-hac] at j1 ri ha1 ha2;have HPL:=Ag hpl;have HAC:=Ag hac;clear hnb hb6 hz6 hpl hac;by_cases hpp:pl=(p:Int)
  case neg =>
   have t0:(pl != (p:Int))=true:=by simp[hpp]
   have HPP:=Ag (show(g.F8.getD k default).aH≠(p:Int) by rw[HG0.o,<-HPL.o]; exact hpp);clear hpp;go_wp2_with fail
   go_roundw
   case rel=>exact⟨k+1,FI,by go_num,by rw[lI,HFT.o,aiW HPP.o]; rfl,ajx⟩
   case measure=>exact zMs
  have t0:(pl != (p:Int))=false:=by simp[hpp]
  have HPP:=Ag (show(g.F8.getD k default).aH=(p:Int) by rw[HG0.o,<-HPL.o]; exact hpp);clear hpp;go_upto_region 8 with(fail)
  obtain⟨W7,hW7,hacc,hb7,hlt7⟩:=Acc.zero W6 74 (λ_=>True);rw[<-hW7];obtain⟨ub,hub⟩:=Gp W6.heap.size;rw[<-hub] at hacc hlt7 ⊢;have q3:nb < ub:=FI;have an7:=ajx.trans (hb7.mono ajx.size);have ri7:=ri.below hb7 ri.lt;have HRI:=Ag ri7;have DN:=Ag hacc;have HB7:=Ag an7;have j1:=ri7.cell (i:=1) rfl;have hacn:((ac.toNat:Nat):Int)=ac:=Int.toNat_of_nonneg FI;clear hW7 hacc hb7 hub j0 ajx an7 ri ri7;go_wp2_with fail
  clear j1;go_loopw [35] (λav wr=>∃ (a:Nat) (acc:Rat) (A:Option Addr) (c:Nat) (B:Option Addr) (d:Nat),(a:Int)<=ac/\av = GV GU (a:Int)/\acc=nV g (p:Int) xs k a/\Acc 74 (λ_=>True) W7 ub (ay acc) A c B d wr) (λav _=>ac.toNat - (intOf av).toNat)
  case atStart=>exact⟨0,0,_,_,_,_,FI,rfl,rfl,DN.o⟩
  case round =>
   clear DN;obtain⟨a,acc,A2,c2,B2,d2,ha,rfl,adA,hst⟩:=hrel;obtain⟨wb,rfl⟩:=Gp wr;have HST:=Ag hst;have D5:=Ag adA;have hal2:rl acc<=20000:=by rw[adA];exact akU HX4.o FI
   have hbw:=Ht HB7.o hst.wr (λb hb=>by omega) HB7.o.size;refine zaL ?_;intro u0 u1 u2 HUV hul;have z1:=(AV.o.below hbw hfl).cell (uX hp2);rw[HMK.o] at z1;have AX:=CS.o.below hbw hkl;have hxw:=Iy HX.o (GL hbw _);have HXW:=Ag hxw;have HBW:=Ag hbw;clear hst adA hxw hbw;by_cases hal:(a:Int) < ac
   case neg =>
    have t1:decide ((a:Int) < ac)=false:=by simp[hal]
    have hae:(a:Int)=ac:=FI;have HAE:=Ag (show nV g (p:Int) xs k a=nV g (p:Int) xs k (g.F8.getD k default).actions.toNat by rw[HG0.o,<-HAC.o,show ac.toNat=a by omega]);obtain⟨u,hu⟩:=Gl (l:=aU g) (k:=k) (by rw[aS]; exact hlt);have hud:(aU g).getD k (-1,-1)=u:=by rw[GH,hu];rfl
    have hum:u∈aN g (p:Int):=by
     have h:=mG HFO.o hlt;rw[hud,HPP.o] at h;exact h
    have aoJ:=Ei.o.on (GL HBW.o _);obtain⟨pb,po,rfl⟩:∃ pb po,Ap=some ⟨pb,po,none⟩:=by
     obtain⟨A1,c1,e,_,h⟩:=aoJ;exact zam
    obtain⟨p0,p1⟩:=aoJ.at2 hu;obtain⟨pn,hpn⟩:=Gp (iP (aN g (p:Int)) u);have aoG:pn < xs.length:=by rw[hpn,HXL.o];exact lQ hum
    have HPN:=Ag (show abr g (p:Int) k=pn by unfold abr; rw[hud,hpn]);have HPE:=Ag hpn;have HUM:=Ag hum;obtain⟨z,hz⟩:=Gl aoG;have HZ:=Ag (show xs.getD pn 0=z by rw[GH,hz]; rfl);have HZL:=Ag (HX4.o z (Gx hz));obtain⟨xb2,xo2,c4',vzn,vzd,e4,_,_,l0,l1,l2,hln,hld⟩:=Gs.at HXW.o (k:=pn) (r:=ak z) (by rw[GY,hz]; rfl);rw[Gz] at e4;simp only[Value.slice.injEq,JD,Addr.mk.injEq,and_true,true_and] at e4;obtain⟨⟨rfl,rfl⟩,rfl⟩:=e4;have HZV:=Ag (show RtV wb (λb=>b < w.heap.size) (.agg #[G7 (ak z).neg,vzn,vzd]) z from Ak.make rfl hln hld);obtain⟨A7,c7',rfl,_,_⟩:=hln;obtain⟨A8,c8',rfl,_,_⟩:=hld;have z2:=(AV.o.below HBW.o hfl).cell (i:=7) rfl;have hB:=GR wb.heap.size wb;obtain⟨u1',u2'⟩:=u;dsimp only at p0 p1;clear hal hu hud hum hpn aoJ hz;go_wp2_with fail
    refine wp_region_held_drew (S:=λw'=>w'.cell? ⟨ub,0,none⟩=some (G7 (ay acc).neg)/\w'.cell? ⟨ub,1,none⟩=some (Gw A2 (ay acc).num.length c2)/\w'.cell? ⟨ub,2,none⟩=some (Gw B2 (ay acc).den.length d2)/\w'.cell? ⟨fb,5+p,none⟩=some (.map (some kb))/\w'.cell? ⟨fb,7,none⟩=some (Gw (some ⟨pb,po,none⟩) g.F8.length cp)/\w'.cell? ⟨pb,po+k*2,none⟩=some (GV GU u1')/\w'.cell? ⟨pb,po+k*2+1,none⟩=some (GV GU u2')/\w'.cell? ⟨xb,xo+pn*3,none⟩=some (G7 (ak z).neg)/\w'.cell? ⟨xb,xo+pn*3+1,none⟩=some (Gw A7 (ak z).num.length c7')/\w'.cell? ⟨xb,xo+pn*3+2,none⟩=some (Gw A8 (ak z).den.length c8')/\AP w' kb (aN g (p:Int))) aj ⟨u0,u1,u2,z1,z2,p0,p1,l0,l1,l2,AX⟩ (λhHeld=>?_);refine zaT ?_;intro hb;refine zci ?_;clear u0 u1 u2 z1 z2 p0 p1 l0 l1 l2 HUV HZV;intro u0 u1 u2 z1 z2 p0 p1 l0 l1 l2 HUV HZV;replace AX:=AX.below hb AX.lt;refine ZM ?_;clear hB;intro hB;clear hb;generalize wb.drew=wn at *;refine tkm [0,1,2,3,4,5,6,7,8,9,10,11,12,13,14] ?_;refine wpAnyH_take (i:=15) (v:=GV GU (pn:Int)) rfl aj aj aj (λ_ _ _ h=>h) (Or.inl ⟨by rfl,?_⟩) hHeld ?_
    ·intro wx hSx;have hlk:=nU (w:=wx) (b:=kb) (l:=aN g (p:Int)) (s:=(u1',u2')) (by simpa using hSx.2.2.2.2.2.2.2.2.2.2) HUM.o;unfold qg at hlk;rw[<-HPE.o] at hlk;clear hSx;go_simp
    refine Zb ?_;refine tkm [16,17] ?_;refine tk2 18 aj rfl λK hK=>?_
    go_simp;refine(kU wn _ _ z HZV.o (by have:=HZL.o; omega)).mono ?_;rintro e wn ⟨v9,rfl,hb,hu⟩;have HQV:=Ag (Ak.mono (G:=λ_=>True) hu (λb hb _=>trivial));obtain⟨A9,c9,B9,d9,rfl,-⟩:=hu.opened;clear hu;refine zci ?_;clear u0 u1 u2 z1 z2 p0 p1 l0 l1 l2 HUV HZV;intro u0 u1 u2 z1 z2 p0 p1 l0 l1 l2 HUV HZV;replace AX:=AX.below hb AX.lt;refine YQ ?_;clear hB hb;intro hB;clear hHeld;refine hK.out _ _ ⟨u0,u1,u2,z1,z2,p0,p1,l0,l1,l2,AX⟩ (λhHeld=>?_);clear hK K;refine Zb ?_;refine tk2 19 aj rfl λK hK=>?_
    go_simp;refine(uO wn (λ_=>True) _ _ acc z (HUV.o.mono (λ_ _ _=>trivial)) HQV.o hal2 (by have:=HZL.o; omega)).mono ?_;rintro e wn ⟨_,rfl,hb,rfl⟩;refine zci ?_;clear u0 u1 u2 z1 z2 p0 p1 l0 l1 l2 HUV HZV;intro u0 u1 u2 z1 z2 p0 p1 l0 l1 l2 HUV HZV;replace HQV:=Ag (HQV.o.below hb);replace AX:=AX.below hb AX.lt;refine YQ ?_;clear hB hb;intro hB;clear hHeld;refine hK.out _ _ ⟨u0,u1,u2,z1,z2,p0,p1,l0,l1,l2,AX⟩ (λhHeld=>?_);clear hK K;refine Zb ?_;refine tkm [20] ?_;refine Z8 ?_;clear hHeld;have hbz:=HBW.o.trans (hB.mono HBW.o.size);have Dk:=Ag (jc acc z);have CU:=Ag (amw (xs:=xs) HPP.o);obtain⟨od,hod⟩:=Gp (iR acc z);rw[<-hod] at Dk ⊢;clear hod u0 u1 u2 z1 z2 p0 p1 l0 l1 l2 AX;by_cases h0:od=0
    case neg =>
     have t2:(od != 0)=true:=by simp[h0]
     have hE:fe=false:=by
      rw[HFE.o];unfold pV;refine xW (k:=k+1) FI ?_;rw[lI,CU.o,<-HAE.o,HPN.o,HZ.o,<-D5.o,LJ (λe=>h0 (Dk.o.2 e))];exact Bool.and_false _
     subst hE;clear h0;go_wp2_with fail
     go_ret;exact⟨_,rfl,hbz,rfl⟩
    subst h0;have HF2:=Ag (show lI g (p:Int) xs (k+1)=true by
     rw[lI,HFT.o,CU.o,<-HAE.o,HPN.o,HZ.o,<-D5.o,LK (Dk.o.1 rfl)]; rfl)
    go_wp2_with fail
    go_roundw
    case rel=>exact⟨k+1,FI,by go_num,HF2.o,hbz⟩
    case measure=>exact zMs
   have t1:decide ((a:Int) < ac)=true:=by simp[hal]
   have HAL:=Ag (show(a:Int) < ac from hal);have hkm:=qK (g:=g) (a:=a) hlt HPP.o (by rw[HG0.o,<-HAC.o]; exact hal);obtain⟨kn,hkn⟩:=Gp (iP (aN g (p:Int)) ((k:Int),(a:Int)));have aiU:kn < xs.length:=by rw[hkn,HXL.o];exact lQ hkm
   have HKM:=Ag hkm; have HKN:=Ag hkn;obtain⟨z,hz⟩:=Gl aiU;have HZ:=Ag (show xs.getD kn 0=z by rw[GH,hz]; rfl);have HZL:=Ag (HX4.o z (Gx hz));obtain⟨xb2,xo2,c4',vzn,vzd,e4,_,_,l0,l1,l2,hln,hld⟩:=Gs.at HXW.o (k:=kn) (r:=ak z) (by rw[GY,hz]; rfl);rw[Gz] at e4;simp only[Value.slice.injEq,JD,Addr.mk.injEq,and_true,true_and] at e4;obtain⟨⟨rfl,rfl⟩,rfl⟩:=e4;have HZV:=Ag (show RtV wb (λb=>b < w.heap.size) (.agg #[G7 (ak z).neg,vzn,vzd]) z from Ak.make rfl hln hld);obtain⟨A7,c7',rfl,_,_⟩:=hln;obtain⟨A8,c8',rfl,_,_⟩:=hld;have HSU:=Ag (show nV g (p:Int) xs k (a+1)=acc+z by
    unfold nV;rw[jA,<-hkn,HZ.o,D5.o]; rfl)
   have hB:=GR wb.heap.size wb;have huw:w.heap.size<=ub:=FI;clear hal hkm hkn hz;go_wp2_with fail
   refine aP (λw'=>w'.cell? ⟨ub,0,none⟩=some (G7 (ay acc).neg)/\w'.cell? ⟨ub,1,none⟩=some (Gw A2 (ay acc).num.length c2)/\w'.cell? ⟨ub,2,none⟩=some (Gw B2 (ay acc).den.length d2)/\w'.cell? ⟨fb,5+p,none⟩=some (.map (some kb))/\w'.cell? ⟨xb,xo+kn*3,none⟩=some (G7 (ak z).neg)/\w'.cell? ⟨xb,xo+kn*3+1,none⟩=some (Gw A7 (ak z).num.length c7')/\w'.cell? ⟨xb,xo+kn*3+2,none⟩=some (Gw A8 (ak z).den.length c8')/\AP w' kb (aN g (p:Int))) 16 1 aj rfl aj ⟨u0,u1,u2,z1,l0,l1,l2,AX⟩ λhHeld=>?_
   refine Zo ?_;refine zaT ?_;intro hb;refine zcq ?_;clear u0 u1 u2 z1 l0 l1 l2 HST HUV HZV;intro u0 u1 u2 z1 l0 l1 l2 HST HUV HZV;replace AX:=AX.below hb AX.lt;refine ZM ?_;clear hB;intro hB;clear hb;generalize wb.drew=wn at *;refine tkm [0,1,2,3,4,5,6,7,8,9,10] ?_;refine wpAnyH_take (i:=11) (v:=GV GU (kn:Int)) rfl aj aj aj (λ_ _ _ h=>h) (Or.inl ⟨by rfl,?_⟩) hHeld ?_
   ·intro wx hSx;have hlk:=nU (w:=wx) (b:=kb) (l:=aN g (p:Int)) (s:=((k:Int),(a:Int))) (by simpa using hSx.2.2.2.2.2.2.2) HKM.o;unfold qg at hlk;rw[<-HKN.o] at hlk;clear hSx;go_simp
   refine Zb ?_;refine tkm [12,13] ?_;refine tk2 14 aj rfl λK hK=>?_
   go_simp;refine(kU wn _ _ z HZV.o (by have:=HZL.o; omega)).mono ?_;rintro e wn ⟨v9,rfl,hb,hu⟩;have HQV:=Ag (Ak.mono (G:=(λb=>True/\b≠ub)) hu (λb hb _=>⟨trivial,FI⟩));obtain⟨A9,c9,B9,d9,rfl,-⟩:=hu.opened;clear hu;refine zcq ?_;clear u0 u1 u2 z1 l0 l1 l2 HST HUV HZV;intro u0 u1 u2 z1 l0 l1 l2 HST HUV HZV;replace AX:=AX.below hb AX.lt;refine YQ ?_;clear hB hb;intro hB;clear hHeld;refine hK.out _ _ ⟨u0,u1,u2,z1,l0,l1,l2,AX⟩ (λhHeld=>?_);clear hK K;refine Zb ?_;have aoC:ub < wn.heap.size:=HST.o.lt;refine tk2 15 aj rfl λK hK=>?_
   go_simp;refine(acW wn _ _ _ acc z HUV.o HQV.o hal2 (by have:=HZL.o; omega)).mono ?_;rintro e wn ⟨v9,rfl,hb,hu⟩;obtain⟨sm,hsm⟩:=Gp (acc+z);rw[<-hsm] at hu;have D6:=Ag hsm;have HSV:=Ag (Ak.mono (G:=(λb=>True/\b≠ub)) hu (λb hb _=>hb.elim id λh=>⟨trivial,FI⟩));obtain⟨A10,c10,B10,d10,rfl,-⟩:=hu.opened;clear hu hsm;refine zcq ?_;clear u0 u1 u2 z1 l0 l1 l2 HST HUV HZV;intro u0 u1 u2 z1 l0 l1 l2 HST HUV HZV;replace HQV:=Ag (HQV.o.below hb);replace AX:=AX.below hb AX.lt;refine YQ ?_;clear hB hb;intro hB;clear hHeld;refine hK.out _ _ ⟨u0,u1,u2,z1,l0,l1,l2,AX⟩ (λhHeld=>?_);refine zab ?_;clear hK K hHeld;intro f0 f1 f2 Wz hWz hst2;have HWZ:=Ag hWz;have Cm:=Ag hst2;clear hWz hst2;go_wp2
   refine zbP ?_;clear f0 f1 f2 u0 u1 u2 z1 l0 l1 l2;go_wp2
   go_roundw
   case rel=>exact⟨a+1,sm,_,_,_,_,by have:=HAL.o; omega,by go_num,by rw[HSU.o,D6.o],Cm.o⟩
   case measure=>have:=HAL.o; simp[intOf]; omega
theorem check_any (w:GK) (B:Nat) (F Fx Fy:Gq) (g:Gm) (fb:Nat) (vn vi vp:GN) (V M:Nat->GN) (vx vy:GN) (xr yr:List Raw) (h:BZ w B F g fb vn vi vp V M) (hsm:Small g) (hf:aQ g=0) (hx:Gs w Fx vx xr) (hy:Gs w Fy vy yr) (hfx:Bc xr) (hfy:Bc yr) (hx4:Bf xr) (hy4:Bf yr) (hT:BF w) :
  Calls GI 33 #[.pointer (some ⟨fb,0,none⟩),vx,vy] w (Ret w λv _=>v = GV GU (qh g xr yr)):=by
 have HSM:=Ag hsm;have HFO:=Ag hf;have HX4:=Ag hx4;have HY4:=Ag hy4;have HT:=Ag hT;have HFX:=Ag hfx.2;have HFY:=Ag hfy.2;have hxl:=hfx.1;have hyl:=hfy.1;have HFA:=Ag h;have hfl:=h.row.lt;obtain⟨A0,c0,e0⟩:=((h.ad4 0 FI).list).open;obtain⟨A1,c1,e1⟩:=((h.ad4 1 FI).list).open;have y3:=h.row.cell (mJ (p:=0) FI);have y4:=h.row.cell (mJ (p:=1) FI);rw[e0] at y3;rw[e1] at y4;obtain⟨n0,hn0⟩:=Gp ((aN g ((0:Nat):Int)).length);obtain⟨n1,hn1⟩:=Gp ((aN g ((1:Nat):Int)).length);rw[<-hn0] at y3;rw[<-hn1] at y4;have HN0:=Ag (show n0=(aN g 0).length from hn0);have HN1:=Ag (show n1=(aN g 1).length from hn1);have HX:=Ag (IX (G:=λ_=>True) hx (λb _ hl=>trivial) (GZ _ _));have HY:=Ag (IX (G:=λ_=>True) hy (λb _ hl=>trivial) (GZ _ _));obtain⟨Ax,cx,rfl,_,_⟩:=hx;obtain⟨Ay,cy,rfl,_,_⟩:=hy;have HV:=Ag (show qh g xr yr=if xr.length≠n0\/yr.length≠n1 then 3 else if gG xr≠0 then gG xr else if gG yr≠0 then gG yr else if pV g 0 (xr.map gK)=false then 14 else if pV g 1 (yr.map gK)=false then 14 else 0 by rw[hn0,hn1]; rfl);obtain⟨ve,hve⟩:=Gp (qh g xr yr);rw[<-hve] at HV ⊢;clear hsm hf hx4 hy4 hT hfx hfy h e0 e1 hn0 hn1 hve;go_in
 by_cases h0:xr.length=n0
 case neg =>
  have t0:((xr.length:Int) != (n0:Int))=true:=aB;have hE:ve=3:=by rw[HV.o,LH (.inl h0)]
  subst hE;clear h0;go_wp2_with fail
  go_ret;exact⟨_,rfl,GR _ _,rfl⟩
 have t0:((xr.length:Int) != (n0:Int))=false:=aB;have HXN:=Ag h0;clear h0;by_cases h1:yr.length=n1
 case neg =>
  have t1:((yr.length:Int) != (n1:Int))=true:=aB;have hE:ve=3:=by rw[HV.o,LH (.inr h1)]
  subst hE;clear h1;go_wp2_with fail
  go_ret;exact⟨_,rfl,GR _ _,rfl⟩
 have t1:((yr.length:Int) != (n1:Int))=false:=aB;have HYN:=Ag h1;replace HV:=Ag (HV.o.trans (LG (by rw[HXN.o,HYN.o]; simp)));clear h1;go_upto_region 4 with(fail)
 generalize hW1:G5 _ _=W1;obtain⟨rr,hB1,hz1⟩:=aI hW1;obtain⟨rb,hrb⟩:=Gp w.heap.size;rw[<-hrb] at rr ⊢;have HRR:=Ag rr;have HB1:=Ag hB1;have hrl:=rr.lt;have aoK:=hB1.size;clear hW1 rr hB1 hz1 hrb y3 y4 t0 t1;go_wp2_with fail
 go_loopw [36] (λiv wr=>∃ k:Nat,k<=2/\iv = GV GU (k:Int)/\(1<=k->gG xr=0)/\(2<=k->gG yr=0)/\Below W1.heap.size W1 wr) (λiv _=>2 - (intOf iv).toNat)
 case atStart=>exact⟨0,FI,rfl,λh=>by omega,λh=>by omega,GR _ _⟩
 case round =>
  obtain⟨k,hk,rfl,hk1,hk2,hbel⟩:=hrel;obtain⟨wa,rfl⟩:=Gp wr;have HBA:=Ag (HB1.o.trans (hbel.mono aoK));have hrr:=HRR.o.below hbel hrl;have r0:=hrr.cell (i:=0) rfl;have r1:=hrr.cell (i:=1) rfl;have HK1:=Ag hk1;have HK2:=Ag hk2;have haz:=HBA.o.size;clear hk1 hk2 hrr;by_cases hlt:k < 2
  case neg =>
   obtain rfl:k=2:=FI;obtain⟨xs,rfl,_⟩:=su (HK1.o FI);obtain⟨ys,rfl,_⟩:=su (HK2.o FI);replace HV:=Ag ((HV.o.trans (LG (λh=>h (HK1.o FI)))).trans (LG (λh=>h (HK2.o FI))));rw[eU,eU] at HV;refine zdh ?_;intro HXR HYR;have HFW:=Ag (HFA.o.below HBA.o);have hxw:=Iy HX.o (GL HBA.o _);have hyw:=Iy HY.o (GL HBA.o _);have amz:=fits_any wa B F (λ_=>True) g fb 0 vn vi vp V M _ xs HFW.o FI HSM.o HFO.o hxw (by have h1:=HXN.o; have h2:=HN0.o; rw[Gz] at h1; exact h1.trans h2) HXR.o;rw[Gz] at amz ⊢;rw[Gz];clear r0 r1;go_wp2_with fail
   refine amz.mono ?_;rintro e w2 ⟨_,rfl,hb,rfl⟩;have HBB:=Ag (HBA.o.trans (hb.mono haz));replace HFW:=Ag (HFW.o.below hb);have hyw2:=Iy hyw (GL hb _);have amA:=fits_any w2 B F (λ_=>True) g fb 1 vn vi vp V M _ ys HFW.o FI HSM.o HFO.o hyw2 (by have h1:=HYN.o; have h2:=HN1.o; rw[Gz] at h1; exact h1.trans h2) HYR.o;rw[Gz] at amA;have hbz:=HBB.o.size;clear amz hxw hyw hyw2 hb;dsimp only;cases hf0:pV g ((0:Nat):Int) xs
   case false =>
    have hE:ve=14:=by rw[HV.o,LH (by exact hf0)]
    subst hE;clear hf0;go_wp2_with fail
    go_ret;exact⟨_,rfl,HBB.o,rfl⟩
   replace HV:=Ag (HV.o.trans (LG (λh=>by rw[show pV g 0 xs=true from hf0] at h; cases h)));clear hf0;go_wp2_with fail
   refine amA.mono ?_;rintro e w3 ⟨_,rfl,hb,rfl⟩;have HBC:=Ag (HBB.o.trans (hb.mono hbz));clear amA hb;dsimp only;cases hf0:pV g ((1:Nat):Int) ys
   case false =>
    have hE:ve=14:=by rw[HV.o,LH (by exact hf0)]
    subst hE;clear hf0;go_wp2_with fail
    go_ret;exact⟨_,rfl,HBC.o,rfl⟩
   have hE:ve=0:=by rw[HV.o,LG (λh=>by rw[show pV g 1 ys=true from hf0] at h; cases h)]
   subst hE;clear hf0;go_wp2_with fail
   go_ret;exact⟨_,rfl,HBC.o,rfl⟩
  rcases (show k=0\/k=1 by omega) with rfl | rfl
  ·skip
   go_wp2_with fail
   clear r0 r1;go_loopw [42] (λjv wr=>∃ j:Nat,j<=xr.length/\jv = GV GU (j:Int)/\fZ ((xr.map rZ).take j)=0/\Below W1.heap.size W1 wr) (λjv _=>xr.length - (intOf jv).toNat)
   case atStart=>exact⟨0,Hg _,rfl,rfl,hbel⟩
   case round =>
    obtain⟨j,hj,rfl,hpre,hbl⟩:=hrel;obtain⟨wb,rfl⟩:=Gp wr;have CP:=Ag hpre;have HBB:=Ag (HB1.o.trans (hbl.mono aoK));have hbz:=HBB.o.size;clear hpre;by_cases hjl:j < xr.length
    case neg =>
     obtain rfl:j=xr.length:=FI;have HN:=Ag (show gG xr=0 by unfold gG; have h:=CP.o; rwa [G8 (by rw[Gz]; exact Gy _)] at h);go_wp2_with fail
     go_roundw
     case rel=>exact⟨1,FI,by go_num,λ_=>HN.o,λh=>by omega,hbl⟩
     case measure=>simp[intOf]
    obtain⟨r,hr⟩:=Gl hjl;have HR:=Ag hr;obtain⟨b,o,c',vn',vd,e,hF,agK,x0,x1,x2,hn,hd⟩:=Gs.at (Iy HX.o (GL HBB.o _)) hr;simp only[Value.slice.injEq,true_and] at e;obtain⟨rfl,rfl⟩:=e;have HRV:=Ag (show Ak wb (λ_=>True) (.agg #[G7 r.neg,vn',vd]) r from Ak.make rfl hn hd);obtain⟨An,cn,rfl,-,-⟩:=hn;obtain⟨Ad,cd,rfl,-,-⟩:=hd;obtain⟨hu,hn1,hd1⟩:=HFX.o r (Gx hr);have HU:=Ag hu;clear hr hF agK hu;go_upto_region 9 with(fail)
    refine zbM ?_;clear HRV x0 x1 x2;intro W5 rx HRV amB HB5 x0' x1' x2';go_wp2_with fail
    refine(qF W5 _ _ r HRV.o HU.o hn1 hd1 (HT.o.on HB5.o)).mono ?_;rintro e wc ⟨_,rfl,hb,rfl⟩;have hmap:(xr.map rZ)[j]? = some (rZ r):=by rw[GY,HR.o];rfl
    refine zbc ?_;intro CS re hre CU;replace x0':=ah x0' hb;replace x1':=ah x1' hb;replace x2':=ah x2' hb;have aoL:=amB.trans (hb.mono (by have:=amB.size; omega));have HB6:=Ag (HB5.o.trans (hb.mono (by have:=HB5.o.size; omega)));clear hmap hre hb rx;dsimp only;by_cases h0:re=0
    case neg =>
     have t0:(re != 0)=true:=by simp[h0]
     have zX:rZ r=re:=CU.o.trans (LH h0);have hv:ve=re:=by
      have e:gG xr=re:=by unfold gG;exact(jG CP.o CS.o (by rw[zX]; exact h0)).trans zX
      rw[HV.o,LH (by rw[e]; exact h0),e]
     subst hv;clear h0 x0' x1' x2';exact zcu
    subst h0;cases hneg:r.neg
    case true =>
     have zX:rZ r=2:=(CU.o.trans (LG au)).trans (LH hneg);have hv:ve=2:=by
      have e:gG xr=2:=by unfold gG;exact(jG CP.o CS.o (by rw[zX]; decide)).trans zX
      rw[HV.o,LH (by rw[e]; decide),e]
     subst hv;rw[hneg] at x0';clear hneg;exact zcu
    case false =>
     have zX:rZ r=0:=(CU.o.trans (LG au)).trans (LG (by rw[hneg]; decide));have HN:=Ag (jD CP.o (by rw[CS.o,zX]));rw[hneg] at x0';clear hneg;go_wp2_with fail
     go_roundw
     case rel =>
      (repeat apply Exists.intro)
      refine⟨⟨j+1,FI,by go_num,HN.o,aoL⟩,rfl⟩
     case measure=>exact zMs
  ·skip
   go_wp2_with fail
   clear r0 r1;go_loopw [42] (λjv wr=>∃ j:Nat,j<=yr.length/\jv = GV GU (j:Int)/\fZ ((yr.map rZ).take j)=0/\Below W1.heap.size W1 wr) (λjv _=>yr.length - (intOf jv).toNat)
   case atStart=>exact⟨0,Hg _,rfl,rfl,hbel⟩
   case round =>
    obtain⟨j,hj,rfl,hpre,hbl⟩:=hrel;obtain⟨wb,rfl⟩:=Gp wr;have CP:=Ag hpre;have HBB:=Ag (HB1.o.trans (hbl.mono aoK));have hbz:=HBB.o.size;clear hpre;by_cases hjl:j < yr.length
    case neg =>
     obtain rfl:j=yr.length:=FI;have HN:=Ag (show gG yr=0 by unfold gG; have h:=CP.o; rwa [G8 (by rw[Gz]; exact Gy _)] at h);go_wp2_with fail
     go_roundw
     case rel=>exact⟨2,FI,by go_num,λ_=>HK1.o FI,λ_=>HN.o,hbl⟩
     case measure=>simp[intOf]
    obtain⟨r,hr⟩:=Gl hjl;have HR:=Ag hr;obtain⟨b,o,c',vn',vd,e,hF,agK,x0,x1,x2,hn,hd⟩:=Gs.at (Iy HY.o (GL HBB.o _)) hr;simp only[Value.slice.injEq,true_and] at e;obtain⟨rfl,rfl⟩:=e;have HRV:=Ag (show Ak wb (λ_=>True) (.agg #[G7 r.neg,vn',vd]) r from Ak.make rfl hn hd);obtain⟨An,cn,rfl,-,-⟩:=hn;obtain⟨Ad,cd,rfl,-,-⟩:=hd;obtain⟨hu,hn1,hd1⟩:=HFY.o r (Gx hr);have HU:=Ag hu;clear hr hF agK hu;go_upto_region 9 with(fail)
    refine zbM ?_;clear HRV x0 x1 x2;intro W5 rx HRV amB HB5 x0' x1' x2';go_wp2_with fail
    refine(qF W5 _ _ r HRV.o HU.o hn1 hd1 (HT.o.on HB5.o)).mono ?_;rintro e wc ⟨_,rfl,hb,rfl⟩;have hmap:(yr.map rZ)[j]? = some (rZ r):=by rw[GY,HR.o];rfl
    refine zbc ?_;intro CS re hre CU;replace x0':=ah x0' hb;replace x1':=ah x1' hb;replace x2':=ah x2' hb;have aoL:=amB.trans (hb.mono (by have:=amB.size; omega));have HB6:=Ag (HB5.o.trans (hb.mono (by have:=HB5.o.size; omega)));clear hmap hre hb rx;dsimp only;by_cases h0:re=0
    case neg =>
     have t0:(re != 0)=true:=by simp[h0]
     have zX:rZ r=re:=CU.o.trans (LH h0);have hv:ve=re:=by
      have e:gG yr=re:=by unfold gG;exact(jG CP.o CS.o (by rw[zX]; exact h0)).trans zX
      rw[HV.o,LG (λh=>h (HK1.o FI)),LH (by rw[e]; exact h0),e]
     subst hv;clear h0 x0' x1' x2';exact zcu
    subst h0;cases hneg:r.neg
    case true =>
     have zX:rZ r=2:=(CU.o.trans (LG au)).trans (LH hneg);have hv:ve=2:=by
      have e:gG yr=2:=by unfold gG;exact(jG CP.o CS.o (by rw[zX]; decide)).trans zX
      rw[HV.o,LG (λh=>h (HK1.o FI)),LH (by rw[e]; decide),e]
     subst hv;rw[hneg] at x0';clear hneg;exact zcu
    case false =>
     have zX:rZ r=0:=(CU.o.trans (LG au)).trans (LG (by rw[hneg]; decide));have HN:=Ag (jD CP.o (by rw[CS.o,zX]));rw[hneg] at x0';clear hneg;go_wp2_with fail
     go_roundw
     case rel =>
      (repeat apply Exists.intro)
      refine⟨⟨j+1,FI,by go_num,HN.o,aoL⟩,rfl⟩
     case measure=>exact zMs
theorem OwnSl.shape {K:Knd α} {w:GK} {v:GN} {L:List α} (h:OwnSl K w base et F v L):∃ A c,v = Gw A L.length c:=by
 rcases h.row.2 with⟨e,h0⟩ | ⟨g,cap,cur,e,_⟩
 all_goals grind
structure CO (F:Gq) (mb B n:Nat) (done:List ((Int×Int)×Rat)) (vs:List GN) (ls:List (List RV)) (wr:GK):Prop where
 len:vs.length=n
 row:Row wr mb 28 vs
 grid:Grid wr B 42 F vs ls
 vals:∀ (i:Nat) (l:List RV),ls[i]? = some l->l.map RV.r=(doneRow done i).map ak
theorem CO.below {done:List ((Int×Int)×Rat)} {vs:List GN} {ls:List (List RV)} {w w':GK} (h:CO F mb B n done vs ls w) (hb:Below w.heap.size w w'):CO F mb B n done vs ls w' :=
 ⟨h.len,h.row.below hb h.row.lt,h.grid.below hb,h.vals⟩
theorem CO.own {done:List ((Int×Int)×Rat)} {vs:List GN} {ls:List (List RV)} {w:GK} (h:CO F mb B n done vs ls w):∀ u∈vs,∀ b,u.ownBlock=some b->B<=b:=by
 intro u hu b hb;obtain⟨i,hi⟩:=H9 hu;obtain⟨l,hl⟩:=Gl (l:=ls) (k:=i) (by rw[<-h.grid.len]; exact Gn hi);exact((h.grid.own i u l hi hl).row.lt b hb).1
theorem CO.step {done:List ((Int×Int)×Rat)} {vs:List GN} {ls:List (List RV)} {w wq:GK} (h:CO F mb B n done vs ls w) {a:Int} {x:Rat} {v v':GN} {l:List RV} {q:RV} (hv:vs[i]? = some v) (hl:ls[i]? = some l) (hq:ratK.fine w (BG F vs) q) (hqr:q.r=ak x)
  (hrow:wq.ownsRow B 42 3 v' (l ++ [q]).length ((l ++ [q]).flatMap RV.cells)) (hw:Wrote (λb=>v.ownBlock=some b) w wq) (hg:v'.ownBlock=some g) (hat:v.ownBlock=some g\/w.heap.size<=g) (hmb:mb < B) (hF:∀ b,F b->b < mb) {Wz:GK} (hWz:Wz=wq.setCell ⟨mb,i,none⟩ v') :
  CO F mb B n (done ++ [(((i:Int),a),x)]) (vs.set i v') (ls.set i (l ++ [q])) Wz/\Wrote (λb=>b=mb\/B<=b) w Wz:=by
 have hr1:Row wq mb 28 vs:=h.row.wrote hw (λe=>by have:=h.own v (Gx hv) mb e; omega);have hwz:Wrote (λb=>b=mb) wq Wz:=hWz▸KL (K:=λb=>b=mb) (p:=⟨mb,i,none⟩) (Ir _ _) (.inl rfl) _;refine⟨⟨by rw[Hy]; exact h.len,ste hWz hr1,?_,λj m hm=>?_⟩,?_⟩
 ·exact(h.grid.app hv hl hq hrow hw hg hat).wrote hwz (λb hb hf=>by have:=hF b hf; omega) (λb hb _=>by omega)
 ·by_cases e:j=i
  ·subst e;rw[Hq (Gn hl)] at hm;obtain rfl:=IE hm;rw[ahk,Hf,Hf,h.vals j l hl];grind
  ·rw[G6 (Ne.symm e)] at hm;rw[ad5 _ _ _ e];exact h.vals j m hm
 ·have h1:Wrote (λb=>b=mb\/B<=b) w wq:=⟨hw.os,hw.tape,hw.output,hw.size,λk hk hn=>hw.block k hk (λe=>hn (.inr (h.own v (Gx hv) k e)))⟩;exact h1.step hwz (λk _ e=>.inl e)
theorem aho (w:GK) (F Fx Fy:Gq) (vg vx vy:GN) (g:Gm) (xr yr:List Raw) (hg:AB w F vg g) (hsm:Small g) (hx:Gs w Fx vx xr) (hy:Gs w Fy vy yr) (hfx:Bc xr) (hfy:Bc yr) (hx4:Bf xr) (hy4:Bf yr) (hT:BF w) :
  Calls GI 10 #[vg,vx,vy] w (Ret w λv w'=>∃ t,v = .tuple #[t,GV GU (oU g xr yr)]/\Gt w' (λb=>w.heap.size<=b) t (iY g xr yr)):=by
 refine zdN ?_;intro HSM HFX HFY HX4 HY4;have HT:=Ag hT;have hni:=hsm.F8;have HG:=Ag hg;obtain⟨vn,vi,rfl,⟨A,c,rfl,hc,_⟩,⟨Ai,ci,rfl,hci,_⟩⟩:=hg;refine Yj ?_;intro HX HY;obtain⟨Ax,cx,rfl,_,_⟩:=hx;obtain⟨Ay,cy,rfl,_,_⟩:=hy;refine zbq ?_;intro HE HO;have HBE:=Ag (show lJ g xr yr=if fQ g≠0 then fQ g else qh g xr yr from rfl);obtain⟨oe,hoe⟩:=Gp (oU g xr yr);obtain⟨oo,hoo⟩:=Gp (iY g xr yr);obtain⟨be,hbe⟩:=Gp (lJ g xr yr);rw[<-hoe] at HE ⊢;rw[<-hoo] at HO ⊢;rw[<-hbe] at HE HO HBE;clear hsm hfx hfy hx4 hy4 hoe hoo hbe hT;go_in;go_wp2_with fail
 generalize hW:G5 _ _=W;obtain⟨rx,hB,hz⟩:=aI hW;clear hW hz;refine Yt ?_;clear HG HX HY;intro x0 x1 x2 HG HX HY;replace HT:=Ag (HT.o.on hB);go_wp2_with fail
 clear x0 x1 x2;refine(ahb W F _ g HG.o HSM.o).mono ?_;rintro e w1 ⟨_,rfl,hb,u',rfl,hu⟩;have hu:=hu.mono hB.size;obtain⟨a,rfl⟩:=hu.ptr;have HU:=Ag hu;obtain⟨fe,hfe⟩:=Gp (fQ g);have HLK:=Ag (show fQ g=0->aQ g=0/\g.aC=2/\lH g=0 from pU);rw[<-hfe] at HBE HU HLK ⊢;replace rx:=rx.below hb rx.lt;refine Zl ?_;clear hB HG HX HY;intro hB HG HX HY;replace HT:=Ag (HT.o.on hb);refine Zd ?_;intro x0 x1 x2;clear hfe hu hb;dsimp only;by_cases h0:fe=0
 case neg =>
  refine zaq ?_;intro t0 H0;clear h0;go_wp2_with fail
  go_ret2;have e0:=HBE.o;rw[LH H0.o] at e0;exact zby
 subst h0;obtain⟨hform,hpl2,hpar⟩:=HLK.o (by trivial);obtain⟨fb,vn,vi,vp,V,M,e,hfb,hfa⟩:=HU.o.2 rfl;obtain rfl:=Value.pointer.inj e;have HFA:=Ag hfa;have HFO:=Ag hform;have HP2:=Ag hpl2;have HPA:=Ag hpar;replace HBE:=Ag (HBE.o.trans (LG au));clear e hfa HU HLK hform hpl2 hpar;go_wp2_with fail
 clear x0 x1 x2;refine zcG ?_;rintro e w2 ⟨_,rfl,hb,rfl⟩;refine zdy ?_;intro HVE ve hve;rw[<-hve] at HBE HVE ⊢;replace HFA:=Ag (HFA.o.below hb);replace rx:=rx.below hb rx.lt;refine Zl ?_;clear hB HG HX HY;intro hB HG HX HY;replace HT:=Ag (HT.o.on hb);refine Zd ?_;intro x0 x1 x2;clear hve hb;dsimp only;by_cases h0:ve=0
 case neg =>
  have t0:(ve != 0)=true:=by simp[h0]
  have H0:=Ag h0;clear h0;go_wp2_with fail
  go_ret2;have e0:=HBE.o;exact zby
 subst h0;obtain⟨xs,ys,rfl,rfl,zY⟩:=HVE.o (by trivial);have HVO:=Ag zY;have HOK:=Ag (zY.plan HFO.o HP2.o);replace HE:=Ag (HE.o.trans (LG (by rw[HBE.o]; decide)));replace HO:=Ag (HO.o.trans (LG (by rw[HBE.o]; decide)));rw[eU,eU] at HE HO;rw[Gz] at HX HY ⊢;rw[Gz];have HSL:=Ag (λp=>show(aN g p).length<=1001 from by
  have h1:=dL (g:=g) (p:=p) (λi hi=>dJ HFO.o i hi) g.F8.length (Gy _);unfold aN; omega)
 have HRX:=Ag rx;have HB:=Ag hB;obtain⟨n,hn⟩:=Gp g.F8.length;have HN:=Ag hn;have hn100:n<=100:=FI;rw[<-hn] at HRX x2 ⊢;clear zY HBE HVE rx hB hn HFX HFY HX4 HY4;go_upto_region 8 with(at_make; refine fG _ rfl _ _ 27 rfl 28 (Gw none 0 0) 24 Tryz.underlying27 Tryz.infoRats rfl n rfl rfl FI FI ?_; intro w3 hb3 hz3 hr3)
 have HGO:=Ag (AB.keep (G:=λb=>b < w2.heap.size) HG.o (λb _ hl=>hl) (GZ _ _));have hxl:=HRX.o.lt;obtain⟨mb,hmb⟩:=Gp w2.heap.size;rw[<-hmb] at hr3 HGO hxl ⊢;have hmw:w.heap.size<=mb:=by have:=HB.o.size;omega
 have hz3l:mb < w3.heap.size:=hr3.lt;clear hz3;go_upto_region 9 with(fail)
 generalize hW4:G5 _ _=W4;obtain⟨rr,hB4,hz4⟩:=aI hW4;obtain⟨rb,hrb⟩:=Gp w3.heap.size;rw[<-hrb] at rr ⊢;have hb34:=hb3.trans (hB4.mono hb3.size);have hmb4:mb < W4.heap.size:=by have:=hB4.size;omega
 have hst:CO (λb=>b < w.heap.size) mb W4.heap.size n [] (GX n (Gw none 0 0)) (GX n []) W4:=⟨Io,hr3.below hB4 hr3.lt,Grid.nils _ _ _ _ _,λi l hl=>by
  rw[(List.mem_replicate.1 (Gx hl)).2]; rfl⟩
 have HST:=Ag hst;have HRR:=Ag rr;replace HG:=Ag (HG.o.on (GL hb34 F));replace HX:=Ag (Iy HX.o (GL hb34 _));replace HY:=Ag (Iy HY.o (GL hb34 _));replace HT:=Ag (HT.o.on hb34);have HFAR:=Ag ((HFA.o.row).below hb34 HFA.o.row.lt);have HS:=Ag (λp hp=>AA.keep (G:=λb=>b < mb) (HFA.o.ad4 p hp).list (λb _ hl=>by omega) (GL hb34 _));have hfl:=HFA.o.row.lt;have hfm:fb < mb:=FI;replace HRX:=Ag (HRX.o.below hb34 HRX.o.lt);replace HB:=Ag (HB.o.trans (hb34.mono HB.o.size));replace HGO:=Ag (HGO.o.on (GL hb34 _));have hrl:=rr.lt;have hrm:mb < rb:=FI;clear hW4 hB4 hz4 hrb hst hmb hb3 hr3 hb34 x0 x1 x2 rr;go_wp2_with fail
 go_loopw [38] (λiv wr=>∃ (k:Nat) (vs:List GN) (ls:List (List RV)),k<=2/\iv = GV GU (k:Int)/\CO (λb=>b < w.heap.size) mb W4.heap.size n ((if 1<=k then jX g 0 xs else [])++(if 2<=k then jX g 1 ys else [])) vs ls wr/\Wrote (λb=>b=mb\/W4.heap.size<=b) W4 wr) (λiv _=>2 - (intOf iv).toNat)
 case atStart=>exact⟨0,_,_,FI,rfl,HST.o,Ir _ _⟩
 case round =>
  clear HST;obtain⟨k,vs,ls,hk,rfl,hst,hwr⟩:=hrel;obtain⟨wa,rfl⟩:=Gp wr;have HST:=Ag hst;have HWR:=Ag hwr;clear hst;by_cases hlt:k < 2
  case neg =>
   obtain rfl:k=2:=FI;have hx:=HRX.o.wrote hwr FI;have x0:=hx.cell (i:=0) rfl;have x1:=hx.cell (i:=1) rfl;have x2:=hx.cell (i:=2) rfl;have hst:=HST.o;have amC:ls.length=n:=by rw[<-hst.grid.len,hst.len]
   have hls:ls.map (Iq RV.r)=(kN g xs ys).map (Iq ak):=by
    refine IW λi=>?_
    refine zd3 ?_;by_cases hi:i < n
    ·obtain⟨l,hl⟩:=Gl (l:=ls) (k:=i) FI;rw[hl,uY (by rw[<-HN.o]; exact hi),Option.map_some,Option.map_some,hst.vals i l hl];have e:=ahm HVO.o HFO.o HP2.o (i:=i) (by rw[<-HN.o]; exact hi);rw[<-e];rfl
    ·rw[Ij FI,Ij (by rw[qR,<-HN.o]; omega)];rfl
   have hrows:=(hst.grid.done (G:=λ_=>True) (λ_ _=>trivial)).rows (G:=λ_=>True) hst.row trivial (λ_ _=>trivial) (c:=n) (by rw[Gz]; omega);rw[hls,Gz,qR,<-HN.o] at hrows;have HR:=Ag (show Ba wa (λ_=>True) (Gw (some ⟨mb,0,none⟩) n n) (kN g xs ys) from hrows);have HGA:=Ag (HGO.o.on (hwr.same (λb hb e=>by omega)));have HTA:=Ag (HT.o.wr hwr (λe=>by have:=HT.o.lt; omega));have HBB:=Ag (Ht HB.o hwr (λb hb=>by omega) HB.o.size);clear hx hst amC hls hrows hwr;go_wp2_with fail
   have hpb:=ag7 wa (λ_=>True) _ _ g (kN g xs ys) (HGA.o.keep (λ_ _ _=>trivial) (GZ _ _)) HSM.o HFO.o HPA.o HR.o HTA.o HOK.o;rw[<-HN.o] at hpb;refine hpb.mono ?_;rintro e w3 ⟨_,rfl,hb,t,rfl,ht⟩;rw[<-HE.o];rw[<-HO.o] at ht;have HBZ:=Ag (HBB.o.trans (hb.mono HBB.o.size));have HT3:=Ag (JK (G:=λb=>w.heap.size<=b) ht (λb hb _=>by have:=HBB.o.size; omega) (GZ _ _));obtain⟨At,ct,e,_,_⟩:=ht;subst e;clear x0 x1 x2 hb hpb;dsimp only;go_wp2_with fail
   go_ret2;exact⟨_,rfl,HBZ.o,_,rfl,HT3.o⟩
  have hrr:=HRR.o.wrote hwr FI;have r0:=hrr.cell (i:=0) rfl;have r1:=hrr.cell (i:=1) rfl;have hfr:=HFAR.o.wrote hwr FI;rcases (show k=0\/k=1 by omega) with rfl | rfl
  ·skip
   have y0:=hfr.cell (mJ (p:=0) FI);have hls:=HS.o 0 FI;obtain⟨Al,cl,hvl⟩:=hls.open;rw[hvl] at y0 hls;obtain⟨m,hm⟩:=Gp ((aN g ((0:Nat):Int)).length);rw[<-hm] at y0 hls;have HLS:=Ag hls;have HM:=Ag hm;have hm1:m<=1001:=by rw[hm];exact HSL.o _
   have hml:m=xs.length:=by rw[hm];exact HVO.o.xl.symm
   have HML:=Ag hml;clear hvl hm hls hrr hfr hwr hml;go_wp2_with fail
   have amD:CO (λb=>b < w.heap.size) mb W4.heap.size n (([]:List ((Int×Int)×Rat))++(jX g 0 xs).take 0) vs ls wa:=by have h:=HST.o;simpa using h
   have EW:=Ag amD;clear amD HST r0 r1 y0;go_loopw [50] (λjv wr=>∃ (j:Nat) (vs:List GN) (ls:List (List RV)),j<=m/\jv = GV GU (j:Int)/\CO (λb=>b < w.heap.size) mb W4.heap.size n (([]:List ((Int×Int)×Rat))++(jX g 0 xs).take j) vs ls wr/\Wrote (λb=>b=mb\/W4.heap.size<=b) W4 wr) (λjv _=>m - (intOf jv).toNat)
   case atStart=>exact⟨0,vs,ls,Hg _,rfl,EW.o,HWR.o⟩
   case round =>
    clear EW HWR vs ls;obtain⟨j,vs,ls,hj,rfl,hst,hwr⟩:=hrel;obtain⟨wb,rfl⟩:=Gp wr;have HST:=Ag hst;have HWR:=Ag hwr;have hwz:=hwr.size;clear hst;by_cases hjl:j < m
    case neg =>
     obtain rfl:j=m:=FI;have Cm:=Ag (show CO (λb=>b < w.heap.size) mb W4.heap.size n ((if 1<=0+1 then jX g 0 xs else [])++(if 2<=0+1 then jX g 1 ys else [])) vs ls wb by
      have h:=HST.o;rw[G8 (by rw[aaV HVO.o.xl,HM.o]; exact Gy _)] at h;simpa using h)
     clear hwr;go_wp2_with fail
     go_roundw
     case rel=>exact⟨0+1,vs,ls,FI,by go_num,Cm.o,HWR.o⟩
     case measure=>simp[intOf]
    obtain⟨s,hs⟩:=Gl (l:=aN g ((0:Nat):Int)) (k:=j) (by rw[<-HM.o]; exact hjl);have hsel:=HLS.o.on (hwr.same (λb hb e=>by omega));obtain⟨sb,so,rfl⟩:∃ sb so,Al=some ⟨sb,so,none⟩:=by
     exact YR
    obtain⟨s0,s1⟩:=hsel.at2 hs;obtain⟨z,hz⟩:=Gl (l:=xs) (k:=j) (by rw[<-HML.o]; exact hjl);have HSN:=Ag (show(([]:List ((Int×Int)×Rat))++(jX g 0 xs).take (j+1))=(([]:List ((Int×Int)×Rat))++(jX g 0 xs).take j) ++ [(s,z)] by rw[Gv (ady (p:=0) hs hz),IU]);have hsc:=oO (Gx hs);have HSC:=Ag hsc;have HZ:=Ag hz;clear hs hsel hwr hsc hz;go_upto_region 14 with(fail)
    refine zaw ?_;clear HST HWR s0 s1;intro W6 nb rx q5 q6 HST HWR hB q7 x0 x1 tb htb heq;simp only[<-htb] at heq;refine YC ?_;clear htb x0 x1;intro HTB hHeld hb x0 x1;replace HST:=Ag (HST.o.below hb);replace rx:=rx.below hb rx.lt;replace q7:=He q7 hb.size;refine ZM ?_;clear hB;intro hB;clear hb;generalize W6.drew=wn at *;refine tkm [0] ?_;refine tk2 1 aj rfl λK hK=>?_
    go_simp;refine(aaO wn).mono ?_;rintro e wn ⟨_,rfl,hb,rfl⟩;replace x0:=ah x0 hb;replace x1:=ah x1 hb;replace HST:=Ag (HST.o.below hb);refine zbv ?_;clear rx q7 hB hb hHeld hK K;intro rx q7 hB hHeld K hK;go_simp;refine zbg ?_;clear hHeld hK K heq HWR;intro HWR;cases tb
    case true =>
     go_wp2_with fail
     go_roundw
     case rel =>
      have hs0:s=(-1,-1):=by
       exact zaj
      (repeat apply Exists.intro)
      have afN:CO (λb=>b < w.heap.size) mb W4.heap.size n (([]:List ((Int×Int)×Rat))++(jX g 0 xs).take (j+1)) vs ls wn:=by
       exact zc7
      exact⟨⟨j+1,FI,by go_num,⟨vs,ls,afN⟩,HWR.o⟩,rfl,rfl,rfl⟩
     case measure=>exact zMs
    have ahn:s≠(-1,-1):=by
     intro h;have h1:=HTB.o;rw[h] at h1;cases h1
    obtain⟨i,b,hi,_,_,rfl⟩:=HSC.o.resolve_left ahn;have hin:i < n:=by rw[HN.o];exact hi
    have hin2:i < vs.length:=by rw[HST.o.len];exact hin
    refine zds ?_;intro v hv l hl hown hvb hnv;obtain⟨Av,cv,rfl⟩:=hown.shape;have hlen:l.length<=2002:=by
     have h:=congrArg JB (HST.o.vals i l hl);rw[Gz,Gz] at h;have h2:(doneRow (([]:List ((Int×Int)×Rat))++(jX g 0 xs).take j) i).length<=(([]:List ((Int×Int)×Rat))++(jX g 0 xs).take j).length:=by unfold doneRow;rw[Gz];exact List.length_filter_le _ _
     rw[G9,Ik] at h2;have h3:(([]:List ((Int×Int)×Rat))).length<=1001:=aA;omega
    obtain⟨xb,xo,c4,vxn,vxd,e4,hF4,amy,l0,l1,l2,hln,hld⟩:=Gs.at (Iy HX.o (HWR.o.same (λb hb e=>by omega))) (k:=j) (r:=ak z) (by rw[GY,HZ.o]; rfl);rw[Gz] at e4;simp only[Value.slice.injEq,true_and] at e4;obtain⟨rfl,rfl⟩:=e4;obtain⟨q,hq⟩:∃ q:RV,q=⟨ak z,vxn,vxd⟩:=⟨_,rfl⟩;have hqn:ratK.fine wn (BG (λb=>b < w.heap.size) vs) q:=by rw[hq];exact RV.fine.keep (w:=wn) (F:=λb=>b < w.heap.size) ⟨hln,hld⟩ (λb hb _=>⟨hb,λu hu e=>by have:=HST.o.own u hu b e; omega⟩) (GZ _ _)
    have HQN:=Ag hqn;obtain⟨An,cn,rfl,-,-⟩:=hln;obtain⟨Ad,cd,rfl,-,-⟩:=hld;have HQR:=Ag (show q.r=ak z by rw[hq]);have HCC:=Ag (show(#[G7 (ak z).neg,Gw An (ak z).num.length cn,Gw Ad (ak z).den.length cd]:Array GN)=(ratK.cells q).toArray by rw[hq]; rfl);have hjx:j < xs.length:=by rw[<-HML.o];exact hjl
    have o0:=HST.o.row.cell hv;have HVI:=Ag hv;have HLI:=Ag hl;have hrxl:=rx.lt;have hmwn:mb < wn.heap.size:=HST.o.row.lt;have aoM:W4.heap.size<=wn.heap.size:=HWR.o.size;dsimp only at x0 x1;clear hq hqn hv hl hown hvb ahn;go_wp2_with fail
    refine Yh ?_;clear x0 o0 l0 l1 l2 HST rx;intro hHeld x0 o0 l0 l1 l2 HST rx hB;generalize wn.drew=wn at *;refine tkm [0,1,2,3,4,5,6,7,8,9,10,11] ?_;refine tk2 12 aj rfl λK hK=>?_
    go_simp;refine ZG ?_;clear hK K x0 o0 l0 l1 l2;intro g3 cap3 wq adB x0 o0 l0 l1 l2 FQ HWQ HAT HRQ hHeld;refine tkm [14] ?_;refine YH ?_;clear hHeld x0 l0 l1 l2;intro f0 Wz EX En HWZ;go_wp2
    refine zbP ?_;go_wp2
    go_roundw
    case rel =>
     (repeat apply Exists.intro)
     refine⟨⟨j+1,_,_,FI,by go_num,En.o,EX.o⟩,?_⟩;(repeat (first | exact rfl | refine⟨rfl,?_⟩))
    case measure=>exact zMs
  ·skip
   have y0:=hfr.cell (mJ (p:=1) FI);have hls:=HS.o 1 FI;obtain⟨Al,cl,hvl⟩:=hls.open;rw[hvl] at y0 hls;obtain⟨m,hm⟩:=Gp ((aN g ((1:Nat):Int)).length);rw[<-hm] at y0 hls;have HLS:=Ag hls;have HM:=Ag hm;have hm1:m<=1001:=by rw[hm];exact HSL.o _
   have hml:m=ys.length:=by rw[hm];exact HVO.o.yl.symm
   have HML:=Ag hml;clear hvl hm hls hrr hfr hwr hml;go_wp2_with fail
   have amD:CO (λb=>b < w.heap.size) mb W4.heap.size n (jX g 0 xs++(jX g 1 ys).take 0) vs ls wa:=by have h:=HST.o;simpa using h
   have EW:=Ag amD;clear amD HST r0 r1 y0;go_loopw [50] (λjv wr=>∃ (j:Nat) (vs:List GN) (ls:List (List RV)),j<=m/\jv = GV GU (j:Int)/\CO (λb=>b < w.heap.size) mb W4.heap.size n (jX g 0 xs++(jX g 1 ys).take j) vs ls wr/\Wrote (λb=>b=mb\/W4.heap.size<=b) W4 wr) (λjv _=>m - (intOf jv).toNat)
   case atStart=>exact⟨0,vs,ls,Hg _,rfl,EW.o,HWR.o⟩
   case round =>
    clear EW HWR vs ls;obtain⟨j,vs,ls,hj,rfl,hst,hwr⟩:=hrel;obtain⟨wb,rfl⟩:=Gp wr;have HST:=Ag hst;have HWR:=Ag hwr;have hwz:=hwr.size;clear hst;by_cases hjl:j < m
    case neg =>
     obtain rfl:j=m:=FI;have Cm:=Ag (show CO (λb=>b < w.heap.size) mb W4.heap.size n ((if 1<=1+1 then jX g 0 xs else [])++(if 2<=1+1 then jX g 1 ys else [])) vs ls wb by
      have h:=HST.o;rw[G8 (by rw[aaV HVO.o.yl,HM.o]; exact Gy _)] at h;simpa using h)
     clear hwr;go_wp2_with fail
     go_roundw
     case rel=>exact⟨1+1,vs,ls,FI,by go_num,Cm.o,HWR.o⟩
     case measure=>simp[intOf]
    obtain⟨s,hs⟩:=Gl (l:=aN g ((1:Nat):Int)) (k:=j) (by rw[<-HM.o]; exact hjl);have hsel:=HLS.o.on (hwr.same (λb hb e=>by omega));obtain⟨sb,so,rfl⟩:∃ sb so,Al=some ⟨sb,so,none⟩:=by
     exact YR
    obtain⟨s0,s1⟩:=hsel.at2 hs;obtain⟨z,hz⟩:=Gl (l:=ys) (k:=j) (by rw[<-HML.o]; exact hjl);have HSN:=Ag (show(jX g 0 xs++(jX g 1 ys).take (j+1))=(jX g 0 xs++(jX g 1 ys).take j) ++ [(s,z)] by rw[Gv (ady (p:=1) hs hz),IU]);have hsc:=oO (Gx hs);have HSC:=Ag hsc;have HZ:=Ag hz;clear hs hsel hwr hsc hz;go_upto_region 14 with(fail)
    refine zaw ?_;clear HST HWR s0 s1;intro W6 nb rx q5 q6 HST HWR hB q7 x0 x1 tb htb heq;simp only[<-htb] at heq;refine YC ?_;clear htb x0 x1;intro HTB hHeld hb x0 x1;replace HST:=Ag (HST.o.below hb);replace rx:=rx.below hb rx.lt;replace q7:=He q7 hb.size;refine ZM ?_;clear hB;intro hB;clear hb;generalize W6.drew=wn at *;refine tkm [0] ?_;refine tk2 1 aj rfl λK hK=>?_
    go_simp;refine(aaO wn).mono ?_;rintro e wn ⟨_,rfl,hb,rfl⟩;replace x0:=ah x0 hb;replace x1:=ah x1 hb;replace HST:=Ag (HST.o.below hb);refine zbv ?_;clear rx q7 hB hb hHeld hK K;intro rx q7 hB hHeld K hK;go_simp;refine zbg ?_;clear hHeld hK K heq HWR;intro HWR;cases tb
    case true =>
     go_wp2_with fail
     go_roundw
     case rel =>
      have hs0:s=(-1,-1):=by
       exact zaj
      (repeat apply Exists.intro)
      have afN:CO (λb=>b < w.heap.size) mb W4.heap.size n (jX g 0 xs++(jX g 1 ys).take (j+1)) vs ls wn:=by
       exact zc7
      exact⟨⟨j+1,FI,by go_num,⟨vs,ls,afN⟩,HWR.o⟩,rfl,rfl,rfl⟩
     case measure=>exact zMs
    have ahn:s≠(-1,-1):=by
     intro h;have h1:=HTB.o;rw[h] at h1;cases h1
    obtain⟨i,b,hi,_,_,rfl⟩:=HSC.o.resolve_left ahn;have hin:i < n:=by rw[HN.o];exact hi
    have hin2:i < vs.length:=by rw[HST.o.len];exact hin
    refine zds ?_;intro v hv l hl hown hvb hnv;obtain⟨Av,cv,rfl⟩:=hown.shape;have hlen:l.length<=2002:=by
     have h:=congrArg JB (HST.o.vals i l hl);rw[Gz,Gz] at h;have h2:(doneRow (jX g 0 xs++(jX g 1 ys).take j) i).length<=(jX g 0 xs++(jX g 1 ys).take j).length:=by unfold doneRow;rw[Gz];exact List.length_filter_le _ _
     rw[G9,Ik] at h2;have h3:(jX g 0 xs).length<=1001:=by rw[aaV HVO.o.xl];exact HSL.o 0
     omega
    obtain⟨xb,xo,c4,vxn,vxd,e4,hF4,amy,l0,l1,l2,hln,hld⟩:=Gs.at (Iy HY.o (HWR.o.same (λb hb e=>by omega))) (k:=j) (r:=ak z) (by rw[GY,HZ.o]; rfl);rw[Gz] at e4;simp only[Value.slice.injEq,true_and] at e4;obtain⟨rfl,rfl⟩:=e4;obtain⟨q,hq⟩:∃ q:RV,q=⟨ak z,vxn,vxd⟩:=⟨_,rfl⟩;have hqn:ratK.fine wn (BG (λb=>b < w.heap.size) vs) q:=by rw[hq];exact RV.fine.keep (w:=wn) (F:=λb=>b < w.heap.size) ⟨hln,hld⟩ (λb hb _=>⟨hb,λu hu e=>by have:=HST.o.own u hu b e; omega⟩) (GZ _ _)
    have HQN:=Ag hqn;obtain⟨An,cn,rfl,-,-⟩:=hln;obtain⟨Ad,cd,rfl,-,-⟩:=hld;have HQR:=Ag (show q.r=ak z by rw[hq]);have HCC:=Ag (show(#[G7 (ak z).neg,Gw An (ak z).num.length cn,Gw Ad (ak z).den.length cd]:Array GN)=(ratK.cells q).toArray by rw[hq]; rfl);have hjx:j < ys.length:=by rw[<-HML.o];exact hjl
    have o0:=HST.o.row.cell hv;have HVI:=Ag hv;have HLI:=Ag hl;have hrxl:=rx.lt;have hmwn:mb < wn.heap.size:=HST.o.row.lt;have aoM:W4.heap.size<=wn.heap.size:=HWR.o.size;dsimp only at x0 x1;clear hq hqn hv hl hown hvb ahn;go_wp2_with fail
    refine Yh ?_;clear x0 o0 l0 l1 l2 HST rx;intro hHeld x0 o0 l0 l1 l2 HST rx hB;generalize wn.drew=wn at *;refine tkm [0,1,2,3,4,5,6,7,8,9,10,11] ?_;refine tk2 12 aj rfl λK hK=>?_
    go_simp;refine ZG ?_;clear hK K x0 o0 l0 l1 l2;intro g3 cap3 wq adB x0 o0 l0 l1 l2 FQ HWQ HAT HRQ hHeld;refine tkm [14] ?_;refine YH ?_;clear hHeld x0 l0 l1 l2;intro f0 Wz EX En HWZ;go_wp2
    refine zbP ?_;go_wp2
    go_roundw
    case rel =>
     (repeat apply Exists.intro)
     refine⟨⟨j+1,_,_,FI,by go_num,En.o,EX.o⟩,?_⟩;(repeat (first | exact rfl | refine⟨rfl,?_⟩))
    case measure=>exact zMs
structure EV where
 a0:Int
 a1:Int
 q:RV
 pay:GN
 pl:List Int
def EV.cells (e:EV):List GN:=[GV GU e.a0,GV GU e.a1,G7 e.q.r.neg,e.q.vn,e.q.vd,e.pay]
def EV.fine (w:GK) (F:Gq) (e:EV):Prop:=e.q.fine w F/\AL w F e.pay e.pl
theorem EV.fine.keep {w w':GK} {G:Gq} {e:EV} (h:e.fine w F) (hFG:∀ b,F b->b < w.heap.size->G b) (hs:Same F w w'):e.fine w' G:=⟨h.1.keep hFG hs,h.2.keep hFG hs⟩
def adC:Knd EV where
 n:=6
 cells:=EV.cells
 fine:=EV.fine
 len _:=rfl
 pos:=au
 one h u hu:=by
  obtain⟨h1,⟨A,c,hv,_⟩⟩:=h;have h2:=ratK.one h1;simp only[EV.cells,List.mem_cons,List.not_mem_nil,or_false] at hu;rcases hu with rfl | rfl | rfl | rfl | rfl | rfl
  ·rfl
  ·rfl
  ·rfl
  ·exact h2 _ (by simp[ratK,RV.cells])
  ·exact h2 _ (by simp[ratK,RV.cells])
  ·rw[hv];rfl
 keep h hFG hs:=h.keep hFG hs
def ev0:EV:=⟨0,0,rv0,Gw none 0 0,[]⟩
theorem ahp (w:GK) (F:Gq):ev0.fine w F:=⟨agv w F,⟨none,0,rfl,Gy _,λh=>absurd h (by simp[ev0])⟩⟩
def Bg (cs:List GN) (N:Nat) (T:Nat->EV):Prop:=cs.length=N*6/\∀ c j,c < N->j < 6->cs[c*6+j]? = (T c).cells[j]?
def qm (T:Nat->EV) (d:Nat) (e:EV):Nat->EV:=λc=>if c=d then e else T c
theorem eP (T:Nat->EV) (d:Nat) (e:EV):qm T d e d=e:=LH rfl
theorem iK (T:Nat->EV) (e:EV) (h:c≠d):qm T d e c=T c:=LG h
theorem Bg.upd {cs cs':List GN} {T:Nat->EV} (h:Bg cs N T) (e:EV) (hl:cs'.length=cs.length) (h1:∀ j,j < 6->cs'[d*6+j]? = e.cells[j]?) (h2:∀ i,(∀ j,j < 6->i≠d*6+j)->cs'[i]? = cs[i]?):Bg cs' N (qm T d e):=by
 refine⟨by rw[hl]; exact h.1,λc j hc hj=>?_⟩;by_cases e1:c=d
 ·grind [eP]
 ·rw[iK _ _ e1,h2 _ (λj' hj'=>by omega)];exact h.2 c j hc hj
theorem Bg.lt {cs:List GN} {T:Nat->EV} (h:Bg cs N T) (hc:c < N) (hj:j < 6):c*6+j < cs.length:=by rw[h.1]; omega
theorem Bg.set1 {cs:List GN} {T:Nat->EV} (h:Bg cs N T) (hd:d < N) (hk:k < 6) (u:GN) (e:EV) (he:e.cells=(T d).cells.set k u):Bg (cs.set (d*6+k) u) N (qm T d e):=by
 refine h.upd e (by rw[Hy]) (λj hj=>?_) (λi hi=>G6 (λe=>hi k hk e.symm));rw[he];by_cases ej:j=k
 ·subst ej;rw[Hq (h.lt hd hj),Hq (by exact hj)]
 ·rw[G6 FI,G6 (Ne.symm ej)];exact h.2 d j hd hj
theorem Bg.set3 {cs:List GN} {T:Nat->EV} (h:Bg cs N T) (hd:d < N) (q:RV):Bg (((cs.set (d*6+2) (G7 q.r.neg)).set (d*6+3) q.vn).set (d*6+4) q.vd) N (qm T d { T d with q:=q }):=by
 refine h.upd _ aA (λj hj=>?_) (λi hi=>?_)
 ·have l2:=h.lt hd (j:=2) FI;have l3:=h.lt hd (j:=3) FI;have l4:=h.lt hd (j:=4) FI;have h0:=h.2 d j hd hj;rcases (show j=0\/j=1\/j=2\/j=3\/j=4\/j=5 by omega) with rfl | rfl | rfl | rfl | rfl | rfl
  ·refine zb2 ?_;rfl
  ·refine zb2 ?_;rfl
  ·rw[G6 FI,G6 FI,Hq l2];rfl
  ·rw[G6 FI,Hq (by simpa using l3)];rfl
  ·rw[Hq (by simpa using l4)];rfl
  ·refine zb2 ?_;rfl
 ·rw[G6 (λe=>hi 4 FI e.symm),G6 (λe=>hi 3 FI e.symm),G6 (λe=>hi 2 FI e.symm)]
def anP (cs:List GN) (d:Nat) (e:EV):List GN :=
 (((((cs.set (d*6) (GV GU e.a0)).set (d*6+1) (GV GU e.a1)).set (d*6+2) (G7 e.q.r.neg)).set (d*6+3) e.q.vn).set (d*6+4) e.q.vd).set (d*6+5) e.pay
theorem Bg.anP {cs:List GN} {T:Nat->EV} (h:Bg cs N T) (hd:d < N) (e:EV):Bg (anP cs d e) N (qm T d e):=by
 have l0:=h.lt hd (j:=0) FI;have l1:=h.lt hd (j:=1) FI;have l2:=h.lt hd (j:=2) FI;have l3:=h.lt hd (j:=3) FI;have l4:=h.lt hd (j:=4) FI;have l5:=h.lt hd (j:=5) FI;rw[Jb] at l0;unfold Go.Proofs.YtenaplhghbcjhaaGreatDoor.anP;refine h.upd e aA (λj hj=>?_) (λi hi=>?_)
 ·rcases (show j=0\/j=1\/j=2\/j=3\/j=4\/j=5 by omega) with rfl | rfl | rfl | rfl | rfl | rfl
  ·rw[G6 FI,G6 FI,G6 FI,G6 FI,G6 FI,Jb,Hq l0];rfl
  ·rw[G6 FI,G6 FI,G6 FI,G6 FI,Hq (by simpa using l1)];rfl
  ·rw[G6 FI,G6 FI,G6 FI,Hq (by simpa using l2)];rfl
  ·rw[G6 FI,G6 FI,Hq (by simpa using l3)];rfl
  ·rw[G6 FI,Hq (by simpa using l4)];rfl
  ·rw[Hq (by simpa using l5)];rfl
 ·have h0:=hi 0 FI;rw[Jb] at h0;rw[G6 (λe=>hi 5 FI e.symm),G6 (λe=>hi 4 FI e.symm),G6 (λe=>hi 3 FI e.symm),G6 (λe=>hi 2 FI e.symm),G6 (λe=>hi 1 FI e.symm),G6 (λe=>h0 e.symm)]
def Cb (g:Gm) (i j:Nat) (T:Nat->EV):Prop:=∀ c,c < g.F7.length->(c=0\/(∃ (q:Nat) (n:Nd),q < i/\g.F7[q]? = some n/\(c:Int)∈n.next)\/(∃ (n:Nd) (k:Nat),g.F7[i]? = some n/\k < j/\n.next[k]? = some (c:Int))) ->
 (T c).a0=(atS g 0 c:Int)/\(T c).a1=(atS g 1 c:Int)/\(T c).q.r=ay (eX chB g.F7 [] c)
theorem Cb.start {g:Gm} (hf:aQ g=0) {T:Nat->EV} (h0:(T 0).a0=0) (h1:(T 0).a1=0) (h2:(T 0).q.r=ay 1):Cb g 0 0 T:=by
 intro c hc hq;grind [amq,wX]
theorem Cb.next {g:Gm} {n:Nd} {T:Nat->EV} (h:Cb g i n.next.length T) (hn:g.F7[i]? = some n):Cb g (i+1) 0 T:=by
 intro c hc hq;refine h c hc ?_;grind [H9]
theorem Cb.self {g:Gm} (hg:Good g) {T:Nat->EV} (h:Cb g i j T) (hi:i < g.F7.length):(T i).a0=(atS g 0 i:Int)/\(T i).a1=(atS g 1 i:Int)/\(T i).q.r=ay (eX chB g.F7 [] i):=by
 refine h i hi ?_;by_cases h0:i=0
 ·exact .inl h0
 ·obtain⟨q,n,h1,h2,h3⟩:=lX hg FI hi;grind
theorem Cb.same {g:Gm} {T T':Nat->EV} (h:Cb g i j T) (he:∀ c,(T' c).a0=(T c).a0/\(T' c).a1=(T c).a1/\(T' c).q=(T c).q):Cb g i j T':=by
 intro c hc hq;obtain⟨h1,h2,h3⟩:=h c hc hq;grind
theorem Cb.kid {g:Gm} (hg:Good g) {n:Nd} {T T':Nat->EV} (h:Cb g i j T) (hn:g.F7[i]? = some n) (hd:n.next[j]? = some (d:Int)) (h1:∀ c,c≠d->T' c=T c)
  (h2:(T' d).a0=(atS g 0 d:Int)/\(T' d).a1=(atS g 1 d:Int)/\(T' d).q.r=ay (eX chB g.F7 [] d)):Cb g i (j+1) T':=by
 intro c hc hq;by_cases e:c=d
 ·grind
 ·rw[h1 c e];refine h c hc ?_;grind
def endIdx (g:Gm):Nat->List Nat
 | 0=>[]
 | k+1=>if (g.F7.getD k default).kind=3 then endIdx g k ++ [k] else endIdx g k
theorem vX (g:Gm):∀ k,(endIdx g k).length<=k
 | 0=>Gy _
 | k+1=>by
  have:=vX g k;rw[endIdx];split
  ·rw[G9]; simp; omega
  ·omega
theorem vY {g:Gm} {c:Nat}:∀ {k:Nat},c∈endIdx g k->c < k/\(g.F7.getD c default).kind=3
 | 0,h=>by cases h
 | k+1,h=>by
  rw[endIdx] at h;split at h
  ·rename_i h3
   rcases List.mem_append.1 h with h | h
   ·have:=vY h; exact⟨FI,this.2⟩
   ·rw[List.mem_singleton.1 h]; exact⟨FI,h3⟩
  ·have:=vY h; exact⟨FI,this.2⟩
theorem ahq {g:Gm} (f:Nat->Rat):∀ k,k<=g.F7.length->jm ((endIdx g k).map f)=iI g f k
 | 0,_=>rfl
 | k+1,hk=>by
  have ih:=ahq (g:=g) f k FI;obtain⟨n,hn⟩:=Gl (l:=g.F7) (k:=k) FI;rw[endIdx,GH,hn,Jt];by_cases h3:n.kind=3
  ·rw[LH h3,Hf,Ju,List.map_nil,oG,ih,kM hn h3]
  ·rw[LG h3,ih,jL hn h3]
theorem Tryz.infoEnd:(Tryz.prog.info? 94).map (λi=>(i.zero,i.size,i.bytes))=some (some (.agg #[GV GU 0,GV GU 0,G7 false,Gw none 0 0,Gw none 0 0,Gw none 0 0]),adC.n,96):=aj
theorem amG (zs:Array GN) (n:Nat) (hk:k < n) (hj:j < zs.size):(madeCells zs (n*zs.size)).toList[k*zs.size+j]? = zs.toList[j]?:=by
 have hlt:k*zs.size+j < n*zs.size:=by
   have h:(k+1)*zs.size<=n*zs.size:=Nat.mul_le_mul_right _ hk;grind
 have hm:(k*zs.size+j) % zs.size=j:=by rw[Nat.mul_comm,Nat.mul_add_mod,Nat.mod_eq_of_lt hj]
 rw[Array.getElem?_toList];unfold madeCells;grind
theorem akV {P:Program} (w:GK) {a:Act} {Q:Exit->Act->GK->Prop}
  (hg:o.guard=none) (l c:Operand) (t:TypeId) (hop:o.op=Op.makeSlice t l c)
  (e:TypeId) (z:GN) (m bytes:Nat) (ht:P.underlying t=some (.slice e)) (hinfo:(P.info? e).map (λi=>(i.zero,i.size,i.bytes))=some (some z,m,bytes)) (hby:bytes<=1000)
  (n:Nat) (hl:a.eval l = GV GU (n:Int)) (hc:a.eval c = GV GU (n:Int)) (hn:n<=1000000)
  (hK:∀ w1,Below w.heap.size w w1->w1.heap.size=w.heap.size+1->Row w1 w.heap.size e (madeCells z.cells (n*m)).toList ->
   wpList P ops Q rest (a.put o.dst (Gw (some ⟨w.heap.size,0,none⟩) n n)) w1) :
  wpList P ops Q (o :: rest) a w:=by
 refine wpList_plain hg λK hK'=>?_
 obtain⟨i,hi,hzz⟩:=Option.map_eq_some_iff.1 hinfo;simp only[Prod.mk.injEq] at hzz;obtain⟨hz0,hs,hb⟩:=hzz;have hb':(i.bytes:Int)*(n:Int)<=281474976710656:=by
  have h:((i.bytes*n:Nat):Int)<=281474976710656:=by
   exact zc3
  rwa [Int.natCast_mul] at h
 have hr:=run_make (P:=P) w t e i _ ht hi hz0 .i64 .i64 n n FI (Int.le_refl _) hb' FI;simp only[Int.toNat_natCast,hs] at hr;have hrow:=Row.new w e (madeCells z.cells (n*m));exact zcI
theorem Bg.made (N:Nat):Bg (madeCells (Value.agg #[GV GU 0,GV GU 0,G7 false,Gw none 0 0,Gw none 0 0,Gw none 0 0]).cells (N*adC.n)).toList N (λ_=>ev0):=by
 refine⟨by simp[madeCells,adC],λc j hc hj=>?_⟩;exact amG #[GV GU 0,GV GU 0,G7 false,Gw none 0 0,Gw none 0 0,Gw none 0 0] N hc hj
theorem OwnSl.aoN {K:Knd α} {w:GK} {b':Nat} {v:GN} {L:List α} (h:OwnSl K w b et F v L) (hb:b'<=b):OwnSl K w b' et F v L :=
 ⟨⟨h.row.1,h.row.2.imp id (λ⟨g,cap,cur,e,hg,r⟩=>⟨g,cap,cur,e,He hb hg,r⟩)⟩,h.fine⟩
def BM (g:Gm) (i:Nat) (L:List EV):Prop:=L.length=(endIdx g i).length/\∀ (k c:Nat),(endIdx g i)[k]? = some c->∃ e,L[k]? = some e/\e.a0=(atS g 0 c:Int)/\e.a1=(atS g 1 c:Int)/\e.q.r=ay (eX chB g.F7 [] c)/\e.pl=(g.F7.getD c default).pay
theorem BM.other {g:Gm} {L:List EV} (h:BM g i L) (hk:(g.F7.getD i default).kind≠3):BM g (i+1) L:=by grind [BM,endIdx]
theorem BM.snoc {g:Gm} {L:List EV} (h:BM g i L) (hk:(g.F7.getD i default).kind=3) {e:EV} (h0:e.a0=(atS g 0 i:Int)) (h1:e.a1=(atS g 1 i:Int)) (h2:e.q.r=ay (eX chB g.F7 [] i)) (h3:e.pl=(g.F7.getD i default).pay):BM g (i+1) (L ++ [e]):=by grind [BM,endIdx]
structure BJ (N bl B:Nat) (T:Nat->EV) (v:GN) (L:List EV) (wr:GK):Prop where
 tab:∃ cs,Bg cs N T/\Row wr bl 94 cs
 fine:∀ c,c < N->(T c).fine wr (λb=>b≠bl/\v.ownBlock≠some b)
 own:OwnSl adC wr B 94 (λb=>b≠bl) v L
section
variable {N bl B:Nat} {T:Nat->EV} {v:GN} {L:List EV} {wr w':GK}
theorem BJ.below (h:BJ N bl B T v L wr) (hb:Below wr.heap.size wr w'):BJ N bl B T v L w':=by
 obtain⟨cs,h1,h2⟩:=h.tab;exact⟨⟨cs,h1,h2.below hb h2.lt⟩,λc hc=>(h.fine c hc).keep (λ_ h _=>h) (GL hb _),h.own.below hb⟩
theorem BJ.cell (h:BJ N bl B T v L wr) (hc:c < N) (hj:j < 6) {u:GN} (hu:(T c).cells[j]? = some u):wr.cell? ⟨bl,c*6+j,none⟩=some u:=by
 obtain⟨cs,h1,h2⟩:=h.tab;exact h2.cell ((h1.2 c j hc hj).trans hu)
theorem BJ.frozen (h:BJ N bl B T v L wr) (i:Nat):wr.frozen? ⟨bl,i,none⟩=false:=by
 obtain⟨cs,_,h2⟩:=h.tab;exact h2.frozen i
theorem BJ.write (h:BJ N bl B T v L wr) {e:EV} (hw:Wrote (λb=>b=bl) wr w') (hbB:bl < B) (ht:∀ cs,Bg cs N T->Row wr bl 94 cs->∃ cs',Bg cs' N (qm T d e)/\Row w' bl 94 cs') (hf:e.fine wr (λb=>b≠bl/\v.ownBlock≠some b)):BJ N bl B (qm T d e) v L w':=by
 obtain⟨cs,h1,h2⟩:=h.tab;obtain⟨cs',h3,h4⟩:=ht cs h1 h2;have hs:Same (λb=>b≠bl/\v.ownBlock≠some b) wr w':=hw.same λb hb e=>hb.1 e
 refine⟨⟨cs',h3,h4⟩,λc hc=>?_,h.own.wrote hw λb hb e=>?_⟩
 ·by_cases ec:c=d
  ·subst ec;rw[eP];exact hf.keep (λ_ h _=>h) hs
  ·rw[iK _ _ ec];exact(h.fine c hc).keep (λ_ h _=>h) hs
 ·rcases hb with hb | hb
  ·exact hb e
  ·have:=(h.own.row.lt b hb).1;omega
theorem BJ.app (h:BJ N bl B T v L wr) (hbB:bl < B) {v':GN} {L':List EV} (ho:OwnSl adC w' B 94 (λb=>b≠bl) v' L') (hw:Wrote (λb=>v.ownBlock=some b) wr w') (hg:v'.ownBlock=some g) (hat:v.ownBlock=some g\/wr.heap.size<=g):BJ N bl B T v' L' w':=by
 obtain⟨cs,h1,h2⟩:=h.tab;refine⟨⟨cs,h1,h2.wrote hw (λe=>by have:=(h.own.row.lt bl e).1; omega)⟩,λc hc=>?_,ho⟩;refine(h.fine c hc).keep (λb hb hl=>⟨hb.1,λe=>?_⟩) (hw.same λb hb e=>hb.2 e);grind
end
theorem acj {g:Gm} (hg:Good g) {n:Nd} (hn:g.F7[q]? = some n) (hj:n.next[j]? = some (c:Int)):atS g p c=if n.kind=2/\n.aH=p then iP (aN g p) (n.info,(j:Int)) else atS g p q:=by
 unfold atS;rw[abm hg hn hj];grind
theorem amH {F7:List Nd} (h:dH aC ni F7=0) {n:Nd} (hn:n∈F7) (h2:n.kind≠2) (h3:n.kind≠3):n.kind=1:=by
 have h1:=gJ h n hn;grind [aT]
theorem aaX {F7:List Nd} (h:dH aC ni F7=0) {n:Nd} (hn:n∈F7):n.weights.length<=60/\∀ x∈n.weights,1<=x/\x<=1000:=by
 have h1:=gJ h n hn;grind [aT,kX,dX,iG]
