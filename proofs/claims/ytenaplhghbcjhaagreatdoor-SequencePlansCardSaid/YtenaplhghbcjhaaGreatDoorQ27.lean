import Derived.Sort.CutIn
import Derived.Test.YtenaplhghbcjhaaGreatDoorQ24
import Derived.Test.YtenaplhghbcjhaaGreatDoorQ26
import Derived.Test.YtenaplhghbcjhaaGreatDoorQ23
set_option linter.all false
set_option maxRecDepth 100000
set_option maxHeartbeats 0
namespace Go.Proofs.YtenaplhghbcjhaaGreatDoor
open List renaming getElem?_map->GY,getElem?_of_mem->H9,length_map->Gz,map->Iq,map_cons->Ju,replicate->GX
open Nat renaming le_trans->He
open Go.RowKit
variable {m:List (List Rat)} {x:Rat}
def rP:List (List Raw):=[[⟨false,[1],[2]⟩,⟨false,[1],[2]⟩],[⟨false,[1],[2]⟩,⟨false,[1],[2]⟩],[⟨false,[1],[3]⟩,⟨false,[1],[3]⟩,⟨false,[1],[3]⟩]]
theorem al5:ak (mkRat 1 2)=⟨false,[1],[2]⟩:=by
 have h:=pO false 1 2 au;rw[show Nat.gcd 1 2=1 by decide,Nat.div_one,Nat.div_one,ji,iF (n:=2) au au] at h;exact h
theorem aku:ak (mkRat 1 3)=⟨false,[1],[3]⟩:=by
 have h:=pO false 1 3 au;rw[show Nat.gcd 1 3=1 by decide,Nat.div_one,Nat.div_one,ji,iF (n:=3) au au] at h;exact h
theorem uQ:abM.map (Iq ak)=rP:=by grind [abM,rP,al5,aku]
theorem aiz:BQ rP:=by
 intro l hl r hr;grind [rP]
theorem agT:∀ {a b:List (List Rat)},a.map (Iq ak)=b.map (Iq ak)->a=b
 | [],[],_=>rfl
 | [],_ :: _,h=>by cases h
 | _ :: _,[],h=>by cases h
 | x :: a,y :: b,h=>by
  rw[Ju,Ju,List.cons.injEq] at h;rw[acI h.1,agT h.2]
theorem zO (h:rl x<=1024):dF (ak x)=0:=by
 have h1:=acy (n:=x.num.natAbs) (He (fU x) h);have h2:=acy (n:=x.den) (He (fV x) h);have h3:(dig x.den).length≠0:=λe=>ahF x (List.eq_nil_of_length_eq_zero e)
 have h4:dQ (ak x).num (ak x).den=0:=by grind [dQ,oD,aeg]
 unfold dF;rw[h4,LG aA,LG];rw[oD,aeg,aZ,aZ,jC,jl];rintro(⟨e1,e2⟩ | e)
 ·have h0:x.num.natAbs=0:=aae.1 e1;grind [dh]
 grind
theorem anA (h:0<=x):dh x=false:=by
 unfold dh;have:=Rat.num_nonneg.2 h;simp;omega
theorem akv (h:rl x<=1024) (h0:0<=x) (h1:x<=1):fD (ak x)=0:=by grind [fD,zO,jl,anA,uJ,aah]
theorem xG:∀ {l:List Int},(∀ e∈l,e=0)->fZ l=0
 | [],_=>rfl
 | e :: l,h=>by
  unfold fZ;rw[LG (by simpa using h e List.mem_cons_self)];exact xG λx hx=>h x (List.mem_cons_of_mem _ hx)
def Fq (a:Int) (l:List Rat):Prop:=(l.length:Int)=a/\jm l=1/\∀ x∈l,rl x<=4/\0<=x/\x<=1
theorem anB {a:Int} {l:List Rat} (h:Fq a l):nG a (l.map ak)=0:=by
 obtain⟨h1,h2,h3⟩:=h;have h4:nO (l.map ak)=0:=by grind [nO,xG,akv]
 grind [nG,eU,jc]
def BH (g:Gm) (m:List (List Rat)):Prop:=m.length=g.F8.length/\∀ (k:Nat) (i:Inf) (l:List Rat),g.F8[k]? = some i->m[k]? = some l->Fq i.actions l
theorem BH.agU {g:Gm} (hf:aQ g=0) (h:BH g m):iw g (m.map (Iq ak))=0:=by
 unfold iw;rw[LG (by simpa using hf)];unfold pF;rw[LG (by simp[h.1])];refine xG λe he=>?_
 obtain⟨k,hk⟩:=H9 he;rw[List.getElem?_zipWith,GY,GY] at hk;cases hi:g.F8[k]? with
 | none=>grind
 | some i =>
   cases hl:m[k]? with
   | none=>grind
   | some l =>
     rw[hi,hl] at hk;simp at hk;rw[<-hk];exact anB (h.2 k i l hi hl)
theorem BH.limbs {g:Gm} (h:BH g m):BQ (m.map (Iq ak)):=by
 intro l hl r hr;obtain⟨l',hl',rfl⟩:=List.mem_map.1 hl;obtain⟨x,hx,rfl⟩:=List.mem_map.1 hr;obtain⟨k,hk⟩:=H9 hl';obtain⟨i,hi⟩:=Gl (l:=g.F8) (k:=k) (by have:=Gn hk; have:=h.1; omega);have:=((h.2 k i l' hi hk).2.2 x hx).1;exact⟨He (fU x) this,He (fV x) this⟩
theorem BH.fit {g:Gm} (hf:aQ g=0) (h:BH g m):Fit g m:=by
 obtain⟨m',e,hfit,_⟩:=abl (h.agU hf) h.limbs;grind [agT]
theorem al6 {xs:List Rat} (h:∀ x∈xs,rl x<=1024) (hl:xs.length<=1000):Bd (xs.map ak):=by
 refine⟨by rw[Gz]; omega,λr hr=>?_⟩;obtain⟨x,hx,rfl⟩:=List.mem_map.1 hr;have:=h x hx;unfold rl at this;exact zco
theorem akw:Bv (abM.map (Iq ak)):=by
 rw[uQ];intro l hl;grind [rP,U32]
theorem abP:Small fB:=⟨au,au,au,au,au⟩
theorem ac4 (h:rl x<=1024):fP x=0:=by grind [fP]
theorem anC (w:World) (F:Gq) (rb:Nat) (v:Value) (xs:List Rat) (hr:Row w rb 62 [v]) (hv:DZ w F v xs) (hl:xs.length<=2000) (hf:∀ x∈xs,rl x<=1000) :
  Calls Tryz.prog 28 #[.pointer (some ⟨rb,0,none⟩)] w (Ret w λu w'=>∃ t,u = .tuple #[t,.int .i64 0]/\Gs w' (λb=>w.heap.size<=b) t (xs.map ak)):=by
 obtain⟨A,c,rfl,hc,hN⟩:=hv;rw[Gz] at hc hN;have HN:=Ag hN;clear hN;have HF:=Ag hf;clear hf;have hr2:Row w rb 62 [.slice A xs.length c]:=by rw[Gz] at hr;exact hr
 have HR:=Ag hr2;have r0:=hr2.cell (i:=0) rfl;have hrl:=hr2.lt;clear hr hr2;go_in;go_wp2_with (at_make; refine abb _ rfl _ _ 29 rfl 42 Tryz.underlying29 Tryz.infoRat xs.length rfl rfl FI ?_; intro w1 hb1 hz1 hm1; have r1:=ah r0 hb1)
 have HM:=Ag (hm1 (λb=>w.heap.size<=b));clear hm1;obtain⟨bo,hbo⟩:=Gp w.heap.size;have hbo1:bo<=w.heap.size:=FI;have aox:w.heap.size<=bo:=FI;have hbo3:bo < w1.heap.size:=FI;rw[<-hbo] at HM ⊢;have yS:=hb1;have HBO:=Ag hbo;clear hz1 hb1 hbo r1 r0;go_loopw [17] (λi wr=>∃ (k:Nat) (L:List RV),k<=xs.length/\i = .int .i64 (k:Int)/\L.length=k/\L.map RV.r=(xs.take k).map ak/\AO wr bo 42 (λb=>bo<=b) (L++GX (xs.length - k) rv0)/\Below w.heap.size w wr/\w1.heap.size<=wr.heap.size) (λi _=>xs.length - (intOf i).toNat)
 case atStart=>exact⟨0,[],FI,rfl,rfl,rfl,HM.o.mono (λb hb _=>by omega),yS,Nat.le_refl _⟩
 case round =>
  clear HM yS;obtain⟨k,L,hk,rfl,hlen,hmap,hm,hbel,hz⟩:=hrel;have HMP:=Ag hmap;have HM:=Ag hm;have HLL:=Ag hlen;clear hmap hm hlen;by_cases hlt:k < xs.length
  ·obtain⟨b,o,rfl,hF,hb,hx⟩:=HN.o FI;obtain⟨x,hx'⟩:=Gl hlt;obtain⟨ex0,⟨vn,ex1,hn⟩,⟨vd,ex2,hd⟩⟩:=hx k (ay x) (by rw[GY,hx']; rfl);have HX:=Ag hx';have hrl:=HF.o x (List.mem_of_getElem? hx');have HRV:=Ag (Ak.on (r:=ay x) (Ak.make (r:=ay x) rfl hn hd) (Below.same' hbel F));obtain⟨A1',c1',rfl,_,_⟩:=hn;obtain⟨A2',c2',rfl,_,_⟩:=hd;replace ex0:=ah ex0 hbel;replace ex1:=ah ex1 hbel;replace ex2:=ah ex2 hbel;clear hx hx';go_upto_region 5 with(fail)
   generalize hW2:World.alloc _ _=W2;obtain⟨rz,hB2,hzz⟩:=aI hW2;have hz2:=hB2.size;replace HRV:=Ag (HRV.o.below hB2);replace HM:=Ag (HM.o.below hB2);have fC:=hbel.trans (hB2.mono hbel.size);refine zcX ?_;intro x0 x1 x2;clear hB2 hW2 hzz rz ex0 ex1 ex2;go_wp2_with fail
   refine(acX W2 _ _ x HRV.o FI).mono ?_;rintro e wn ⟨_,rfl,hb2,u,rfl,hu⟩;rw[ac4 (x:=x) FI];rw[aez (ac4 (x:=x) FI)] at hu;replace HM:=Ag (HM.o.below hb2);have kZ:=fC.trans (hb2.mono fC.size);have hz3:=hb2.size;obtain⟨A1,c1,B1,d1,rfl,bH⟩:=hu.opened;obtain⟨q,hq⟩:∃ q:RV,q=⟨ak x,.slice A1 (ak x).num.length c1,.slice B1 (ak x).den.length d1⟩:=⟨_,rfl⟩;rw[<-hq] at bH;have HQ:=Ag (show q.r=ak x by rw[hq]);have hqk:q.fine wn (λc=>bo<=c/\c≠bo):=bH.keep (λb hb _=>by omega) (Same.refl _ _);have hget:(L++GX (xs.length - k) rv0)[k]? = some rv0:=by
    rw[List.getElem?_append_right (by rw[HLL.o]; omega),HLL.o,Nat.sub_self,List.getElem?_replicate,LH FI]
   have c0:wn.cell? ⟨bo,k*3,none⟩=some (.bool false):=HM.o.cell (j:=0) hget FI rfl;have c1:=HM.o.cell (j:=1) hget FI rfl;have c2:=HM.o.cell (j:=2) hget FI rfl;have f0:=HM.o.row.frozen (k*3);have f1:=HM.o.row.frozen (k*3+1);have f2:=HM.o.row.frozen (k*3+2);obtain⟨W,hW,hm,hwB,hwS,hwz,hwb⟩:=HM.o.set k q hqk;rw[alN HLL.o hlt] at hm;have HM2:=Ag hm;have hbelW:=hwB _ _ aox kZ;have hzW:w1.heap.size<=W.heap.size:=FI;rw[hq] at hW;have HW:=Ag hW;clear hu bH hqk hm hget hq hwB hwS hwz hwb hW hb2 x0 x1 x2;dsimp only;go_wp2_with fail
   rw[<-HW.o];go_roundw
   case rel=>exact⟨k+1,L ++ [q],FI,by go_num,by rw[List.length_append,HLL.o]; rfl,aj8 HMP.o HX.o HQ.o,HM2.o,hbelW,hzW⟩
   case measure=>exact zMs
  ·go_wp2
   go_ret2;have hall:xs.take k=xs:=List.take_of_length_le FI;have hk2:L.length=xs.length:=by have:=HLL.o;omega
   refine⟨_,rfl,hbel,_,rfl,?_⟩;have hm:=HM.o;rw[show xs.length - k=0 by omega,List.replicate_zero,List.append_nil] at hm;have:=hm.raws (G:=λb=>w.heap.size<=b) (λb hb=>by omega) aox (c:=xs.length) FI;rw[HMP.o,hall,hk2] at this;exact this
