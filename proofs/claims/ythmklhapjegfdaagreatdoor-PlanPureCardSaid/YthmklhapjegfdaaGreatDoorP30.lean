/- The example's game and strategy: what it is worth. -/
import Derived.Sort.CutIn
import Derived.Test.YthmklhapjegfdaaGreatDoorP25
import Derived.Test.YthmklhapjegfdaaGreatDoorP21
import Derived.Test.YthmklhapjegfdaaGreatDoorP28
set_option linter.all false
set_option maxRecDepth 100000
set_option maxHeartbeats 12800000
namespace Go.Proofs.YthmklhapjegfdaaGreatDoor
open Lib renaming hid → Af
open Go.RowKit
def abx:List (List Raw):=[[⟨false,[1],[2]⟩,⟨false,[1],[2]⟩],[⟨false,[1],[2]⟩,⟨false,[1],[2]⟩],[⟨false,[1],[3]⟩,⟨false,[1],[3]⟩,⟨false,[1],[3]⟩]]
theorem ahV:aH (mkRat 1 2)=⟨false,[1],[2]⟩:=by
 have h:=oO false 1 2 ay;rw[show Nat.gcd 1 2=1 by decide,Nat.div_one,Nat.div_one,iJ,nM (n:=2) ay ay] at h;exact h
theorem agD:aH (mkRat 1 3)=⟨false,[1],[3]⟩:=by
 have h:=oO false 1 3 ay;rw[show Nat.gcd 1 3=1 by decide,Nat.div_one,Nat.div_one,iJ,nM (n:=3) ay ay] at h;exact h
theorem sS:rF.map (List.map aH)=abx:=by
 unfold rF abx;simp only[List.map_cons,List.map_nil,ahV,agD]
theorem ae9:dM aV abx=0:=by decide +kernel
theorem afa:BO abx:=by
 intro l hl r hr;unfold abx at hl;simp only[List.mem_cons,List.not_mem_nil,or_false] at hl;rcases hl with rfl | rfl | rfl <;> (simp only[List.mem_cons,List.not_mem_nil,or_false] at hr; rcases hr with rfl | rfl | rfl <;> decide)
theorem adH:∀ {a b:List (List Rat)},a.map (List.map aH)=b.map (List.map aH)→a=b
 | [],[],_=>rfl
 | [],_ :: _,h=>by cases h
 | _ :: _,[],h=>by cases h
 | x :: a,y :: b,h=>by
  rw[List.map_cons,List.map_cons,List.cons.injEq] at h;rw[ug h.1,adH h.2]
theorem uH {x:Rat} (h:rl x≤1024):iC (aH x)=0:=by
 have h1:=zB (n:=x.num.natAbs) (Nat.le_trans (gy x) h);have h2:=zB (n:=x.den) (Nat.le_trans (gB x) h);have h3:(dig x.den).length≠0:=fun e=>aej x (List.eq_nil_of_length_eq_zero e)
 have h4:fP (aH x).num (aH x).den=0:=by
  unfold fP;rw[nJ,aa7,h1,h2,if_neg aB,if_neg aB,if_neg h3]
 unfold iC;rw[h4,if_neg aB,if_neg];rw[nJ,aa7,bg,bg,gV,aa8];rintro(⟨e1,e2⟩ | e)
 ·have h0:x.num.natAbs=0:=abI.1 e1;have hz:x.num=0:=byOmega;unfold dI at e2;rw[hz] at e2;exact absurd e2 ay
 ·exact e rfl
theorem ai0 {x:Rat} (h:0≤x):dI x=false:=by
 unfold dI;have:=Rat.num_nonneg.2 h;simp;omega
theorem agE {x:Rat} (h:rl x≤1024) (h0:0≤x) (h1:x≤1):eH (aH x)=0:=by
 unfold eH;rw[uH h,if_neg aB,if_neg];rintro(e | e)
 ·rw[aa8,ai0 h0] at e;cases e
 ·rw[nR,abN] at e;exact absurd h1 (Rat.not_le.2 e)
theorem rP:∀ {l:List Int},(∀ e∈l,e=0)→ig l=0
 | [],_=>rfl
 | e :: l,h=>by
  unfold ig;rw[if_neg (by simpa using h e List.mem_cons_self)];exact rP fun x hx=>h x (List.mem_cons_of_mem _ hx)
def DC (a:Int) (l:List Rat):Prop:=(l.length:Int)=a∧jh l=1∧∀ x∈l,rl x≤4∧0≤x∧x≤1
theorem ai1 {a:Int} {l:List Rat} (h:DC a l):mQ a (l.map aH)=0:=by
 obtain⟨h1,h2,h3⟩:=h;have h4:lI (l.map aH)=0:=by
  unfold lI;refine rP fun e he=>?_
  obtain⟨r,hr,rfl⟩:=List.mem_map.1 he;obtain⟨x,hx,rfl⟩:=List.mem_map.1 hr;have:=h3 x hx;exact agE byOmega this.2.1 this.2.2
 unfold mQ;rw[List.length_map,if_neg (by simpa using h1),h4,if_neg aB,zK,h2,(o8 1 1).2 rfl,if_neg aB]
def Bg (g:Gm) (m:List (List Rat)):Prop:=m.length=g.infos.length∧∀ (k:Nat) (i:Inf) (l:List Rat),g.infos[k]? = some i→m[k]? = some l→DC i.actions l
theorem Bg.adI {g:Gm} {m:List (List Rat)} (hf:bK g=0) (h:Bg g m):dM g (m.map (List.map aH))=0:=by
 unfold dM;rw[if_neg (by simpa using hf)];unfold kK;rw[if_neg (by simp[h.1])];refine rP fun e he=>?_
 obtain⟨k,hk⟩:=List.getElem?_of_mem he;rw[List.getElem?_zipWith,List.getElem?_map,List.getElem?_map] at hk;cases hi:g.infos[k]? with
 | none=>rw[hi] at hk; simp at hk
 | some i =>
  cases hl:m[k]? with
  | none=>rw[hi,hl] at hk; simp at hk
  | some l =>
   rw[hi,hl] at hk;simp at hk;rw[← hk];exact ai1 (h.2 k i l hi hl)
theorem Bg.limbs {g:Gm} {m:List (List Rat)} (h:Bg g m):BO (m.map (List.map aH)):=by
 intro l hl r hr;obtain⟨l',hl',rfl⟩:=List.mem_map.1 hl;obtain⟨x,hx,rfl⟩:=List.mem_map.1 hr;obtain⟨k,hk⟩:=List.getElem?_of_mem hl';obtain⟨i,hi⟩:=aF (l:=g.infos) (k:=k) (by have:=aJ hk; have:=h.1; omega);have:=((h.2 k i l' hi hk).2.2 x hx).1;exact⟨Nat.le_trans (gy x) this,Nat.le_trans (gB x) this⟩
theorem Bg.fit {g:Gm} {m:List (List Rat)} (hf:bK g=0) (h:Bg g m):Fit g m:=by
 obtain⟨m',e,hfit,_⟩:=acg (h.adI hf) h.limbs;rw[adH e];exact hfit
theorem ahW {xs:List Rat} (h:∀ x∈xs,rl x≤1024) (hl:xs.length≤1000):BX (xs.map aH):=by
 refine⟨by rw[List.length_map]; omega,fun r hr=>?_⟩;obtain⟨x,hx,rfl⟩:=List.mem_map.1 hr;have:=h x hx;unfold rl at this;show(dig x.num.natAbs).length≤500000∧(dig x.den).length≤500000;omega
theorem agF:BD (rF.map (List.map aH)):=by
 rw[sS];intro l hl;unfold abx at hl;simp only[List.mem_cons,List.not_mem_nil,or_false] at hl;rcases hl with rfl | rfl | rfl
 all_goals
  refine⟨ay,fun r hr=>?_⟩;simp only[List.mem_cons,List.not_mem_nil,or_false] at hr;rcases hr with rfl | rfl | rfl
 all_goals exact⟨by unfold U32; decide,ay,ay⟩
theorem eG:Small aV:=⟨ay,ay,ay,ay,ay⟩
def eX (L:List Int) (a:Nat) (infos:List Inf):Nat→List Int×Nat
 | 0=>([],a)
 | k+1=>((eX L a infos k).1 ++ [cO L (eX L a infos k).2 (infos.getD k default).actions],bY L (eX L a infos k).2)
def yX (L:List Int) (a:Nat) (g:Gm):List Int:=(eX L a g.infos g.infos.length).1
theorem jK (L:List Int) (a:Nat) (infos:List Inf):∀ k,(eX L a infos k).1.length=k
 | 0=>rfl
 | k+1=>by rw[eX,List.length_append,jK L a infos k]; rfl
theorem vW (L:List Int) (a:Nat) {infos:List Inf} (hI:∀ i∈infos,1≤i.actions):∀ (k:Nat),k≤infos.length→∀ (i:Nat) (x:Int) (inf:Inf),(eX L a infos k).1[i]? = some x→infos[i]? = some inf→0≤x∧x < inf.actions
 | 0,_,i,x,inf,hx,_=>by simp[eX] at hx
 | k+1,hk,i,x,inf,hx,hi=>by
  rw[eX] at hx;have hl:=jK L a infos k;by_cases h:i < k
  ·rw[List.getElem?_append_left byOmega] at hx;exact vW L a hI k byOmega i x inf hx hi
  ·have hik:i < k+1:=by have:=aJ hx; simp[hl] at this; omega
   obtain rfl:i=k:=byOmega;rw[List.getElem?_append_right byOmega,hl,Nat.sub_self] at hx;have hx:cO L (eX L a infos i).2 (infos.getD i default).actions=x:=by simpa using hx
   rw[← hx,List.getD_eq_getElem?_getD,hi,Option.getD_some];have h1:=hI inf (List.mem_of_getElem? hi);have:=gG L (eX L a infos i).2 (n:=inf.actions) h1;omega
theorem acj (w:World) (F:Ah) (db:Nat) (A:Option Addr) (c:Nat) (L:List Int) (a0:Nat) (vg:Value) (g:Gm) (hr:Row w db 75 [.slice A L.length c,.int .i64 (a0:Int)]) (hL:AO w F (.slice A L.length c) L) (hF:¬ F db) (hl:L.length≤9223372036854775807)
  (hg:AV w F vg g) (hI:∀ i∈g.infos,1≤i.actions∧i.actions≤10) (hn:g.infos.length≤1000) :
  Calls Tryz.prog 62 #[.pointer (some ⟨db,0,none⟩),vg] w fun e w'=>∃ u,e = .returned u∧AO w' (fun b=>w.heap.size≤b) u (yX L a0 g)∧Wrote (fun b=>b=db) w w':=by
 have HI:=Af hI;have HL:=Af (hL.keep (G:=fun b=>F b∧b < w.heap.size) (fun b hb hl=>⟨hb,hl⟩) (Same.refl _ _));have hF1:¬ (F db∧db < w.heap.size):=fun e=>hF e.1
 obtain⟨vn,vi,rfl,⟨An,cn,rfl,hcn,_⟩,fG⟩:=hg;have HIN:=Af (Bc.keep fG (G:=fun b=>F b∧b < w.heap.size) (fun b hb hl=>⟨hb,hl⟩) (Same.refl _ _));obtain⟨Ai,ci,rfl,hci,_⟩:=fG;have HR:=Af hr;have hdl:=hr.lt;have HDL:=Af hdl;clear hL hI hr;go_in
 go_upto_region 1 with(fail)
 obtain⟨W,hW,rx,hB,hz'⟩:=aO w 25 #[.int .i64 g.aA,.slice An g.nodes.length cn,.slice Ai g.infos.length ci];rw[← hW];have hz:W.heap.size=w.heap.size+1:=hz'.symm;have HR1:=Af (HR.out.below hB HR.out.lt);have HW1:=Af (Below.wrote hB (fun b=>b=db));have RX:=Af rx;clear hW rx hB hz';go_wp2
 go_loopw [5,6] (fun u i wr=>∃ k:Nat,k≤g.infos.length∧i = .int .i64 (k:Int)∧AL mD wr (w.heap.size+1) 3 (fun _=>False) u (eX L a0 g.infos k).1∧Row wr db 75 [.slice A L.length c,.int .i64 ((eX L a0 g.infos k).2:Int)]∧Hid (Wrote (fun b=>b=db) w wr)∧Row wr w.heap.size 25 [.int .i64 g.aA,.slice An g.nodes.length cn,.slice Ai g.infos.length ci]∧w.heap.size+1≤wr.heap.size) (fun _ i _=>g.infos.length - (intOf i).toNat)
 case atStart=>exact⟨0,byOmega,rfl,AL.nil _ _ _ _ _,HR1.out,HW1,RX.out,byOmega⟩
 case round =>
  clear RX HW1 HR1;obtain⟨k,hk,rfl,hown,hdr,HW,rx,hz1⟩:=hrel;have HO:=Af hown;have HD:=Af hdr;have x2:=rx.cell (i:=2) rfl;have RX:=Af rx;obtain⟨LK,hLK⟩:=named ((eX L a0 g.infos k).1);obtain⟨ak,hak⟩:=named ((eX L a0 g.infos k).2);have hll:LK.length=k:=by rw[hLK];exact jK _ _ _ _
  rw[← hLK] at HO;rw[← hak] at HD;have HLL:=Af hll;have HSK:=Af (show eX L a0 g.infos (k+1)=(LK ++ [cO L ak (g.infos.getD k default).actions],bY L ak) by rw[eX,← hLK,← hak]);have HLK:=Af hLK;clear hown hdr rx hLK hak hll;by_cases hlt:k < g.infos.length
  ·have t0:decide (k < g.infos.length)=true:=decide_eq_true hlt;obtain⟨inf,hik⟩:=aF hlt;have hia:=HI.out inf (List.mem_of_getElem? hik);obtain⟨n,hn1⟩:∃ n:Nat,inf.actions=(n:Int):=⟨inf.actions.toNat,byOmega⟩;obtain⟨Ai',ci',he,_,hcell⟩:=HIN.out.on (HW.out.same fun b hb e=>hF (e▸hb.1));simp only[Value.slice.injEq] at he;obtain⟨rfl,_,rfl⟩:=he;obtain⟨bi,oi,rfl,_,_,hcell⟩:=hcell byOmega;have e1:=(hcell k inf hik).c1;rw[hn1] at e1;have HSK2:=Af (show eX L a0 g.infos (k+1)=(LK ++ [cO L ak (n:Int)],bY L ak) by rw[HSK.out,List.getD_eq_getElem?_getD,hik,Option.getD_some,hn1]);have hnb:1≤(n:Int)∧(n:Int)≤1000:=byOmega;have HOL:=Af (show ∀ b,u5.ownBlock=some b→w.heap.size+1≤b from fun b e=>(HO.out.row.lt b e).1);have HLJ:=Af (HL.out.on (HW.out.same fun b hb e=>hF (e▸hb.1)));have hll2:LK.length≤1000000:=by rw[HLL.out];omega
   clear hcell hik hn1 hia;go_wp2_with (first | (go_at_call 90; (with_reducible refine(next_any wr _ db A c L ak (n:Int) HD.out HLJ.out hF1 hnb.1 hnb.2 hl).mono ?_); rintro e w2 ⟨rfl,hr2,hw2⟩; have HR2:=Af hr2; have HO2:=Af (HO.out.wrote hw2 fun b hb e=>hb.elim id fun e2=>by have:=HOL.out b e2; have:=HDL.out; omega); have HW2:=Af (HW.out.step hw2 fun i _ e=>e); have RX2:=Af (RX.out.wrote hw2 fun e=>by have:=HDL.out; omega); have hz4:=Nat.le_trans hz1 hw2.size; clear hr2 hw2) | (at_builtin; go_loud (refine jm (K:=mD) (F:=fun _=>False) (w:=w2) (W:=w2) rfl _ _ 26 3 8 _ Tryz.underlying26 Tryz.infoIntK rfl ay rfl (w.heap.size+1) byOmega u5 LK rfl (cO L ak (n:Int)) _ rfl hll2 rfl HO2.out trivial ?_; intro g2 cap2 wq hown hwq hat yN; have HO5:=Af hown; have HD5:=Af (HR2.out.wrote hwq fun e=>by have:=HOL.out _ e; have:=HDL.out; omega); have HW5:=Af (HW2.out.step hwq fun i hi e=>by have:=HOL.out _ e; omega); have RX5:=Af (RX2.out.wrote hwq fun e=>by have:=HOL.out _ e; omega); have hz8:=Nat.le_trans hz4 hwq.size; clear hown hwq hat yN)))
   go_roundw
   case rel=>exact⟨k+1,byOmega,by go_num,by rw[HSK2.out]; exact HO5.out,by rw[HSK2.out]; exact HD5.out,HW5,RX5.out,byOmega⟩
   case measure=>simp[intOf]; omega
  ·have hke:k=g.infos.length:=byOmega;subst hke;have t0:decide (g.infos.length < g.infos.length)=false:=decide_eq_false byOmega;go_wp2
   go_ret;refine⟨_,rfl,?_,HW.out⟩;unfold yX;rw[← HLK.out];exact HO.out.ints (G:=fun b=>w.heap.size≤b) (fun b hb=>by have:=HO.out.row.lt b hb; omega)
end Go.Proofs.YthmklhapjegfdaaGreatDoor
