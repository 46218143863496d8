/- Slices that a call grows by append, one or a list of them; what they read as in the end. -/
import Derived.Test.YtnmeejofpkhlkaaGreatDoorR04
import Derived.Deep.AppendLies
import Derived.Deep.RegionHeld3
import Derived.Test.YtnmeejofpkhlkaaGreatDoorR02
set_option linter.all false
set_option maxRecDepth 100000
set_option maxHeartbeats 12800000
namespace Go.Proofs.YtnmeejofpkhlkaaGreatDoor
open Lib renaming hid → Ag
open Go.RowKit
abbrev Own (w:World) (base:Nat) (t:TypeId) (v:Value) (xs:List Value):Prop:=w.ownsRow base t 1 v xs.length xs
theorem Own.ints {w:World} {base:Nat} {t:TypeId} {v:Value} {l:List Int} (h:Own w base t v (l.map (Value.int .i64))) {F:Foot} (hF:∀ b,v.ownBlock=some b→F b):AA w F v l:=by
 have h':w.ownsRow base t 1 v l.length (l.map (Value.int .i64)):=by simpa [Own] using h
 rcases h'.2 with⟨rfl,h0⟩ | ⟨g,cap,cur,rfl,hb,hg,hnc,_,_,htake⟩
 ·have:l = []:=List.eq_nil_of_length_eq_zero h0;subst this;exact Yv
 ·refine⟨_,cap,rfl,hnc,fun _=>⟨g,0,rfl,hF g rfl,(Array.getElem?_eq_some_iff.1 hg).1,fun k x hk=>?_⟩⟩;unfold o7;have hlt:=lt_of_get hk;have:=h'.cellAt k byOmega;rw[show 0+k*1=k by omega,this];simp[hk]
structure OwnRows (w:World) (base:Nat) (t:TypeId) (vs:List Value) (ls:List (List Int)):Prop where
 len:vs.length=ls.length
 own:∀ (j:Nat) (v:Value) (l:List Int),vs[j]? = some v→ls[j]? = some l→w.ownsRow base t 1 v l.length (l.map (Value.int .i64))
 apart:∀ (i j:Nat) (v u:Value),i≠j→vs[i]? = some v→vs[j]? = some u→v.ownBlock=none∨v.ownBlock≠u.ownBlock
theorem OwnRows.start (w:World) (base:Nat) (t:TypeId) (n:Nat):OwnRows w base t (List.replicate n (.slice none 0 0)) (List.replicate n []):=by
 refine⟨aB,fun j v l hv hl=>?_,fun i j v u _ hv hu=>?_⟩
 ·have:=List.mem_of_getElem? hv;have h2:=List.mem_of_getElem? hl;rw[List.mem_replicate] at this h2;obtain⟨_,rfl⟩:=this;obtain⟨_,rfl⟩:=h2;exact World.ownsRow_nil _ _ _ _
 ·have:=List.mem_of_getElem? hv;rw[List.mem_replicate] at this;obtain⟨_,rfl⟩:=this;exact .inl rfl
theorem OwnRows.kept {w w':World} {base:Nat} {t:TypeId} {vs:List Value} {ls:List (List Int)} (h:OwnRows w base t vs ls) (hs:∀ b,base≤b→b < w.heap.size→w'.heap[b]? = w.heap[b]?):OwnRows w' base t vs ls:=by
 refine⟨h.len,fun j v l hv hl=>?_,h.apart⟩;have ho:=h.own j v l hv hl;refine⟨ho.1,?_⟩;rcases ho.2 with hn | ⟨g,cap,cur,rfl,hb,hg,r⟩
 ·exact .inl hn
 ·exact .inr ⟨g,cap,cur,rfl,hb,by rw[hs g hb (Array.getElem?_eq_some_iff.1 hg).1]; exact hg,r⟩
theorem OwnRows.alloc {w:World} {base:Nat} {t:TypeId} {vs:List Value} {ls:List (List Int)} (h:OwnRows w base t vs ls) (o:Obj):OwnRows (w.alloc o) base t vs ls :=
 h.kept fun b _ hl=>Below.heap_alloc w o b hl
theorem OwnRows.drew {w:World} {base:Nat} {t:TypeId} {vs:List Value} {ls:List (List Int)} (h:OwnRows w base t vs ls):OwnRows w.drew base t vs ls:=h.kept fun _ _ _=>rfl
theorem OwnRows.setCell {w:World} {base:Nat} {t:TypeId} {vs:List Value} {ls:List (List Int)} (h:OwnRows w base t vs ls) {p:Addr} (hp:p.block < base) (v:Value):OwnRows (w.setCell p v) base t vs ls :=
 h.kept fun b hb _=>Below.heap_setCell w p v b byOmega
theorem OwnRows.put {w w1:World} {base:Nat} {t:TypeId} {vs:List Value} {ls:List (List Int)} (h:OwnRows w base t vs ls) {i:Nat} {v v':Value} {l:List Int} {x:Int} (hv:vs[i]? = some v)
  (hown:w1.ownsRow base t 1 v' (l.length+1) (l.map (Value.int .i64) ++ [.int .i64 x])) (hg:w.grownBy w1 v.ownBlock) {g:Nat} (hvb:v'.ownBlock=some g) (hat:v.ownBlock=some g∨w.heap.size≤g) :
  OwnRows w1 base t (vs.set i v') (ls.set i (l ++ [x])):=by
 have hi:=lt_of_get hv;have key:∀ j u,i≠j→vs[j]? = some u→u.ownBlock=none∨u.ownBlock≠v'.ownBlock:=by
  intro j u hij hu;rcases h.apart j i u v (fun e=>hij e.symm) hu hv with h1 | h1
  ·exact .inl h1
  ·rw[hvb];rcases hat with hat | hat
   ·right; rw[← hat]; exact h1
   ·obtain⟨lj,hlj⟩:=getSome (l:=ls) (k:=j) (by rw[← h.len]; exact lt_of_get hu);have ho:=h.own j u lj hu hlj;cases hub:u.ownBlock with
    | none=>exact .inl rfl
    | some k =>
     right
     have:=(ho.lt k hub).2;intro e;injection e;omega
 refine⟨by simp[h.len],fun j u m hu hm=>?_,fun j k u z hjk hu hz=>?_⟩
 ·rw[List.getElem?_set] at hu hm;by_cases hij:i=j
  ·subst hij;rw[if_pos rfl,if_pos hi] at hu;rw[if_pos rfl,if_pos (by rw[← h.len]; exact hi)] at hm;cases hu;cases hm
   simpa using hown
  ·rw[if_neg hij] at hu hm;refine(h.own j u m hu hm).kept hg ?_;exact h.apart j i u v (fun e=>hij e.symm) hu hv
 ·rw[List.getElem?_set] at hu hz;by_cases hij:i=j
  ·subst hij;rw[if_pos rfl,if_pos hi] at hu;rw[if_neg hjk] at hz;cases hu
   rcases key k z hjk hz with h1 | h1
   ·right; rw[hvb,h1]; simp
   ·right; exact fun e=>h1 e.symm
  ·rw[if_neg hij] at hu;by_cases hik:i=k
   ·subst hik;rw[if_pos rfl,if_pos hi] at hz;cases hz;exact key j u hij hu
   ·rw[if_neg hik] at hz;exact h.apart j k u z hjk hu hz
theorem OwnRows.rows {w:World} {base:Nat} {t t':TypeId} {vs:List Value} {ls:List (List Int)} (h:OwnRows w base t vs ls) {b:Nat} (hr:Row w b t' vs) {F:Foot} (hb:F b) (hF:∀ k,base≤k→F k) {c:Nat} (hc:ls.length≤c) :
  Bd w F (.slice (some ⟨b,0,none⟩) ls.length c) ls:=by
 refine⟨_,c,rfl,hc,fun _=>⟨b,0,rfl,hb,hr.lt,fun k x hk=>?_⟩⟩;obtain⟨v,hv⟩:=getSome (l:=vs) (k:=k) (by rw[h.len]; exact lt_of_get hk);refine⟨v,by rw[show 0+k*1=k by omega]; exact hr.cell hv,?_⟩;have ho:=h.own k v x hv hk;exact Own.ints (by simpa [Own] using ho) fun b hb=>hF b (ho.lt b hb).1
theorem aco {w:World} {ops:Array Oper} {o:Oper} {a:Act} {K:Act→World→Prop} {Q:Exit→Act→World→Prop} {E:Prop} (hgd:o.guard=none) (s x:Operand)
  (ho:o.op = .call { callee:=.builtin .append,args:=#[s,x],argTypes:=#[22,22] })
  (base:Nat) (v:Value) (l:List Int) (hs:a.eval s=v) (hown:w.ownsRow base 3 1 v l.length (l.map (Value.int .i64)))
  (B:Nat) (y:Int) (hx:a.eval x = .slice (some ⟨B,0,none⟩) 1 1) (hB:w.heap[B]? = some (.cells #[.int .i64 y] 3 (0,0))) (hlen:l.length≤1000000) (hbase:base≤w.heap.size)
  (h:∀ g cap w',w'.ownsRow base 3 1 (.slice (some ⟨g,0,none⟩) (l.length+1) cap) (l.length+1) (l.map (Value.int .i64) ++ [.int .i64 y])→w.grownBy w' v.ownBlock→(v.ownBlock=some g∨w.heap.size≤g)→g < w'.heap.size →
   K (a.put o.dst (.slice (some ⟨g,0,none⟩) (l.length+1) cap)) w') :
  if Region.wanted o (yielded ops a.tmps)=true then Oper.wp Tryz.prog o a w K Q else E:=by
 obtain⟨i0,hi,hz0,hz1,hz2⟩:=info_parts Tryz.infoInt;refine step_append_lies w hgd s x _ ho base _ i0 _ 1 8 Tryz.underlying22 hi hz0 hz1 hz2 rfl byOmega v l.length _ hs hown ⟨B,0,none⟩ 1 1 [.int .i64 y] hx rfl (World.news_of_block hB) (by simp[Value.oneCell']) byOmega (by unfold maxLen; omega) byOmega hbase w.heap.size rfl ?_;intro g cap w' h1 h2 h3 h4;exact h g cap w' h1 h2 (h3.imp id fun e=>by omega) h4
def gq (nodes:List Nd) (ni:Nat):Nat→List (List Int)
 | 0=>List.replicate ni []
 | k+1=>match nodes[k]? with
  | some n=>if n.kind=2 then (gq nodes ni k).set n.info.toNat ((gq nodes ni k).getD n.info.toNat [] ++ [(k:Int)]) else gq nodes ni k
  | none=>gq nodes ni k
def fJ (g:Gm):List (List Int):=gq g.nodes g.infos.length g.nodes.length
theorem fU (nodes:List Nd) (ni k:Nat):(gq nodes ni k).length=ni:=by
 induction k with
 | zero=>simp[gq]
 | succ k ih =>
  unfold gq;split
  ·split
   ·rw[List.length_set,ih]
   ·exact ih
  ·exact ih
theorem yH {nodes:List Nd} {ni k:Nat} {n:Nd} {l:List Int} (h:nodes[k]? = some n) (hk:n.kind=2) (hl:(gq nodes ni k)[n.info.toNat]? = some l):gq nodes ni (k+1)=(gq nodes ni k).set n.info.toNat (l ++ [(k:Int)]):=by
 simp[gq,h,hk,hl,List.getD_eq_getElem?_getD]
theorem yI {nodes:List Nd} {ni k:Nat} {n:Nd} (h:nodes[k]? = some n) (hk:¬ n.kind=2):gq nodes ni (k+1)=gq nodes ni k:=by
 simp[gq,h,hk]
theorem ae3 {nodes:List Nd} {ni k:Nat}:∀ l∈gq nodes ni k,l.length≤k:=by
 induction k with
 | zero=>intro l hl; simp[gq] at hl; simp[hl.2]
 | succ k ih =>
  intro l hl;unfold gq at hl;split at hl
  ·split at hl
   ·rcases List.mem_or_eq_of_mem_set hl with h | h
    ·have:=ih l h;omega
    ·rename_i n _ _
     subst h;rw[List.length_append];rcases Nat.lt_or_ge n.info.toNat (gq nodes ni k).length with hlt | hge
     ·have:=ih ((gq nodes ni k).getD n.info.toNat []) (by rw[List.getD_eq_getElem?_getD]; simp[hlt]);simp;simp at this;omega
     ·rw[List.getD_eq_getElem?_getD,List.getElem?_eq_none hge];simp
   ·have:=ih l hl;omega
  ·have:=ih l hl;omega
def BI (g:Gm):Prop:=∀ n∈g.nodes,n.kind=2→0≤n.info∧n.info < (g.infos.length:Int)
section
variable {P:Program} {md:Region.Mode} {Q:Exit→Act→World→Prop}
def CO (P:Program) (Q:Exit→Act→World→Prop) (ops:Array Oper) (o:Oper):Exit→Act→World→Prop
 | .normal,a,w=>wpList P ops Q [o] a w
 | e,a,w=>Q e a w
theorem abz {ops:Array Oper} {o oi:Oper} {a:Act} {K:Act→World→Prop} {r:Result Next} (h:oi.upon P a K (CO P Q ops o) r):oi.upon P a K Q r:=by
 unfold Oper.upon at h ⊢;split at h <;> exact h
def pG (ops:Array Oper):Bool:=(List.range ops.size).all fun i=>match ops[i]? with
 | some o=>o.after.all (fun e=>decide (e.on < i))&&(match o.guard with | some (j,_)=>decide (j < i) | none=>true)
 | none=>true
def lastB (md:Region.Mode) (ops:Array Oper) (o:Oper):Bool:=o.after.all (fun e=>decide (e.on < ops.size))&&(List.range ops.size).all fun i=>o.after.any fun e=>Region.binds md e&&e.on==i
theorem jm {ops:Array Oper} {o:Oper} {listed:Array Bool} (hs:listed.size=ops.size) (hb:pG ops=true) {i:Nat} (hi:i < ops.size) :
  i∈Region.ready md (ops.push o) (listed.push false)↔i∈Region.ready md ops listed:=by
 rw[mem_ready,mem_ready];have e1:(ops.push o)[i]? = ops[i]?:=by rw[Array.getElem?_push];rw[if_neg byOmega]
 have e2:∀ j d,j < ops.size→(listed.push false).getD j d=listed.getD j d:=by
  intro j d hj;refine zcu ?_;rw[if_neg byOmega]
 rw[e1,e2 i true hi];constructor
 ·rintro⟨h1,oi,ho,h2⟩;refine⟨h1,oi,ho,fun e he hbd=>?_⟩;have h3:=h2 e he hbd;have hlt:e.on < i:=by
   have:=List.all_eq_true.1 hb i (List.mem_range.2 hi);rw[ho] at this;simp only[Bool.and_eq_true] at this;have:=Array.all_eq_true'.1 this.1 e he;simpa using this
  rwa [e2 _ _ byOmega] at h3
 ·rintro⟨h1,oi,ho,h2⟩;refine⟨h1,oi,ho,fun e he hbd=>?_⟩;have hlt:e.on < i:=by
   have:=List.all_eq_true.1 hb i (List.mem_range.2 hi);rw[ho] at this;simp only[Bool.and_eq_true] at this;have:=Array.all_eq_true'.1 this.1 e he;simpa using this
  rw[e2 _ _ byOmega];exact h2 e he hbd
theorem lV {ops:Array Oper} {listed:Array Bool} (hs:listed.size=ops.size) (hb:pG ops=true) (hr:Region.ready md ops listed = []):∀ i,i < ops.size→listed.getD i false=true:=by
 intro i;induction i using Nat.strongRecOn with
 | _ i ih =>
  intro hi;by_cases hl:listed.getD i true=false
  ·exfalso
   have:i∈Region.ready md ops listed:=by
    rw[mem_ready];refine⟨hl,ops[i],by simp[hi],fun e he _=>?_⟩;have h:=List.all_eq_true.1 hb i (List.mem_range.2 hi);rw[show ops[i]? = some ops[i] by simp[hi]] at h;simp only[Bool.and_eq_true] at h;have:=Array.all_eq_true'.1 h.1 e he;have hlt:e.on < i:=by simpa using this
    exact ih e.on hlt byOmega
   rw[hr] at this;cases this
  ·have hi':i < listed.size:=byOmega;simp[hi'] at hl ⊢;exact hl
theorem ae4 {ops:Array Oper} {o:Oper} (hb:pG ops=true) (hl:lastB md ops o=true) :
  ∀ (fuel:Nat) (listed:Array Bool) (a:Act) (w:World),listed.size=ops.size→wpAny P md ops (CO P Q (ops.push o) o) fuel listed a w→wpAny P md (ops.push o) Q (fuel+1) (listed.push false) a w:=by
 have fin:∀ (fuel:Nat) (listed:Array Bool) (a:Act) (w:World),listed.size=ops.size→Region.ready md ops listed = []→wpList P (ops.push o) Q [o] a w→wpAny P md (ops.push o) Q (fuel+1) (listed.push false) a w:=by
  intro fuel listed a w hs hr h;have hall:=lV hs hb hr;have hmem:∀ i,i∈Region.ready md (ops.push o) (listed.push false)↔i=ops.size:=by
   intro i;constructor
   ·intro hi;rcases Nat.lt_trichotomy i ops.size with h1 | h1 | h1
    ·rw[jm hs hb h1,hr] at hi;cases hi
    ·exact h1
    ·rw[mem_ready] at hi;obtain⟨_,oi,ho,_⟩:=hi;rw[Array.getElem?_eq_none aF] at ho;cases ho
   ·rintro rfl;rw[mem_ready];refine⟨by rw[← hs]; simp[Array.getD_eq_getD_getElem?],o,aB,fun e he hbd=>?_⟩;by_cases hlt:e.on < ops.size
    ·have:=hall e.on hlt;refine zcu ?_;rw[if_neg byOmega];simpa [Array.getD_eq_getD_getElem?] using this
    ·exfalso
     simp only[lastB,Bool.and_eq_true] at hl;have:=Array.all_eq_true'.1 hl.1 e he;simp at this;omega
  refine⟨fun h0=>absurd ((hmem ops.size).2 rfl) (by rw[h0]; simp),fun i hi=>?_⟩;have:=(hmem i).1 hi;subst this;unfold wpList at h;unfold wpOp;simp only[Array.getElem?_push_size];have hend:∀ a w,wpList P (ops.push o) Q [] a w→wpAny P md (ops.push o) Q fuel ((listed.push false).setIfInBounds ops.size true) a w:=by
   intro a w hq;refine wpAny_done ?_ hq fuel;cases hrr:Region.ready md (ops.push o) ((listed.push false).setIfInBounds ops.size true) with
   | nil=>rfl
   | cons k ks =>
    have hk:k∈Region.ready md (ops.push o) ((listed.push false).setIfInBounds ops.size true):=by rw[hrr];simp
    obtain⟨h1,oi,ho,_⟩:=mem_ready.1 hk;have hlt:=(Array.getElem?_eq_some_iff.1 ho).1;simp only[Array.size_push] at hlt;exfalso
    rcases Nat.lt_or_ge k ops.size with h2 | h2
    ·have h3:=hall k h2;have hk':k < listed.size:=byOmega;simp only[Array.getD_eq_getD_getElem?,Array.getElem?_setIfInBounds,Array.getElem?_push] at h1 h3;rw[if_neg byOmega,if_neg byOmega] at h1;simp[hk'] at h1 h3;rw[h1] at h3;cases h3
    ·have:k=ops.size:=byOmega;subst this;rw[← hs] at h1;simp[Array.getD_eq_getD_getElem?] at h1
  split
  ·rename_i hw
   rw[if_pos hw] at h;rcases h with h | h
   ·exact .inl (Oper.wp_mono hend h)
   ·exact .inr h
  ·rename_i hw
   rw[if_neg hw] at h;exact hend _ _ h
 intro fuel;induction fuel with
 | zero =>
  intro listed a w hs h;exact fin 0 listed a w hs h.1 h.2
 | succ fuel ih =>
  intro listed a w hs h;by_cases hr:Region.ready md ops listed = []
  ·exact fin _ listed a w hs hr (h.1 hr)
  ·refine⟨fun h0=>?_,fun i hi=>?_⟩
   ·exfalso
    obtain⟨i,hi⟩:=List.exists_mem_of_ne_nil _ hr;have hlt:i < ops.size:=by
     have:=mem_ready.1 hi;obtain⟨_,oi,ho,_⟩:=this;exact(Array.getElem?_eq_some_iff.1 ho).1
    rw[← jm (o:=o) hs hb hlt,h0] at hi;cases hi
   ·have hlt:i < ops.size:=by
     rcases Nat.lt_trichotomy i ops.size with h1 | h1 | h1
     ·exact h1
     ·subst h1;exfalso
      apply hr
      have hall:∀ j,j < ops.size→listed.getD j true=true:=by
       intro j hj;have:=List.all_eq_true.1 ((Bool.and_eq_true _ _).mp hl).2 j (List.mem_range.2 hj);obtain⟨e,he,hbd⟩:=Array.any_eq_true'.1 this;simp only[Bool.and_eq_true,beq_iff_eq] at hbd;obtain⟨_,oi,ho,h2⟩:=mem_ready.1 hi;have:oi=o:=by simpa using ho.symm
       subst this;have h3:=h2 e he hbd.1;rw[hbd.2] at h3;have hj':j < listed.size:=byOmega;simp only[Array.getD_eq_getD_getElem?,Array.getElem?_push] at h3 ⊢;rw[if_neg byOmega] at h3;simpa [hj'] using h3
      cases hrr:Region.ready md ops listed with
      | nil=>rfl
      | cons k ks =>
       have hk:k∈Region.ready md ops listed:=by rw[hrr];simp
       obtain⟨h1,oi,ho,_⟩:=mem_ready.1 hk;rw[hall k (Array.getElem?_eq_some_iff.1 ho).1] at h1;cases h1
     ·rw[mem_ready] at hi;obtain⟨_,oi,ho,_⟩:=hi;rw[Array.getElem?_eq_none aF] at ho;cases ho
    have hi':=(jm (o:=o) hs hb hlt).1 hi;have hop:=h.2 i hi';have e1:(ops.push o)[i]? = ops[i]?:=by rw[Array.getElem?_push,if_neg byOmega]
    have hset:(listed.push false).setIfInBounds i true=(listed.setIfInBounds i true).push false:=by
     apply Array.ext_getElem?
     intro j;refine za7 ?_;by_cases h1:i=j
     ·subst h1;rw[if_pos rfl,if_pos byOmega,if_neg byOmega,if_pos rfl,if_pos byOmega]
     ·rw[if_neg h1,if_neg h1]
    unfold wpOp at hop ⊢;rw[e1];cases ho:ops[i]? with
    | none=>rw[ho] at hop; simp only at hop ⊢; rw[hset]; exact ih _ _ _ (by simp[hs]) hop
    | some oi =>
     rw[ho] at hop;simp only at hop ⊢;have hg:Region.wanted oi (yielded (ops.push o) a.tmps)=Region.wanted oi (yielded ops a.tmps):=by
      unfold Region.wanted;have hbi:=List.all_eq_true.1 hb i (List.mem_range.2 hlt);rw[ho] at hbi;simp only[Bool.and_eq_true] at hbi;cases hgd:oi.guard with
      | none=>rfl
      | some jw =>
       obtain⟨j,want⟩:=jw;rw[hgd] at hbi;have hj:j < i:=by simpa using hbi.2
       simp only[yielded];rw[Array.getElem?_push,if_neg byOmega]
     rw[hg];split
     ·rename_i hw
      rw[if_pos hw] at hop;rcases hop with hop | hop
      ·refine .inl ?_;have:=Oper.wp_mono (K':=wpAny P md (ops.push o) Q (fuel+1) ((listed.push false).setIfInBounds i true)) (fun a' w' h'=>by rw[hset]; exact ih _ _ _ (by simp[hs]) h') hop;exact abz this
      ·exact .inr hop
     ·rename_i hw
      rw[if_neg hw] at hop;rw[hset];exact ih _ _ _ (by simp[hs]) hop
theorem yJ {L:List Oper} {o:Oper} (n:Nat) (hn:L.drop n = [o]) (hb:pG (L.take n).toArray=true) (hl:lastB md (L.take n).toArray o=true) {a:Act} {w:World}
  (h:wpAny P md (L.take n).toArray (CO P Q L.toArray o) n (Array.replicate n false) a w):wpAny P md L.toArray Q (n+1) (Array.replicate (n+1) false) a w:=by
 have hlen:L.length=n+1:=by
  exact zcz
 have hL:L.toArray=(L.take n).toArray.push o:=by
  rw[List.push_toArray,← hn,List.take_append_drop]
 have hs:(L.take n).toArray.size=n:=aF;rw[hL] at h ⊢;rw[Array.replicate_succ];exact ae4 hb hl n _ a w (by simp[hs]) h
theorem ah8 {id:Nat} {L:List Oper} {o o':Oper} (S:World→Prop) (n:Nat) (hm:P.follows .mixedOrders=true) (hn:L.drop (n+1) = [o']) (hn':(L.take (n+1)).drop n = [o]) (hb:pG (L.take (n+1)).toArray=true) (hl:lastB .any (L.take (n+1)).toArray o'=true)
  (hb':pG ((L.take (n+1)).take n).toArray=true) (hl':lastB .any ((L.take (n+1)).take n).toArray o=true) {a:Act} {w:World}
  (_hS:S w.drew) (h:wpAnyH P .any ((L.take (n+1)).take n).toArray (CO P (CO P Q L.toArray o') (L.take (n+1)).toArray o) S n (Array.replicate n false) a w.drew):(Code.region id L.toArray true).wp P Q a w:=by
 have hlen:L.length=n+1+1:=by
  exact zcz
 refine wp_region_any hm ?_;rw[List.size_toArray,hlen];exact yJ (n+1) hn hb hl (yJ n hn' hb' hl' (wpAny_of_held _ _ _ _ h))
end
section
variable {P:Program} {md:Region.Mode}
def needs (md:Region.Mode) (ops:Array Oper):Nat→Oper→Nat→Bool
 | 0,o,i=>o.after.any fun e=>Region.binds md e&&e.on==i
 | f+1,o,i=>o.after.any fun e=>Region.binds md e&&(e.on==i||match ops[e.on]? with | some o'=>needs md ops f o' i | none=>false)
def Down (md:Region.Mode) (ops:Array Oper) (listed:Array Bool):Prop:=∀ i o,ops[i]? = some o→listed.getD i false=true→∀ e∈o.after,Region.binds md e=true→listed.getD e.on false=true
theorem wz {ops:Array Oper} {listed:Array Bool} (hd:Down md ops listed):∀ (f:Nat) (o:Oper) (i:Nat),(∀ e∈o.after,Region.binds md e=true→listed.getD e.on false=true)→needs md ops f o i=true→listed.getD i false=true
 | 0,o,i,h,hn=>by
  obtain⟨e,he,hb⟩:=Array.any_eq_true'.1 hn;simp only[Bool.and_eq_true,beq_iff_eq] at hb;rw[← hb.2]; exact h e he hb.1
 | f+1,o,i,h,hn=>by
  obtain⟨e,he,hb⟩:=Array.any_eq_true'.1 hn;simp only[Bool.and_eq_true,Bool.or_eq_true,beq_iff_eq] at hb;have h1:=h e he hb.1;rcases hb.2 with h2 | h2
  ·rw[← h2]; exact h1
  ·cases ho:ops[e.on]? with
   | none=>rw[ho] at h2; cases h2
   | some o' =>
    rw[ho] at h2;exact wz hd f o' i (fun e' he' hb'=>hd e.on o' ho h1 e' he' hb') h2
def abA (md:Region.Mode) (ops:Array Oper) (o:Oper):Bool:=o.after.all (fun e=>decide (e.on < ops.size))&&(List.range ops.size).all fun i=>needs md ops ops.size o i
theorem ae5 {ops:Array Oper} {listed:Array Bool} (hs:listed.size=ops.size) (hd:Down md ops listed) {i:Nat} (hi:i∈Region.ready md ops listed):Down md ops (listed.setIfInBounds i true):=by
 obtain⟨_,oi,hoi,hall⟩:=mem_ready.1 hi;have mono:∀ k,listed.getD k false=true→(listed.setIfInBounds i true).getD k false=true:=by
  intro k hk;simp only[Array.getD_eq_getD_getElem?,Array.getElem?_setIfInBounds] at hk ⊢;by_cases hik:i=k
  ·subst hik;rw[if_pos rfl];by_cases hlt:i < listed.size
   ·simp[hlt]
   ·simp[hlt] at hk
  ·rw[if_neg hik];exact hk
 intro j o ho hj e he hb;by_cases hij:i=j
 ·subst hij;rw[hoi] at ho;cases ho;exact mono _ (hall e he hb)
 ·refine mono _ (hd j o ho ?_ e he hb);simp only[Array.getD_eq_getD_getElem?,Array.getElem?_setIfInBounds] at hj ⊢;rw[if_neg hij] at hj;exact hj
variable {Q:Exit→Act→World→Prop}
theorem adz {ops:Array Oper} {o:Oper} (hb:pG ops=true) (hl:abA md ops o=true) :
  ∀ (fuel:Nat) (listed:Array Bool) (a:Act) (w:World),listed.size=ops.size→Down md ops listed→wpAny P md ops (CO P Q (ops.push o) o) fuel listed a w→wpAny P md (ops.push o) Q (fuel+1) (listed.push false) a w:=by
 have hl1:=((Bool.and_eq_true _ _).mp hl).1;have hl2:=((Bool.and_eq_true _ _).mp hl).2;have waits:∀ (listed:Array Bool),listed.size=ops.size→Down md ops listed→ops.size∈Region.ready md (ops.push o) (listed.push false)→∀ j,j < ops.size→listed.getD j false=true:=by
  intro listed hs hd hi j hj;obtain⟨_,oi,ho,h2⟩:=mem_ready.1 hi;have:oi=o:=by simpa using ho.symm
  subst this;refine wz hd ops.size oi j (fun e he hbd=>?_) (List.all_eq_true.1 hl2 j (List.mem_range.2 hj));have h3:=h2 e he hbd;have hlt:e.on < ops.size:=by simpa using Array.all_eq_true'.1 hl1 e he
  simp only[Array.getD_eq_getD_getElem?,Array.getElem?_push] at h3 ⊢;rw[if_neg byOmega] at h3;exact h3
 have fin:∀ (fuel:Nat) (listed:Array Bool) (a:Act) (w:World),listed.size=ops.size→Region.ready md ops listed = []→wpList P (ops.push o) Q [o] a w→wpAny P md (ops.push o) Q (fuel+1) (listed.push false) a w:=by
  intro fuel listed a w hs hr h;have hall:=lV hs hb hr;have hmem:∀ i,i∈Region.ready md (ops.push o) (listed.push false)↔i=ops.size:=by
   intro i;constructor
   ·intro hi;rcases Nat.lt_trichotomy i ops.size with h1 | h1 | h1
    ·rw[jm hs hb h1,hr] at hi;cases hi
    ·exact h1
    ·obtain⟨_,oi,ho,_⟩:=mem_ready.1 hi;rw[Array.getElem?_eq_none aF] at ho;cases ho
   ·rintro rfl;rw[mem_ready];refine⟨by rw[← hs]; simp[Array.getD_eq_getD_getElem?],o,aB,fun e he hbd=>?_⟩;have hlt:e.on < ops.size:=by simpa using Array.all_eq_true'.1 hl1 e he
    have:=hall e.on hlt;refine zcu ?_;rw[if_neg byOmega];simpa [Array.getD_eq_getD_getElem?] using this
  refine⟨fun h0=>absurd ((hmem ops.size).2 rfl) (by rw[h0]; simp),fun i hi=>?_⟩;have:=(hmem i).1 hi;subst this;unfold wpList at h;unfold wpOp;simp only[Array.getElem?_push_size];have hend:∀ a w,wpList P (ops.push o) Q [] a w→wpAny P md (ops.push o) Q fuel ((listed.push false).setIfInBounds ops.size true) a w:=by
   intro a w hq;refine wpAny_done ?_ hq fuel;cases hrr:Region.ready md (ops.push o) ((listed.push false).setIfInBounds ops.size true) with
   | nil=>rfl
   | cons k ks =>
    have hk:k∈Region.ready md (ops.push o) ((listed.push false).setIfInBounds ops.size true):=by rw[hrr];simp
    obtain⟨h1,oi,ho,_⟩:=mem_ready.1 hk;have hlt:=(Array.getElem?_eq_some_iff.1 ho).1;simp only[Array.size_push] at hlt;exfalso
    rcases Nat.lt_or_ge k ops.size with h2 | h2
    ·have h3:=hall k h2;have hk':k < listed.size:=byOmega;simp only[Array.getD_eq_getD_getElem?,Array.getElem?_setIfInBounds,Array.getElem?_push] at h1 h3;rw[if_neg byOmega,if_neg byOmega] at h1;simp[hk'] at h1 h3;rw[h1] at h3;cases h3
    ·have:k=ops.size:=byOmega;subst this;rw[← hs] at h1;simp[Array.getD_eq_getD_getElem?] at h1
  split
  ·rename_i hw
   rw[if_pos hw] at h;rcases h with h | h
   ·exact .inl (Oper.wp_mono hend h)
   ·exact .inr h
  ·rename_i hw
   rw[if_neg hw] at h;exact hend _ _ h
 intro fuel;induction fuel with
 | zero =>
  intro listed a w hs _ h;exact fin 0 listed a w hs h.1 h.2
 | succ fuel ih =>
  intro listed a w hs hd h;by_cases hr:Region.ready md ops listed = []
  ·exact fin _ listed a w hs hr (h.1 hr)
  ·refine⟨fun h0=>?_,fun i hi=>?_⟩
   ·exfalso
    obtain⟨i,hi⟩:=List.exists_mem_of_ne_nil _ hr;have hlt:i < ops.size:=by
     obtain⟨_,oi,ho,_⟩:=mem_ready.1 hi;exact(Array.getElem?_eq_some_iff.1 ho).1
    rw[← jm (o:=o) hs hb hlt,h0] at hi;cases hi
   ·have hlt:i < ops.size:=by
     rcases Nat.lt_trichotomy i ops.size with h1 | h1 | h1
     ·exact h1
     ·subst h1;exfalso
      apply hr
      have hall:=waits listed hs hd hi;cases hrr:Region.ready md ops listed with
      | nil=>rfl
      | cons k ks =>
       have hk:k∈Region.ready md ops listed:=by rw[hrr];simp
       obtain⟨h1,oi,ho,_⟩:=mem_ready.1 hk;have hkl:=(Array.getElem?_eq_some_iff.1 ho).1;have h3:=hall k hkl;have hk':k < listed.size:=byOmega;simp[hk'] at h1 h3;rw[h1] at h3;cases h3
     ·obtain⟨_,oi,ho,_⟩:=mem_ready.1 hi;rw[Array.getElem?_eq_none aF] at ho;cases ho
    have hi':=(jm (o:=o) hs hb hlt).1 hi;have hd':=ae5 hs hd hi';have hop:=h.2 i hi';have e1:(ops.push o)[i]? = ops[i]?:=by rw[Array.getElem?_push,if_neg byOmega]
    have hset:(listed.push false).setIfInBounds i true=(listed.setIfInBounds i true).push false:=by
     apply Array.ext_getElem?
     intro j;refine za7 ?_;by_cases h1:i=j
     ·subst h1;rw[if_pos rfl,if_pos byOmega,if_neg byOmega,if_pos rfl,if_pos byOmega]
     ·rw[if_neg h1,if_neg h1]
    unfold wpOp at hop ⊢;rw[e1];cases ho:ops[i]? with
    | none=>rw[ho] at hop; simp only at hop ⊢; rw[hset]; exact ih _ _ _ (by simp[hs]) hd' hop
    | some oi =>
     rw[ho] at hop;simp only at hop ⊢;have hg:Region.wanted oi (yielded (ops.push o) a.tmps)=Region.wanted oi (yielded ops a.tmps):=by
      unfold Region.wanted;have hbi:=List.all_eq_true.1 hb i (List.mem_range.2 hlt);rw[ho] at hbi;simp only[Bool.and_eq_true] at hbi;cases hgd:oi.guard with
      | none=>rfl
      | some jw =>
       obtain⟨j,want⟩:=jw;rw[hgd] at hbi;have hj:j < i:=by simpa using hbi.2
       simp only[yielded];rw[Array.getElem?_push,if_neg byOmega]
     rw[hg];split
     ·rename_i hw
      rw[if_pos hw] at hop;rcases hop with hop | hop
      ·refine .inl ?_;have:=Oper.wp_mono (K':=wpAny P md (ops.push o) Q (fuel+1) ((listed.push false).setIfInBounds i true)) (fun a' w' h'=>by rw[hset]; exact ih _ _ _ (by simp[hs]) hd' h') hop;exact abz this
      ·exact .inr hop
     ·rename_i hw
      rw[if_neg hw] at hop;rw[hset];exact ih _ _ _ (by simp[hs]) hd' hop
theorem agP (ops:Array Oper) (n:Nat):Down md ops (Array.replicate n false):=by
 intro i o _ h;simp only[Array.getD_eq_getD_getElem?,Array.getElem?_replicate] at h;split at h <;> simp at h
theorem acp {L:List Oper} {o:Oper} (n:Nat) (hn:L.drop n = [o]) (hb:pG (L.take n).toArray=true) (hl:abA md (L.take n).toArray o=true) {a:Act} {w:World}
  (h:wpAny P md (L.take n).toArray (CO P Q L.toArray o) n (Array.replicate n false) a w):wpAny P md L.toArray Q (n+1) (Array.replicate (n+1) false) a w:=by
 have hlen:L.length=n+1:=by
  exact zcz
 have hL:L.toArray=(L.take n).toArray.push o:=by
  rw[List.push_toArray,← hn,List.take_append_drop]
 have hs:(L.take n).toArray.size=n:=aF;rw[hL] at h ⊢;rw[Array.replicate_succ];exact adz hb hl n _ a w (by simp[hs]) (agP _ _) h
def Ba (P:Program) (Q:Exit→Act→World→Prop) (L:List Oper):Nat→Exit→Act→World→Prop
 | 0=>Q
 | k+1=>CO P (Ba P Q L k) (L.take (L.length - k)).toArray (L.getD (L.length - (k+1)) default)
theorem rQ {L:List Oper} (n:Nat):∀ (k:Nat),L.length=n+k→(∀ j,j < k→pG (L.take (n+j)).toArray=true∧abA md (L.take (n+j)).toArray (L.getD (n+j) default)=true)→∀ {a:Act} {w:World},
  wpAny P md (L.take n).toArray (Ba P Q L k) n (Array.replicate n false) a w→wpAny P md L.toArray Q (n+k) (Array.replicate (n+k) false) a w:=by
 have key:∀ (k:Nat),k≤L.length - n→n≤L.length→(∀ j,n+j < L.length→pG (L.take (n+j)).toArray=true∧abA md (L.take (n+j)).toArray (L.getD (n+j) default)=true)→∀ {a:Act} {w:World},
   wpAny P md (L.take (L.length - k)).toArray (Ba P Q L k) (L.length - k) (Array.replicate (L.length - k) false) a w→wpAny P md L.toArray Q L.length (Array.replicate L.length false) a w:=by
  intro k;induction k with
  | zero=>intro _ _ _ a w h; simpa [Ba] using h
  | succ k ih =>
   intro hk hn hc a w h;refine ih byOmega hn hc ?_;have e:L.length - k=(L.length - (k+1))+1:=byOmega;have ht:(L.take (L.length - k)).take (L.length - (k+1))=L.take (L.length - (k+1)):=by rw[List.take_take];congr 1;omega
   have hd:(L.take (L.length - k)).drop (L.length - (k+1)) = [L.getD (L.length - (k+1)) default]:=by
    rw[List.drop_take,show L.length - k - (L.length - (k+1))=1 by omega,List.drop_eq_getElem_cons byOmega,List.take_succ_cons,List.take_zero];congr 1;simp[List.getD_eq_getElem?_getD,show L.length - (k+1) < L.length by omega]
   have hcc:=hc (L.length - (k+1) - n) byOmega;rw[show n+(L.length - (k+1) - n)=L.length - (k+1) by omega] at hcc;have:=acp (P:=P) (md:=md) (Q:=Ba P Q L k) (L:=L.take (L.length - k)) (o:=L.getD (L.length - (k+1)) default) (L.length - (k+1)) hd (by rw[ht]; exact hcc.1) (by rw[ht]; exact hcc.2) (a:=a) (w:=w) (by rw[ht]; exact h);rw[← e] at this;exact this
 intro k hL hc a w h;have:=key k byOmega byOmega (fun j hj=>hc j byOmega) (a:=a) (w:=w) (by rw[show L.length - k=n by omega]; exact h);rwa [hL] at this
theorem aX {id:Nat} {L:List Oper} (S:World→Prop) (n k:Nat) (hm:P.follows .mixedOrders=true) (hL:L.length=n+k) (hc:(List.range k).all (fun j=>pG (L.take (n+j)).toArray&&abA .any (L.take (n+j)).toArray (L.getD (n+j) default))=true) {a:Act} {w:World}
  (h:wpAnyH P .any (L.take n).toArray (Ba P Q L k) S n (Array.replicate n false) a w.drew):(Code.region id L.toArray true).wp P Q a w:=by
 refine wp_region_any hm ?_;rw[List.size_toArray,hL];refine rQ n k hL (fun j hj=>?_) (wpAny_of_held _ _ _ _ h);have:=List.all_eq_true.1 hc j (List.mem_range.2 hj);simpa using this
end
theorem enters {f:FuncId} {fn:Func} (hf:Tryz.prog.funcs[f]? = some fn) (hn:(fn.name == "runtime.NumGoroutine")=false) (hb:fn.body.isNone=false) (args:Array Value) (w:World):(callFunc f args).run Tryz.prog w = .ok (.enter f args) w:=by
 have h1:fn.name ≠ "runtime.NumGoroutine" := by simpa using hn
 have h2:fn.body.isNone=false:=hb;obtain⟨b,hb⟩:∃ b,fn.body=some b:=by cases h:fn.body <;> simp_all
 simp[callFunc,hf,h1,hb,Sem.run]
theorem adA (w:World) (lo hi x:Int) (b1 b2:Nat) (h1:w.cell? ⟨b1,0,none⟩=some (.int .i64 lo)) (h2:w.cell? ⟨b2,0,none⟩=some (.int .i64 hi)) :
  Calls Tryz.prog 174 #[.int .i64 x,.pointer (some ⟨b1,0,none⟩),.pointer (some ⟨b2,0,none⟩)] w fun e w'=>e = .returned (.bool (decide (x < lo)||decide (hi < x)))∧w=w':=by
 by_cases q:x < lo
 ·have HF:=Ag (show(decide (x < lo)||decide (hi < x))=true by simp[q]);go_in;exact Y4
 ·have d:decide (x < lo)=false:=decide_eq_false q;by_cases q2:hi < x
  ·have HF:=Ag (show(decide (x < lo)||decide (hi < x))=true by simp[q2]);go_in;exact Y4
  ·have d2:decide (hi < x)=false:=decide_eq_false q2;have HF:=Ag (show(decide (x < lo)||decide (hi < x))=false by simp[d,d2]);go_in;exact Y4
def iE (lo hi:Int) (l:List Int):Int:=if outside lo hi l then 2 else 0
theorem oG (w:World) (F:Foot) (v:Value) (lo hi:Int) (l:List Int) (hv:AA w F v l) (hl:l.length≤1000000) :
  Calls Tryz.prog 147 #[.int .i64 lo,.int .i64 hi,v] w (Ret w fun v _=>v = .int .i64 (iE lo hi l)):=by
 have HV:=Ag hv;clear hv;refine ZV ?_;intro hmf;go_in;go_wp2_with fail
 obtain⟨W,hW⟩:∃ W:World,W=(w.alloc (.cells #[.int .i64 lo] 3)).alloc (.cells #[.int .i64 hi] 3):=⟨_,rfl⟩;rw[← hW];have hb:=tZ w (.cells #[.int .i64 lo] 3) (.cells #[.int .i64 hi] 3) 0;have hsm:Same F w W:=by rw[hW];exact(Same.alloc _ _ _).trans (Same.alloc _ _ _)
 have c1:W.cell? ⟨w.heap.size,0,none⟩=some (.int .i64 lo):=by rw[hW];simp
 have c2:W.cell? ⟨w.heap.size+1,0,none⟩=some (.int .i64 hi):=by
  rw[hW];simp
 have hbW:Below w.heap.size w W:=by rw[hW];exact hb
 clear hb hW;have ha:Di W 174 #[.pointer (some ⟨w.heap.size,0,none⟩),.pointer (some ⟨w.heap.size+1,0,none⟩)] l (fun x=>decide (x < lo)||decide (hi < x)):=by
  refine⟨enters Tryz.func174 (by decide +kernel) (by decide +kernel),fun n x _=>?_⟩;exact(adA (W.drewN n) lo hi x _ _ c1 c2).mono fun e w' ⟨he,hw⟩=>⟨he,n,hw.symm⟩
 refine(xK W F v l _ _ _ (HV.out.on hsm) hl ha).mono ?_;rintro e w' ⟨rfl,n,rfl⟩;clear ha;have HO:=Ag (show iE lo hi l=if l.any (fun x=>decide (x < lo)||decide (hi < x)) then 2 else 0 from rfl);generalize l.any (fun x=>decide (x < lo)||decide (hi < x))=r at *;dsimp only;cases r
 ·go_wp2
  go_ret;exact⟨_,rfl,aI hbW _,by rw[HO.out]; rfl⟩
 ·go_wp2
  go_ret;exact⟨_,rfl,aI hbW _,by rw[HO.out]; rfl⟩
open List renaming getElem_toArray → lq1, getElem_cons_zero → lq2, getElem_cons_succ → lq3, setIfInBounds_toArray → lq4, set_cons_zero → lq5, set_cons_succ → lq6
structure Ce (w:World) (p:Nat) (aA:Int) (ni:Nat):Prop where
 aA:w.cell? ⟨p,0,none⟩=some (.int .i64 aA)
 infos:∃ A c,w.cell? ⟨p,2,none⟩=some (.slice A ni c)
theorem ae6 (w:World) (F:Foot) (u ux:Value) (x:Nd) (hx:BR w F ux x) (hl:x.next.length < 1000000∧x.weights.length < 1000000∧x.pay.length < 1000000) :
  Calls Tryz.prog 190 #[u,ux] w (Ret w fun v _=>v = .int .i64 (dI x)):=by
 obtain⟨v3,v4,v5,rfl,⟨A3,c3,rfl,hc3,h3⟩,⟨A4,c4,rfl,hc4,h4⟩,⟨A5,c5,rfl,hc5,h5⟩⟩:=hx;obtain⟨hl3,hl4,hl5⟩:=hl;have H4:=Ag (show AA w F (.slice A4 x.weights.length c4) x.weights from⟨A4,c4,rfl,hc4,h4⟩);clear h3 h4 h5;by_cases q0:x.aC≠0
 ·refine zaO ?_;intro HF;have d0:(x.aC != 0)=true:=neT byOmega;exact Zy
 have d0:(x.aC != 0)=false:=neF byOmega;by_cases q1:x.info≠0
 ·refine zaO ?_;intro HF;have d1:(x.info != 0)=true:=neT byOmega;exact Zy
 have d1:(x.info != 0)=false:=neF byOmega;by_cases q2:0 < x.pay.length
 ·refine zaO ?_;intro HF;exact Zy
 have d2:decide ((0:Int) < (x.pay.length:Int))=false:=decide_eq_false byOmega;by_cases q3:x.next.length < 1
 ·refine zaO ?_;intro HF;exact Zy
 have d3:decide ((x.next.length:Int) < 1)=false:=decide_eq_false byOmega;by_cases q4:60 < x.next.length
 ·refine zaO ?_;intro HF;exact Zy
 have d4:decide ((60:Int) < (x.next.length:Int))=false:=decide_eq_false byOmega;by_cases q5:x.weights.length≠x.next.length
 ·refine zaO ?_;intro HF;have d5:((x.weights.length:Int) != (x.next.length:Int))=true:=neT byOmega;exact Zy
 have d5:((x.weights.length:Int) != (x.next.length:Int))=false:=neF byOmega;have HF:=Ag (show dI x=iE 1 1000 x.weights by unfold dI; rw[if_neg byOmega]; rfl);clear q0 q1 q5;go_in;go_wp2_with fail
 refine(oG _ F _ 1 1000 x.weights (H4.out.on (Same.alloc _ _ _)) byOmega).mono ?_;rintro e w' ⟨v,rfl,hb,rfl⟩;dsimp only;go_wp2
 go_ret;exact⟨_,rfl,((Below.refl _ _).alloc (Nat.le_refl _) _).trans (hb.mono aB),by rw[HF.out]; rfl⟩
theorem bH (w:World) (t:TypeId) (c:Array Value):∃ W:World,W=w.alloc (.cells c t)∧Row W w.heap.size t c.toList∧Below w.heap.size w W∧w.heap.size+1=W.heap.size :=
 ⟨_,rfl,Row.new w _ _,(Below.refl _ _).alloc (Nat.le_refl _) _,aB⟩
theorem ae7 (aA:Int) (ni:Nat) (x:Nd) (h:¬ (0 < x.pay.length∨0 < x.weights.length∨x.next.length < 1∨10 < x.next.length)) :
  gW aA ni x=if iE 0 (aA - 1) [x.aC]≠0 then iE 0 (aA - 1) [x.aC] else iE 0 ((ni:Int) - 1) [x.info]:=by
 unfold gW iE outside;rw[if_neg h];simp only[List.any_cons,List.any_nil,Bool.or_false,Bool.or_eq_true,decide_eq_true_eq];repeat' split
 all_goals first | rfl | omega
theorem move_any (w:World) (F:Foot) (p:Nat) (ux:Value) (aA:Int) (ni:Nat) (x:Nd) (hw:Ce w p aA ni) (hx:BR w F ux x) (hl:x.next.length < 1000000∧x.weights.length < 1000000∧x.pay.length < 1000000)
  (hp:0≤aA∧aA < 1000000) (hni:ni < 1000000) (hpl:p < w.heap.size) :
  Calls Tryz.prog 191 #[.pointer (some ⟨p,0,none⟩),ux] w (Ret w fun v _=>v = .int .i64 (gW aA ni x)):=by
 obtain⟨v3,v4,v5,rfl,⟨A3,c3,rfl,hc3,h3⟩,⟨A4,c4,rfl,hc4,h4⟩,⟨A5,c5,rfl,hc5,h5⟩⟩:=hx;obtain⟨hl3,hl4,hl5⟩:=hl;clear h3 h4 h5;obtain⟨hwp,Ai,ci,hwi⟩:=hw;by_cases q0:0 < x.weights.length
 ·exact zah
 have d0:decide ((0:Int) < (x.weights.length:Int))=false:=decide_eq_false byOmega;by_cases q1:0 < x.pay.length
 ·exact zah
 have d1:decide ((0:Int) < (x.pay.length:Int))=false:=decide_eq_false byOmega;by_cases q2:x.next.length < 1
 ·exact zah
 have d2:decide ((x.next.length:Int) < 1)=false:=decide_eq_false byOmega;by_cases q3:10 < x.next.length
 ·exact zah
 have d3:decide ((10:Int) < (x.next.length:Int))=false:=decide_eq_false byOmega;have HF:=Ag (ae7 aA ni x byOmega);go_in;go_wp2_with fail
 obtain⟨W,hW,hbx,hWb,hWz⟩:=bH w 127 #[.int .i64 x.kind,.int .i64 x.aC,.int .i64 x.info,.slice A3 x.next.length c3,.slice A4 x.weights.length c4,.slice A5 x.pay.length c5];rw[← hW];clear hW;have hold:=aQ hWb;have wr1:IntKind.i64.wrap (aA - 1)=aA - 1:=IntWalk.i64_in _ byOmega;have wr2:IntKind.i64.wrap ((ni:Int) - 1)=(ni:Int) - 1:=IntWalk.i64_in _ byOmega;refine wp_region_held_drew (S:=fun w'=>w'.cell? ⟨w.heap.size,1,none⟩=some (.int .i64 x.aC)∧w'.cell? ⟨p,0,none⟩=some (.int .i64 aA)) ah ⟨hbx.cell rfl,(hold p 0 hpl).trans hwp⟩ (fun hHeld=>?_);refine tkm [0,1,2,3,4,5,6,7] ?_;refine tk2 8 ah rfl fun K hK=>?_
 go_simp;obtain⟨W1,hW1,hbr,uQ,agQ⟩:=bH W 3 #[.int .i64 x.aC];rw[← hW1];clear hW1;have jY:=hbx.below uQ byOmega;have hB1:Below w.heap.size w W1:=hWb.trans (uQ.mono byOmega);clear hbx uQ hWb;refine hK.out _ _ ⟨jY.drew.cell rfl,(aQ hB1.drew p 0 hpl).trans hwp⟩ (fun hHeld=>?_);clear hK K;refine Zb ?_;refine tk2 9 ah rfl fun K hK=>?_
 go_simp;refine(oG _ (fun b=>b=W.heap.size) _ 0 (aA - 1) [x.aC] (Row.ints (l:=[x.aC]) hbr.drew (F:=fun b=>b=W.heap.size) rfl (c:=1) aB) aB).mono ?_;rintro e w1 ⟨_,rfl,hb1,rfl⟩;have hbx2:=jY.drew.below hb1 aF;have hB2:Below w.heap.size w w1:=hB1.drew.trans (hb1.mono aF);clear jY hb1 hB1 hbr;dsimp only;refine hK.out _ _ ⟨hbx2.cell rfl,(aQ hB2 p 0 hpl).trans hwp⟩ (fun hHeld=>?_);clear hK K;refine Zb ?_;refine tkm [10] ?_;refine Yp ?_;have hx1:=hbx2.lt;generalize iE 0 (aA - 1) [x.aC]=er at *;by_cases he:er=0
 ·subst he;have HF2:=Ag (show gW aA ni x=iE 0 ((ni:Int) - 1) [x.info] by rw[HF.out]; simp);go_wp2_with fail
  refine wp_region_held_drew (S:=fun w'=>w'.cell? ⟨w.heap.size,2,none⟩=some (.int .i64 x.info)∧w'.cell? ⟨p,2,none⟩=some (.slice Ai ni ci)) ah ⟨hbx2.cell rfl,(aQ hB2 p 2 hpl).trans hwi⟩ (fun hHeld=>?_);refine tkm [0,1,2,3,4,5,6,7,8] ?_;refine tk2 9 ah rfl fun K hK=>?_
  go_simp;obtain⟨W3,hW3,hbr,akz,hW3z⟩:=bH w1 3 #[.int .i64 x.info];rw[← hW3];clear hW3;have akA:=hbx2.below akz byOmega;have hB3:Below w.heap.size w W3:=hB2.trans (akz.mono byOmega);clear hbx2 akz hB2;refine hK.out _ _ ⟨akA.drew.cell rfl,(aQ hB3.drew p 2 hpl).trans hwi⟩ (fun hHeld=>?_);clear hK K;refine Zb ?_;refine tk2 10 ah rfl fun K hK=>?_
  go_simp;refine(oG _ (fun b=>b=w1.heap.size) _ 0 ((ni:Int) - 1) [x.info] (Row.ints (l:=[x.info]) hbr.drew (F:=fun b=>b=w1.heap.size) rfl (c:=1) aB) aB).mono ?_;rintro e w2 ⟨_,rfl,hb2,rfl⟩;have hbx4:=akA.drew.below hb2 aF;have hB4:Below w.heap.size w w2:=hB3.drew.trans (hb2.mono aF);clear akA hb2 hB3 hbr;dsimp only;refine hK.out _ _ ⟨hbx4.cell rfl,(aQ hB4 p 2 hpl).trans hwi⟩ (fun hHeld=>?_);clear hK K;refine Zb ?_;refine tkm [11] ?_;refine Yp ?_;go_wp2
  go_ret;exact⟨_,rfl,hB4,by rw[HF2.out]; rfl⟩
 ·have hd:(er != 0)=true:=by simp[he]
  have HF2:=Ag (show gW aA ni x=er by rw[HF.out]; simp[he]);clear he;go_wp2
  go_ret;exact⟨_,rfl,hB2,by rw[HF2.out]; rfl⟩
theorem ajE (w:World) (F:Foot) (p:Nat) (ux:Value) (aA:Int) (ni:Nat) (x:Nd) (hw:Ce w p aA ni) (hx:BR w F ux x) (hl:x.next.length < 1000000∧x.weights.length < 1000000∧x.pay.length < 1000000) (hpl:p < w.heap.size) :
  Calls Tryz.prog 192 #[.pointer (some ⟨p,0,none⟩),ux] w (Ret w fun v _=>v = .int .i64 (jS aA x)):=by
 obtain⟨v3,v4,v5,rfl,⟨A3,c3,rfl,hc3,h3⟩,⟨A4,c4,rfl,hc4,h4⟩,⟨A5,c5,rfl,hc5,h5⟩⟩:=hx;obtain⟨hl3,hl4,hl5⟩:=hl;have H5:=Ag (show AA w F (.slice A5 x.pay.length c5) x.pay from⟨A5,c5,rfl,hc5,h5⟩);clear h3 h4 h5;obtain⟨hwp,Ai,ci,hwi⟩:=hw;by_cases q0:x.aC≠0
 ·refine zbc ?_;intro HF;have d0:(x.aC != 0)=true:=neT byOmega;exact ZU
 have d0:(x.aC != 0)=false:=neF byOmega;by_cases q1:x.info≠0
 ·refine zbc ?_;intro HF;have d1:(x.info != 0)=true:=neT byOmega;exact ZU
 have d1:(x.info != 0)=false:=neF byOmega;by_cases q2:0 < x.next.length
 ·refine zbc ?_;intro HF;have d2:decide ((0:Int) < (x.next.length:Int))=true:=decide_eq_true byOmega;exact ZU
 have d2:decide ((0:Int) < (x.next.length:Int))=false:=decide_eq_false byOmega;by_cases q3:0 < x.weights.length
 ·refine zbc ?_;intro HF;have d3:decide ((0:Int) < (x.weights.length:Int))=true:=decide_eq_true byOmega;exact ZU
 have d3:decide ((0:Int) < (x.weights.length:Int))=false:=decide_eq_false byOmega;by_cases q4:(x.pay.length:Int)≠aA
 ·refine zbc ?_;intro HF;have d4:((x.pay.length:Int) != aA)=true:=neT byOmega;exact ZU
 have d4:((x.pay.length:Int) != aA)=false:=neF byOmega;have HF:=Ag (show jS aA x=iE (-1000000) 1000000 x.pay by unfold jS; rw[if_neg byOmega]; rfl);clear q0 q1 q4;go_in;go_wp2
 go_quiet (fail)
 go_wp2_with fail
 refine(oG _ F _ (-1000000) 1000000 x.pay ((H5.out.on (Same.alloc _ _ _)).on (Same.drewN _ _ _)) byOmega).mono ?_;rintro e w' ⟨v,rfl,hb,rfl⟩;dsimp only;go_wp2
 go_ret;exact⟨_,rfl,(aI ((Below.refl _ _).alloc (Nat.le_refl _) _) _).trans (hb.mono aB),by rw[HF.out]; rfl⟩
structure NV where
 n:Nd
 v3:Value
 v4:Value
 v5:Value
def NV.cells (q:NV):List Value:=[.int .i64 q.n.kind,.int .i64 q.n.aC,.int .i64 q.n.info,q.v3,q.v4,q.v5]
def NV.fine (w:World) (F:Foot) (q:NV):Prop:=AA w F q.v3 q.n.next∧AA w F q.v4 q.n.weights∧AA w F q.v5 q.n.pay
theorem mV {α:Type} {f:α→List Value} {s:Nat} (hf:∀ x,(f x).length=s):∀ (L:List α) (k j:Nat) (x:α),L[k]? = some x→j < s→(L.flatMap f)[k*s+j]? = (f x)[j]?
 | [],k,j,x,h,_=>by cases h
 | y :: L,0,j,x,h,hj=>by
  simp at h; subst h;rw[List.flatMap_cons,Nat.zero_mul,Nat.zero_add,List.getElem?_append_left (by rw[hf]; exact hj)]
 | y :: L,k+1,j,x,h,hj=>by
  rw[List.flatMap_cons,List.getElem?_append_right (by rw[hf,Nat.add_mul,Nat.one_mul]; omega),hf];rw[show(k+1)*s+j - s=k*s+j by rw[Nat.add_mul,Nat.one_mul]; omega];exact mV hf L k j x (by simpa using h) hj
def Lies (w:World) (b:Nat) (cs:List Value):Prop:=b < w.heap.size∧∀ i v,cs[i]? = some v→w.cell? ⟨b,i,none⟩=some v
theorem Row.lies {w:World} {b:Nat} {t:TypeId} {cs:List Value} (h:Row w b t cs):Lies w b cs:=⟨h.lt,fun i v hi=>h.cell hi⟩
theorem Lies.nodes {w:World} {b:Nat} {L:List NV} (h:Lies w b (L.flatMap NV.cells)) {F:Foot} (hb:F b) (hL:∀ q∈L,q.fine w F) {c:Nat} (hc:L.length≤c):Bl w F (.slice (some ⟨b,0,none⟩) L.length c) (L.map NV.n):=by
 refine⟨_,c,by rw[List.length_map],by rw[List.length_map]; exact hc,fun _=>⟨b,0,rfl,hb,h.1,fun k x hk=>?_⟩⟩;rw[List.getElem?_map] at hk;obtain⟨q,hq,rfl⟩:=Option.map_eq_some_iff.1 hk;obtain⟨f3,f4,f5⟩:=hL q (List.mem_of_getElem? hq);have g:∀ j v,j < 6→q.cells[j]? = some v→w.cell? ⟨b,0+k*6+j,none⟩=some v:=fun j v hj hv=>by
  rw[Nat.zero_add];exact h.2 _ _ (by rw[mV (f:=NV.cells) (s:=6) (fun _=>rfl) L k j q hq hj]; exact hv)
 exact⟨g 0 _ byOmega rfl,g 1 _ byOmega rfl,g 2 _ byOmega rfl,⟨_,g 3 _ byOmega rfl,f3⟩,⟨_,g 4 _ byOmega rfl,f4⟩,⟨_,g 5 _ byOmega rfl,f5⟩⟩
def rU (x:Inf):List Value:=[.int .i64 x.aC,.int .i64 x.actions]
theorem Lies.infos {w:World} {b:Nat} {L:List Inf} (h:Lies w b (L.flatMap rU)) {F:Foot} (hb:F b) {c:Nat} (hc:L.length≤c):Bh w F (.slice (some ⟨b,0,none⟩) L.length c) L:=by
 refine⟨_,c,rfl,hc,fun _=>⟨b,0,rfl,hb,h.1,fun k x hk=>?_⟩⟩;have g:∀ j v,j < 2→(rU x)[j]? = some v→w.cell? ⟨b,0+k*2+j,none⟩=some v:=fun j v hj hv=>by
  rw[Nat.zero_add];exact h.2 _ _ (by rw[mV (f:=rU) (s:=2) (fun _=>rfl) L k j x hk hj]; exact hv)
 exact⟨g 0 _ byOmega rfl,g 1 _ byOmega rfl⟩
theorem NV.fine.keep {w w':World} {F G:Foot} {q:NV} (h:q.fine w F) (hFG:∀ b,F b→b < w.heap.size→G b) (hs:Same F w w'):q.fine w' G:=⟨h.1.keep hFG hs,h.2.1.keep hFG hs,h.2.2.keep hFG hs⟩
def jU (g:Gm):Prop:=g.aA < 1∨4 < g.aA∨g.nodes.length < 1∨2000 < g.nodes.length∨200 < g.infos.length
instance (g:Gm):Decidable (jU g):=by unfold jU; infer_instance
def dG (aA:Int) (ni:Nat):List Nd→Int
 | []=>0
 | x :: l=>if eH aA ni x≠0 then eH aA ni x else dG aA ni l
def gB (infos:List Inf) (x:Nd):Bool:=decide (x.kind=2)&&(decide ((infos.getD x.info.toNat default).aC≠x.aC)||decide ((infos.getD x.info.toNat default).actions≠(x.next.length:Int)))
def qM (g:Gm):Bool:=g.nodes.any (gB g.infos)
def nN (sets:List (List Int)):Bool:=sets.any fun l=>decide (l.length=0)
def oH (sets:List (List Int)) (i:Nat):Bool:=decide ((sets.getD i []).getD 0 0 < (sets.getD (i - 1) []).getD 0 0)
def jF (sets:List (List Int)) (m:Nat):Bool:=(List.range' 1 (m - 1)).any (oH sets)
def nO (g:Gm):Int:=if qM g then 10 else if nN (fJ g) then 18 else if jF (fJ g) g.infos.length then 9 else 0
def bP (g:Gm):Int :=
 if jU g then 2 else if dG g.aA g.infos.length g.nodes≠0 then dG g.aA g.infos.length g.nodes
 else if (gy g.nodes (g.nodes.length+1) 0 0 0).1≠g.nodes.length then 9 else if 40 < (gy g.nodes (g.nodes.length+1) 0 0 0).2 then 5 else nO g
theorem aa7 {aA:Int} {ni:Nat} {l:List Nd} {k:Nat} {x:Nd} (h:l[k]? = some x):dG aA ni (l.drop k)=if eH aA ni x≠0 then eH aA ni x else dG aA ni (l.drop (k+1)):=by
 exact zbX
theorem jo {aA:Int} {ni:Nat}:∀ {l:List Nd},dG aA ni l=0→∀ x∈l,eH aA ni x=0
 | [],_,_,h=>by cases h
 | y :: l,h,x,hx=>by
  unfold dG at h;split at h
  ·rename_i h1; exact absurd h h1
  ·rename_i h1
   rcases List.mem_cons.1 hx with rfl | hx
   ·simpa using h1
   ·exact jo h x hx
theorem qN {g:Gm} (h:dG g.aA g.infos.length g.nodes=0):BI g:=by
 intro x hx hk;have:=jo h x hx;unfold eH gW at this;rw[if_neg byOmega,if_pos hk] at this;split at this
 ·omega
 ·split at this
  ·omega
  ·omega
inductive Span (nodes:List Nd):List Int→Nat→Nat→Prop
 | nil (a:Nat):Span nodes [] a a
 | cons {a m b:Nat} {n:Nd} {cs:List Int}:nodes[a]? = some n→Span nodes n.next (a+1) m→Span nodes cs m b→Span nodes ((a:Int) :: cs) a b
theorem Span.le {nodes:List Nd} {cs:List Int} {a b:Nat} (h:Span nodes cs a b):a≤b:=by
 induction h with
 | nil a=>exact Nat.le_refl _
 | cons _ _ _ ih1 ih2=>omega
theorem Span.mem {nodes:List Nd} {cs:List Int} {a b:Nat} (h:Span nodes cs a b):∀ c∈cs,(a:Int)≤c∧c < b:=by
 induction h with
 | nil a=>intro c hc; cases hc
 | cons hn h1 h2 ih1 ih2 =>
  intro c hc;have l1:=h1.le;have l2:=h2.le;rcases List.mem_cons.1 hc with rfl | hc
  ·omega
  ·have:=ih2 c hc;omega
theorem Span.kids {nodes:List Nd} {cs:List Int} {a b:Nat} (h:Span nodes cs a b):∀ p n,a≤p→p < b→nodes[p]? = some n→∀ c∈n.next,(p:Int) < c∧c < b:=by
 induction h with
 | nil a=>intro p n h1 h2; omega
 | @cons a m b n cs hn h1 h2 ih1 ih2 =>
  intro p n' ha hb hp c hc;have l1:=h1.le;have l2:=h2.le;by_cases e:p=a
  ·subst e;rw[hn] at hp;cases hp;have:=h1.mem c hc;omega
  ·by_cases hm:p < m
   ·have:=ih1 p n' byOmega hm hp c hc;omega
   ·exact ih2 p n' byOmega hb hp c hc
theorem Span.parent {nodes:List Nd} {cs:List Int} {a b:Nat} (h:Span nodes cs a b):∀ j:Nat,a≤j→j < b→(j:Int)∈cs∨∃ p n,a≤p∧p < j∧nodes[p]? = some n∧(j:Int)∈n.next:=by
 induction h with
 | nil a=>intro j h1 h2; omega
 | @cons a m b n cs hn h1 h2 ih1 ih2 =>
  intro j ha hb;by_cases e:j=a
  ·subst e;exact .inl aB
  ·by_cases hm:j < m
   ·rcases ih1 j byOmega hm with h | ⟨p,n',hp1,hp2,hp3,hp4⟩
    ·exact .inr ⟨a,n,Nat.le_refl _,byOmega,hn,h⟩
    ·exact .inr ⟨p,n',byOmega,hp2,hp3,hp4⟩
   ·rcases ih2 j byOmega hb with h | ⟨p,n',hp1,hp2,hp3,hp4⟩
    ·exact .inl (by simp[h])
    ·have:=h1.le;exact .inr ⟨p,n',byOmega,hp2,hp3,hp4⟩
theorem Span.once {nodes:List Nd} {cs:List Int} {a b:Nat} (h:Span nodes cs a b):(∀ c∈cs,∀ p n,a≤p→p < b→nodes[p]? = some n→c ∉ n.next) ∧
  (∀ c p q n n',a≤p→p < b→a≤q→q < b→nodes[p]? = some n→nodes[q]? = some n'→c∈n.next→c∈n'.next→p=q):=by
 induction h with
 | nil a=>exact⟨(fun c hc=>(by cases hc)),(fun c p q n n' h1 h2=>byOmega)⟩
 | @cons a m b n cs hn h1 h2 ih1 ih2 =>
  have l1:=h1.le;have l2:=h2.le;have k1:=h1.kids;have k2:=h2.kids;have m1:=h1.mem;have m2:=h2.mem;constructor
  ·intro c hc p n' hp1 hp2 hp3 hp4;rcases List.mem_cons.1 hc with rfl | hc'
   ·by_cases e:p=a
    ·subst e;rw[hn] at hp3;cases hp3;have:=m1 _ hp4;omega
    ·by_cases hm:p < m
     ·have:=k1 p n' byOmega hm hp3 _ hp4;omega
     ·have:=k2 p n' byOmega hp2 hp3 _ hp4;omega
   ·by_cases e:p=a
    ·subst e;rw[hn] at hp3;cases hp3;have:=m1 _ hp4;have:=m2 _ hc';omega
    ·by_cases hm:p < m
     ·have:=k1 p n' byOmega hm hp3 _ hp4;have:=m2 _ hc';omega
     ·exact ih2.1 c hc' p n' byOmega hp2 hp3 hp4
  ·have key:∀ c p q n1 n2,a≤p→p < q→q < b→nodes[p]? = some n1→nodes[q]? = some n2→c∈n1.next→c∈n2.next→False:=by
    intro c p q n1 n2 hp1 hpq hq hn1 hn2 hc1 hc2;by_cases e:p=a
    ·subst e;rw[hn] at hn1;cases hn1;by_cases hm:q < m
     ·exact ih1.1 c hc1 q n2 byOmega hm hn2 hc2
     ·have:=m1 c hc1;have:=k2 q n2 byOmega hq hn2 c hc2;omega
    ·by_cases hm:q < m
     ·have:=ih1.2 c p q n1 n2 byOmega byOmega byOmega hm hn1 hn2 hc1 hc2;omega
     ·by_cases hmp:p < m
      ·have:=k1 p n1 byOmega hmp hn1 c hc1;have:=k2 q n2 byOmega hq hn2 c hc2;omega
      ·have:=ih2.2 c p q n1 n2 byOmega byOmega byOmega hq hn1 hn2 hc1 hc2;omega
   intro c p q n1 n2 hp1 hp2 hq1 hq2 hn1 hn2 hc1 hc2;rcases Nat.lt_trichotomy p q with h | h | h
   ·exact(key c p q n1 n2 hp1 h hq2 hn1 hn2 hc1 hc2).elim
   ·exact h
   ·exact(key c q p n2 n1 hq1 h hp2 hn2 hn1 hc2 hc1).elim
theorem uF {nodes:List Nd} {rec:Nat→Int→Int×Int} (hrec:∀ a d,(rec a d).1≠-1→∃ b:Nat,(rec a d).1=b∧Span nodes [(a:Int)] a b) :
  ∀ (cs:List Int) (x:Nat) (deep:Int),(dJ rec cs x deep).1≠-1→∃ b:Nat,(dJ rec cs x deep).1=b∧Span nodes cs x b
 | [],x,deep,_=>⟨x,rfl,.nil x⟩
 | c :: cs,x,deep,h=>by
  unfold dJ at h ⊢;by_cases hc:c=x
  ·subst hc;simp only[ne_eq,not_true_eq_false,↓reduceIte,Int.toNat_natCast] at h ⊢;by_cases hng:(rec x deep).1 < 0
   ·rw[if_pos hng] at h; exact absurd rfl h
   ·rw[if_neg hng] at h ⊢;obtain⟨m,hm,hs⟩:=hrec x deep byOmega;rw[hm] at h ⊢;obtain⟨b,hb,hs2⟩:=uF hrec cs m _ h;refine⟨b,hb,?_⟩;generalize hl:[(x:Int)]=l at hs;cases hs with
    | nil=>cases hl
    | cons hn h1 h2 =>
     injection hl with e1 e2
     subst e2;cases h2
     exact .cons hn h1 hs2
  ·rw[if_pos hc] at h; exact absurd rfl h
theorem aah (nodes:List Nd):∀ (f a:Nat) (depth deep:Int),(gy nodes f a depth deep).1≠-1→∃ b:Nat,(gy nodes f a depth deep).1=b∧Span nodes [(a:Int)] a b
 | 0,_,_,_,h=>absurd rfl h
 | f+1,a,depth,deep,h=>by
  unfold gy at h ⊢;cases hn:nodes[a]? with
  | none=>rw[hn] at h; exact absurd rfl h
  | some n =>
   rw[hn] at h;simp only at h ⊢;have:=uF (nodes:=nodes) (rec:=fun a d=>gy nodes f a (depth+1) d) (fun a' d h'=>aah nodes f a' (depth+1) d h') n.next (a+1) (max deep depth) h;obtain⟨b,hb,hs⟩:=this;exact⟨b,hb,.cons hn hs (.nil b)⟩
structure Good (g:Gm):Prop where
 pos:0 < g.nodes.length
 span:Span g.nodes [(0:Int)] 0 g.nodes.length
 infos:BI g
theorem kX {g:Gm} (h:bP g=0):Good g:=by
 unfold bP at h;split at h
 ·omega
 ·rename_i h1
  split at h
  ·rename_i h2; exact absurd h h2
  ·rename_i h2
   split at h
   ·omega
   ·rename_i h3
    have hp:0 < g.nodes.length:=by unfold jU at h1;omega
    have h3':(gy g.nodes (g.nodes.length+1) 0 0 0).1=(g.nodes.length:Int):=by simpa using h3
    obtain⟨b,hb,hs⟩:=aah g.nodes (g.nodes.length+1) 0 0 0 byOmega;have:b=g.nodes.length:=byOmega;subst this;exact⟨hp,hs,qN (by simpa using h2)⟩
theorem Good.akB {g:Gm} (h:Good g):Eo g.nodes:=by
 intro n hn c hc;obtain⟨i,hi⟩:=List.getElem?_of_mem hn;have:=h.span.kids i n (Nat.zero_le _) (lt_of_get hi) hi c hc;omega
def maxL (l:List Int):Int:=match l with | []=>0 | x :: r=>r.foldl max x
theorem acr (l:List Int) (a x:Int):(l ++ [x]).foldl max a=max (l.foldl max a) x:=aB
theorem ajF (w:World) (F:Foot) (v:Value) (l:List Int) (hv:AA w F v l) (h0:0 < l.length) (hl:l.length≤1000000) :
  Calls Tryz.prog 164 #[v] w fun e w'=>e = .returned (.int .i64 (maxL l))∧w'=w:=by
 obtain⟨A,c,rfl,hc,hN⟩:=hv;obtain⟨b,o,rfl,hbF,hb,hcell⟩:=hN h0;clear hN;obtain⟨y,hy⟩:=getSome h0;have e0:=hcell 0 y hy;unfold o7 at e0;simp only[Nat.zero_mul,Nat.add_zero] at e0;have HC:=Ag hcell;clear hcell;obtain⟨r,rfl⟩:∃ r,l=y :: r:=by cases l with | nil=>simp at h0 | cons a r=>simp at hy;exact⟨r,by rw[hy]⟩
 clear hy;have hd:decide (((y :: r).length:Int) < 1)=false:=decide_eq_false byOmega;have HM:=Ag (show maxL (y :: r)=r.foldl max y from rfl);generalize hL:(y :: r).length=L at *;have HL:=Ag hL;clear hL;go_in;go_wp2
 go_loopw [3,4] (fun m i wr=>∃ k:Nat,1≤k∧k≤L∧i = .int .i64 k∧m = .int .i64 ((r.take (k - 1)).foldl max y)∧wr=w) (fun _ i _=>L - (intOf i).toNat)
 case atStart=>exact⟨1,byOmega,byOmega,rfl,rfl,rfl⟩
 case round =>
  obtain⟨k,hk1,hk,rfl,rfl,rfl⟩:=hrel;by_cases hlt:k < L
  ·obtain⟨x,hx⟩:=getSome (l:=y :: r) (k:=k) (by rw[HL.out]; exact hlt);have ex:=HC.out k x hx;unfold o7 at ex; rw[Nat.mul_one] at ex;have HS:=Ag (show(r.take k).foldl max y=max ((r.take (k - 1)).foldl max y) x by
    rw[← acr];congr 1;have:r[k - 1]? = some x:=by rw[← hx];cases k with | zero=>omega | succ k=>simp
    have h:=take_snoc this;rwa [Nat.sub_add_cancel hk1] at h)
   clear hx e0;generalize (r.take (k - 1)).foldl max y=m at *;go_wp2
   go_roundw
   case rel=>exact⟨k+1,byOmega,byOmega,by go_num,by rw[Nat.add_sub_cancel,HS.out]; congr 1; rw[Int.max_def]; split <;> split <;> omega,trivial⟩
   case measure=>simp[intOf]; omega
  ·go_wp2
   go_ret;refine⟨?_,rfl⟩;have:k=L:=byOmega;rw[HM.out,List.take_of_length_le (by rw[this,← HL.out]; simp)];rfl
theorem abB (w:World) (F:Foot) (v:Value) (l:List Int) (y:Int) (hv:AA w F v l) (hl:l.length≤1000000) :
  Calls Tryz.prog 203 #[v,.int .i64 y] w fun e w'=>e = .returned (.int .i64 (if y∈l then (l.idxOf y:Int) else -1))∧w'=w:=by
 obtain⟨A,c,rfl,hc,hN⟩:=hv;have HN:=Ag hN;clear hN;obtain⟨R,hR⟩:∃ R:Int,R=(if y∈l then (l.idxOf y:Int) else -1):=⟨_,rfl⟩;rw[← hR];have HR:=Ag hR;clear hR;go_in;go_wp2
 go_loop [8] (fun i=>∃ k:Nat,k≤l.length∧i = .int .i64 k∧∀ z∈l.take k,z≠y) (fun i=>l.length - (intOf i).toNat)
 case atStart=>exact⟨0,byOmega,rfl,aB⟩
 case round =>
  obtain⟨k,hk,rfl,hp⟩:=hrel;have HP:=Ag hp;clear hp;by_cases hlt:k < l.length
  ·obtain⟨b,o,rfl,_,hb,hx⟩:=HN.out byOmega;refine zbj ?_;intro x hx' ex;unfold o7 at ex;rw[Nat.mul_one] at ex;have HX:=Ag hx';clear hx hx';by_cases he:y=x
   ·subst he;have HF:=Ag (show R=(k:Int) by
     rw[HR.out,if_pos (List.mem_of_getElem? HX.out)];have h1:l.idxOf y≤k:=by
      rcases Nat.lt_or_ge k (l.idxOf y) with h | h
      ·exfalso
       have:=List.not_of_lt_findIdx (xs:=l) (p:=(· == y)) (i:=k) h;have hq:l[k]'hlt=y:=by have:=HX.out;simpa [hlt] using this
       simp[hq] at this
      ·exact h
     have h2:¬ l.idxOf y < k:=by
      intro h;have hm:y∈l:=List.mem_of_getElem? HX.out;have hlt2:=List.idxOf_lt_length_iff.2 hm;exact HP.out y (List.mem_take_iff_getElem.2 ⟨l.idxOf y,byOmega,aB⟩) rfl
     omega)
    exact Y4
   ·have hd:(y==x)=false:=by simp[he]
    have HE:=Ag he;clear he;go_wp2
    go_round
    case rel =>
     refine⟨k+1,byOmega,by go_num,fun z hz=>?_⟩;rw[take_snoc HX.out] at hz;simp at hz;rcases hz with hz | rfl
     ·exact HP.out z hz
     ·exact fun h=>HE.out h.symm
    case measure=>simp[intOf]; omega
  ·have HF:=Ag (show R = -1 by
    rw[HR.out,if_neg]; intro hm;have:=HP.out; rw[List.take_of_length_le byOmega] at this;exact this y hm rfl)
   exact Y4
theorem acs (w:World) (F:Foot) (v:Value) (l:List Int) (y:Int) (hv:AA w F v l) (hl:l.length≤1000000) :
  Calls Tryz.prog 193 #[v,.int .i64 y] w fun e w'=>e = .returned (.bool (l.contains y))∧w'=w:=by
 have HV:=Ag hv;clear hv;go_in;go_wp2_with fail
 refine(abB w F v l y HV.out hl).mono ?_;rintro e w' ⟨rfl,rfl⟩;obtain⟨R,hR⟩:∃ R:Int,R=(if y∈l then (l.idxOf y:Int) else -1):=⟨_,rfl⟩;rw[← hR];have HF:=Ag (show decide (0≤R)=l.contains y by
  rw[hR];by_cases h:y∈l
  ·simp[h]
  ·simp[h])
 clear hR;go_wp2
 go_ret;exact⟨by rw[← HF.out]; rfl,rfl⟩
theorem agR (w:World) (x:Int):Calls Tryz.prog 188 #[.int .i64 x] w fun e w'=>e = .returned (.bool false)∧w'=w:=by
 have h:(x != x)=false:=aB;exact zat
theorem ah9 (w:World) (x y:Int):Calls Tryz.prog 211 #[.int .i64 x,.int .i64 y] w fun e w'=>e = .returned (.bool (decide (x < y)))∧w'=w:=by
 go_in;go_wp2_with fail
 refine(agR w x).mono ?_;rintro e w' ⟨rfl,rfl⟩;go_wp2
 go_ret;exact⟨rfl,rfl⟩
def gG:List Int→Bool
 | a :: b :: r=>decide (a≤b)&&gG (b :: r)
 | _=>true
theorem qO:∀ (l:List Int) (k:Nat),gG l=true→gG (l.drop k)=true
 | l,0,h=>h
 | [],k+1,h=>by simp[gG]
 | [a],k+1,h=>by simp[gG]
 | a :: b :: r,k+1,h=>by
  simp only[gG,Bool.and_eq_true] at h;simp only[List.drop_succ_cons];exact qO (b :: r) k h.2
theorem wB {l:List Int} {k:Nat} {x y:Int} (hx:l[k]? = some x) (hy:l[k+1]? = some y):gG (l.drop k)=(decide (x≤y)&&gG (l.drop (k+1))):=by
 have h1:=lt_of_get hx;have h2:=lt_of_get hy;have e1:l[k]=x:=by simpa [h1] using hx
 have e2:l[k+1]=y:=by simpa [h2] using hy
 rw[List.drop_eq_getElem_cons h1,List.drop_eq_getElem_cons h2,e1,e2];rfl
theorem adB (l:List Int):gG l=true↔∀ k x y,l[k]? = some x→l[k+1]? = some y→x≤y:=by
 constructor
 ·intro h k x y hx hy;have:=qO l k h;rw[wB hx hy] at this;simp at this;exact this.1
 ·induction l with
  | nil=>intro _; rfl
  | cons a r ih=>match r with
   | []=>intro _; rfl
   | b :: r=>intro h; simp only[gG,Bool.and_eq_true,decide_eq_true_eq]; exact⟨h 0 a b rfl rfl,ih (fun k x y hx hy=>h (k+1) x y (by simpa using hx) (by simpa using hy))⟩
theorem acu (w:World) (F:Foot) (v:Value) (l:List Int) (hv:AA w F v l) (hl:l.length≤1000000) :
  Calls Tryz.prog 194 #[v] w (Ret w fun v _=>v = .bool (gG l)):=by
 obtain⟨A,c,rfl,hc,hN⟩:=hv;have HN:=Ag hN;clear hN;go_in;go_wp2
 go_loopw [3] (fun i wr=>∃ k:Nat,k≤l.length∧i = .int .i64 ((k:Int) - 1)∧gG (l.drop (k - 1))=true∧∃ n,wr=w.drewN n) (fun i _=>(intOf i+1).toNat)
 case atStart=>exact⟨l.length,byOmega,rfl,by cases h:l.length with | zero=>simp[List.length_eq_zero_iff.1 h,gG] | succ m=>(have hm:m < l.length:=by omega); simp[List.drop_eq_getElem_cons hm,List.drop_eq_nil_of_le (show l.length≤m+1 by omega),gG],0,rfl⟩
 case round =>
  obtain⟨k,hk,rfl,hp,nn,rfl⟩:=hrel;have HP:=Ag hp;clear hp;by_cases hlt:2≤k
  ·obtain⟨b,o,rfl,_,hb,hx⟩:=HN.out byOmega;obtain⟨q,rfl⟩:∃ q,k=q+2:=⟨k - 2,byOmega⟩;obtain⟨p,hpq⟩:=named (q+1);have hpl:p < l.length:=byOmega;have hql:q < l.length:=byOmega;obtain⟨x,hx'⟩:=getSome (l:=l) (k:=q) byOmega;obtain⟨y,hy'⟩:=getSome (l:=l) (k:=p) byOmega;have ex:=hx q x hx';have ey:=hx p y hy';unfold o7 at ex ey;rw[Nat.mul_one] at ex ey;have HS:=Ag (wB hx' (by rw[← hpq]; exact hy'));clear hx hx' hy';have i1:(((q+2:Nat):Int) - 1)=(p:Int):=byOmega;have i2:((p:Int) - 1)=(q:Int):=byOmega;have wr2:IntKind.i64.wrap (q:Int)=(q:Int):=IntWalk.i64_in _ byOmega;have hp0:(0:Int) < (p:Int):=byOmega;rw[i1];have HPQ:=Ag hpq;clear hpq i1;go_wp2_with fail
   refine wp_region_held_drew (S:=fun w'=>w'.cell? ⟨b,o+q,none⟩=some (.int .i64 x)∧w'.cell? ⟨b,o+p,none⟩=some (.int .i64 y)) ah ⟨ex,ey⟩ (fun hHeld=>?_);refine tkm [0,1,2,3,4,5,6,7,8] ?_;refine tk2 9 ah rfl fun K hK=>?_
   go_simp;refine(ah9 _ y x).mono ?_;rintro e w1 ⟨rfl,rfl⟩;dsimp only;refine hK.out _ _ ⟨ex,ey⟩ (fun hHeld=>?_);clear hK K;refine Zb ?_;refine Yp ?_;clear hHeld ex ey;by_cases hyx:y < x
   ·have HF:=Ag (show gG l=false by
     cases h:gG l with
     | false=>rfl
     | true=>have:=qO l q h; rw[HS.out] at this; simp at this; omega)
    go_wp2
    go_ret;exact⟨_,rfl,aI (Below.refl _ _) _,by first | rfl | (rw[HF.out]; rfl)⟩
   ·have hd:decide (y < x)=false:=decide_eq_false hyx;go_wp2
    go_roundw
    case rel =>
     have e:=HPQ.out;refine⟨q+1,byOmega,by first | rfl | (congr 1; omega),?_,_,rfl⟩;have:=HP.out;rw[Nat.add_sub_cancel,HS.out];simp only[Bool.and_eq_true,decide_eq_true_eq];exact⟨byOmega,this⟩
    case measure=>simp[intOf]; omega
  ·go_wp2
   go_ret;refine⟨_,rfl,aI (Below.refl _ _) _,?_⟩;have:=HP.out;rw[show k - 1=0 by omega] at this;simp at this;rw[this];rfl
theorem Row.uG {A:World} {t:TypeId} {c:Array Value} {cs:List Value} {b:Nat} (hb:A.heap.size=b) (hc:c.toList=cs):Row (A.alloc (.cells c t)) b t cs:=by
 subst hb hc;exact Row.new A t c
def bg:Gm:=⟨2,[⟨2,0,0,[1,2],[],[]⟩,⟨3,0,0,[],[],[1,-1]⟩,⟨2,1,1,[3,4],[],[]⟩,⟨3,0,0,[],[],[0,0]⟩,⟨2,0,2,[5,6,7],[],[]⟩,⟨3,0,0,[],[],[2,-2]⟩,⟨3,0,0,[],[],[-1,1]⟩,⟨3,0,0,[],[],[3,-3]⟩],[⟨0,2⟩,⟨1,2⟩,⟨0,3⟩]⟩
def uS (w:World):List NV:=[⟨⟨2,0,0,[1,2],[],[]⟩,.slice (some ⟨w.heap.size+2,0,none⟩) 2 2,.slice none 0 0,.slice none 0 0⟩,⟨⟨3,0,0,[],[],[1,-1]⟩,.slice none 0 0,.slice none 0 0,.slice (some ⟨w.heap.size+3,0,none⟩) 2 2⟩,⟨⟨2,1,1,[3,4],[],[]⟩,.slice (some ⟨w.heap.size+4,0,none⟩) 2 2,.slice none 0 0,.slice none 0 0⟩,⟨⟨3,0,0,[],[],[0,0]⟩,.slice none 0 0,.slice none 0 0,.slice (some ⟨w.heap.size+5,0,none⟩) 2 2⟩,⟨⟨2,0,2,[5,6,7],[],[]⟩,.slice (some ⟨w.heap.size+6,0,none⟩) 3 3,.slice none 0 0,.slice none 0 0⟩,⟨⟨3,0,0,[],[],[2,-2]⟩,.slice none 0 0,.slice none 0 0,.slice (some ⟨w.heap.size+7,0,none⟩) 2 2⟩,⟨⟨3,0,0,[],[],[-1,1]⟩,.slice none 0 0,.slice none 0 0,.slice (some ⟨w.heap.size+8,0,none⟩) 2 2⟩,⟨⟨3,0,0,[],[],[3,-3]⟩,.slice none 0 0,.slice none 0 0,.slice (some ⟨w.heap.size+9,0,none⟩) 2 2⟩]
theorem aai (w:World):Calls Tryz.prog 28 #[] w (Ret w fun v w'=>AO w' (fun b=>w.heap.size≤b) v bg):=by
 go_in;go_wp2
 refine bodyPost_ret (v:=.agg #[.int .i64 2,.slice (some ⟨w.heap.size+10,0,none⟩) 8 8,.slice (some ⟨w.heap.size+1,0,none⟩) 3 3]) (by simp[results,Tryz.results28,go_sem]) rfl ?_;generalize hW:World.alloc _ _=W;have hB:Below w.heap.size w W:=by rw[← hW];repeat (first | exact Below.refl _ _ | refine Below.alloc ?_ (by simp <;> omega) _)
 have r1:Row W (w.heap.size+1) 37 [Value.int .i64 0,Value.int .i64 2,Value.int .i64 1,Value.int .i64 2,Value.int .i64 0,Value.int .i64 3]:=by
  rw[← hW];refine Zm ?_;refine Zm ?_;exact zai
 have r2:Row W (w.heap.size+2) 3 [Value.int .i64 1,Value.int .i64 2]:=by
  rw[← hW];refine Zm ?_;refine Zm ?_;exact Row.uG aB rfl
 have r3:Row W (w.heap.size+3) 3 [Value.int .i64 1,Value.int .i64 (-1)]:=by
  rw[← hW];refine Zm ?_;refine Row.alloc ?_ _;refine Row.alloc ?_ _;exact zai
 have r4:Row W (w.heap.size+4) 3 [Value.int .i64 3,Value.int .i64 4]:=by
  rw[← hW];refine Zm ?_;refine Row.alloc ?_ _;exact zai
 have r5:Row W (w.heap.size+5) 3 [Value.int .i64 0,Value.int .i64 0]:=by
  rw[← hW];refine Zm ?_;exact zai
 have r6:Row W (w.heap.size+6) 3 [Value.int .i64 5,Value.int .i64 6,Value.int .i64 7]:=by
  rw[← hW];refine Zm ?_;exact Row.uG aB rfl
 have r7:Row W (w.heap.size+7) 3 [Value.int .i64 2,Value.int .i64 (-2)]:=by
  rw[← hW];refine Row.alloc ?_ _;refine Row.alloc ?_ _;exact zai
 have r8:Row W (w.heap.size+8) 3 [Value.int .i64 (-1),Value.int .i64 1]:=by
  rw[← hW];refine Row.alloc ?_ _;exact zai
 have r9:Row W (w.heap.size+9) 3 [Value.int .i64 3,Value.int .i64 (-3)]:=by
  rw[← hW];exact zai
 have rn:Row W (w.heap.size+10) 127 ((uS w).flatMap NV.cells):=by
  rw[← hW];exact Row.uG aB rfl
 clear hW;refine⟨_,rfl,hB,_,_,rfl,?_,?_⟩
 ·refine(Row.lies rn).nodes (F:=fun b=>w.heap.size≤b) (c:=8) byOmega ?_ (by simp[uS]);intro q hq;simp only[uS,List.mem_cons,List.not_mem_nil,or_false] at hq;have nil:AA W (fun b=>w.heap.size≤b) (.slice none 0 0) []:=⟨none,0,rfl,Nat.le_refl _,fun h=>absurd h aB⟩;rcases hq with rfl | rfl | rfl | rfl | rfl | rfl | rfl | rfl
  ·exact⟨Row.ints (l:=[1,2]) (F:=fun b=>w.heap.size≤b) r2 byOmega (c:=2) aB,nil,nil⟩
  ·exact⟨nil,nil,Row.ints (l:=[1,-1]) (F:=fun b=>w.heap.size≤b) r3 byOmega (c:=2) aB⟩
  ·exact⟨Row.ints (l:=[3,4]) (F:=fun b=>w.heap.size≤b) r4 byOmega (c:=2) aB,nil,nil⟩
  ·exact⟨nil,nil,Row.ints (l:=[0,0]) (F:=fun b=>w.heap.size≤b) r5 byOmega (c:=2) aB⟩
  ·exact⟨Row.ints (l:=[5,6,7]) (F:=fun b=>w.heap.size≤b) r6 byOmega (c:=3) aB,nil,nil⟩
  ·exact⟨nil,nil,Row.ints (l:=[2,-2]) (F:=fun b=>w.heap.size≤b) r7 byOmega (c:=2) aB⟩
  ·exact⟨nil,nil,Row.ints (l:=[-1,1]) (F:=fun b=>w.heap.size≤b) r8 byOmega (c:=2) aB⟩
  ·exact⟨nil,nil,Row.ints (l:=[3,-3]) (F:=fun b=>w.heap.size≤b) r9 byOmega (c:=2) aB⟩
 ·exact(Row.lies r1).infos (L:=[⟨0,2⟩,⟨1,2⟩,⟨0,3⟩]) (F:=fun b=>w.heap.size≤b) byOmega aB
theorem yK {l:List Int} {i:Int} {p:List Int} {j:Nat} (hj:j < p.length) (hl:∀ c∈l,0≤c):(tY l i p)[j]? = if (j:Int)∈l then some i else p[j]?:=by
 unfold tY;induction l generalizing p with
 | nil=>simp
 | cons c l ih =>
  simp only[List.foldl_cons];rw[ih (by simpa using hj) (fun d hd=>hl d (List.mem_cons_of_mem _ hd))];have hc:=hl c aB;by_cases h1:(j:Int)∈l
  ·rw[if_pos h1,if_pos (List.mem_cons_of_mem _ h1)]
  ·rw[if_neg h1];by_cases h2:(j:Int)=c
   ·rw[if_pos (by rw[h2]; simp),List.getElem?_set,if_pos byOmega,if_pos byOmega]
   ·rw[if_neg (by simp[h1,h2]),List.getElem?_set_ne byOmega]
theorem agS {g:Gm} (hg:Good g) {j p:Nat} {n:Nd} (hj:j < g.nodes.length) (hp:g.nodes[p]? = some n) (hc:(j:Int)∈n.next) (k:Nat):k≤g.nodes.length→p < k→(qB g.nodes k)[j]? = some (p:Int):=by
 induction k with
 | zero=>intro _ h; omega
 | succ k ih =>
  intro hk hpk;obtain⟨m,hm⟩:=getSome (l:=g.nodes) (k:=k) byOmega;rw[ae2 hm,yK (by rw[qL]; exact hj) (fun c hc=>(hg.akB m (List.mem_of_getElem? hm) c hc).1)];by_cases h1:(j:Int)∈m.next
  ·have hpk':p=k:=hg.span.once.2 _ p k n m byOmega (lt_of_get hp) byOmega byOmega hp hm hc h1;rw[if_pos h1,hpk']
  ·rw[if_neg h1];by_cases h2:p=k
   ·subst h2;rw[hp] at hm;cases hm;exact absurd hc h1
   ·exact ih byOmega byOmega
theorem mW {g:Gm} (hg:Good g) {j p:Nat} {n:Nd} (hj:j < g.nodes.length) (hp:g.nodes[p]? = some n) (hc:(j:Int)∈n.next):(eU g.nodes)[j]? = some (p:Int) :=
 agS hg hj hp hc _ (Nat.le_refl _) (lt_of_get hp)
theorem qP {g:Gm} (hg:Good g) {j:Nat} (h0:0 < j) (hj:j < g.nodes.length):∃ p n,p < j∧g.nodes[p]? = some n∧(j:Int)∈n.next:=by
 rcases hg.span.parent j byOmega hj with h | ⟨p,n,_,h1,h2,h3⟩
 ·simp at h;omega
 ·exact⟨p,n,h1,h2,h3⟩
def Falls (N:Nat) (par:List Int):Prop:=∀ (i:Nat) (x:Int),i < N→par[i]? = some x→-1≤x∧x < (i:Int)
theorem ae8 (nodes:List Nd) (hk:∀ n∈nodes,∀ c∈n.next,0 < c) (k:Nat):nodes.length≠0→(qB nodes k)[0]? = some (-1):=by
 intro h0;induction k with
 | zero=>unfold qB; rw[List.getElem?_set_self aF]
 | succ k ih =>
  unfold qB;split
  ·rename_i n hn
   rw[yK (by rw[qL]; omega) (fun c hc=>by have:=hk n (List.mem_of_getElem? hn) c hc; omega),if_neg,ih];intro hm;have:=hk n (List.mem_of_getElem? hn) _ hm;omega
  ·exact ih
theorem aa8 {g:Gm} (hg:Good g):Falls g.nodes.length (eU g.nodes):=by
 intro i x hi hx;by_cases h0:i=0
 ·subst h0;have h1:=ae8 g.nodes (fun n hn c hc=>by
   obtain⟨k,hk⟩:=List.getElem?_of_mem hn;have:=hg.span.kids k n (Nat.zero_le _) (lt_of_get hk) hk c hc;omega) g.nodes.length (by have:=hg.pos; omega)
  unfold eU at hx;rw[h1] at hx;cases hx;omega
 ·obtain⟨p,n,h1,h2,h3⟩:=qP hg byOmega hi;rw[mW hg hi h2 h3] at hx;cases hx;omega
theorem jg (nodes:List Nd):(eU nodes).length=nodes.length:=qL _ _
theorem Good.par {g:Gm} (hg:Good g) {c:Nat} (hc:c < g.nodes.length):∃ p:Int,(eU g.nodes)[c]? = some p∧((c=0∧p = -1)∨∃ (q:Nat) (n:Nd),p=(q:Int)∧q < c∧g.nodes[q]? = some n∧(c:Int)∈n.next):=by
 obtain⟨p,hp⟩:=getSome (l:=eU g.nodes) (k:=c) (by rw[jg]; exact hc);refine⟨p,hp,?_⟩;by_cases h0:c=0
 ·subst h0;have:=aa8 hg 0 p hc hp;exact .inl ⟨rfl,byOmega⟩
 ·obtain⟨q,n,h1,h2,h3⟩:=qP hg byOmega hc;rw[mW hg hc h2 h3] at hp;cases hp;exact .inr ⟨q,n,rfl,h1,h2,h3⟩
def iR (pl:Int) (n:Nd) (c j:Nat):List (Int×Int):=if n.kind=2∧n.aC=pl then ((List.range j).filter fun k=>decide (n.next[k]? = some (c:Int))).map fun k:Nat=>(n.info,(k:Int)) else []
def kY (g:Gm) (pl:Int):Nat→Nat→List (Int×Int)
 | 0,_=>[]
 | f+1,c=>match (eU g.nodes)[c]? with
  | some p=>if 0≤p then iR pl (g.nodes.getD p.toNat default) c (g.nodes.getD p.toNat default).next.length++kY g pl f p.toNat else []
  | none=>[]
def lJ (g:Gm) (pl:Int) (c:Nat):List (Int×Int):=(kY g pl g.nodes.length c).reverse
theorem nP {pl:Int} {n:Nd} {c j:Nat} (h:¬ (n.kind=2∧n.aC=pl)):iR pl n c j = []:=if_neg h
theorem acv {pl:Int} {n:Nd} {c:Nat}:iR pl n c 0 = []:=by unfold iR; split <;> rfl
theorem ae9 {pl:Int} {n:Nd} {c j:Nat} (h:n.kind=2∧n.aC=pl) (hj:n.next[j]? = some (c:Int)):iR pl n c (j+1)=iR pl n c j ++ [(n.info,(j:Int))]:=by
 unfold iR;rw[if_pos h,if_pos h,List.range_succ,List.filter_append,List.map_append];simp[hj]
theorem adC {pl:Int} {n:Nd} {c j:Nat} {x:Int} (hj:n.next[j]? = some x) (hx:x≠(c:Int)):iR pl n c (j+1)=iR pl n c j:=by
 unfold iR;split
 ·rw[List.range_succ,List.filter_append,List.map_append];simp[hj,hx]
 ·rfl
theorem aaj {pl:Int} {n:Nd} {c j:Nat}:(iR pl n c j).length≤j:=by
 unfold iR;split
 ·rw[List.length_map];refine Nat.le_trans (List.length_filter_le _ _) ?_;simp
 ·exact Nat.zero_le _
theorem jc {g:Gm} (hg:Good g) {pl:Int}:∀ f,kY g pl f 0 = []
 | 0=>rfl
 | f+1=>by
  obtain⟨p,hp,h | ⟨q,n,_,h,_⟩⟩:=hg.par hg.pos
  ·rw[kY,hp]; simp only; rw[if_neg byOmega]
  ·omega
theorem kZ {g:Gm} (hg:Good g) {pl:Int} {f c q:Nat} {n:Nd} (hc:c < g.nodes.length) (hp:(eU g.nodes)[c]? = some (q:Int)) (hn:g.nodes[q]? = some n):kY g pl (f+1) c=iR pl n c n.next.length++kY g pl f q:=by
 rw[kY,hp];simp only;rw[if_pos byOmega,Int.toNat_natCast,List.getD_eq_getElem?_getD,hn];rfl
theorem acw {g:Gm} (hg:Good g) {pl:Int}:∀ (f f' c:Nat),c < g.nodes.length→c≤f→c≤f'→kY g pl f c=kY g pl f' c:=by
 intro f;induction f with
 | zero =>
  intro f' c hc h1 h2;obtain rfl:c=0:=byOmega;rw[jc hg,jc hg]
 | succ f ih =>
  intro f' c hc h1 h2;obtain⟨p,hp,h | ⟨q,n,rfl,h,hn,_⟩⟩:=hg.par hc
  ·obtain⟨rfl,_⟩:=h;rw[jc hg,jc hg]
  ·obtain⟨f'',rfl⟩:∃ k,f'=k+1:=⟨f' - 1,byOmega⟩;rw[kZ hg hc hp hn,kZ hg hc hp hn,ih f'' q byOmega byOmega byOmega]
theorem abC {g:Gm} (hg:Good g) {pl:Int}:lJ g pl 0 = []:=by unfold lJ; rw[jc hg]; rfl
theorem adD {g:Gm} (hg:Good g) {pl:Int} {c q:Nat} {n:Nd} (hc:c < g.nodes.length) (hp:(eU g.nodes)[c]? = some (q:Int)) (hn:g.nodes[q]? = some n) (hq:q < c):lJ g pl c=lJ g pl q++(iR pl n c n.next.length).reverse:=by
 unfold lJ;obtain⟨N,hN⟩:∃ N,g.nodes.length=N+1:=⟨g.nodes.length - 1,byOmega⟩;rw[hN,kZ hg hc hp hn,List.reverse_append,acw hg N (N+1) q byOmega byOmega byOmega]
theorem yL {g:Gm} (hg:Good g) (hs:Small g) {pl:Int}:∀ (f c:Nat),c < g.nodes.length→(kY g pl f c).length≤100*c
 | 0,_,_=>Nat.zero_le _
 | f+1,c,hc=>by
  obtain⟨p,hp,h | ⟨q,n,rfl,h,hn,_⟩⟩:=hg.par hc
  ·obtain⟨rfl,_⟩:=h; rw[jc hg]; exact Nat.zero_le _
  ·have ih:=yL hg hs (pl:=pl) f q byOmega;have h1:=aaj (pl:=pl) (n:=n) (c:=c) (j:=n.next.length);have h2:=hs.next n (List.mem_of_getElem? hn);rw[kZ hg hc hp hn,List.length_append]; omega
theorem aia {g:Gm} (hg:Good g) (hs:Small g) (pl:Int) {c:Nat} (hc:c < g.nodes.length):(lJ g pl c).length≤10000:=by
 have h1:=yL hg hs (pl:=pl) g.nodes.length c hc;have h2:=hs.nodes;unfold lJ;rw[List.length_reverse];omega
end Go.Proofs.YtnmeejofpkhlkaaGreatDoor
