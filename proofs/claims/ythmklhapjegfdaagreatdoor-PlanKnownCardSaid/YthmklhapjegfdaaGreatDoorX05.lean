/- Slices that a call grows by append, one or a list of them; what they read as in the end. -/
import Derived.Test.YthmklhapjegfdaaGreatDoorX04
import Derived.Deep.AppendLies
import Derived.Deep.RegionHeld3
import Derived.Test.YthmklhapjegfdaaGreatDoorX02
set_option linter.all false
set_option maxRecDepth 100000
set_option maxHeartbeats 12800000
namespace Go.Proofs.YthmklhapjegfdaaGreatDoor
open Lib renaming hid → Ag
open Go.RowKit
abbrev Own (w:World) (base:Nat) (t:TypeId) (v:Value) (xs:List Value):Prop:=w.ownsRow base t 1 v xs.length xs
theorem Own.ints {w:World} {base:Nat} {t:TypeId} {v:Value} {l:List Int} (h:Own w base t v (l.map (Value.int .i64))) {F:Aj} (hF:∀ b,v.ownBlock=some b→F b):AQ w F v l:=by
 have h':w.ownsRow base t 1 v l.length (l.map (Value.int .i64)):=by simpa [Own] using h
 rcases h'.2 with⟨rfl,h0⟩ | ⟨g,cap,cur,rfl,hb,hg,hnc,_,_,htake⟩
 ·have:l = []:=List.eq_nil_of_length_eq_zero h0;subst this;exact zbY
 ·refine⟨_,cap,rfl,hnc,fun _=>⟨g,0,rfl,hF g rfl,(Array.getElem?_eq_some_iff.1 hg).1,fun k x hk=>?_⟩⟩;unfold kX;have hlt:=aK hk;have:=h'.cellAt k byOmega;rw[show 0+k*1=k by omega,this];simp[hk]
structure OwnRows (w:World) (base:Nat) (t:TypeId) (vs:List Value) (ls:List (List Int)):Prop where
 len:vs.length=ls.length
 own:∀ (j:Nat) (v:Value) (l:List Int),vs[j]? = some v→ls[j]? = some l→w.ownsRow base t 1 v l.length (l.map (Value.int .i64))
 apart:∀ (i j:Nat) (v u:Value),i≠j→vs[i]? = some v→vs[j]? = some u→v.ownBlock=none∨v.ownBlock≠u.ownBlock
theorem OwnRows.start (w:World) (base:Nat) (t:TypeId) (n:Nat):OwnRows w base t (List.replicate n (.slice none 0 0)) (List.replicate n []):=by
 refine⟨aA,fun j v l hv hl=>?_,fun i j v u _ hv hu=>?_⟩
 ·have:=List.mem_of_getElem? hv;have h2:=List.mem_of_getElem? hl;rw[List.mem_replicate] at this h2;obtain⟨_,rfl⟩:=this;obtain⟨_,rfl⟩:=h2;exact World.ownsRow_nil _ _ _ _
 ·have:=List.mem_of_getElem? hv;rw[List.mem_replicate] at this;obtain⟨_,rfl⟩:=this;exact .inl rfl
theorem OwnRows.kept {w w':World} {base:Nat} {t:TypeId} {vs:List Value} {ls:List (List Int)} (h:OwnRows w base t vs ls) (hs:∀ b,base≤b→b < w.heap.size→w'.heap[b]? = w.heap[b]?):OwnRows w' base t vs ls:=by
 refine⟨h.len,fun j v l hv hl=>?_,h.apart⟩;have ho:=h.own j v l hv hl;refine⟨ho.1,?_⟩;rcases ho.2 with hn | ⟨g,cap,cur,rfl,hb,hg,r⟩
 ·exact .inl hn
 ·exact .inr ⟨g,cap,cur,rfl,hb,by rw[hs g hb (Array.getElem?_eq_some_iff.1 hg).1]; exact hg,r⟩
theorem OwnRows.alloc {w:World} {base:Nat} {t:TypeId} {vs:List Value} {ls:List (List Int)} (h:OwnRows w base t vs ls) (o:Obj):OwnRows (w.alloc o) base t vs ls :=
 h.kept fun b _ hl=>Below.heap_alloc w o b hl
theorem OwnRows.drew {w:World} {base:Nat} {t:TypeId} {vs:List Value} {ls:List (List Int)} (h:OwnRows w base t vs ls):OwnRows w.drew base t vs ls:=h.kept fun _ _ _=>rfl
theorem OwnRows.setCell {w:World} {base:Nat} {t:TypeId} {vs:List Value} {ls:List (List Int)} (h:OwnRows w base t vs ls) {p:Addr} (hp:p.block < base) (v:Value):OwnRows (w.setCell p v) base t vs ls :=
 h.kept fun b hb _=>Below.heap_setCell w p v b byOmega
theorem OwnRows.put {w w1:World} {base:Nat} {t:TypeId} {vs:List Value} {ls:List (List Int)} (h:OwnRows w base t vs ls) {i:Nat} {v v':Value} {l:List Int} {x:Int} (hv:vs[i]? = some v)
  (hown:w1.ownsRow base t 1 v' (l.length+1) (l.map (Value.int .i64) ++ [.int .i64 x])) (hg:w.grownBy w1 v.ownBlock) {g:Nat} (hvb:v'.ownBlock=some g) (hat:v.ownBlock=some g∨w.heap.size≤g) :
  OwnRows w1 base t (vs.set i v') (ls.set i (l ++ [x])):=by
 have hi:=aK hv;have key:∀ j u,i≠j→vs[j]? = some u→u.ownBlock=none∨u.ownBlock≠v'.ownBlock:=by
  intro j u hij hu;rcases h.apart j i u v (fun e=>hij e.symm) hu hv with h1 | h1
  ·exact .inl h1
  ·rw[hvb];rcases hat with hat | hat
   ·right; rw[← hat]; exact h1
   ·obtain⟨lj,hlj⟩:=aB (l:=ls) (k:=j) (by rw[← h.len]; exact aK hu);have ho:=h.own j u lj hu hlj;cases hub:u.ownBlock with
    | none=>exact .inl rfl
    | some k =>
     right
     have:=(ho.lt k hub).2;intro e;injection e;omega
 refine⟨by simp[h.len],fun j u m hu hm=>?_,fun j k u z hjk hu hz=>?_⟩
 ·rw[List.getElem?_set] at hu hm;by_cases hij:i=j
  ·subst hij;rw[if_pos rfl,if_pos hi] at hu;rw[if_pos rfl,if_pos (by rw[← h.len]; exact hi)] at hm;cases hu;cases hm
   simpa using hown
  ·rw[if_neg hij] at hu hm;refine(h.own j u m hu hm).kept hg ?_;exact h.apart j i u v (fun e=>hij e.symm) hu hv
 ·rw[List.getElem?_set] at hu hz;by_cases hij:i=j
  ·subst hij;rw[if_pos rfl,if_pos hi] at hu;rw[if_neg hjk] at hz;cases hu
   rcases key k z hjk hz with h1 | h1
   ·right; rw[hvb,h1]; simp
   ·right; exact fun e=>h1 e.symm
  ·rw[if_neg hij] at hu;by_cases hik:i=k
   ·subst hik;rw[if_pos rfl,if_pos hi] at hz;cases hz;exact key j u hij hu
   ·rw[if_neg hik] at hz;exact h.apart j k u z hjk hu hz
theorem OwnRows.rows {w:World} {base:Nat} {t t':TypeId} {vs:List Value} {ls:List (List Int)} (h:OwnRows w base t vs ls) {b:Nat} (hr:Row w b t' vs) {F:Aj} (hb:F b) (hF:∀ k,base≤k→F k) {c:Nat} (hc:ls.length≤c) :
  BI w F (.slice (some ⟨b,0,none⟩) ls.length c) ls:=by
 refine⟨_,c,rfl,hc,fun _=>⟨b,0,rfl,hb,hr.lt,fun k x hk=>?_⟩⟩;obtain⟨v,hv⟩:=aB (l:=vs) (k:=k) (by rw[h.len]; exact aK hk);refine⟨v,by rw[show 0+k*1=k by omega]; exact hr.cell hv,?_⟩;have ho:=h.own k v x hv hk;exact Own.ints (by simpa [Own] using ho) fun b hb=>hF b (ho.lt b hb).1
theorem xu {w:World} {ops:Array Oper} {o:Oper} {a:Act} {K:Act→World→Prop} {Q:Exit→Act→World→Prop} {E:Prop} (hgd:o.guard=none) (s x:Operand)
  (ho:o.op = .call { callee:=.builtin .append,args:=#[s,x],argTypes:=#[26,26] })
  (base:Nat) (v:Value) (l:List Int) (hs:a.eval s=v) (hown:w.ownsRow base 3 1 v l.length (l.map (Value.int .i64)))
  (B:Nat) (y:Int) (hx:a.eval x = .slice (some ⟨B,0,none⟩) 1 1) (hB:w.heap[B]? = some (.cells #[.int .i64 y] 3 (0,0))) (hlen:l.length≤1000000) (hbase:base≤w.heap.size)
  (h:∀ g cap w',w'.ownsRow base 3 1 (.slice (some ⟨g,0,none⟩) (l.length+1) cap) (l.length+1) (l.map (Value.int .i64) ++ [.int .i64 y])→w.grownBy w' v.ownBlock→(v.ownBlock=some g∨w.heap.size≤g)→g < w'.heap.size →
   K (a.put o.dst (.slice (some ⟨g,0,none⟩) (l.length+1) cap)) w') :
  if Region.wanted o (yielded ops a.tmps)=true then Oper.wp Tryz.prog o a w K Q else E:=by
 obtain⟨i0,hi,hz0,hz1,hz2⟩:=info_parts Tryz.infoInt;refine step_append_lies w hgd s x _ ho base _ i0 _ 1 8 Tryz.underlying26 hi hz0 hz1 hz2 rfl byOmega v l.length _ hs hown ⟨B,0,none⟩ 1 1 [.int .i64 y] hx rfl (World.news_of_block hB) (by simp[Value.oneCell']) byOmega (by unfold maxLen; omega) byOmega hbase w.heap.size rfl ?_;intro g cap w' h1 h2 h3 h4;exact h g cap w' h1 h2 (h3.imp id fun e=>by omega) h4
def fD (nodes:List Nd) (ni:Nat):Nat→List (List Int)
 | 0=>List.replicate ni []
 | k+1=>match nodes[k]? with
  | some n=>if n.kind=2 then (fD nodes ni k).set n.info.toNat ((fD nodes ni k).getD n.info.toNat [] ++ [(k:Int)]) else fD nodes ni k
  | none=>fD nodes ni k
def dI (g:Gm):List (List Int):=fD g.nodes g.infos.length g.nodes.length
theorem dh (nodes:List Nd) (ni k:Nat):(fD nodes ni k).length=ni:=by
 induction k with
 | zero=>simp[fD]
 | succ k ih =>
  unfold fD;split
  ·split
   ·rw[List.length_set,ih]
   ·exact ih
  ·exact ih
theorem sN {nodes:List Nd} {ni k:Nat} {n:Nd} {l:List Int} (h:nodes[k]? = some n) (hk:n.kind=2) (hl:(fD nodes ni k)[n.info.toNat]? = some l):fD nodes ni (k+1)=(fD nodes ni k).set n.info.toNat (l ++ [(k:Int)]):=by
 simp[fD,h,hk,hl,List.getD_eq_getElem?_getD]
theorem sO {nodes:List Nd} {ni k:Nat} {n:Nd} (h:nodes[k]? = some n) (hk:¬ n.kind=2):fD nodes ni (k+1)=fD nodes ni k:=by
 simp[fD,h,hk]
theorem vU {nodes:List Nd} {ni k:Nat}:∀ l∈fD nodes ni k,l.length≤k:=by
 induction k with
 | zero=>intro l hl; simp[fD] at hl; simp[hl.2]
 | succ k ih =>
  intro l hl;unfold fD at hl;split at hl
  ·split at hl
   ·rcases List.mem_or_eq_of_mem_set hl with h | h
    ·have:=ih l h;omega
    ·rename_i n _ _
     subst h;rw[List.length_append];rcases Nat.lt_or_ge n.info.toNat (fD nodes ni k).length with hlt | hge
     ·have:=ih ((fD nodes ni k).getD n.info.toNat []) (by rw[List.getD_eq_getElem?_getD]; simp[hlt]);simp;simp at this;omega
     ·rw[List.getD_eq_getElem?_getD,List.getElem?_eq_none hge];simp
   ·have:=ih l hl;omega
  ·have:=ih l hl;omega
def BL (g:Gm):Prop:=∀ n∈g.nodes,n.kind=2→0≤n.info∧n.info < (g.infos.length:Int)
section
variable {P:Program} {md:Region.Mode} {Q:Exit→Act→World→Prop}
def CB (P:Program) (Q:Exit→Act→World→Prop) (ops:Array Oper) (o:Oper):Exit→Act→World→Prop
 | .normal,a,w=>wpList P ops Q [o] a w
 | e,a,w=>Q e a w
theorem abS {ops:Array Oper} {o oi:Oper} {a:Act} {K:Act→World→Prop} {r:Result Next} (h:oi.upon P a K (CB P Q ops o) r):oi.upon P a K Q r:=by
 unfold Oper.upon at h ⊢;split at h <;> exact h
def pO (ops:Array Oper):Bool:=(List.range ops.size).all fun i=>match ops[i]? with
 | some o=>o.after.all (fun e=>decide (e.on < i))&&(match o.guard with | some (j,_)=>decide (j < i) | none=>true)
 | none=>true
def lastB (md:Region.Mode) (ops:Array Oper) (o:Oper):Bool:=o.after.all (fun e=>decide (e.on < ops.size))&&(List.range ops.size).all fun i=>o.after.any fun e=>Region.binds md e&&e.on==i
theorem jh {ops:Array Oper} {o:Oper} {listed:Array Bool} (hs:listed.size=ops.size) (hb:pO ops=true) {i:Nat} (hi:i < ops.size) :
  i∈Region.ready md (ops.push o) (listed.push false)↔i∈Region.ready md ops listed:=by
 rw[mem_ready,mem_ready];have e1:(ops.push o)[i]? = ops[i]?:=by rw[Array.getElem?_push];rw[if_neg byOmega]
 have e2:∀ j d,j < ops.size→(listed.push false).getD j d=listed.getD j d:=by
  intro j d hj;simp only[Array.getD_eq_getD_getElem?,Array.getElem?_push];rw[if_neg byOmega]
 rw[e1,e2 i true hi];constructor
 ·rintro⟨h1,oi,ho,h2⟩;refine⟨h1,oi,ho,fun e he hbd=>?_⟩;have h3:=h2 e he hbd;have hlt:e.on < i:=by
   have:=List.all_eq_true.1 hb i (List.mem_range.2 hi);rw[ho] at this;simp only[Bool.and_eq_true] at this;have:=Array.all_eq_true'.1 this.1 e he;simpa using this
  rwa [e2 _ _ byOmega] at h3
 ·rintro⟨h1,oi,ho,h2⟩;refine⟨h1,oi,ho,fun e he hbd=>?_⟩;have hlt:e.on < i:=by
   have:=List.all_eq_true.1 hb i (List.mem_range.2 hi);rw[ho] at this;simp only[Bool.and_eq_true] at this;have:=Array.all_eq_true'.1 this.1 e he;simpa using this
  rw[e2 _ _ byOmega];exact h2 e he hbd
theorem lY {ops:Array Oper} {listed:Array Bool} (hs:listed.size=ops.size) (hb:pO ops=true) (hr:Region.ready md ops listed = []):∀ i,i < ops.size→listed.getD i false=true:=by
 intro i;induction i using Nat.strongRecOn with
 | _ i ih =>
  intro hi;by_cases hl:listed.getD i true=false
  ·exfalso
   have:i∈Region.ready md ops listed:=by
    rw[mem_ready];refine⟨hl,ops[i],by simp[hi],fun e he _=>?_⟩;have h:=List.all_eq_true.1 hb i (List.mem_range.2 hi);rw[show ops[i]? = some ops[i] by simp[hi]] at h;simp only[Bool.and_eq_true] at h;have:=Array.all_eq_true'.1 h.1 e he;have hlt:e.on < i:=by simpa using this
    exact ih e.on hlt byOmega
   rw[hr] at this;cases this
  ·have hi':i < listed.size:=byOmega;simp[hi'] at hl ⊢;exact hl
theorem ae0 {ops:Array Oper} {o:Oper} (hb:pO ops=true) (hl:lastB md ops o=true) :
  ∀ (fuel:Nat) (listed:Array Bool) (a:Act) (w:World),listed.size=ops.size→wpAny P md ops (CB P Q (ops.push o) o) fuel listed a w→wpAny P md (ops.push o) Q (fuel+1) (listed.push false) a w:=by
 have fin:∀ (fuel:Nat) (listed:Array Bool) (a:Act) (w:World),listed.size=ops.size→Region.ready md ops listed = []→wpList P (ops.push o) Q [o] a w→wpAny P md (ops.push o) Q (fuel+1) (listed.push false) a w:=by
  intro fuel listed a w hs hr h;have hall:=lY hs hb hr;have hmem:∀ i,i∈Region.ready md (ops.push o) (listed.push false)↔i=ops.size:=by
   intro i;constructor
   ·intro hi;rcases Nat.lt_trichotomy i ops.size with h1 | h1 | h1
    ·rw[jh hs hb h1,hr] at hi;cases hi
    ·exact h1
    ·rw[mem_ready] at hi;obtain⟨_,oi,ho,_⟩:=hi;rw[Array.getElem?_eq_none aC] at ho;cases ho
   ·rintro rfl;rw[mem_ready];refine⟨by rw[← hs]; simp[Array.getD_eq_getD_getElem?],o,aA,fun e he hbd=>?_⟩;by_cases hlt:e.on < ops.size
    ·have:=hall e.on hlt;simp only[Array.getD_eq_getD_getElem?,Array.getElem?_push];rw[if_neg byOmega];simpa [Array.getD_eq_getD_getElem?] using this
    ·exfalso
     simp only[lastB,Bool.and_eq_true] at hl;have:=Array.all_eq_true'.1 hl.1 e he;simp at this;omega
  refine⟨fun h0=>absurd ((hmem ops.size).2 rfl) (by rw[h0]; simp),fun i hi=>?_⟩;have:=(hmem i).1 hi;subst this;unfold wpList at h;unfold wpOp;simp only[Array.getElem?_push_size];have hend:∀ a w,wpList P (ops.push o) Q [] a w→wpAny P md (ops.push o) Q fuel ((listed.push false).setIfInBounds ops.size true) a w:=by
   intro a w hq;refine wpAny_done ?_ hq fuel;cases hrr:Region.ready md (ops.push o) ((listed.push false).setIfInBounds ops.size true) with
   | nil=>rfl
   | cons k ks =>
    have hk:k∈Region.ready md (ops.push o) ((listed.push false).setIfInBounds ops.size true):=by rw[hrr];simp
    obtain⟨h1,oi,ho,_⟩:=mem_ready.1 hk;have hlt:=(Array.getElem?_eq_some_iff.1 ho).1;simp only[Array.size_push] at hlt;exfalso
    rcases Nat.lt_or_ge k ops.size with h2 | h2
    ·have h3:=hall k h2;have hk':k < listed.size:=byOmega;simp only[Array.getD_eq_getD_getElem?,Array.getElem?_setIfInBounds,Array.getElem?_push] at h1 h3;rw[if_neg byOmega,if_neg byOmega] at h1;simp[hk'] at h1 h3;rw[h1] at h3;cases h3
    ·have:k=ops.size:=byOmega;subst this;rw[← hs] at h1;simp[Array.getD_eq_getD_getElem?] at h1
  split
  ·rename_i hw
   rw[if_pos hw] at h;rcases h with h | h
   ·exact .inl (Oper.wp_mono hend h)
   ·exact .inr h
  ·rename_i hw
   rw[if_neg hw] at h;exact hend _ _ h
 intro fuel;induction fuel with
 | zero =>
  intro listed a w hs h;exact fin 0 listed a w hs h.1 h.2
 | succ fuel ih =>
  intro listed a w hs h;by_cases hr:Region.ready md ops listed = []
  ·exact fin _ listed a w hs hr (h.1 hr)
  ·refine⟨fun h0=>?_,fun i hi=>?_⟩
   ·exfalso
    obtain⟨i,hi⟩:=List.exists_mem_of_ne_nil _ hr;have hlt:i < ops.size:=by
     have:=mem_ready.1 hi;obtain⟨_,oi,ho,_⟩:=this;exact(Array.getElem?_eq_some_iff.1 ho).1
    rw[← jh (o:=o) hs hb hlt,h0] at hi;cases hi
   ·have hlt:i < ops.size:=by
     rcases Nat.lt_trichotomy i ops.size with h1 | h1 | h1
     ·exact h1
     ·subst h1;exfalso
      apply hr
      have hall:∀ j,j < ops.size→listed.getD j true=true:=by
       intro j hj;have:=List.all_eq_true.1 ((Bool.and_eq_true _ _).mp hl).2 j (List.mem_range.2 hj);obtain⟨e,he,hbd⟩:=Array.any_eq_true'.1 this;simp only[Bool.and_eq_true,beq_iff_eq] at hbd;obtain⟨_,oi,ho,h2⟩:=mem_ready.1 hi;have:oi=o:=by simpa using ho.symm
       subst this;have h3:=h2 e he hbd.1;rw[hbd.2] at h3;have hj':j < listed.size:=byOmega;simp only[Array.getD_eq_getD_getElem?,Array.getElem?_push] at h3 ⊢;rw[if_neg byOmega] at h3;simpa [hj'] using h3
      cases hrr:Region.ready md ops listed with
      | nil=>rfl
      | cons k ks =>
       have hk:k∈Region.ready md ops listed:=by rw[hrr];simp
       obtain⟨h1,oi,ho,_⟩:=mem_ready.1 hk;rw[hall k (Array.getElem?_eq_some_iff.1 ho).1] at h1;cases h1
     ·rw[mem_ready] at hi;obtain⟨_,oi,ho,_⟩:=hi;rw[Array.getElem?_eq_none aC] at ho;cases ho
    have hi':=(jh (o:=o) hs hb hlt).1 hi;have hop:=h.2 i hi';have e1:(ops.push o)[i]? = ops[i]?:=by rw[Array.getElem?_push,if_neg byOmega]
    have hset:(listed.push false).setIfInBounds i true=(listed.setIfInBounds i true).push false:=by
     apply Array.ext_getElem?
     intro j;refine zb8 ?_;by_cases h1:i=j
     ·subst h1;rw[if_pos rfl,if_pos byOmega,if_neg byOmega,if_pos rfl,if_pos byOmega]
     ·rw[if_neg h1,if_neg h1]
    unfold wpOp at hop ⊢;rw[e1];cases ho:ops[i]? with
    | none=>rw[ho] at hop; simp only at hop ⊢; rw[hset]; exact ih _ _ _ (by simp[hs]) hop
    | some oi =>
     rw[ho] at hop;simp only at hop ⊢;have hg:Region.wanted oi (yielded (ops.push o) a.tmps)=Region.wanted oi (yielded ops a.tmps):=by
      unfold Region.wanted;have hbi:=List.all_eq_true.1 hb i (List.mem_range.2 hlt);rw[ho] at hbi;simp only[Bool.and_eq_true] at hbi;cases hgd:oi.guard with
      | none=>rfl
      | some jw =>
       obtain⟨j,want⟩:=jw;rw[hgd] at hbi;have hj:j < i:=by simpa using hbi.2
       simp only[yielded];rw[Array.getElem?_push,if_neg byOmega]
     rw[hg];split
     ·rename_i hw
      rw[if_pos hw] at hop;rcases hop with hop | hop
      ·refine .inl ?_;have:=Oper.wp_mono (K':=wpAny P md (ops.push o) Q (fuel+1) ((listed.push false).setIfInBounds i true)) (fun a' w' h'=>by rw[hset]; exact ih _ _ _ (by simp[hs]) h') hop;exact abS this
      ·exact .inr hop
     ·rename_i hw
      rw[if_neg hw] at hop;rw[hset];exact ih _ _ _ (by simp[hs]) hop
theorem zl {L:List Oper} {o:Oper} (n:Nat) (hn:L.drop n = [o]) (hb:pO (L.take n).toArray=true) (hl:lastB md (L.take n).toArray o=true) {a:Act} {w:World}
  (h:wpAny P md (L.take n).toArray (CB P Q L.toArray o) n (Array.replicate n false) a w):wpAny P md L.toArray Q (n+1) (Array.replicate (n+1) false) a w:=by
 have hlen:L.length=n+1:=by
  exact zdW
 have hL:L.toArray=(L.take n).toArray.push o:=by
  rw[List.push_toArray,← hn,List.take_append_drop]
 have hs:(L.take n).toArray.size=n:=aC;rw[hL] at h ⊢;rw[Array.replicate_succ];exact ae0 hb hl n _ a w (by simp[hs]) h
theorem adC {id:Nat} {L:List Oper} {o o':Oper} (S:World→Prop) (n:Nat) (hm:P.follows .mixedOrders=true) (hn:L.drop (n+1) = [o']) (hn':(L.take (n+1)).drop n = [o]) (hb:pO (L.take (n+1)).toArray=true) (hl:lastB .any (L.take (n+1)).toArray o'=true)
  (hb':pO ((L.take (n+1)).take n).toArray=true) (hl':lastB .any ((L.take (n+1)).take n).toArray o=true) {a:Act} {w:World}
  (_hS:S w.drew) (h:wpAnyH P .any ((L.take (n+1)).take n).toArray (CB P (CB P Q L.toArray o') (L.take (n+1)).toArray o) S n (Array.replicate n false) a w.drew):(Code.region id L.toArray true).wp P Q a w:=by
 have hlen:L.length=n+1+1:=by
  exact zdW
 refine wp_region_any hm ?_;rw[List.size_toArray,hlen];exact zl (n+1) hn hb hl (zl n hn' hb' hl' (wpAny_of_held _ _ _ _ h))
end
section
variable {P:Program} {md:Region.Mode}
def needs (md:Region.Mode) (ops:Array Oper):Nat→Oper→Nat→Bool
 | 0,o,i=>o.after.any fun e=>Region.binds md e&&e.on==i
 | f+1,o,i=>o.after.any fun e=>Region.binds md e&&(e.on==i||match ops[e.on]? with | some o'=>needs md ops f o' i | none=>false)
def Down (md:Region.Mode) (ops:Array Oper) (listed:Array Bool):Prop:=∀ i o,ops[i]? = some o→listed.getD i false=true→∀ e∈o.after,Region.binds md e=true→listed.getD e.on false=true
theorem xw {ops:Array Oper} {listed:Array Bool} (hd:Down md ops listed):∀ (f:Nat) (o:Oper) (i:Nat),(∀ e∈o.after,Region.binds md e=true→listed.getD e.on false=true)→needs md ops f o i=true→listed.getD i false=true
 | 0,o,i,h,hn=>by
  obtain⟨e,he,hb⟩:=Array.any_eq_true'.1 hn;simp only[Bool.and_eq_true,beq_iff_eq] at hb;rw[← hb.2]; exact h e he hb.1
 | f+1,o,i,h,hn=>by
  obtain⟨e,he,hb⟩:=Array.any_eq_true'.1 hn;simp only[Bool.and_eq_true,Bool.or_eq_true,beq_iff_eq] at hb;have h1:=h e he hb.1;rcases hb.2 with h2 | h2
  ·rw[← h2]; exact h1
  ·cases ho:ops[e.on]? with
   | none=>rw[ho] at h2; cases h2
   | some o' =>
    rw[ho] at h2;exact xw hd f o' i (fun e' he' hb'=>hd e.on o' ho h1 e' he' hb') h2
def abT (md:Region.Mode) (ops:Array Oper) (o:Oper):Bool:=o.after.all (fun e=>decide (e.on < ops.size))&&(List.range ops.size).all fun i=>needs md ops ops.size o i
theorem ae1 {ops:Array Oper} {listed:Array Bool} (hs:listed.size=ops.size) (hd:Down md ops listed) {i:Nat} (hi:i∈Region.ready md ops listed):Down md ops (listed.setIfInBounds i true):=by
 obtain⟨_,oi,hoi,hall⟩:=mem_ready.1 hi;have mono:∀ k,listed.getD k false=true→(listed.setIfInBounds i true).getD k false=true:=by
  intro k hk;simp only[Array.getD_eq_getD_getElem?,Array.getElem?_setIfInBounds] at hk ⊢;by_cases hik:i=k
  ·subst hik;rw[if_pos rfl];by_cases hlt:i < listed.size
   ·simp[hlt]
   ·simp[hlt] at hk
  ·rw[if_neg hik];exact hk
 intro j o ho hj e he hb;by_cases hij:i=j
 ·subst hij;rw[hoi] at ho;cases ho;exact mono _ (hall e he hb)
 ·refine mono _ (hd j o ho ?_ e he hb);simp only[Array.getD_eq_getD_getElem?,Array.getElem?_setIfInBounds] at hj ⊢;rw[if_neg hij] at hj;exact hj
variable {Q:Exit→Act→World→Prop}
theorem adD {ops:Array Oper} {o:Oper} (hb:pO ops=true) (hl:abT md ops o=true) :
  ∀ (fuel:Nat) (listed:Array Bool) (a:Act) (w:World),listed.size=ops.size→Down md ops listed→wpAny P md ops (CB P Q (ops.push o) o) fuel listed a w→wpAny P md (ops.push o) Q (fuel+1) (listed.push false) a w:=by
 have hl1:=((Bool.and_eq_true _ _).mp hl).1;have hl2:=((Bool.and_eq_true _ _).mp hl).2;have waits:∀ (listed:Array Bool),listed.size=ops.size→Down md ops listed→ops.size∈Region.ready md (ops.push o) (listed.push false)→∀ j,j < ops.size→listed.getD j false=true:=by
  intro listed hs hd hi j hj;obtain⟨_,oi,ho,h2⟩:=mem_ready.1 hi;have:oi=o:=by simpa using ho.symm
  subst this;refine xw hd ops.size oi j (fun e he hbd=>?_) (List.all_eq_true.1 hl2 j (List.mem_range.2 hj));have h3:=h2 e he hbd;have hlt:e.on < ops.size:=by simpa using Array.all_eq_true'.1 hl1 e he
  simp only[Array.getD_eq_getD_getElem?,Array.getElem?_push] at h3 ⊢;rw[if_neg byOmega] at h3;exact h3
 have fin:∀ (fuel:Nat) (listed:Array Bool) (a:Act) (w:World),listed.size=ops.size→Region.ready md ops listed = []→wpList P (ops.push o) Q [o] a w→wpAny P md (ops.push o) Q (fuel+1) (listed.push false) a w:=by
  intro fuel listed a w hs hr h;have hall:=lY hs hb hr;have hmem:∀ i,i∈Region.ready md (ops.push o) (listed.push false)↔i=ops.size:=by
   intro i;constructor
   ·intro hi;rcases Nat.lt_trichotomy i ops.size with h1 | h1 | h1
    ·rw[jh hs hb h1,hr] at hi;cases hi
    ·exact h1
    ·obtain⟨_,oi,ho,_⟩:=mem_ready.1 hi;rw[Array.getElem?_eq_none aC] at ho;cases ho
   ·rintro rfl;rw[mem_ready];refine⟨by rw[← hs]; simp[Array.getD_eq_getD_getElem?],o,aA,fun e he hbd=>?_⟩;have hlt:e.on < ops.size:=by simpa using Array.all_eq_true'.1 hl1 e he
    have:=hall e.on hlt;simp only[Array.getD_eq_getD_getElem?,Array.getElem?_push];rw[if_neg byOmega];simpa [Array.getD_eq_getD_getElem?] using this
  refine⟨fun h0=>absurd ((hmem ops.size).2 rfl) (by rw[h0]; simp),fun i hi=>?_⟩;have:=(hmem i).1 hi;subst this;unfold wpList at h;unfold wpOp;simp only[Array.getElem?_push_size];have hend:∀ a w,wpList P (ops.push o) Q [] a w→wpAny P md (ops.push o) Q fuel ((listed.push false).setIfInBounds ops.size true) a w:=by
   intro a w hq;refine wpAny_done ?_ hq fuel;cases hrr:Region.ready md (ops.push o) ((listed.push false).setIfInBounds ops.size true) with
   | nil=>rfl
   | cons k ks =>
    have hk:k∈Region.ready md (ops.push o) ((listed.push false).setIfInBounds ops.size true):=by rw[hrr];simp
    obtain⟨h1,oi,ho,_⟩:=mem_ready.1 hk;have hlt:=(Array.getElem?_eq_some_iff.1 ho).1;simp only[Array.size_push] at hlt;exfalso
    rcases Nat.lt_or_ge k ops.size with h2 | h2
    ·have h3:=hall k h2;have hk':k < listed.size:=byOmega;simp only[Array.getD_eq_getD_getElem?,Array.getElem?_setIfInBounds,Array.getElem?_push] at h1 h3;rw[if_neg byOmega,if_neg byOmega] at h1;simp[hk'] at h1 h3;rw[h1] at h3;cases h3
    ·have:k=ops.size:=byOmega;subst this;rw[← hs] at h1;simp[Array.getD_eq_getD_getElem?] at h1
  split
  ·rename_i hw
   rw[if_pos hw] at h;rcases h with h | h
   ·exact .inl (Oper.wp_mono hend h)
   ·exact .inr h
  ·rename_i hw
   rw[if_neg hw] at h;exact hend _ _ h
 intro fuel;induction fuel with
 | zero =>
  intro listed a w hs _ h;exact fin 0 listed a w hs h.1 h.2
 | succ fuel ih =>
  intro listed a w hs hd h;by_cases hr:Region.ready md ops listed = []
  ·exact fin _ listed a w hs hr (h.1 hr)
  ·refine⟨fun h0=>?_,fun i hi=>?_⟩
   ·exfalso
    obtain⟨i,hi⟩:=List.exists_mem_of_ne_nil _ hr;have hlt:i < ops.size:=by
     obtain⟨_,oi,ho,_⟩:=mem_ready.1 hi;exact(Array.getElem?_eq_some_iff.1 ho).1
    rw[← jh (o:=o) hs hb hlt,h0] at hi;cases hi
   ·have hlt:i < ops.size:=by
     rcases Nat.lt_trichotomy i ops.size with h1 | h1 | h1
     ·exact h1
     ·subst h1;exfalso
      apply hr
      have hall:=waits listed hs hd hi;cases hrr:Region.ready md ops listed with
      | nil=>rfl
      | cons k ks =>
       have hk:k∈Region.ready md ops listed:=by rw[hrr];simp
       obtain⟨h1,oi,ho,_⟩:=mem_ready.1 hk;have hkl:=(Array.getElem?_eq_some_iff.1 ho).1;have h3:=hall k hkl;have hk':k < listed.size:=byOmega;simp[hk'] at h1 h3;rw[h1] at h3;cases h3
     ·obtain⟨_,oi,ho,_⟩:=mem_ready.1 hi;rw[Array.getElem?_eq_none aC] at ho;cases ho
    have hi':=(jh (o:=o) hs hb hlt).1 hi;have hd':=ae1 hs hd hi';have hop:=h.2 i hi';have e1:(ops.push o)[i]? = ops[i]?:=by rw[Array.getElem?_push,if_neg byOmega]
    have hset:(listed.push false).setIfInBounds i true=(listed.setIfInBounds i true).push false:=by
     apply Array.ext_getElem?
     intro j;refine zb8 ?_;by_cases h1:i=j
     ·subst h1;rw[if_pos rfl,if_pos byOmega,if_neg byOmega,if_pos rfl,if_pos byOmega]
     ·rw[if_neg h1,if_neg h1]
    unfold wpOp at hop ⊢;rw[e1];cases ho:ops[i]? with
    | none=>rw[ho] at hop; simp only at hop ⊢; rw[hset]; exact ih _ _ _ (by simp[hs]) hd' hop
    | some oi =>
     rw[ho] at hop;simp only at hop ⊢;have hg:Region.wanted oi (yielded (ops.push o) a.tmps)=Region.wanted oi (yielded ops a.tmps):=by
      unfold Region.wanted;have hbi:=List.all_eq_true.1 hb i (List.mem_range.2 hlt);rw[ho] at hbi;simp only[Bool.and_eq_true] at hbi;cases hgd:oi.guard with
      | none=>rfl
      | some jw =>
       obtain⟨j,want⟩:=jw;rw[hgd] at hbi;have hj:j < i:=by simpa using hbi.2
       simp only[yielded];rw[Array.getElem?_push,if_neg byOmega]
     rw[hg];split
     ·rename_i hw
      rw[if_pos hw] at hop;rcases hop with hop | hop
      ·refine .inl ?_;have:=Oper.wp_mono (K':=wpAny P md (ops.push o) Q (fuel+1) ((listed.push false).setIfInBounds i true)) (fun a' w' h'=>by rw[hset]; exact ih _ _ _ (by simp[hs]) hd' h') hop;exact abS this
      ·exact .inr hop
     ·rename_i hw
      rw[if_neg hw] at hop;rw[hset];exact ih _ _ _ (by simp[hs]) hd' hop
theorem agG (ops:Array Oper) (n:Nat):Down md ops (Array.replicate n false):=by
 intro i o _ h;simp only[Array.getD_eq_getD_getElem?,Array.getElem?_replicate] at h;split at h <;> simp at h
theorem acD {L:List Oper} {o:Oper} (n:Nat) (hn:L.drop n = [o]) (hb:pO (L.take n).toArray=true) (hl:abT md (L.take n).toArray o=true) {a:Act} {w:World}
  (h:wpAny P md (L.take n).toArray (CB P Q L.toArray o) n (Array.replicate n false) a w):wpAny P md L.toArray Q (n+1) (Array.replicate (n+1) false) a w:=by
 have hlen:L.length=n+1:=by
  exact zdW
 have hL:L.toArray=(L.take n).toArray.push o:=by
  rw[List.push_toArray,← hn,List.take_append_drop]
 have hs:(L.take n).toArray.size=n:=aC;rw[hL] at h ⊢;rw[Array.replicate_succ];exact adD hb hl n _ a w (by simp[hs]) (agG _ _) h
def Bv (P:Program) (Q:Exit→Act→World→Prop) (L:List Oper):Nat→Exit→Act→World→Prop
 | 0=>Q
 | k+1=>CB P (Bv P Q L k) (L.take (L.length - k)).toArray (L.getD (L.length - (k+1)) default)
theorem sQ {L:List Oper} (n:Nat):∀ (k:Nat),L.length=n+k→(∀ j,j < k→pO (L.take (n+j)).toArray=true∧abT md (L.take (n+j)).toArray (L.getD (n+j) default)=true)→∀ {a:Act} {w:World},
  wpAny P md (L.take n).toArray (Bv P Q L k) n (Array.replicate n false) a w→wpAny P md L.toArray Q (n+k) (Array.replicate (n+k) false) a w:=by
 have key:∀ (k:Nat),k≤L.length - n→n≤L.length→(∀ j,n+j < L.length→pO (L.take (n+j)).toArray=true∧abT md (L.take (n+j)).toArray (L.getD (n+j) default)=true)→∀ {a:Act} {w:World},
   wpAny P md (L.take (L.length - k)).toArray (Bv P Q L k) (L.length - k) (Array.replicate (L.length - k) false) a w→wpAny P md L.toArray Q L.length (Array.replicate L.length false) a w:=by
  intro k;induction k with
  | zero=>intro _ _ _ a w h; simpa [Bv] using h
  | succ k ih =>
   intro hk hn hc a w h;refine ih byOmega hn hc ?_;have e:L.length - k=(L.length - (k+1))+1:=byOmega;have ht:(L.take (L.length - k)).take (L.length - (k+1))=L.take (L.length - (k+1)):=by rw[List.take_take];congr 1;omega
   have hd:(L.take (L.length - k)).drop (L.length - (k+1)) = [L.getD (L.length - (k+1)) default]:=by
    rw[List.drop_take,show L.length - k - (L.length - (k+1))=1 by omega,List.drop_eq_getElem_cons byOmega,List.take_succ_cons,List.take_zero];congr 1;simp[List.getD_eq_getElem?_getD,show L.length - (k+1) < L.length by omega]
   have hcc:=hc (L.length - (k+1) - n) byOmega;rw[show n+(L.length - (k+1) - n)=L.length - (k+1) by omega] at hcc;have:=acD (P:=P) (md:=md) (Q:=Bv P Q L k) (L:=L.take (L.length - k)) (o:=L.getD (L.length - (k+1)) default) (L.length - (k+1)) hd (by rw[ht]; exact hcc.1) (by rw[ht]; exact hcc.2) (a:=a) (w:=w) (by rw[ht]; exact h);rw[← e] at this;exact this
 intro k hL hc a w h;have:=key k byOmega byOmega (fun j hj=>hc j byOmega) (a:=a) (w:=w) (by rw[show L.length - k=n by omega]; exact h);rwa [hL] at this
theorem bJ {id:Nat} {L:List Oper} (S:World→Prop) (n k:Nat) (hm:P.follows .mixedOrders=true) (hL:L.length=n+k) (hc:(List.range k).all (fun j=>pO (L.take (n+j)).toArray&&abT .any (L.take (n+j)).toArray (L.getD (n+j) default))=true) {a:Act} {w:World}
  (h:wpAnyH P .any (L.take n).toArray (Bv P Q L k) S n (Array.replicate n false) a w.drew):(Code.region id L.toArray true).wp P Q a w:=by
 refine wp_region_any hm ?_;rw[List.size_toArray,hL];refine sQ n k hL (fun j hj=>?_) (wpAny_of_held _ _ _ _ h);have:=List.all_eq_true.1 hc j (List.mem_range.2 hj);simpa using this
end
structure NV where
 n:Nd
 v3:Value
 v4:Value
 v5:Value
def NV.cells (q:NV):List Value:=[.int .i64 q.n.kind,.int .i64 q.n.aJ,.int .i64 q.n.info,q.v3,q.v4,q.v5]
def NV.fine (w:World) (F:Aj) (q:NV):Prop:=AQ w F q.v3 q.n.next∧AQ w F q.v4 q.n.weights∧AQ w F q.v5 q.n.pay
theorem mV {α:Type} {f:α→List Value} {s:Nat} (hf:∀ x,(f x).length=s):∀ (L:List α) (k j:Nat) (x:α),L[k]? = some x→j < s→(L.flatMap f)[k*s+j]? = (f x)[j]?
 | [],k,j,x,h,_=>by cases h
 | y :: L,0,j,x,h,hj=>by
  simp at h; subst h;rw[List.flatMap_cons,Nat.zero_mul,Nat.zero_add,List.getElem?_append_left (by rw[hf]; exact hj)]
 | y :: L,k+1,j,x,h,hj=>by
  rw[List.flatMap_cons,List.getElem?_append_right (by rw[hf,Nat.add_mul,Nat.one_mul]; omega),hf];rw[show(k+1)*s+j - s=k*s+j by rw[Nat.add_mul,Nat.one_mul]; omega];exact mV hf L k j x (by simpa using h) hj
def Lies (w:World) (b:Nat) (cs:List Value):Prop:=b < w.heap.size∧∀ i v,cs[i]? = some v→w.cell? ⟨b,i,none⟩=some v
theorem Row.lies {w:World} {b:Nat} {t:TypeId} {cs:List Value} (h:Row w b t cs):Lies w b cs:=⟨h.lt,fun i v hi=>h.cell hi⟩
theorem Lies.nodes {w:World} {b:Nat} {L:List NV} (h:Lies w b (L.flatMap NV.cells)) {F:Aj} (hb:F b) (hL:∀ q∈L,q.fine w F) {c:Nat} (hc:L.length≤c):Bh w F (.slice (some ⟨b,0,none⟩) L.length c) (L.map NV.n):=by
 refine⟨_,c,by rw[List.length_map],by rw[List.length_map]; exact hc,fun _=>⟨b,0,rfl,hb,h.1,fun k x hk=>?_⟩⟩;rw[List.getElem?_map] at hk;obtain⟨q,hq,rfl⟩:=Option.map_eq_some_iff.1 hk;obtain⟨f3,f4,f5⟩:=hL q (List.mem_of_getElem? hq);have g:∀ j v,j < 6→q.cells[j]? = some v→w.cell? ⟨b,0+k*6+j,none⟩=some v:=fun j v hj hv=>by
  rw[Nat.zero_add];exact h.2 _ _ (by rw[mV (f:=NV.cells) (s:=6) (fun _=>rfl) L k j q hq hj]; exact hv)
 exact⟨g 0 _ byOmega rfl,g 1 _ byOmega rfl,g 2 _ byOmega rfl,⟨_,g 3 _ byOmega rfl,f3⟩,⟨_,g 4 _ byOmega rfl,f4⟩,⟨_,g 5 _ byOmega rfl,f5⟩⟩
def aaB (x:Inf):List Value:=[.int .i64 x.aJ,.int .i64 x.actions]
theorem Lies.infos {w:World} {b:Nat} {L:List Inf} (h:Lies w b (L.flatMap aaB)) {F:Aj} (hb:F b) {c:Nat} (hc:L.length≤c):Bj w F (.slice (some ⟨b,0,none⟩) L.length c) L:=by
 refine⟨_,c,rfl,hc,fun _=>⟨b,0,rfl,hb,h.1,fun k x hk=>?_⟩⟩;have g:∀ j v,j < 2→(aaB x)[j]? = some v→w.cell? ⟨b,0+k*2+j,none⟩=some v:=fun j v hj hv=>by
  rw[Nat.zero_add];exact h.2 _ _ (by rw[mV (f:=aaB) (s:=2) (fun _=>rfl) L k j x hk hj]; exact hv)
 exact⟨g 0 _ byOmega rfl,g 1 _ byOmega rfl⟩
theorem Row.uY {A:World} {t:TypeId} {c:Array Value} {cs:List Value} {b:Nat} (hb:A.heap.size=b) (hc:c.toList=cs):Row (A.alloc (.cells c t)) b t cs:=by
 subst hb hc;exact Row.new A t c
def bF:Gm:=⟨2,[⟨2,0,0,[1,2],[],[]⟩,⟨3,0,0,[],[],[1,-1]⟩,⟨2,1,1,[3,4],[],[]⟩,⟨3,0,0,[],[],[0,0]⟩,⟨2,0,2,[5,6,7],[],[]⟩,⟨3,0,0,[],[],[2,-2]⟩,⟨3,0,0,[],[],[-1,1]⟩,⟨3,0,0,[],[],[3,-3]⟩],[⟨0,2⟩,⟨1,2⟩,⟨0,3⟩]⟩
def vV (w:World):List NV:=[⟨⟨2,0,0,[1,2],[],[]⟩,.slice (some ⟨w.heap.size+2,0,none⟩) 2 2,.slice none 0 0,.slice none 0 0⟩,⟨⟨3,0,0,[],[],[1,-1]⟩,.slice none 0 0,.slice none 0 0,.slice (some ⟨w.heap.size+3,0,none⟩) 2 2⟩,⟨⟨2,1,1,[3,4],[],[]⟩,.slice (some ⟨w.heap.size+4,0,none⟩) 2 2,.slice none 0 0,.slice none 0 0⟩,⟨⟨3,0,0,[],[],[0,0]⟩,.slice none 0 0,.slice none 0 0,.slice (some ⟨w.heap.size+5,0,none⟩) 2 2⟩,⟨⟨2,0,2,[5,6,7],[],[]⟩,.slice (some ⟨w.heap.size+6,0,none⟩) 3 3,.slice none 0 0,.slice none 0 0⟩,⟨⟨3,0,0,[],[],[2,-2]⟩,.slice none 0 0,.slice none 0 0,.slice (some ⟨w.heap.size+7,0,none⟩) 2 2⟩,⟨⟨3,0,0,[],[],[-1,1]⟩,.slice none 0 0,.slice none 0 0,.slice (some ⟨w.heap.size+8,0,none⟩) 2 2⟩,⟨⟨3,0,0,[],[],[3,-3]⟩,.slice none 0 0,.slice none 0 0,.slice (some ⟨w.heap.size+9,0,none⟩) 2 2⟩]
theorem aaC (w:World):Calls Tryz.prog 32 #[] w (Ret w fun v w'=>AU w' (fun b=>w.heap.size≤b) v bF):=by
 go_in;go_wp2
 refine bodyPost_ret (v:=.agg #[.int .i64 2,.slice (some ⟨w.heap.size+10,0,none⟩) 8 8,.slice (some ⟨w.heap.size+1,0,none⟩) 3 3]) (by simp[results,Tryz.results32,go_sem]) rfl ?_;generalize hW:World.alloc _ _=W;have hB:Below w.heap.size w W:=by rw[← hW];repeat (first | exact Below.refl _ _ | refine Below.alloc ?_ (by simp <;> omega) _)
 have r1:Row W (w.heap.size+1) 59 [Value.int .i64 0,Value.int .i64 2,Value.int .i64 1,Value.int .i64 2,Value.int .i64 0,Value.int .i64 3]:=by
  rw[← hW];refine Zp ?_;refine Zp ?_;exact zaP
 have r2:Row W (w.heap.size+2) 3 [Value.int .i64 1,Value.int .i64 2]:=by
  rw[← hW];refine Zp ?_;refine Zp ?_;exact Row.uY aA rfl
 have r3:Row W (w.heap.size+3) 3 [Value.int .i64 1,Value.int .i64 (-1)]:=by
  rw[← hW];refine Zp ?_;refine Row.alloc ?_ _;refine Row.alloc ?_ _;exact zaP
 have r4:Row W (w.heap.size+4) 3 [Value.int .i64 3,Value.int .i64 4]:=by
  rw[← hW];refine Zp ?_;refine Row.alloc ?_ _;exact zaP
 have r5:Row W (w.heap.size+5) 3 [Value.int .i64 0,Value.int .i64 0]:=by
  rw[← hW];refine Zp ?_;exact zaP
 have r6:Row W (w.heap.size+6) 3 [Value.int .i64 5,Value.int .i64 6,Value.int .i64 7]:=by
  rw[← hW];refine Zp ?_;exact Row.uY aA rfl
 have r7:Row W (w.heap.size+7) 3 [Value.int .i64 2,Value.int .i64 (-2)]:=by
  rw[← hW];refine Row.alloc ?_ _;refine Row.alloc ?_ _;exact zaP
 have r8:Row W (w.heap.size+8) 3 [Value.int .i64 (-1),Value.int .i64 1]:=by
  rw[← hW];refine Row.alloc ?_ _;exact zaP
 have r9:Row W (w.heap.size+9) 3 [Value.int .i64 3,Value.int .i64 (-3)]:=by
  rw[← hW];exact zaP
 have rn:Row W (w.heap.size+10) 61 ((vV w).flatMap NV.cells):=by
  rw[← hW];exact Row.uY aA rfl
 clear hW;refine⟨_,rfl,hB,_,_,rfl,?_,?_⟩
 ·refine(Row.lies rn).nodes (F:=fun b=>w.heap.size≤b) (c:=8) byOmega ?_ (by simp[vV]);intro q hq;simp only[vV,List.mem_cons,List.not_mem_nil,or_false] at hq;have nil:AQ W (fun b=>w.heap.size≤b) (.slice none 0 0) []:=⟨none,0,rfl,Nat.le_refl _,fun h=>absurd h aA⟩;rcases hq with rfl | rfl | rfl | rfl | rfl | rfl | rfl | rfl
  ·exact⟨Row.ints (l:=[1,2]) (F:=fun b=>w.heap.size≤b) r2 byOmega (c:=2) aA,nil,nil⟩
  ·exact⟨nil,nil,Row.ints (l:=[1,-1]) (F:=fun b=>w.heap.size≤b) r3 byOmega (c:=2) aA⟩
  ·exact⟨Row.ints (l:=[3,4]) (F:=fun b=>w.heap.size≤b) r4 byOmega (c:=2) aA,nil,nil⟩
  ·exact⟨nil,nil,Row.ints (l:=[0,0]) (F:=fun b=>w.heap.size≤b) r5 byOmega (c:=2) aA⟩
  ·exact⟨Row.ints (l:=[5,6,7]) (F:=fun b=>w.heap.size≤b) r6 byOmega (c:=3) aA,nil,nil⟩
  ·exact⟨nil,nil,Row.ints (l:=[2,-2]) (F:=fun b=>w.heap.size≤b) r7 byOmega (c:=2) aA⟩
  ·exact⟨nil,nil,Row.ints (l:=[-1,1]) (F:=fun b=>w.heap.size≤b) r8 byOmega (c:=2) aA⟩
  ·exact⟨nil,nil,Row.ints (l:=[3,-3]) (F:=fun b=>w.heap.size≤b) r9 byOmega (c:=2) aA⟩
 ·exact(Row.lies r1).infos (L:=[⟨0,2⟩,⟨1,2⟩,⟨0,3⟩]) (F:=fun b=>w.heap.size≤b) byOmega aA
open List renaming getElem_toArray → lq1, getElem_cons_zero → lq2, getElem_cons_succ → lq3, setIfInBounds_toArray → lq4, set_cons_zero → lq5, set_cons_succ → lq6
theorem vW (w:World) (F:Aj) (u:Value) (g:Gm) (hg:AU w F u g) (hsm:Small g) (hin:BL g) :
  Calls Tryz.prog 97 #[u] w (Ret w fun v w'=>BI w' (fun b=>w.heap.size≤b) v (dI g)):=by
 obtain⟨vn,vi,rfl,⟨A,c,rfl,hc,hN⟩,⟨Ai,ci,rfl,hci,hI⟩⟩:=hg;have HN:=Ag hN;clear hN hI;have hn:=hsm.nodes;have hni:=hsm.infos;have HIN:=Ag hin;clear hin;go_in;go_wp2_with (at_make; refine eG _ rfl _ _ 96 rfl 26 (.slice none 0 0) 24 Tryz.underlying96 Tryz.infoInts rfl g.infos.length rfl rfl byOmega byOmega ?_; intro w1 hb1 hz1 hrow1)
 simp only[World.size_alloc] at hb1 hz1 hrow1;go_loopw [4] (fun i wr=>∃ (k:Nat) (vs:List Value),k≤g.nodes.length∧i = .int .i64 k∧Row wr w.heap.size 25 [.int .i64 g.aF,.slice A g.nodes.length c,.slice Ai g.infos.length ci]∧Row wr (w.heap.size+1) 26 vs∧OwnRows wr (w.heap.size+2) 3 vs (fD g.nodes g.infos.length k)∧Below w.heap.size w wr) (fun i _=>g.nodes.length - (intOf i).toNat)
 case atStart =>
  refine⟨0,_,byOmega,rfl,?_,hrow1,?_,?_⟩
  ·exact(Row.new w _ _).below hb1 aA
  ·exact OwnRows.start _ _ _ _
  ·exact((Below.refl w.heap.size w).alloc (Nat.le_refl _) _).trans (hb1.mono byOmega)
 case round =>
  obtain⟨k,vs,hk,rfl,hr,hrow,hown,hbel⟩:=hrel;have x1:=hr.cell (i:=1) rfl;by_cases hlt:k < g.nodes.length
  ·obtain⟨b,o,rfl,_,hb,hcell⟩:=HN.out byOmega;obtain⟨n,hn'⟩:=aB hlt;obtain⟨e0,e1,e2,⟨v3,e3,A3,c3,rfl,hc3,i3⟩,⟨v4,e4,A4,c4,rfl,hc4,i4⟩,⟨v5,e5,A5,c5,rfl,hc5,i5⟩⟩:=hcell k n hn';clear i3 i4 i5 hcell;have HX:=Ag hn';clear hn';have hold:=aP hbel;have hlr:=hrow.lt;by_cases hkd:n.kind=2
   ·refine zcL ?_;clear hkd;intro hin0 hin1 hd HKD l hl v hv;have rv:=hrow.cell hv;have fv:=hrow.frozen n.info.toNat;have ho:=hown.own _ v l hv hl;have hll:=vU l (List.mem_of_getElem? hl);have HO:=Ag ho;clear ho;have HL:=Ag hl;clear hl;have HV:=Ag hv;clear hv;go_wp2
    refine zao ?_;intro W hW cx hWz;have hWo:OwnRows W (w.heap.size+2) 3 vs (fD g.nodes g.infos.length k):=by rw[hW];exact hown.alloc _
    have hWr:Row W w.heap.size 25 [.int .i64 g.aF,.slice (some ⟨b,o,none⟩) g.nodes.length c,.slice Ai g.infos.length ci]:=by rw[hW];exact hr.alloc _
    have hWw:Row W (w.heap.size+1) 26 vs:=by rw[hW];exact hrow.alloc _
    refine zdq ?_;intro hWb rv fv HOW hWlt;have HHW:=Ag hWz;have hWle:w.heap.size+2 < W.heap.size:=byOmega;clear hW hWz hr hrow hown hbel x1 hold e0 e1 e2 e3 e4 e5 hlr;have HWR:=Ag (And.intro hWr (And.intro hWw (And.intro hWo hWb)));clear hWr hWw hWo hWb;refine adC (fun w'=>w'.cell? ⟨wr.heap.size,2,none⟩=some (.int .i64 n.info)∧w'.cell? ⟨w.heap.size+1,n.info.toNat,none⟩=some v) 11 aj rfl rfl aj aj aj aj ⟨cx,rv⟩ ?_;have hHeld:(fun w':World=>w'.cell? ⟨wr.heap.size,2,none⟩=some (.int .i64 n.info)∧w'.cell? ⟨w.heap.size+1,n.info.toNat,none⟩=some v) W.drew:=⟨cx,rv⟩;refine ZJ ?_;refine tkm [0,1,2,3,4,5,6,7,8] ?_;refine tk2 9 aj rfl fun K hK=>?_
    go_simp;refine hK.out _ _ ⟨by rw[World.cell?_drew,World.cell?_alloc_lt _ _ _ aC]; exact cx,by rw[World.cell?_drew,World.cell?_alloc_lt _ _ _ aC]; exact rv⟩ (fun hHeld=>?_);clear hK K;refine zaF ?_;refine tk2 10 aj rfl fun K hK=>?_
    refine xu (by rfl) _ _ (by rfl) (w.heap.size+2) v l (by rfl) (HOW.out.alloc _) W.heap.size k (by rfl) (heap_alloc_new W _) byOmega aC ?_;intro gg cap w1 hown1 hgrow hat hlt1;have hnb:∀ b,v.ownBlock=some b→w.heap.size+2≤b:=fun b hb=>(HOW.out.lt b hb).1
    have hHG:∀ b,b < w.heap.size+2→w1.heap[b]? = W.heap[b]?:=fun b hb=>by
     exact zdx
    obtain⟨hWr,hWw,hWo,hWb⟩:=HWR.out;have k1:Row w1 w.heap.size _ _:=hWr.of_block (hHG _ byOmega);have k2:Row w1 (w.heap.size+1) _ _:=hWw.of_block (hHG _ byOmega);refine zcj ?_;intro k3 k4 rv1 fv1;have KK:=Ag (And.intro k1 (And.intro k2 (And.intro k3 k4)));refine hK.out _ _ ⟨?_,rv1⟩ (fun hHeld=>?_)
    ·refine zc8 ?_;exact cx
    clear hK K k1 k2 k3 k4 hWr hWw hWo hWb hHG hgrow hown1 hat cx rv fv;refine zaF ?_;refine YF ?_;refine zc9 ?_;go_wp2
    refine zc9 ?_;go_wp2
    go_roundw
    case rel =>
     obtain⟨k1,k2,k3,k4⟩:=KK.out;refine⟨k+1,_,byOmega,by go_num,k1.other aA _,k2.set _ _,?_,k4.setCell aA _⟩;rw[sN HX.out HKD.out HL.out];exact k3.setCell aA _
    case measure=>simp[intOf]; omega
   ·have hd:(n.kind==2)=false:=by simp[hkd]
    have HKD:=Ag hkd;clear hkd;go_wp2
    go_roundw
    case rel =>
     refine⟨k+1,vs,byOmega,by go_num,by repeat (first | exact hr | refine Row.alloc ?_ _ | refine Row.other ?_ (by have:=hr.lt; simp; omega) _),by repeat (first | exact hrow | refine Row.alloc ?_ _ | refine Row.other ?_ aC _),?_,by repeat (first | exact hbel | refine Below.alloc ?_ hbel.size _ | refine Below.setCell ?_ hbel.size _)⟩;rw[sO HX.out HKD.out];repeat (first | exact hown | refine OwnRows.alloc ?_ _)
    case measure=>simp[intOf]; omega
  ·go_wp2
   go_ret;refine zaX ?_;have hke:k=g.nodes.length:=byOmega;subst hke;have h1:(dI g).length=g.infos.length:=dh _ _ _;exact zbQ
def iZ (g:Gm):Prop:=g.aF < 1∨4 < g.aF∨g.nodes.length < 1∨2000 < g.nodes.length∨200 < g.infos.length
instance (g:Gm):Decidable (iZ g):=by unfold iZ; infer_instance
def dL (aF:Int) (ni:Nat):List Nd→Int
 | []=>0
 | x :: l=>if aV aF ni x≠0 then aV aF ni x else dL aF ni l
def dU (infos:List Inf) (x:Nd):Bool:=decide (x.kind=2)&&(decide ((infos.getD x.info.toNat default).aJ≠x.aJ)||decide ((infos.getD x.info.toNat default).actions≠(x.next.length:Int)))
def rF (g:Gm):Bool:=g.nodes.any (dU g.infos)
def lq (sets:List (List Int)):Bool:=sets.any fun l=>decide (l.length=0)
def jG (sets:List (List Int)) (i:Nat):Bool:=decide ((sets.getD i []).getD 0 0 < (sets.getD (i - 1) []).getD 0 0)
def eX (sets:List (List Int)) (m:Nat):Bool:=(List.range' 1 (m - 1)).any (jG sets)
def jM (g:Gm):Int:=if rF g then 10 else if lq (dI g) then 18 else if eX (dI g) g.infos.length then 9 else 0
def bP (g:Gm):Int :=
 if iZ g then 2 else if dL g.aF g.infos.length g.nodes≠0 then dL g.aF g.infos.length g.nodes
 else if (bZ g.nodes (g.nodes.length+1) 0 0 0).1≠g.nodes.length then 9 else if 40 < (bZ g.nodes (g.nodes.length+1) 0 0 0).2 then 5 else jM g
theorem uZ {aF:Int} {ni:Nat} {l:List Nd} {k:Nat} {x:Nd} (h:l[k]? = some x):dL aF ni (l.drop k)=if aV aF ni x≠0 then aV aF ni x else dL aF ni (l.drop (k+1)):=by
 exact zdA
theorem ji {aF:Int} {ni:Nat}:∀ {l:List Nd},dL aF ni l=0→∀ x∈l,aV aF ni x=0
 | [],_,_,h=>by cases h
 | y :: l,h,x,hx=>by
  unfold dL at h;split at h
  ·rename_i h1; exact absurd h h1
  ·rename_i h1
   rcases List.mem_cons.1 hx with rfl | hx
   ·simpa using h1
   ·exact ji h x hx
theorem oG {g:Gm} (h:dL g.aF g.infos.length g.nodes=0):BL g:=by
 intro x hx hk;have:=ji h x hx;unfold aV dY at this;rw[if_neg byOmega,if_pos hk] at this;split at this
 ·omega
 ·split at this
  ·omega
  ·omega
theorem zW (sets:List (List Int)) (m:Nat) (h:1≤m):eX sets (m+1)=(eX sets m||jG sets m):=by
 unfold eX;have:m+1 - 1=(m - 1)+1:=byOmega;rw[this,List.range'_concat,List.any_append];simp;rw[show 1+(m - 1)=m by omega]
theorem abx {sets:List (List Int)} {m k:Nat} (h:1≤m) (hm:m < k) (hb:jG sets m=true):eX sets k=true:=by
 unfold eX;rw[List.any_eq_true];exact⟨m,by rw[List.mem_range'_1]; omega,hb⟩
theorem agH (w:World) (F:Aj) (u:Value) (g:Gm) (hg:AU w F u g) (hsm:Small g) :
  Calls Tryz.prog 49 #[u] w (Ret w fun v _=>v = .int .i64 (bP g)):=by
 have HG:=Ag hg;obtain⟨vn,vi,rfl,⟨A,c,rfl,hc,hN⟩,⟨Ai,ci,rfl,hci,hI⟩⟩:=hg;have HN:=Ag hN;have HI:=Ag hI;clear hN hI;have hn:=hsm.nodes;have hni:=hsm.infos;have HS:=Ag hsm;clear hsm;by_cases q0:g.aF < 1
 ·exact zbN
 have d0:decide (g.aF < 1)=false:=decide_eq_false byOmega;by_cases q1:4 < g.aF
 ·exact zbN
 have d1:decide ((4:Int) < g.aF)=false:=decide_eq_false byOmega;by_cases q2:g.nodes.length < 1
 ·exact zbN
 have d2:decide ((g.nodes.length:Int) < 1)=false:=decide_eq_false byOmega;have HV:=Ag (show bP g=if dL g.aF g.infos.length g.nodes≠0 then dL g.aF g.infos.length g.nodes
   else if (bZ g.nodes (g.nodes.length+1) 0 0 0).1≠g.nodes.length then 9 else if 40 < (bZ g.nodes (g.nodes.length+1) 0 0 0).2 then 5 else jM g by
  unfold bP; rw[if_neg (by unfold iZ; omega)])
 obtain⟨b,o,rfl,hbF,hb,hcell⟩:=HN.out byOmega;have HC:=Ag hcell;clear hcell;go_in;go_wp2
 go_loopw [3] (fun i wr=>∃ k:Nat,k≤g.nodes.length∧i = .int .i64 k∧Row wr w.heap.size 25 [.int .i64 g.aF,.slice (some ⟨b,o,none⟩) g.nodes.length c,.slice Ai g.infos.length ci]∧Below w.heap.size w wr∧dL g.aF g.infos.length g.nodes=dL g.aF g.infos.length (g.nodes.drop k)) (fun i _=>g.nodes.length - (intOf i).toNat)
 case atStart=>exact⟨0,byOmega,rfl,Row.new w _ _,(Below.refl _ _).alloc (Nat.le_refl _) _,rfl⟩
 case round =>
  obtain⟨k,hk,rfl,hbx,hbel,hval⟩:=hrel;have HV1:=Ag hval;clear hval;have x0:=hbx.cell (i:=0) rfl;have x1:=hbx.cell (i:=1) rfl;have x2:=hbx.cell (i:=2) rfl;have hold:=aP hbel;by_cases hlt:k < g.nodes.length
  ·obtain⟨x,hx⟩:=aB hlt;obtain⟨e0,e1,e2,⟨v3,e3,i3⟩,⟨v4,e4,i4⟩,⟨v5,e5,i5⟩⟩:=HC.out k x hx;have V:=Ag (show BO w F _ x from⟨v3,v4,v5,rfl,i3,i4,i5⟩);clear i3 i4 i5;have M:=List.mem_of_getElem? hx;have L:x.next.length < 1000000∧x.weights.length < 1000000∧x.pay.length < 1000000:=⟨by have:=HS.out.next x M; omega,by have:=HS.out.weights x M; omega,by have:=HS.out.pay x M; omega⟩;have HL:=Ag L;clear L M;have HV2:=Ag (HV1.out.trans (uZ hx));clear hx;have hbw:b < wr.heap.size:=by have:=hbel.size;omega
   have hBw:w.heap.size < wr.heap.size:=hbx.lt;go_wp2
   refine wp_region_held_drew (S:=fun w'=>∀ b o,b < wr.heap.size→w'.cell? ⟨b,o,none⟩=wr.cell? ⟨b,o,none⟩) aj (fun _ _ _=>rfl) (fun hHeld=>?_);refine tkm [0,1,2,3,4,5] ?_;refine tk2 6 aj rfl fun K hK=>?_
   go_simp;refine(ahX _ F _ _ g x (HG.out.on (Below.same' hbel.drew F)) (V.out.on (Below.same' hbel.drew F)) HL.out byOmega).mono ?_;rintro e w1 ⟨_,rfl,hb1,rfl⟩;have hb1':Below wr.heap.size wr w1:=(Below.refl _ _).drew.trans hb1;dsimp only;refine hK.out _ _ (aP hb1') (fun hHeld=>?_);clear hK K;refine Zb ?_;refine tkm [7] ?_;refine YF ?_;generalize aV g.aF g.infos.length x=er at *;by_cases he:er=0
   ·subst he;go_wp2
    go_roundw
    case rel =>
     refine⟨k+1,byOmega,by go_num,hbx.below hb1' hbx.lt,hbel.trans (hb1'.mono hbel.size),?_⟩;rw[HV2.out];simp
    case measure=>simp[intOf]; omega
   ·have hd:(er != 0)=true:=by simp[he]
    have HF:=Ag (show bP g=er by rw[HV.out,HV2.out]; simp[he]);clear he;go_wp2
    go_ret;exact⟨_,rfl,hbel.trans (hb1'.mono hbel.size),by rw[HF.out]; rfl⟩
  ·have HNE:=Ag (show dL g.aF g.infos.length g.nodes=0 by
    rw[HV1.out,List.drop_eq_nil_of_le byOmega]; rfl)
   go_wp2
   obtain⟨W,hW⟩:∃ W:World,W=wr.alloc (.cells #[.int .i64 0] 3):=⟨_,rfl⟩;rw[← hW];have hbd:Row W wr.heap.size 3 [.int .i64 0]:=by rw[hW];exact Row.new wr _ _
   have hbx2:=hbx.alloc (.cells #[.int .i64 0] 3);rw[← hW] at hbx2;have hWb:Below w.heap.size w W:=by rw[hW];exact hbel.alloc hbel.size _
   have hBw:w.heap.size < wr.heap.size:=hbx.lt;clear hW hbx x0 x1 x2 hold hbel;have hGW:AU W (fun b=>b≠wr.heap.size) _ g:=HG.out.keep (fun b _ hl=>by omega) (Below.same' hWb F);have HGW:=Ag hGW;clear hGW;have x0:=hbx2.cell (i:=0) rfl;have x1:=hbx2.cell (i:=1) rfl;have x2:=hbx2.cell (i:=2) rfl;refine wp_region_held_drew (S:=fun w'=>w'.cell? ⟨w.heap.size,0,none⟩=some (.int .i64 g.aF)∧w'.cell? ⟨w.heap.size,1,none⟩=some (.slice (some ⟨b,o,none⟩) g.nodes.length c)∧w'.cell? ⟨w.heap.size,2,none⟩=some (.slice Ai g.infos.length ci)) aj ⟨x0,x1,x2⟩ (fun hHeld=>?_);refine tkm [0,2,3,4] ?_;refine tk2 1 aj rfl fun K hK=>?_
   go_simp;refine(agD g HS.out (g.nodes.length+1) 0 0 0 W.drew wr.heap.size _ (HGW.out.on (Same.drewN _ W 1)) hbd.drew byOmega byOmega byOmega byOmega byOmega).mono ?_;rintro e w1 ⟨rfl,hrw,hgr⟩;have aby:Row w1 w.heap.size _ _:=hbx2.drew.of_block (hgr.block _ (by have:=hbx2.lt; simpa using this) aC);have hb1:Below w.heap.size w w1:=hWb.drew.grown hgr (by have:=hWb.size; simpa using this) (fun k hk=>by simp at hk; omega);dsimp only;refine hK.out _ _ ⟨aby.cell rfl,aby.cell rfl,aby.cell rfl⟩ (fun hHeld=>?_);clear hK K;refine Zb ?_;refine tkm [5] ?_;refine YF ?_;have hdd:=rD g.nodes 1000 (g.nodes.length+1) 0 0 0 byOmega byOmega byOmega;have HV2:=Ag (HV.out.trans (by rw[HNE.out]; simp only[ne_eq,not_true_eq_false,↓reduceIte]):bP g=if (bZ g.nodes (g.nodes.length+1) 0 0 0).1≠g.nodes.length then 9 else if 40 < (bZ g.nodes (g.nodes.length+1) 0 0 0).2 then 5 else jM g);generalize bZ g.nodes (g.nodes.length+1) 0 0 0=rr at *;obtain⟨rn,rd⟩:=rr;dsimp only at hrw hdd HV2;clear hbd hbx2 x0 x1 x2 hWb hgr hHeld HGW;by_cases he:rn=(g.nodes.length:Int)
   case neg =>
    have hd:(rn != (g.nodes.length:Int))=true:=by simp[he]
    have HF:=Ag (show bP g=9 by rw[HV2.out,if_pos he]);clear he;go_wp2
    go_ret;exact⟨_,rfl,hb1,by rw[HF.out]; rfl⟩
   have hd:(rn != (g.nodes.length:Int))=false:=by simp[he]
   have HRN:=Ag he;clear he;have y0:=hrw.cell (i:=0) rfl;by_cases h40:40 < rd
   ·have HF:=Ag (show bP g=5 by rw[HV2.out,if_neg (by simpa using HRN.out),if_pos h40]);go_wp2
    go_ret;exact⟨_,rfl,hb1,by rw[HF.out]; rfl⟩
   have HV3:=Ag (show bP g=jM g by rw[HV2.out,if_neg (by simpa using HRN.out),if_neg h40]);have x1:=aby.cell (i:=1) rfl;go_wp2
   clear hrw y0 x1 hdd;go_loopw [6] (fun i wi=>∃ k:Nat,k≤g.nodes.length∧i = .int .i64 k∧(g.nodes.take k).any (dU g.infos)=false∧Row wi w.heap.size 25 [.int .i64 g.aF,.slice (some ⟨b,o,none⟩) g.nodes.length c,.slice Ai g.infos.length ci]∧Below w.heap.size w wi) (fun i _=>g.nodes.length - (intOf i).toNat)
   case atStart=>exact⟨0,byOmega,rfl,rfl,aby,hb1⟩
   case round =>
    clear aby hb1;obtain⟨k2,hk2,rfl,hpre,hbx,hbel⟩:=hrel;have HP:=Ag hpre;clear hpre;have x0:=hbx.cell (i:=0) rfl;have x1:=hbx.cell (i:=1) rfl;have x2:=hbx.cell (i:=2) rfl;have hold:=aP hbel;have hBw:w.heap.size < wr.heap.size:=hbx.lt;by_cases hlt2:k2 < g.nodes.length
    ·obtain⟨x,hx⟩:=aB hlt2;obtain⟨e0,e1,e2,⟨v3,e3,A3,c3,rfl,hc3,i3⟩,⟨v4,e4,A4,c4,rfl,hc4,i4⟩,⟨v5,e5,A5,c5,rfl,hc5,i5⟩⟩:=HC.out k2 x hx;clear i3 i4 i5;have hl3:=HS.out.next x (List.mem_of_getElem? hx);have HX:=Ag hx;have BAD:=Ag (show dU g.infos x=true→bP g=10 by
      intro h;have:rF g=true:=List.any_eq_true.2 ⟨x,List.mem_of_getElem? HX.out,h⟩;rw[HV3.out]; unfold jM; rw[this]; rfl)
     have HII:=Ag (oG HNE.out x (List.mem_of_getElem? hx));clear hx;by_cases hkd:x.kind=2
     ·obtain⟨hin0,hin1⟩:=HII.out hkd;have hd2:(x.kind==2)=true:=by simp[hkd]
      obtain⟨bi,oi,rfl,_,hbi,hxi⟩:=HI.out byOmega;obtain⟨inf,fB⟩:=aB (l:=g.infos) (k:=x.info.toNat) byOmega;obtain⟨c0,c1⟩:=hxi _ inf fB;have HT:=Ag (show dU g.infos x=(decide (inf.aJ≠x.aJ)||decide (inf.actions≠(x.next.length:Int))) by
       unfold dU; simp[hkd,List.getD_eq_getElem?_getD,fB])
      have hbiw:bi < wr.heap.size:=by have:=hbel.size;omega
      clear fB hxi hkd;by_cases p1:inf.aJ=x.aJ
      ·have f1:(inf.aJ != x.aJ)=false:=neF p1;by_cases p2:inf.actions=(x.next.length:Int)
       ·have f2:(inf.actions != (x.next.length:Int))=false:=neF p2;have HF:=Ag (show dU g.infos x=false by rw[HT.out]; simp[p1,p2]);clear p1 p2;go_wp2
        go_quiet (fail)
        go_wp2
        go_roundw
        case rel=>exact⟨k2+1,byOmega,by go_num,kY HX.out HP.out HF.out,(hbx.alloc _).dN _,aH (hbel.alloc hbel.size _) _⟩
        case measure=>simp[intOf]; omega
       ·have f2:(inf.actions != (x.next.length:Int))=true:=neT p2;have HF:=Ag (BAD.out (by rw[HT.out]; simp[p2]));clear p1 p2;go_wp2
        go_quiet (fail)
        exact zaG
      ·have f1:(inf.aJ != x.aJ)=true:=neT p1;have HF:=Ag (BAD.out (by rw[HT.out]; simp[p1]));clear p1;go_wp2
       go_quiet (fail)
       exact zaG
     ·have hd2:(x.kind==2)=false:=by simp[hkd]
      have HF:=Ag (show dU g.infos x=false by unfold dU; simp[hkd]);clear hkd;go_wp2
      go_quiet (fail)
      go_wp2
      go_roundw
      case rel=>exact⟨k2+1,byOmega,by go_num,kY HX.out HP.out HF.out,(hbx.alloc _).dN _,aH (hbel.alloc hbel.size _) _⟩
      case measure=>simp[intOf]; omega
    ·have HTB:=Ag (show rF g=false by
      have:=HP.out; rw[List.take_of_length_le byOmega] at this; exact this)
     go_wp2_with fail
     refine(vW _ F _ g (HG.out.on (Below.same' hbel F)) HS.out (oG HNE.out)).mono ?_;rintro e w2 ⟨vss,rfl,hb2,hse⟩;have hB2:Below w.heap.size w w2:=hbel.trans (hb2.mono hbel.size);have HV4:=Ag (show bP g=if lq (dI g) then 18 else if eX (dI g) g.infos.length then 9 else 0 by
      rw[HV3.out]; unfold jM; rw[HTB.out]; rfl)
     have hsl:(dI g).length=g.infos.length:=dh _ _ _;have hsle:∀ l∈dI g,l.length≤g.nodes.length:=vU;generalize dI g=sets at *;obtain⟨As,cs,rfl,hcs,hS⟩:=hse;have HSE:=Ag hS;clear hS;have HSLE:=Ag hsle;clear hsle;have HSL:=Ag hsl;have hsl0:sets.length≤100:=byOmega;clear hsl hbx x0 x1 x2 hold hbel hb2;dsimp only;go_wp2
     go_loop [9] (fun i=>∃ k:Nat,k≤sets.length∧i = .int .i64 k∧lq (sets.take k)=false) (fun i=>sets.length - (intOf i).toNat)
     case atStart=>exact⟨0,byOmega,rfl,rfl⟩
     case round =>
      obtain⟨k3,hk3,rfl,hpre⟩:=hrel;have HP3:=Ag hpre;clear hpre;by_cases hlt3:k3 < sets.length
      ·obtain⟨bs,os,rfl,_,hbs,hxs⟩:=HSE.out byOmega;obtain⟨l,hl⟩:=aB hlt3;obtain⟨vl,el,Al,cl,rfl,hcl,hLl⟩:=hxs k3 l hl;rw[Nat.mul_one] at el;have HX:=Ag hl;have hll:=HSLE.out l (List.mem_of_getElem? hl);clear hl hxs hLl;by_cases hz:l.length=0
       ·have hd:((l.length:Int)==0)=true:=eqT byOmega;have HF:=Ag (show bP g=18 by
         have:lq sets=true:=List.any_eq_true.2 ⟨l,List.mem_of_getElem? HX.out,by simp; exact List.eq_nil_of_length_eq_zero hz⟩;rw[HV4.out,this]; rfl)
        clear hz;go_wp2
        go_ret;exact⟨_,rfl,hB2,by rw[HF.out]; rfl⟩
       ·have hd:((l.length:Int)==0)=false:=eqF byOmega;go_wp2
        go_round
        case rel=>exact⟨k3+1,byOmega,by go_num,kY HX.out HP3.out (by simp; intro h; rw[h] at hz; simp at hz)⟩
        case measure=>simp[intOf]; omega
      ·have HNB:=Ag (show lq sets=false by
        have:=HP3.out; rw[List.take_of_length_le byOmega] at this; exact this)
       have HNZ:=Ag (show ∀ l∈sets,0 < l.length by
        intro l hl;have:=List.any_eq_false.1 HNB.out l hl;simp at this;exact List.length_pos_iff.2 this)
       go_wp2
       go_loopw [10] (fun i wi=>∃ m n:Nat,1≤m∧(m≤sets.length∨m=1)∧i = .int .i64 m∧eX sets m=false∧wi=w2.drewN n) (fun i _=>sets.length - (intOf i).toNat)
       case atStart=>exact⟨1,0,byOmega,.inr rfl,rfl,rfl,rfl⟩
       case round =>
        obtain⟨m,nd,hm1,hm,rfl,hpre,rfl⟩:=hrel;have HPM:=Ag hpre;clear hpre;by_cases hmt:m < sets.length
        ·obtain⟨bs,os,rfl,_,hbs,hxs⟩:=HSE.out byOmega;obtain⟨l,hl⟩:=aB hmt;obtain⟨vl,el,Al,cl,rfl,hcl,hLl⟩:=hxs m l hl;obtain⟨l',hl'⟩:=aB (l:=sets) (k:=m - 1) byOmega;obtain⟨vl',el',Al',cl',rfl,hcl',hLl'⟩:=hxs (m - 1) l' hl';have p0:=HNZ.out l (List.mem_of_getElem? hl);have p1:=HNZ.out l' (List.mem_of_getElem? hl');obtain⟨bl,ol,rfl,_,hbl,hxl⟩:=hLl p0;obtain⟨bl',ol',rfl,_,hbl',hxl'⟩:=hLl' p1;obtain⟨x,hx⟩:=aB p0;obtain⟨y,hy⟩:=aB p1;have ex:=hxl 0 x hx;have ey:=hxl' 0 y hy;unfold kX at ex ey;simp only[Nat.zero_mul,Nat.add_zero] at ex ey;rw[Nat.mul_one] at el el';have HAT:=Ag (show jG sets m=decide (x < y) by
          unfold jG; simp[List.getD_eq_getElem?_getD,hl,hl',hx,hy])
         clear hl hl' hx hy hxl hxl' hLl hLl' hxs;have hmd:m - 1 < sets.length:=byOmega;by_cases q:x < y
         ·have HF:=Ag (show bP g=9 by
           rw[HV4.out,HNB.out];have:=abx hm1 hmt (by rw[HAT.out]; simp[q]);rw[← HSL.out,this]; rfl)
          go_wp2
          have hw1:IntKind.i64.wrap ((m:Int) - 1)=((m - 1:Nat):Int):=by rw[IntWalk.i64_in _ byOmega];omega
          go_quiet (fail)
          go_wp2
          go_ret;exact⟨_,rfl,aH (aH hB2 _) _,by rw[HF.out]; rfl⟩
         ·have hq:decide (x < y)=false:=decide_eq_false q;go_wp2
          have hw1:IntKind.i64.wrap ((m:Int) - 1)=((m - 1:Nat):Int):=by rw[IntWalk.i64_in _ byOmega];omega
          go_quiet (fail)
          clear hw1;go_wp2
          go_roundw
          case rel=>exact⟨m+1,nd+nq,byOmega,.inl byOmega,by go_num,by rw[zW _ _ hm1,HPM.out,HAT.out,hq]; rfl,rfl⟩
          case measure=>simp[intOf]; omega
        ·go_wp2
         go_ret;refine⟨_,rfl,aH hB2 _,?_⟩;have:bP g=0:=by
          rw[HV4.out,HNB.out];have h1:=HPM.out;have h2:=HSL.out;rcases hm with hm | hm
          ·have:m=sets.length:=byOmega;rw[← h2,← this,h1];rfl
          ·subst hm;have:eX sets g.infos.length=false:=by
            unfold eX;rw[show g.infos.length - 1=0 by omega];rfl
           rw[this];rfl
         rw[this];rfl
inductive Span (nodes:List Nd):List Int→Nat→Nat→Prop
 | nil (a:Nat):Span nodes [] a a
 | cons {a m b:Nat} {n:Nd} {cs:List Int}:nodes[a]? = some n→Span nodes n.next (a+1) m→Span nodes cs m b→Span nodes ((a:Int) :: cs) a b
theorem Span.le {nodes:List Nd} {cs:List Int} {a b:Nat} (h:Span nodes cs a b):a≤b:=by
 induction h with
 | nil a=>exact Nat.le_refl _
 | cons _ _ _ ih1 ih2=>omega
theorem Span.mem {nodes:List Nd} {cs:List Int} {a b:Nat} (h:Span nodes cs a b):∀ c∈cs,(a:Int)≤c∧c < b:=by
 induction h with
 | nil a=>intro c hc; cases hc
 | cons hn h1 h2 ih1 ih2 =>
  intro c hc;have l1:=h1.le;have l2:=h2.le;rcases List.mem_cons.1 hc with rfl | hc
  ·omega
  ·have:=ih2 c hc;omega
theorem Span.kids {nodes:List Nd} {cs:List Int} {a b:Nat} (h:Span nodes cs a b):∀ p n,a≤p→p < b→nodes[p]? = some n→∀ c∈n.next,(p:Int) < c∧c < b:=by
 induction h with
 | nil a=>intro p n h1 h2; omega
 | @cons a m b n cs hn h1 h2 ih1 ih2 =>
  intro p n' ha hb hp c hc;have l1:=h1.le;have l2:=h2.le;by_cases e:p=a
  ·subst e;rw[hn] at hp;cases hp;have:=h1.mem c hc;omega
  ·by_cases hm:p < m
   ·have:=ih1 p n' byOmega hm hp c hc;omega
   ·exact ih2 p n' byOmega hb hp c hc
theorem Span.parent {nodes:List Nd} {cs:List Int} {a b:Nat} (h:Span nodes cs a b):∀ j:Nat,a≤j→j < b→(j:Int)∈cs∨∃ p n,a≤p∧p < j∧nodes[p]? = some n∧(j:Int)∈n.next:=by
 induction h with
 | nil a=>intro j h1 h2; omega
 | @cons a m b n cs hn h1 h2 ih1 ih2 =>
  intro j ha hb;by_cases e:j=a
  ·subst e;exact .inl aA
  ·by_cases hm:j < m
   ·rcases ih1 j byOmega hm with h | ⟨p,n',hp1,hp2,hp3,hp4⟩
    ·exact .inr ⟨a,n,Nat.le_refl _,byOmega,hn,h⟩
    ·exact .inr ⟨p,n',byOmega,hp2,hp3,hp4⟩
   ·rcases ih2 j byOmega hb with h | ⟨p,n',hp1,hp2,hp3,hp4⟩
    ·exact .inl (by simp[h])
    ·have:=h1.le;exact .inr ⟨p,n',byOmega,hp2,hp3,hp4⟩
theorem Span.once {nodes:List Nd} {cs:List Int} {a b:Nat} (h:Span nodes cs a b):(∀ c∈cs,∀ p n,a≤p→p < b→nodes[p]? = some n→c ∉ n.next) ∧
  (∀ c p q n n',a≤p→p < b→a≤q→q < b→nodes[p]? = some n→nodes[q]? = some n'→c∈n.next→c∈n'.next→p=q):=by
 induction h with
 | nil a=>exact⟨(fun c hc=>(by cases hc)),(fun c p q n n' h1 h2=>byOmega)⟩
 | @cons a m b n cs hn h1 h2 ih1 ih2 =>
  have l1:=h1.le;have l2:=h2.le;have k1:=h1.kids;have k2:=h2.kids;have m1:=h1.mem;have m2:=h2.mem;constructor
  ·intro c hc p n' hp1 hp2 hp3 hp4;rcases List.mem_cons.1 hc with rfl | hc'
   ·by_cases e:p=a
    ·subst e;rw[hn] at hp3;cases hp3;have:=m1 _ hp4;omega
    ·by_cases hm:p < m
     ·have:=k1 p n' byOmega hm hp3 _ hp4;omega
     ·have:=k2 p n' byOmega hp2 hp3 _ hp4;omega
   ·by_cases e:p=a
    ·subst e;rw[hn] at hp3;cases hp3;have:=m1 _ hp4;have:=m2 _ hc';omega
    ·by_cases hm:p < m
     ·have:=k1 p n' byOmega hm hp3 _ hp4;have:=m2 _ hc';omega
     ·exact ih2.1 c hc' p n' byOmega hp2 hp3 hp4
  ·have key:∀ c p q n1 n2,a≤p→p < q→q < b→nodes[p]? = some n1→nodes[q]? = some n2→c∈n1.next→c∈n2.next→False:=by
    intro c p q n1 n2 hp1 hpq hq hn1 hn2 hc1 hc2;by_cases e:p=a
    ·subst e;rw[hn] at hn1;cases hn1;by_cases hm:q < m
     ·exact ih1.1 c hc1 q n2 byOmega hm hn2 hc2
     ·have:=m1 c hc1;have:=k2 q n2 byOmega hq hn2 c hc2;omega
    ·by_cases hm:q < m
     ·have:=ih1.2 c p q n1 n2 byOmega byOmega byOmega hm hn1 hn2 hc1 hc2;omega
     ·by_cases hmp:p < m
      ·have:=k1 p n1 byOmega hmp hn1 c hc1;have:=k2 q n2 byOmega hq hn2 c hc2;omega
      ·have:=ih2.2 c p q n1 n2 byOmega byOmega byOmega hq hn1 hn2 hc1 hc2;omega
   intro c p q n1 n2 hp1 hp2 hq1 hq2 hn1 hn2 hc1 hc2;rcases Nat.lt_trichotomy p q with h | h | h
   ·exact(key c p q n1 n2 hp1 h hq2 hn1 hn2 hc1 hc2).elim
   ·exact h
   ·exact(key c q p n2 n1 hq1 h hp2 hn2 hn1 hc2 hc1).elim
theorem vk {nodes:List Nd} {rec:Nat→Int→Int×Int} (hrec:∀ a d,(rec a d).1≠-1→∃ b:Nat,(rec a d).1=b∧Span nodes [(a:Int)] a b) :
  ∀ (cs:List Int) (x:Nat) (deep:Int),(dF rec cs x deep).1≠-1→∃ b:Nat,(dF rec cs x deep).1=b∧Span nodes cs x b
 | [],x,deep,_=>⟨x,rfl,.nil x⟩
 | c :: cs,x,deep,h=>by
  unfold dF at h ⊢;by_cases hc:c=x
  ·subst hc;simp only[ne_eq,not_true_eq_false,↓reduceIte,Int.toNat_natCast] at h ⊢;by_cases hng:(rec x deep).1 < 0
   ·rw[if_pos hng] at h; exact absurd rfl h
   ·rw[if_neg hng] at h ⊢;obtain⟨m,hm,hs⟩:=hrec x deep byOmega;rw[hm] at h ⊢;obtain⟨b,hb,hs2⟩:=vk hrec cs m _ h;refine⟨b,hb,?_⟩;generalize hl:[(x:Int)]=l at hs;cases hs with
    | nil=>cases hl
    | cons hn h1 h2 =>
     injection hl with e1 e2
     subst e2;cases h2
     exact .cons hn h1 hs2
  ·rw[if_pos hc] at h; exact absurd rfl h
theorem aaD (nodes:List Nd):∀ (f a:Nat) (depth deep:Int),(bZ nodes f a depth deep).1≠-1→∃ b:Nat,(bZ nodes f a depth deep).1=b∧Span nodes [(a:Int)] a b
 | 0,_,_,_,h=>absurd rfl h
 | f+1,a,depth,deep,h=>by
  unfold bZ at h ⊢;cases hn:nodes[a]? with
  | none=>rw[hn] at h; exact absurd rfl h
  | some n =>
   rw[hn] at h;simp only at h ⊢;have:=vk (nodes:=nodes) (rec:=fun a d=>bZ nodes f a (depth+1) d) (fun a' d h'=>aaD nodes f a' (depth+1) d h') n.next (a+1) (max deep depth) h;obtain⟨b,hb,hs⟩:=this;exact⟨b,hb,.cons hn hs (.nil b)⟩
structure Good (g:Gm):Prop where
 pos:0 < g.nodes.length
 span:Span g.nodes [(0:Int)] 0 g.nodes.length
 infos:BL g
theorem lC {g:Gm} (h:bP g=0):Good g:=by
 unfold bP at h;split at h
 ·omega
 ·rename_i h1
  split at h
  ·rename_i h2; exact absurd h h2
  ·rename_i h2
   split at h
   ·omega
   ·rename_i h3
    have hp:0 < g.nodes.length:=by unfold iZ at h1;omega
    have h3':(bZ g.nodes (g.nodes.length+1) 0 0 0).1=(g.nodes.length:Int):=by simpa using h3
    obtain⟨b,hb,hs⟩:=aaD g.nodes (g.nodes.length+1) 0 0 0 byOmega;have:b=g.nodes.length:=byOmega;subst this;exact⟨hp,hs,oG (by simpa using h2)⟩
theorem Good.ae2 {g:Gm} (h:Good g):DY g.nodes:=by
 intro n hn c hc;obtain⟨i,hi⟩:=List.getElem?_of_mem hn;have:=h.span.kids i n (Nat.zero_le _) (aK hi) hi c hc;omega
def Kid (nodes:List Nd) (i k c:Nat):Prop:=∃ n,nodes[i]? = some n∧n.next[k]? = some (c:Int)
theorem Good.akS {g:Gm} (h:Good g) {c:Nat} (h0:0 < c) (hc:c < g.nodes.length):∃ i k,Kid g.nodes i k c:=by
 rcases h.span.parent c (Nat.zero_le _) hc with h | ⟨p,n,_,h1,h2,h3⟩
 ·simp at h;omega
 ·obtain⟨k,hk⟩:=List.getElem?_of_mem h3;exact⟨p,k,n,h2,hk⟩
theorem enters {f:FuncId} {fn:Func} (hf:Tryz.prog.funcs[f]? = some fn) (hn:(fn.name == "runtime.NumGoroutine")=false) (hb:fn.body.isNone=false) (args:Array Value) (w:World):(callFunc f args).run Tryz.prog w = .ok (.enter f args) w:=by
 have h1:fn.name ≠ "runtime.NumGoroutine" := by simpa using hn
 have h2:fn.body.isNone=false:=hb;obtain⟨b,hb⟩:∃ b,fn.body=some b:=by cases h:fn.body <;> simp_all
 simp[callFunc,hf,h1,hb,Sem.run]
theorem adE (w:World) (lo hi x:Int) (b1 b2:Nat) (h1:w.cell? ⟨b1,0,none⟩=some (.int .i64 lo)) (h2:w.cell? ⟨b2,0,none⟩=some (.int .i64 hi)) :
  Calls Tryz.prog 204 #[.int .i64 x,.pointer (some ⟨b1,0,none⟩),.pointer (some ⟨b2,0,none⟩)] w fun e w'=>e = .returned (.bool (decide (x < lo)||decide (hi < x)))∧w=w':=by
 by_cases q:x < lo
 ·have HF:=Ag (show(decide (x < lo)||decide (hi < x))=true by simp[q]);go_in;exact zaD
 ·have d:decide (x < lo)=false:=decide_eq_false q;by_cases q2:hi < x
  ·have HF:=Ag (show(decide (x < lo)||decide (hi < x))=true by simp[q2]);go_in;exact zaD
  ·have d2:decide (hi < x)=false:=decide_eq_false q2;have HF:=Ag (show(decide (x < lo)||decide (hi < x))=false by simp[d,d2]);go_in;exact zaD
def gY (lo hi:Int) (l:List Int):Int:=if outside lo hi l then 2 else 0
theorem oH (w:World) (F:Aj) (v:Value) (lo hi:Int) (l:List Int) (hv:AQ w F v l) (hl:l.length≤1000000) :
  Calls Tryz.prog 175 #[.int .i64 lo,.int .i64 hi,v] w (Ret w fun v _=>v = .int .i64 (gY lo hi l)):=by
 have HV:=Ag hv;clear hv;refine Yf ?_;intro hmf;go_in;go_wp2_with fail
 obtain⟨W,hW⟩:∃ W:World,W=(w.alloc (.cells #[.int .i64 lo] 3)).alloc (.cells #[.int .i64 hi] 3):=⟨_,rfl⟩;rw[← hW];have hb:=bQ w (.cells #[.int .i64 lo] 3) (.cells #[.int .i64 hi] 3) 0;have hsm:Same F w W:=by rw[hW];exact(Same.alloc _ _ _).trans (Same.alloc _ _ _)
 have c1:W.cell? ⟨w.heap.size,0,none⟩=some (.int .i64 lo):=by rw[hW];simp
 have c2:W.cell? ⟨w.heap.size+1,0,none⟩=some (.int .i64 hi):=by
  rw[hW];simp
 have hbW:Below w.heap.size w W:=by rw[hW];exact hb
 clear hb hW;have ha:CZ W 204 #[.pointer (some ⟨w.heap.size,0,none⟩),.pointer (some ⟨w.heap.size+1,0,none⟩)] l (fun x=>decide (x < lo)||decide (hi < x)):=by
  refine⟨enters Tryz.func204 (by decide +kernel) (by decide +kernel),fun n x _=>?_⟩;exact(adE (W.drewN n) lo hi x _ _ c1 c2).mono fun e w' ⟨he,hw⟩=>⟨he,n,hw.symm⟩
 refine(yJ W F v l _ _ _ (HV.out.on hsm) hl ha).mono ?_;rintro e w' ⟨rfl,n,rfl⟩;clear ha;have HO:=Ag (show gY lo hi l=if l.any (fun x=>decide (x < lo)||decide (hi < x)) then 2 else 0 from rfl);generalize l.any (fun x=>decide (x < lo)||decide (hi < x))=r at *;dsimp only;cases r
 ·go_wp2
  go_ret;exact⟨_,rfl,aH hbW _,by rw[HO.out]; rfl⟩
 ·go_wp2
  go_ret;exact⟨_,rfl,aH hbW _,by rw[HO.out]; rfl⟩
structure BZ (w:World) (p:Nat) (aF:Int) (ni:Nat):Prop where
 aF:w.cell? ⟨p,0,none⟩=some (.int .i64 aF)
 infos:∃ A c,w.cell? ⟨p,2,none⟩=some (.slice A ni c)
theorem ae3 (w:World) (F:Aj) (u ux:Value) (x:Nd) (hx:BO w F ux x) (hl:x.next.length < 1000000∧x.weights.length < 1000000∧x.pay.length < 1000000) :
  Calls Tryz.prog 199 #[u,ux] w (Ret w fun v _=>v = .int .i64 (dB x)):=by
 obtain⟨v3,v4,v5,rfl,⟨A3,c3,rfl,hc3,h3⟩,⟨A4,c4,rfl,hc4,h4⟩,⟨A5,c5,rfl,hc5,h5⟩⟩:=hx;obtain⟨hl3,hl4,hl5⟩:=hl;have H4:=Ag (show AQ w F (.slice A4 x.weights.length c4) x.weights from⟨A4,c4,rfl,hc4,h4⟩);clear h3 h4 h5;by_cases q0:x.aJ≠0
 ·refine zbz ?_;intro HF;have d0:(x.aJ != 0)=true:=neT byOmega;exact Zu
 have d0:(x.aJ != 0)=false:=neF byOmega;by_cases q1:x.info≠0
 ·refine zbz ?_;intro HF;have d1:(x.info != 0)=true:=neT byOmega;exact Zu
 have d1:(x.info != 0)=false:=neF byOmega;by_cases q2:0 < x.pay.length
 ·refine zbz ?_;intro HF;exact Zu
 have d2:decide ((0:Int) < (x.pay.length:Int))=false:=decide_eq_false byOmega;by_cases q3:x.next.length < 1
 ·refine zbz ?_;intro HF;exact Zu
 have d3:decide ((x.next.length:Int) < 1)=false:=decide_eq_false byOmega;by_cases q4:60 < x.next.length
 ·refine zbz ?_;intro HF;exact Zu
 have d4:decide ((60:Int) < (x.next.length:Int))=false:=decide_eq_false byOmega;by_cases q5:x.weights.length≠x.next.length
 ·refine zbz ?_;intro HF;have d5:((x.weights.length:Int) != (x.next.length:Int))=true:=neT byOmega;exact Zu
 have d5:((x.weights.length:Int) != (x.next.length:Int))=false:=neF byOmega;have HF:=Ag (show dB x=gY 1 1000 x.weights by unfold dB; rw[if_neg byOmega]; rfl);clear q0 q1 q5;go_in;go_wp2_with fail
 refine(oH _ F _ 1 1000 x.weights (H4.out.on (Same.alloc _ _ _)) byOmega).mono ?_;rintro e w' ⟨v,rfl,hb,rfl⟩;dsimp only;go_wp2
 go_ret;exact⟨_,rfl,((Below.refl _ _).alloc (Nat.le_refl _) _).trans (hb.mono aA),by rw[HF.out]; rfl⟩
theorem bT (w:World) (t:TypeId) (c:Array Value):∃ W:World,W=w.alloc (.cells c t)∧Row W w.heap.size t c.toList∧Below w.heap.size w W∧w.heap.size+1=W.heap.size :=
 ⟨_,rfl,Row.new w _ _,(Below.refl _ _).alloc (Nat.le_refl _) _,aA⟩
theorem ae4 (aF:Int) (ni:Nat) (x:Nd) (h:¬ (0 < x.pay.length∨0 < x.weights.length∨x.next.length < 1∨10 < x.next.length)) :
  dY aF ni x=if gY 0 (aF - 1) [x.aJ]≠0 then gY 0 (aF - 1) [x.aJ] else gY 0 ((ni:Int) - 1) [x.info]:=by
 unfold dY gY outside;rw[if_neg h];simp only[List.any_cons,List.any_nil,Bool.or_false,Bool.or_eq_true,decide_eq_true_eq];repeat' split
 all_goals first | rfl | omega
theorem move_any (w:World) (F:Aj) (p:Nat) (ux:Value) (aF:Int) (ni:Nat) (x:Nd) (hw:BZ w p aF ni) (hx:BO w F ux x) (hl:x.next.length < 1000000∧x.weights.length < 1000000∧x.pay.length < 1000000)
  (hp:0≤aF∧aF < 1000000) (hni:ni < 1000000) (hpl:p < w.heap.size) :
  Calls Tryz.prog 200 #[.pointer (some ⟨p,0,none⟩),ux] w (Ret w fun v _=>v = .int .i64 (dY aF ni x)):=by
 obtain⟨v3,v4,v5,rfl,⟨A3,c3,rfl,hc3,h3⟩,⟨A4,c4,rfl,hc4,h4⟩,⟨A5,c5,rfl,hc5,h5⟩⟩:=hx;obtain⟨hl3,hl4,hl5⟩:=hl;clear h3 h4 h5;obtain⟨hwp,Ai,ci,hwi⟩:=hw;by_cases q0:0 < x.weights.length
 ·exact zaO
 have d0:decide ((0:Int) < (x.weights.length:Int))=false:=decide_eq_false byOmega;by_cases q1:0 < x.pay.length
 ·exact zaO
 have d1:decide ((0:Int) < (x.pay.length:Int))=false:=decide_eq_false byOmega;by_cases q2:x.next.length < 1
 ·exact zaO
 have d2:decide ((x.next.length:Int) < 1)=false:=decide_eq_false byOmega;by_cases q3:10 < x.next.length
 ·exact zaO
 have d3:decide ((10:Int) < (x.next.length:Int))=false:=decide_eq_false byOmega;have HF:=Ag (ae4 aF ni x byOmega);go_in;go_wp2_with fail
 obtain⟨W,hW,hbx,hWb,hWz⟩:=bT w 61 #[.int .i64 x.kind,.int .i64 x.aJ,.int .i64 x.info,.slice A3 x.next.length c3,.slice A4 x.weights.length c4,.slice A5 x.pay.length c5];rw[← hW];clear hW;have hold:=aP hWb;have wr1:IntKind.i64.wrap (aF - 1)=aF - 1:=IntWalk.i64_in _ byOmega;have wr2:IntKind.i64.wrap ((ni:Int) - 1)=(ni:Int) - 1:=IntWalk.i64_in _ byOmega;refine wp_region_held_drew (S:=fun w'=>w'.cell? ⟨w.heap.size,1,none⟩=some (.int .i64 x.aJ)∧w'.cell? ⟨p,0,none⟩=some (.int .i64 aF)) aj ⟨hbx.cell rfl,(hold p 0 hpl).trans hwp⟩ (fun hHeld=>?_);refine tkm [0,1,2,3,4,5,6,7] ?_;refine tk2 8 aj rfl fun K hK=>?_
 go_simp;obtain⟨W1,hW1,hbr,vX,agI⟩:=bT W 3 #[.int .i64 x.aJ];rw[← hW1];clear hW1;have ku:=hbx.below vX byOmega;have hB1:Below w.heap.size w W1:=hWb.trans (vX.mono byOmega);clear hbx vX hWb;refine hK.out _ _ ⟨ku.drew.cell rfl,(aP hB1.drew p 0 hpl).trans hwp⟩ (fun hHeld=>?_);clear hK K;refine Zb ?_;refine tk2 9 aj rfl fun K hK=>?_
 go_simp;refine(oH _ (fun b=>b=W.heap.size) _ 0 (aF - 1) [x.aJ] (Row.ints (l:=[x.aJ]) hbr.drew (F:=fun b=>b=W.heap.size) rfl (c:=1) aA) aA).mono ?_;rintro e w1 ⟨_,rfl,hb1,rfl⟩;have hbx2:=ku.drew.below hb1 aC;have hB2:Below w.heap.size w w1:=hB1.drew.trans (hb1.mono aC);clear ku hb1 hB1 hbr;dsimp only;refine hK.out _ _ ⟨hbx2.cell rfl,(aP hB2 p 0 hpl).trans hwp⟩ (fun hHeld=>?_);clear hK K;refine Zb ?_;refine tkm [10] ?_;refine YF ?_;have hx1:=hbx2.lt;generalize gY 0 (aF - 1) [x.aJ]=er at *;by_cases he:er=0
 ·subst he;have HF2:=Ag (show dY aF ni x=gY 0 ((ni:Int) - 1) [x.info] by rw[HF.out]; simp);go_wp2_with fail
  refine wp_region_held_drew (S:=fun w'=>w'.cell? ⟨w.heap.size,2,none⟩=some (.int .i64 x.info)∧w'.cell? ⟨p,2,none⟩=some (.slice Ai ni ci)) aj ⟨hbx2.cell rfl,(aP hB2 p 2 hpl).trans hwi⟩ (fun hHeld=>?_);refine tkm [0,1,2,3,4,5,6,7,8] ?_;refine tk2 9 aj rfl fun K hK=>?_
  go_simp;obtain⟨W3,hW3,hbr,akf,hW3z⟩:=bT w1 3 #[.int .i64 x.info];rw[← hW3];clear hW3;have aby:=hbx2.below akf byOmega;have hB3:Below w.heap.size w W3:=hB2.trans (akf.mono byOmega);clear hbx2 akf hB2;refine hK.out _ _ ⟨aby.drew.cell rfl,(aP hB3.drew p 2 hpl).trans hwi⟩ (fun hHeld=>?_);clear hK K;refine Zb ?_;refine tk2 10 aj rfl fun K hK=>?_
  go_simp;refine(oH _ (fun b=>b=w1.heap.size) _ 0 ((ni:Int) - 1) [x.info] (Row.ints (l:=[x.info]) hbr.drew (F:=fun b=>b=w1.heap.size) rfl (c:=1) aA) aA).mono ?_;rintro e w2 ⟨_,rfl,hb2,rfl⟩;have hbx4:=aby.drew.below hb2 aC;have hB4:Below w.heap.size w w2:=hB3.drew.trans (hb2.mono aC);clear aby hb2 hB3 hbr;dsimp only;refine hK.out _ _ ⟨hbx4.cell rfl,(aP hB4 p 2 hpl).trans hwi⟩ (fun hHeld=>?_);clear hK K;refine Zb ?_;refine tkm [11] ?_;refine YF ?_;go_wp2
  go_ret;exact⟨_,rfl,hB4,by rw[HF2.out]; rfl⟩
 ·have hd:(er != 0)=true:=by simp[he]
  have HF2:=Ag (show dY aF ni x=er by rw[HF.out]; simp[he]);clear he;go_wp2
  go_ret;exact⟨_,rfl,hB2,by rw[HF2.out]; rfl⟩
theorem ajq (w:World) (F:Aj) (p:Nat) (ux:Value) (aF:Int) (ni:Nat) (x:Nd) (hw:BZ w p aF ni) (hx:BO w F ux x) (hl:x.next.length < 1000000∧x.weights.length < 1000000∧x.pay.length < 1000000) (hpl:p < w.heap.size) :
  Calls Tryz.prog 201 #[.pointer (some ⟨p,0,none⟩),ux] w (Ret w fun v _=>v = .int .i64 (iH aF x)):=by
 obtain⟨v3,v4,v5,rfl,⟨A3,c3,rfl,hc3,h3⟩,⟨A4,c4,rfl,hc4,h4⟩,⟨A5,c5,rfl,hc5,h5⟩⟩:=hx;obtain⟨hl3,hl4,hl5⟩:=hl;have H5:=Ag (show AQ w F (.slice A5 x.pay.length c5) x.pay from⟨A5,c5,rfl,hc5,h5⟩);clear h3 h4 h5;obtain⟨hwp,Ai,ci,hwi⟩:=hw;by_cases q0:x.aJ≠0
 ·refine zce ?_;intro HF;have d0:(x.aJ != 0)=true:=neT byOmega;go_in;go_wp2
  go_quiet (fail)
  exact YM
 have d0:(x.aJ != 0)=false:=neF byOmega;by_cases q1:x.info≠0
 ·refine zce ?_;intro HF;have d1:(x.info != 0)=true:=neT byOmega;go_in;go_wp2
  go_quiet (fail)
  exact YM
 have d1:(x.info != 0)=false:=neF byOmega;by_cases q2:0 < x.next.length
 ·refine zce ?_;intro HF;have d2:decide ((0:Int) < (x.next.length:Int))=true:=decide_eq_true byOmega;go_in;go_wp2
  go_quiet (fail)
  exact YM
 have d2:decide ((0:Int) < (x.next.length:Int))=false:=decide_eq_false byOmega;by_cases q3:0 < x.weights.length
 ·refine zce ?_;intro HF;have d3:decide ((0:Int) < (x.weights.length:Int))=true:=decide_eq_true byOmega;go_in;go_wp2
  go_quiet (fail)
  exact YM
 have d3:decide ((0:Int) < (x.weights.length:Int))=false:=decide_eq_false byOmega;by_cases q4:(x.pay.length:Int)≠aF
 ·refine zce ?_;intro HF;have d4:((x.pay.length:Int) != aF)=true:=neT byOmega;go_in;go_wp2
  go_quiet (fail)
  exact YM
 have d4:((x.pay.length:Int) != aF)=false:=neF byOmega;have HF:=Ag (show iH aF x=gY (-1000000) 1000000 x.pay by unfold iH; rw[if_neg byOmega]; rfl);clear q0 q1 q4;go_in;go_wp2
 go_quiet (fail)
 go_wp2_with fail
 refine(oH _ F _ (-1000000) 1000000 x.pay ((H5.out.on (Same.alloc _ _ _)).on (Same.drewN _ _ _)) byOmega).mono ?_;rintro e w' ⟨v,rfl,hb,rfl⟩;dsimp only;go_wp2
 go_ret;exact⟨_,rfl,(aH ((Below.refl _ _).alloc (Nat.le_refl _) _) _).trans (hb.mono aA),by rw[HF.out]; rfl⟩
def maxL (l:List Int):Int:=match l with | []=>0 | x :: r=>r.foldl max x
theorem acE (l:List Int) (a x:Int):(l ++ [x]).foldl max a=max (l.foldl max a) x:=aA
theorem ajr (w:World) (F:Aj) (v:Value) (l:List Int) (hv:AQ w F v l) (h0:0 < l.length) (hl:l.length≤1000000) :
  Calls Tryz.prog 172 #[v] w fun e w'=>e = .returned (.int .i64 (maxL l))∧w'=w:=by
 obtain⟨A,c,rfl,hc,hN⟩:=hv;obtain⟨b,o,rfl,hbF,hb,hcell⟩:=hN h0;clear hN;obtain⟨y,hy⟩:=aB h0;have e0:=hcell 0 y hy;unfold kX at e0;simp only[Nat.zero_mul,Nat.add_zero] at e0;have HC:=Ag hcell;clear hcell;obtain⟨r,rfl⟩:∃ r,l=y :: r:=by cases l with | nil=>simp at h0 | cons a r=>simp at hy;exact⟨r,by rw[hy]⟩
 clear hy;have hd:decide (((y :: r).length:Int) < 1)=false:=decide_eq_false byOmega;have HM:=Ag (show maxL (y :: r)=r.foldl max y from rfl);generalize hL:(y :: r).length=L at *;have HL:=Ag hL;clear hL;go_in;go_wp2
 go_loopw [3,4] (fun m i wr=>∃ k:Nat,1≤k∧k≤L∧i = .int .i64 k∧m = .int .i64 ((r.take (k - 1)).foldl max y)∧wr=w) (fun _ i _=>L - (intOf i).toNat)
 case atStart=>exact⟨1,byOmega,byOmega,rfl,rfl,rfl⟩
 case round =>
  obtain⟨k,hk1,hk,rfl,rfl,rfl⟩:=hrel;by_cases hlt:k < L
  ·obtain⟨x,hx⟩:=aB (l:=y :: r) (k:=k) (by rw[HL.out]; exact hlt);have ex:=HC.out k x hx;unfold kX at ex; rw[Nat.mul_one] at ex;have HS:=Ag (show(r.take k).foldl max y=max ((r.take (k - 1)).foldl max y) x by
    rw[← acE];congr 1;have:r[k - 1]? = some x:=by rw[← hx];cases k with | zero=>omega | succ k=>simp
    have h:=take_snoc this;rwa [Nat.sub_add_cancel hk1] at h)
   clear hx e0;generalize (r.take (k - 1)).foldl max y=m at *;go_wp2
   go_roundw
   case rel=>exact⟨k+1,byOmega,byOmega,by go_num,by rw[Nat.add_sub_cancel,HS.out]; congr 1; rw[Int.max_def]; split <;> split <;> omega,trivial⟩
   case measure=>simp[intOf]; omega
  ·go_wp2
   go_ret;refine⟨?_,rfl⟩;have:k=L:=byOmega;rw[HM.out,List.take_of_length_le (by rw[this,← HL.out]; simp)];rfl
theorem abU (w:World) (F:Aj) (v:Value) (l:List Int) (y:Int) (hv:AQ w F v l) (hl:l.length≤1000000) :
  Calls Tryz.prog 226 #[v,.int .i64 y] w fun e w'=>e = .returned (.int .i64 (if y∈l then (l.idxOf y:Int) else -1))∧w'=w:=by
 obtain⟨A,c,rfl,hc,hN⟩:=hv;have HN:=Ag hN;clear hN;obtain⟨R,hR⟩:∃ R:Int,R=(if y∈l then (l.idxOf y:Int) else -1):=⟨_,rfl⟩;rw[← hR];have HR:=Ag hR;clear hR;go_in;go_wp2
 go_loop [8] (fun i=>∃ k:Nat,k≤l.length∧i = .int .i64 k∧∀ z∈l.take k,z≠y) (fun i=>l.length - (intOf i).toNat)
 case atStart=>exact⟨0,byOmega,rfl,aA⟩
 case round =>
  obtain⟨k,hk,rfl,hp⟩:=hrel;have HP:=Ag hp;clear hp;by_cases hlt:k < l.length
  ·obtain⟨b,o,rfl,_,hb,hx⟩:=HN.out byOmega;refine zcv ?_;intro x hx' ex;unfold kX at ex;rw[Nat.mul_one] at ex;have HX:=Ag hx';clear hx hx';by_cases he:y=x
   ·subst he;have HF:=Ag (show R=(k:Int) by
     rw[HR.out,if_pos (List.mem_of_getElem? HX.out)];have h1:l.idxOf y≤k:=by
      rcases Nat.lt_or_ge k (l.idxOf y) with h | h
      ·exfalso
       have:=List.not_of_lt_findIdx (xs:=l) (p:=(· == y)) (i:=k) h;have hq:l[k]'hlt=y:=by have:=HX.out;simpa [hlt] using this
       simp[hq] at this
      ·exact h
     have h2:¬ l.idxOf y < k:=by
      intro h;have hm:y∈l:=List.mem_of_getElem? HX.out;have hlt2:=List.idxOf_lt_length_iff.2 hm;exact HP.out y (List.mem_take_iff_getElem.2 ⟨l.idxOf y,byOmega,aA⟩) rfl
     omega)
    exact zaD
   ·have hd:(y==x)=false:=by simp[he]
    have HE:=Ag he;clear he;go_wp2
    go_round
    case rel =>
     refine⟨k+1,byOmega,by go_num,fun z hz=>?_⟩;rw[take_snoc HX.out] at hz;simp at hz;rcases hz with hz | rfl
     ·exact HP.out z hz
     ·exact fun h=>HE.out h.symm
    case measure=>simp[intOf]; omega
  ·have HF:=Ag (show R = -1 by
    rw[HR.out,if_neg]; intro hm;have:=HP.out; rw[List.take_of_length_le byOmega] at this;exact this y hm rfl)
   exact zaD
theorem acF (w:World) (F:Aj) (v:Value) (l:List Int) (y:Int) (hv:AQ w F v l) (hl:l.length≤1000000) :
  Calls Tryz.prog 202 #[v,.int .i64 y] w fun e w'=>e = .returned (.bool (l.contains y))∧w'=w:=by
 have HV:=Ag hv;clear hv;go_in;go_wp2_with fail
 refine(abU w F v l y HV.out hl).mono ?_;rintro e w' ⟨rfl,rfl⟩;obtain⟨R,hR⟩:∃ R:Int,R=(if y∈l then (l.idxOf y:Int) else -1):=⟨_,rfl⟩;rw[← hR];have HF:=Ag (show decide (0≤R)=l.contains y by
  rw[hR];by_cases h:y∈l
  ·simp[h]
  ·simp[h])
 clear hR;go_wp2
 go_ret;exact⟨by rw[← HF.out]; rfl,rfl⟩
theorem agJ (w:World) (x:Int):Calls Tryz.prog 224 #[.int .i64 x] w fun e w'=>e = .returned (.bool false)∧w'=w:=by
 have h:(x != x)=false:=aA;exact zba
theorem ah1 (w:World) (x y:Int):Calls Tryz.prog 227 #[.int .i64 x,.int .i64 y] w fun e w'=>e = .returned (.bool (decide (x < y)))∧w'=w:=by
 go_in;go_wp2_with fail
 refine(agJ w x).mono ?_;rintro e w' ⟨rfl,rfl⟩;go_wp2
 go_ret;exact⟨rfl,rfl⟩
def fQ:List Int→Bool
 | a :: b :: r=>decide (a≤b)&&fQ (b :: r)
 | _=>true
theorem rG:∀ (l:List Int) (k:Nat),fQ l=true→fQ (l.drop k)=true
 | l,0,h=>h
 | [],k+1,h=>by simp[fQ]
 | [a],k+1,h=>by simp[fQ]
 | a :: b :: r,k+1,h=>by
  simp only[fQ,Bool.and_eq_true] at h;simp only[List.drop_succ_cons];exact rG (b :: r) k h.2
theorem xE {l:List Int} {k:Nat} {x y:Int} (hx:l[k]? = some x) (hy:l[k+1]? = some y):fQ (l.drop k)=(decide (x≤y)&&fQ (l.drop (k+1))):=by
 have h1:=aK hx;have h2:=aK hy;have e1:l[k]=x:=by simpa [h1] using hx
 have e2:l[k+1]=y:=by simpa [h2] using hy
 rw[List.drop_eq_getElem_cons h1,List.drop_eq_getElem_cons h2,e1,e2];rfl
theorem adF (l:List Int):fQ l=true↔∀ k x y,l[k]? = some x→l[k+1]? = some y→x≤y:=by
 constructor
 ·intro h k x y hx hy;have:=rG l k h;rw[xE hx hy] at this;simp at this;exact this.1
 ·induction l with
  | nil=>intro _; rfl
  | cons a r ih=>match r with
   | []=>intro _; rfl
   | b :: r=>intro h; simp only[fQ,Bool.and_eq_true,decide_eq_true_eq]; exact⟨h 0 a b rfl rfl,ih (fun k x y hx hy=>h (k+1) x y (by simpa using hx) (by simpa using hy))⟩
theorem acG (w:World) (F:Aj) (v:Value) (l:List Int) (hv:AQ w F v l) (hl:l.length≤1000000) :
  Calls Tryz.prog 203 #[v] w (Ret w fun v _=>v = .bool (fQ l)):=by
 obtain⟨A,c,rfl,hc,hN⟩:=hv;have HN:=Ag hN;clear hN;go_in;go_wp2
 go_loopw [3] (fun i wr=>∃ k:Nat,k≤l.length∧i = .int .i64 ((k:Int) - 1)∧fQ (l.drop (k - 1))=true∧∃ n,wr=w.drewN n) (fun i _=>(intOf i+1).toNat)
 case atStart=>exact⟨l.length,byOmega,rfl,by cases h:l.length with | zero=>simp[List.length_eq_zero_iff.1 h,fQ] | succ m=>(have hm:m < l.length:=by omega); simp[List.drop_eq_getElem_cons hm,List.drop_eq_nil_of_le (show l.length≤m+1 by omega),fQ],0,rfl⟩
 case round =>
  obtain⟨k,hk,rfl,hp,nn,rfl⟩:=hrel;have HP:=Ag hp;clear hp;by_cases hlt:2≤k
  ·obtain⟨b,o,rfl,_,hb,hx⟩:=HN.out byOmega;obtain⟨q,rfl⟩:∃ q,k=q+2:=⟨k - 2,byOmega⟩;obtain⟨p,hpq⟩:=named (q+1);have hpl:p < l.length:=byOmega;have hql:q < l.length:=byOmega;obtain⟨x,hx'⟩:=aB (l:=l) (k:=q) byOmega;obtain⟨y,hy'⟩:=aB (l:=l) (k:=p) byOmega;have ex:=hx q x hx';have ey:=hx p y hy';unfold kX at ex ey;rw[Nat.mul_one] at ex ey;have HS:=Ag (xE hx' (by rw[← hpq]; exact hy'));clear hx hx' hy';have i1:(((q+2:Nat):Int) - 1)=(p:Int):=byOmega;have i2:((p:Int) - 1)=(q:Int):=byOmega;have wr2:IntKind.i64.wrap (q:Int)=(q:Int):=IntWalk.i64_in _ byOmega;have hp0:(0:Int) < (p:Int):=byOmega;rw[i1];have HPQ:=Ag hpq;clear hpq i1;go_wp2_with fail
   refine wp_region_held_drew (S:=fun w'=>w'.cell? ⟨b,o+q,none⟩=some (.int .i64 x)∧w'.cell? ⟨b,o+p,none⟩=some (.int .i64 y)) aj ⟨ex,ey⟩ (fun hHeld=>?_);refine tkm [0,1,2,3,4,5,6,7,8] ?_;refine tk2 9 aj rfl fun K hK=>?_
   go_simp;refine(ah1 _ y x).mono ?_;rintro e w1 ⟨rfl,rfl⟩;dsimp only;refine hK.out _ _ ⟨ex,ey⟩ (fun hHeld=>?_);clear hK K;refine Zb ?_;refine YF ?_;clear hHeld ex ey;by_cases hyx:y < x
   ·have HF:=Ag (show fQ l=false by
     cases h:fQ l with
     | false=>rfl
     | true=>have:=rG l q h; rw[HS.out] at this; simp at this; omega)
    go_wp2
    go_ret;exact⟨_,rfl,aH (Below.refl _ _) _,by first | rfl | (rw[HF.out]; rfl)⟩
   ·have hd:decide (y < x)=false:=decide_eq_false hyx;go_wp2
    go_roundw
    case rel =>
     have e:=HPQ.out;refine⟨q+1,byOmega,by first | rfl | (congr 1; omega),?_,_,rfl⟩;have:=HP.out;rw[Nat.add_sub_cancel,HS.out];simp only[Bool.and_eq_true,decide_eq_true_eq];exact⟨byOmega,this⟩
    case measure=>simp[intOf]; omega
  ·go_wp2
   go_ret;refine⟨_,rfl,aH (Below.refl _ _) _,?_⟩;have:=HP.out;rw[show k - 1=0 by omega] at this;simp at this;rw[this];rfl
theorem zn {l:List Int} {i:Int} {p:List Int} {j:Nat} (hj:j < p.length) (hl:∀ c∈l,0≤c):(jX l i p)[j]? = if (j:Int)∈l then some i else p[j]?:=by
 unfold jX;induction l generalizing p with
 | nil=>simp
 | cons c l ih =>
  simp only[List.foldl_cons];rw[ih (by simpa using hj) (fun d hd=>hl d (List.mem_cons_of_mem _ hd))];have hc:=hl c aA;by_cases h1:(j:Int)∈l
  ·rw[if_pos h1,if_pos (List.mem_cons_of_mem _ h1)]
  ·rw[if_neg h1];by_cases h2:(j:Int)=c
   ·rw[if_pos (by rw[h2]; simp),List.getElem?_set,if_pos byOmega,if_pos byOmega]
   ·rw[if_neg (by simp[h1,h2]),List.getElem?_set_ne byOmega]
theorem agK {g:Gm} (hg:Good g) {j p:Nat} {n:Nd} (hj:j < g.nodes.length) (hp:g.nodes[p]? = some n) (hc:(j:Int)∈n.next) (k:Nat):k≤g.nodes.length→p < k→(mQ g.nodes k)[j]? = some (p:Int):=by
 induction k with
 | zero=>intro _ h; omega
 | succ k ih =>
  intro hk hpk;obtain⟨m,hm⟩:=aB (l:=g.nodes) (k:=k) byOmega;rw[aax hm,zn (by rw[iY]; exact hj) (fun c hc=>(hg.ae2 m (List.mem_of_getElem? hm) c hc).1)];by_cases h1:(j:Int)∈m.next
  ·have hpk':p=k:=hg.span.once.2 _ p k n m byOmega (aK hp) byOmega byOmega hp hm hc h1;rw[if_pos h1,hpk']
  ·rw[if_neg h1];by_cases h2:p=k
   ·subst h2;rw[hp] at hm;cases hm;exact absurd hc h1
   ·exact ih byOmega byOmega
theorem pR {g:Gm} (hg:Good g) {j p:Nat} {n:Nd} (hj:j < g.nodes.length) (hp:g.nodes[p]? = some n) (hc:(j:Int)∈n.next):(dK g.nodes)[j]? = some (p:Int) :=
 agK hg hj hp hc _ (Nat.le_refl _) (aK hp)
theorem rH {g:Gm} (hg:Good g) {j:Nat} (h0:0 < j) (hj:j < g.nodes.length):∃ p n,p < j∧g.nodes[p]? = some n∧(j:Int)∈n.next:=by
 rcases hg.span.parent j byOmega hj with h | ⟨p,n,_,h1,h2,h3⟩
 ·simp at h;omega
 ·exact⟨p,n,h1,h2,h3⟩
def Falls (N:Nat) (par:List Int):Prop:=∀ (i:Nat) (x:Int),i < N→par[i]? = some x→-1≤x∧x < (i:Int)
theorem ae5 (nodes:List Nd) (hk:∀ n∈nodes,∀ c∈n.next,0 < c) (k:Nat):nodes.length≠0→(mQ nodes k)[0]? = some (-1):=by
 intro h0;induction k with
 | zero=>unfold mQ; rw[List.getElem?_set_self aC]
 | succ k ih =>
  unfold mQ;split
  ·rename_i n hn
   rw[zn (by rw[iY]; omega) (fun c hc=>by have:=hk n (List.mem_of_getElem? hn) c hc; omega),if_neg,ih];intro hm;have:=hk n (List.mem_of_getElem? hn) _ hm;omega
  ·exact ih
theorem vC {g:Gm} (hg:Good g):Falls g.nodes.length (dK g.nodes):=by
 intro i x hi hx;by_cases h0:i=0
 ·subst h0;have h1:=ae5 g.nodes (fun n hn c hc=>by
   obtain⟨k,hk⟩:=List.getElem?_of_mem hn;have:=hg.span.kids k n (Nat.zero_le _) (aK hk) hk c hc;omega) g.nodes.length (by have:=hg.pos; omega)
  unfold dK at hx;rw[h1] at hx;cases hx;omega
 ·obtain⟨p,n,h1,h2,h3⟩:=rH hg byOmega hi;rw[pR hg hi h2 h3] at hx;cases hx;omega
theorem fU (nodes:List Nd):(dK nodes).length=nodes.length:=iY _ _
theorem Good.par {g:Gm} (hg:Good g) {c:Nat} (hc:c < g.nodes.length):∃ p:Int,(dK g.nodes)[c]? = some p∧((c=0∧p = -1)∨∃ (q:Nat) (n:Nd),p=(q:Int)∧q < c∧g.nodes[q]? = some n∧(c:Int)∈n.next):=by
 obtain⟨p,hp⟩:=aB (l:=dK g.nodes) (k:=c) (by rw[fU]; exact hc);refine⟨p,hp,?_⟩;by_cases h0:c=0
 ·subst h0;have:=vC hg 0 p hc hp;exact .inl ⟨rfl,byOmega⟩
 ·obtain⟨q,n,h1,h2,h3⟩:=rH hg byOmega hc;rw[pR hg hc h2 h3] at hp;cases hp;exact .inr ⟨q,n,rfl,h1,h2,h3⟩
def fK (pl:Int) (n:Nd) (c j:Nat):List (Int×Int):=if n.kind=2∧n.aJ=pl then ((List.range j).filter fun k=>decide (n.next[k]? = some (c:Int))).map fun k:Nat=>(n.info,(k:Int)) else []
def jB (g:Gm) (pl:Int):Nat→Nat→List (Int×Int)
 | 0,_=>[]
 | f+1,c=>match (dK g.nodes)[c]? with
  | some p=>if 0≤p then fK pl (g.nodes.getD p.toNat default) c (g.nodes.getD p.toNat default).next.length++jB g pl f p.toNat else []
  | none=>[]
def jr (g:Gm) (pl:Int) (c:Nat):List (Int×Int):=(jB g pl g.nodes.length c).reverse
theorem lD {pl:Int} {n:Nd} {c j:Nat} (h:¬ (n.kind=2∧n.aJ=pl)):fK pl n c j = []:=if_neg h
theorem xG {pl:Int} {n:Nd} {c:Nat}:fK pl n c 0 = []:=by unfold fK; split <;> rfl
theorem aaE {pl:Int} {n:Nd} {c j:Nat} (h:n.kind=2∧n.aJ=pl) (hj:n.next[j]? = some (c:Int)):fK pl n c (j+1)=fK pl n c j ++ [(n.info,(j:Int))]:=by
 unfold fK;rw[if_pos h,if_pos h,List.range_succ,List.filter_append,List.map_append];simp[hj]
theorem zq {pl:Int} {n:Nd} {c j:Nat} {x:Int} (hj:n.next[j]? = some x) (hx:x≠(c:Int)):fK pl n c (j+1)=fK pl n c j:=by
 unfold fK;split
 ·rw[List.range_succ,List.filter_append,List.map_append];simp[hj,hx]
 ·rfl
theorem sS {pl:Int} {n:Nd} {c j:Nat}:(fK pl n c j).length≤j:=by
 unfold fK;split
 ·rw[List.length_map];refine Nat.le_trans (List.length_filter_le _ _) ?_;simp
 ·exact Nat.zero_le _
theorem iq {g:Gm} (hg:Good g) {pl:Int}:∀ f,jB g pl f 0 = []
 | 0=>rfl
 | f+1=>by
  obtain⟨p,hp,h | ⟨q,n,_,h,_⟩⟩:=hg.par hg.pos
  ·rw[jB,hp]; simp only; rw[if_neg byOmega]
  ·omega
theorem jO {g:Gm} (hg:Good g) {pl:Int} {f c q:Nat} {n:Nd} (hc:c < g.nodes.length) (hp:(dK g.nodes)[c]? = some (q:Int)) (hn:g.nodes[q]? = some n):jB g pl (f+1) c=fK pl n c n.next.length++jB g pl f q:=by
 rw[jB,hp];simp only;refine zdr ?_;rfl
theorem acH {g:Gm} (hg:Good g) {pl:Int}:∀ (f f' c:Nat),c < g.nodes.length→c≤f→c≤f'→jB g pl f c=jB g pl f' c:=by
 intro f;induction f with
 | zero =>
  intro f' c hc h1 h2;obtain rfl:c=0:=byOmega;rw[iq hg,iq hg]
 | succ f ih =>
  intro f' c hc h1 h2;obtain⟨p,hp,h | ⟨q,n,rfl,h,hn,_⟩⟩:=hg.par hc
  ·obtain⟨rfl,_⟩:=h;rw[iq hg,iq hg]
  ·obtain⟨f'',rfl⟩:∃ k,f'=k+1:=⟨f' - 1,byOmega⟩;rw[jO hg hc hp hn,jO hg hc hp hn,ih f'' q byOmega byOmega byOmega]
theorem agL {g:Gm} (hg:Good g) {pl:Int}:jr g pl 0 = []:=by unfold jr; rw[iq hg]; rfl
theorem adG {g:Gm} (hg:Good g) {pl:Int} {c q:Nat} {n:Nd} (hc:c < g.nodes.length) (hp:(dK g.nodes)[c]? = some (q:Int)) (hn:g.nodes[q]? = some n) (hq:q < c):jr g pl c=jr g pl q++(fK pl n c n.next.length).reverse:=by
 unfold jr;obtain⟨N,hN⟩:∃ N,g.nodes.length=N+1:=⟨g.nodes.length - 1,byOmega⟩;rw[hN,jO hg hc hp hn,List.reverse_append,acH hg N (N+1) q byOmega byOmega byOmega]
theorem zu {g:Gm} (hg:Good g) (hs:Small g) {pl:Int}:∀ (f c:Nat),c < g.nodes.length→(jB g pl f c).length≤100*c
 | 0,_,_=>Nat.zero_le _
 | f+1,c,hc=>by
  obtain⟨p,hp,h | ⟨q,n,rfl,h,hn,_⟩⟩:=hg.par hc
  ·obtain⟨rfl,_⟩:=h; rw[iq hg]; exact Nat.zero_le _
  ·have ih:=zu hg hs (pl:=pl) f q byOmega;have h1:=sS (pl:=pl) (n:=n) (c:=c) (j:=n.next.length);have h2:=hs.next n (List.mem_of_getElem? hn);rw[jO hg hc hp hn,List.length_append]; omega
theorem aaF {g:Gm} (hg:Good g) (hs:Small g) (pl:Int) {c:Nat} (hc:c < g.nodes.length):(jr g pl c).length≤10000:=by
 have h1:=zu hg hs (pl:=pl) g.nodes.length c hc;have h2:=hs.nodes;unfold jr;rw[List.length_reverse];omega
end Go.Proofs.YthmklhapjegfdaaGreatDoor
