/- Slices that a call grows by append, one or a list of them; what they read as in the end. -/
import Derived.Test.YthmklhapjegfdaaGreatDoorL02
import Derived.Deep.AppendLies
import Derived.Deep.RegionHeld3
set_option linter.all false
set_option maxRecDepth 100000
set_option maxHeartbeats 12800000
namespace Go.Proofs.YthmklhapjegfdaaGreatDoor
open Lib renaming hid → Aa
open Go.RowKit
abbrev Own (w:World) (base:Nat) (t:TypeId) (v:Value) (xs:List Value):Prop:=w.ownsRow base t 1 v xs.length xs
theorem Own.ints {w:World} {base:Nat} {t:TypeId} {v:Value} {l:List Int} (h:Own w base t v (l.map (Value.int .i64))) {F:Ac} (hF:∀ b,v.ownBlock=some b→F b):Ae w F v l:=by
 have h':w.ownsRow base t 1 v l.length (l.map (Value.int .i64)):=by simpa [Own] using h
 rcases h'.2 with⟨rfl,h0⟩ | ⟨g,cap,cur,rfl,hb,hg,hnc,_,_,htake⟩
 ·have:l = []:=List.eq_nil_of_length_eq_zero h0;subst this;exact⟨none,0,rfl,Nat.le_refl _,fun h=>absurd h (by simp)⟩
 ·refine⟨_,cap,rfl,hnc,fun _=>⟨g,0,rfl,hF g rfl,(Array.getElem?_eq_some_iff.1 hg).1,fun k x hk=>?_⟩⟩;unfold iH;have hlt:=aB hk;have:=h'.cellAt k (by omega);rw[show 0+k*1=k by omega,this];simp[hk]
structure OwnRows (w:World) (base:Nat) (t:TypeId) (vs:List Value) (ls:List (List Int)):Prop where
 len:vs.length=ls.length
 own:∀ (j:Nat) (v:Value) (l:List Int),vs[j]? = some v→ls[j]? = some l→w.ownsRow base t 1 v l.length (l.map (Value.int .i64))
 apart:∀ (i j:Nat) (v u:Value),i≠j→vs[i]? = some v→vs[j]? = some u→v.ownBlock=none∨v.ownBlock≠u.ownBlock
theorem OwnRows.start (w:World) (base:Nat) (t:TypeId) (n:Nat):OwnRows w base t (List.replicate n (.slice none 0 0)) (List.replicate n []):=by
 refine⟨by simp,fun j v l hv hl=>?_,fun i j v u _ hv hu=>?_⟩
 ·have:=List.mem_of_getElem? hv;have h2:=List.mem_of_getElem? hl;rw[List.mem_replicate] at this h2;obtain⟨_,rfl⟩:=this;obtain⟨_,rfl⟩:=h2;exact World.ownsRow_nil _ _ _ _
 ·have:=List.mem_of_getElem? hv;rw[List.mem_replicate] at this;obtain⟨_,rfl⟩:=this;exact .inl rfl
theorem OwnRows.kept {w w':World} {base:Nat} {t:TypeId} {vs:List Value} {ls:List (List Int)} (h:OwnRows w base t vs ls) (hs:∀ b,base≤b→b < w.heap.size→w'.heap[b]? = w.heap[b]?):OwnRows w' base t vs ls:=by
 refine⟨h.len,fun j v l hv hl=>?_,h.apart⟩;have ho:=h.own j v l hv hl;refine⟨ho.1,?_⟩;rcases ho.2 with hn | ⟨g,cap,cur,rfl,hb,hg,r⟩
 ·exact .inl hn
 ·exact .inr ⟨g,cap,cur,rfl,hb,by rw[hs g hb (Array.getElem?_eq_some_iff.1 hg).1]; exact hg,r⟩
theorem OwnRows.alloc {w:World} {base:Nat} {t:TypeId} {vs:List Value} {ls:List (List Int)} (h:OwnRows w base t vs ls) (o:Obj):OwnRows (w.alloc o) base t vs ls :=
 h.kept fun b _ hl=>Below.heap_alloc w o b hl
theorem OwnRows.drew {w:World} {base:Nat} {t:TypeId} {vs:List Value} {ls:List (List Int)} (h:OwnRows w base t vs ls):OwnRows w.drew base t vs ls:=h.kept fun _ _ _=>rfl
theorem OwnRows.drewN {w:World} {base:Nat} {t:TypeId} {vs:List Value} {ls:List (List Int)} (h:OwnRows w base t vs ls) (n:Nat):OwnRows (w.drewN n) base t vs ls:=h.kept fun _ _ _=>rfl
theorem OwnRows.setCell {w:World} {base:Nat} {t:TypeId} {vs:List Value} {ls:List (List Int)} (h:OwnRows w base t vs ls) {p:Addr} (hp:p.block < base) (v:Value):OwnRows (w.setCell p v) base t vs ls :=
 h.kept fun b hb _=>Below.heap_setCell w p v b (by omega)
theorem OwnRows.below {w w':World} {base:Nat} {t:TypeId} {vs:List Value} {ls:List (List Int)} (h:OwnRows w base t vs ls) (hb:Below w.heap.size w w'):OwnRows w' base t vs ls :=
 h.kept fun b _ hl=>hb.block b hl
theorem OwnRows.put {w w1:World} {base:Nat} {t:TypeId} {vs:List Value} {ls:List (List Int)} (h:OwnRows w base t vs ls) {i:Nat} {v v':Value} {l:List Int} {x:Int} (hv:vs[i]? = some v)
  (hown:w1.ownsRow base t 1 v' (l.length+1) (l.map (Value.int .i64) ++ [.int .i64 x])) (hg:w.grownBy w1 v.ownBlock) {g:Nat} (hvb:v'.ownBlock=some g) (hat:v.ownBlock=some g∨w.heap.size≤g) :
  OwnRows w1 base t (vs.set i v') (ls.set i (l ++ [x])):=by
 have hi:=aB hv;have key:∀ j u,i≠j→vs[j]? = some u→u.ownBlock=none∨u.ownBlock≠v'.ownBlock:=by
  intro j u hij hu;rcases h.apart j i u v (fun e=>hij e.symm) hu hv with h1 | h1
  ·exact .inl h1
  ·rw[hvb];rcases hat with hat | hat
   ·right; rw[← hat]; exact h1
   ·obtain⟨lj,hlj⟩:=au (l:=ls) (k:=j) (by rw[← h.len]; exact aB hu);have ho:=h.own j u lj hu hlj;cases hub:u.ownBlock with
    | none=>exact .inl rfl
    | some k =>
     right
     have:=(ho.lt k hub).2;intro e; injection e; omega
 refine⟨by simp[h.len],fun j u m hu hm=>?_,fun j k u z hjk hu hz=>?_⟩
 ·rw[List.getElem?_set] at hu hm;by_cases hij:i=j
  ·subst hij;rw[if_pos rfl,if_pos hi] at hu;rw[if_pos rfl,if_pos (by rw[← h.len]; exact hi)] at hm;cases hu; cases hm
   simpa using hown
  ·rw[if_neg hij] at hu hm;refine(h.own j u m hu hm).kept hg ?_;exact h.apart j i u v (fun e=>hij e.symm) hu hv
 ·rw[List.getElem?_set] at hu hz;by_cases hij:i=j
  ·subst hij;rw[if_pos rfl,if_pos hi] at hu;rw[if_neg hjk] at hz;cases hu
   rcases key k z hjk hz with h1 | h1
   ·right; rw[hvb,h1]; simp
   ·right; exact fun e=>h1 e.symm
  ·rw[if_neg hij] at hu;by_cases hik:i=k
   ·subst hik;rw[if_pos rfl,if_pos hi] at hz;cases hz
    exact key j u hij hu
   ·rw[if_neg hik] at hz;exact h.apart j k u z hjk hu hz
theorem OwnRows.rows {w:World} {base:Nat} {t t':TypeId} {vs:List Value} {ls:List (List Int)} (h:OwnRows w base t vs ls) {b:Nat} (hr:Row w b t' vs) {F:Ac} (hb:F b) (hF:∀ k,base≤k→F k) {c:Nat} (hc:ls.length≤c) :
  AY w F (.slice (some ⟨b,0,none⟩) ls.length c) ls:=by
 refine⟨_,c,rfl,hc,fun _=>⟨b,0,rfl,hb,hr.lt,fun k x hk=>?_⟩⟩;obtain⟨v,hv⟩:=au (l:=vs) (k:=k) (by rw[h.len]; exact aB hk);refine⟨v,by rw[show 0+k*1=k by omega]; exact hr.cell hv,?_⟩;have ho:=h.own k v x hv hk;exact Own.ints (by simpa [Own] using ho) fun b hb=>hF b (ho.lt b hb).1
theorem ab8 {w:World} {ops:Array Oper} {o:Oper} {a:Act} {K:Act→World→Prop} {Q:Exit→Act→World→Prop} {E:Prop} (hgd:o.guard=none) (s x:Operand)
  (ho:o.op = .call { callee:=.builtin .append,args:=#[s,x],argTypes:=#[26,26] })
  (base:Nat) (v:Value) (l:List Int) (hs:a.eval s=v) (hown:w.ownsRow base 3 1 v l.length (l.map (Value.int .i64)))
  (B:Nat) (y:Int) (hx:a.eval x = .slice (some ⟨B,0,none⟩) 1 1) (hB:w.heap[B]? = some (.cells #[.int .i64 y] 3 (0,0))) (hlen:l.length≤1000000) (hbase:base≤w.heap.size)
  (h:∀ g cap w',w'.ownsRow base 3 1 (.slice (some ⟨g,0,none⟩) (l.length+1) cap) (l.length+1) (l.map (Value.int .i64) ++ [.int .i64 y])→w.grownBy w' v.ownBlock→(v.ownBlock=some g∨w.heap.size≤g)→g < w'.heap.size →
   K (a.put o.dst (.slice (some ⟨g,0,none⟩) (l.length+1) cap)) w') :
  if Region.wanted o (yielded ops a.tmps)=true then Oper.wp Tryz.prog o a w K Q else E:=by
 obtain⟨i0,hi,hz0,hz1,hz2⟩:=info_parts Tryz.infoInt;refine step_append_lies w hgd s x _ ho base _ i0 _ 1 8 Tryz.underlying26 hi hz0 hz1 hz2 rfl (by omega) v l.length _ hs hown ⟨B,0,none⟩ 1 1 [.int .i64 y] hx rfl (World.news_of_block hB) (by simp[Value.oneCell']) (by omega) (by unfold maxLen; omega) (by omega) hbase w.heap.size rfl ?_;intro g cap w' h1 h2 h3 h4;exact h g cap w' h1 h2 (h3.imp id fun e=>by omega) h4
theorem jZ {w:World} {ops:Array Oper} {rest:List Oper} {o:Oper} {a:Act} {Q:Exit→Act→World→Prop} (hgd:o.guard=none) (s x:Operand)
  (ho:o.op = .call { callee:=.builtin .append,args:=#[s,x],argTypes:=#[26,26] })
  (base:Nat) (v:Value) (l:List Int) (hs:a.eval s=v) (hown:w.ownsRow base 3 1 v l.length (l.map (Value.int .i64)))
  (B:Nat) (y:Int) (hx:a.eval x = .slice (some ⟨B,0,none⟩) 1 1) (hB:w.heap[B]? = some (.cells #[.int .i64 y] 3 (0,0))) (hlen:l.length≤1000000) (hbase:base≤w.heap.size)
  (h:∀ g cap w',w'.ownsRow base 3 1 (.slice (some ⟨g,0,none⟩) (l.length+1) cap) (l.length+1) (l.map (Value.int .i64) ++ [.int .i64 y])→w.grownBy w' v.ownBlock→(v.ownBlock=some g∨w.heap.size≤g)→g < w'.heap.size →
   wpList Tryz.prog ops Q rest (a.put o.dst (.slice (some ⟨g,0,none⟩) (l.length+1) cap)) w') :
  wpList Tryz.prog ops Q (o :: rest) a w:=by
 obtain⟨i0,hi,hz0,hz1,hz2⟩:=info_parts Tryz.infoInt;refine wpList_append_lies w hgd s x _ ho base _ i0 _ 1 8 Tryz.underlying26 hi hz0 hz1 hz2 rfl (by omega) v l.length _ hs hown ⟨B,0,none⟩ 1 1 [.int .i64 y] hx rfl (World.news_of_block hB) (by simp[Value.oneCell']) (by omega) (by unfold maxLen; omega) (by omega) hbase w.heap.size rfl ?_;intro g cap w' h1 h2 h3 h4;exact h g cap w' h1 h2 (h3.imp id fun e=>by omega) h4
def dM (nodes:List Nd) (ni:Nat):Nat→List (List Int)
 | 0=>List.replicate ni []
 | k+1=>match nodes[k]? with
  | some n=>if n.kind=2 then (dM nodes ni k).set n.info.toNat ((dM nodes ni k).getD n.info.toNat [] ++ [(k:Int)]) else dM nodes ni k
  | none=>dM nodes ni k
def aN (g:Gm):List (List Int):=dM g.nodes g.infos.length g.nodes.length
theorem bF (nodes:List Nd) (ni k:Nat):(dM nodes ni k).length=ni:=by
 induction k with
 | zero=>simp[dM]
 | succ k ih =>
  unfold dM;split
  ·split
   ·rw[List.length_set,ih]
   ·exact ih
  ·exact ih
theorem xQ {nodes:List Nd} {ni k:Nat} {n:Nd} {l:List Int} (h:nodes[k]? = some n) (hk:n.kind=2) (hl:(dM nodes ni k)[n.info.toNat]? = some l):dM nodes ni (k+1)=(dM nodes ni k).set n.info.toNat (l ++ [(k:Int)]):=by
 simp[dM,h,hk,hl,List.getD_eq_getElem?_getD]
theorem xR {nodes:List Nd} {ni k:Nat} {n:Nd} (h:nodes[k]? = some n) (hk:¬ n.kind=2):dM nodes ni (k+1)=dM nodes ni k:=by
 simp[dM,h,hk]
theorem zK {nodes:List Nd} {ni k:Nat}:∀ l∈dM nodes ni k,l.length≤k:=by
 induction k with
 | zero=>intro l hl; simp[dM] at hl; simp[hl.2]
 | succ k ih =>
  intro l hl;unfold dM at hl;split at hl
  ·split at hl
   ·rcases List.mem_or_eq_of_mem_set hl with h | h
    ·have:=ih l h; omega
    ·rename_i n _ _
     subst h;rw[List.length_append];rcases Nat.lt_or_ge n.info.toNat (dM nodes ni k).length with hlt | hge
     ·have:=ih ((dM nodes ni k).getD n.info.toNat []) (by rw[List.getD_eq_getElem?_getD]; simp[hlt]);simp; simp at this; omega
     ·rw[List.getD_eq_getElem?_getD,List.getElem?_eq_none hge]; simp
   ·have:=ih l hl; omega
  ·have:=ih l hl; omega
def AZ (g:Gm):Prop:=∀ n∈g.nodes,n.kind=2→0≤n.info∧n.info < (g.infos.length:Int)
section
variable {P:Program} {md:Region.Mode} {Q:Exit→Act→World→Prop}
def BZ (P:Program) (Q:Exit→Act→World→Prop) (ops:Array Oper) (o:Oper):Exit→Act→World→Prop
 | .normal,a,w=>wpList P ops Q [o] a w
 | e,a,w=>Q e a w
theorem abw {ops:Array Oper} {o oi:Oper} {a:Act} {K:Act→World→Prop} {r:Result Next} (h:oi.upon P a K (BZ P Q ops o) r):oi.upon P a K Q r:=by
 unfold Oper.upon at h ⊢;split at h <;> exact h
def oh (ops:Array Oper):Bool:=(List.range ops.size).all fun i=>match ops[i]? with
 | some o=>o.after.all (fun e=>decide (e.on < i))&&(match o.guard with | some (j,_)=>decide (j < i) | none=>true)
 | none=>true
def lastB (md:Region.Mode) (ops:Array Oper) (o:Oper):Bool:=o.after.all (fun e=>decide (e.on < ops.size))&&(List.range ops.size).all fun i=>o.after.any fun e=>Region.binds md e&&e.on==i
theorem ji {ops:Array Oper} {o:Oper} {listed:Array Bool} (hs:listed.size=ops.size) (hb:oh ops=true) {i:Nat} (hi:i < ops.size) :
  i∈Region.ready md (ops.push o) (listed.push false)↔i∈Region.ready md ops listed:=by
 rw[mem_ready,mem_ready];have e1:(ops.push o)[i]? = ops[i]?:=by rw[Array.getElem?_push]; rw[if_neg (by omega)]
 have e2:∀ j d,j < ops.size→(listed.push false).getD j d=listed.getD j d:=by
  intro j d hj;simp only[Array.getD_eq_getD_getElem?,Array.getElem?_push];rw[if_neg (by omega)]
 rw[e1,e2 i true hi];constructor
 ·rintro⟨h1,oi,ho,h2⟩;refine⟨h1,oi,ho,fun e he hbd=>?_⟩;have h3:=h2 e he hbd;have hlt:e.on < i:=by
   have:=List.all_eq_true.1 hb i (List.mem_range.2 hi);rw[ho] at this;simp only[Bool.and_eq_true] at this;have:=Array.all_eq_true'.1 this.1 e he;simpa using this
  rwa [e2 _ _ (by omega)] at h3
 ·rintro⟨h1,oi,ho,h2⟩;refine⟨h1,oi,ho,fun e he hbd=>?_⟩;have hlt:e.on < i:=by
   have:=List.all_eq_true.1 hb i (List.mem_range.2 hi);rw[ho] at this;simp only[Bool.and_eq_true] at this;have:=Array.all_eq_true'.1 this.1 e he;simpa using this
  rw[e2 _ _ (by omega)];exact h2 e he hbd
theorem kW {ops:Array Oper} {listed:Array Bool} (hs:listed.size=ops.size) (hb:oh ops=true) (hr:Region.ready md ops listed = []):∀ i,i < ops.size→listed.getD i false=true:=by
 intro i;induction i using Nat.strongRecOn with
 | _ i ih =>
  intro hi;by_cases hl:listed.getD i true=false
  ·exfalso
   have:i∈Region.ready md ops listed:=by
    rw[mem_ready];refine⟨hl,ops[i],by simp[hi],fun e he _=>?_⟩;have h:=List.all_eq_true.1 hb i (List.mem_range.2 hi);rw[show ops[i]? = some ops[i] by simp[hi]] at h;simp only[Bool.and_eq_true] at h;have:=Array.all_eq_true'.1 h.1 e he;have hlt:e.on < i:=by simpa using this
    exact ih e.on hlt (by omega)
   rw[hr] at this;cases this
  ·have hi':i < listed.size:=by omega
   simp[hi'] at hl ⊢;exact hl
theorem aeu {ops:Array Oper} {o:Oper} (hb:oh ops=true) (hl:lastB md ops o=true) :
  ∀ (fuel:Nat) (listed:Array Bool) (a:Act) (w:World),listed.size=ops.size→wpAny P md ops (BZ P Q (ops.push o) o) fuel listed a w→wpAny P md (ops.push o) Q (fuel+1) (listed.push false) a w:=by
 have fin:∀ (fuel:Nat) (listed:Array Bool) (a:Act) (w:World),listed.size=ops.size→Region.ready md ops listed = []→wpList P (ops.push o) Q [o] a w→wpAny P md (ops.push o) Q (fuel+1) (listed.push false) a w:=by
  intro fuel listed a w hs hr h;have hall:=kW hs hb hr;have hmem:∀ i,i∈Region.ready md (ops.push o) (listed.push false)↔i=ops.size:=by
   intro i;constructor
   ·intro hi;rcases Nat.lt_trichotomy i ops.size with h1 | h1 | h1
    ·rw[ji hs hb h1,hr] at hi; cases hi
    ·exact h1
    ·rw[mem_ready] at hi;obtain⟨_,oi,ho,_⟩:=hi;rw[Array.getElem?_eq_none (by simp; omega)] at ho;cases ho
   ·rintro rfl;rw[mem_ready];refine⟨by rw[← hs]; simp[Array.getD_eq_getD_getElem?],o,by simp,fun e he hbd=>?_⟩;by_cases hlt:e.on < ops.size
    ·have:=hall e.on hlt;simp only[Array.getD_eq_getD_getElem?,Array.getElem?_push];rw[if_neg (by omega)];simpa [Array.getD_eq_getD_getElem?] using this
    ·exfalso
     simp only[lastB,Bool.and_eq_true] at hl;have:=Array.all_eq_true'.1 hl.1 e he;simp at this; omega
  refine⟨fun h0=>absurd ((hmem ops.size).2 rfl) (by rw[h0]; simp),fun i hi=>?_⟩;have:=(hmem i).1 hi;subst this;unfold wpList at h;unfold wpOp;simp only[Array.getElem?_push_size];have hend:∀ a w,wpList P (ops.push o) Q [] a w→wpAny P md (ops.push o) Q fuel ((listed.push false).setIfInBounds ops.size true) a w:=by
   intro a w hq;refine wpAny_done ?_ hq fuel;cases hrr:Region.ready md (ops.push o) ((listed.push false).setIfInBounds ops.size true) with
   | nil=>rfl
   | cons k ks =>
    have hk:k∈Region.ready md (ops.push o) ((listed.push false).setIfInBounds ops.size true):=by rw[hrr]; simp
    obtain⟨h1,oi,ho,_⟩:=mem_ready.1 hk;have hlt:=(Array.getElem?_eq_some_iff.1 ho).1;simp only[Array.size_push] at hlt;exfalso
    rcases Nat.lt_or_ge k ops.size with h2 | h2
    ·have h3:=hall k h2;have hk':k < listed.size:=by omega
     simp only[Array.getD_eq_getD_getElem?,Array.getElem?_setIfInBounds,Array.getElem?_push] at h1 h3;rw[if_neg (by omega),if_neg (by omega)] at h1;simp[hk'] at h1 h3;rw[h1] at h3; cases h3
    ·have:k=ops.size:=by omega
     subst this;rw[← hs] at h1;simp[Array.getD_eq_getD_getElem?] at h1
  split
  ·rename_i hw
   rw[if_pos hw] at h;rcases h with h | h
   ·exact .inl (Oper.wp_mono hend h)
   ·exact .inr h
  ·rename_i hw
   rw[if_neg hw] at h;exact hend _ _ h
 intro fuel;induction fuel with
 | zero =>
  intro listed a w hs h;exact fin 0 listed a w hs h.1 h.2
 | succ fuel ih =>
  intro listed a w hs h;by_cases hr:Region.ready md ops listed = []
  ·exact fin _ listed a w hs hr (h.1 hr)
  ·refine⟨fun h0=>?_,fun i hi=>?_⟩
   ·exfalso
    obtain⟨i,hi⟩:=List.exists_mem_of_ne_nil _ hr;have hlt:i < ops.size:=by
     have:=mem_ready.1 hi;obtain⟨_,oi,ho,_⟩:=this;exact(Array.getElem?_eq_some_iff.1 ho).1
    rw[← ji (o:=o) hs hb hlt,h0] at hi;cases hi
   ·have hlt:i < ops.size:=by
     rcases Nat.lt_trichotomy i ops.size with h1 | h1 | h1
     ·exact h1
     ·subst h1;exfalso
      apply hr
      have hall:∀ j,j < ops.size→listed.getD j true=true:=by
       intro j hj;have:=List.all_eq_true.1 ((Bool.and_eq_true _ _).mp hl).2 j (List.mem_range.2 hj);obtain⟨e,he,hbd⟩:=Array.any_eq_true'.1 this;simp only[Bool.and_eq_true,beq_iff_eq] at hbd;obtain⟨_,oi,ho,h2⟩:=mem_ready.1 hi;have:oi=o:=by simpa using ho.symm
       subst this;have h3:=h2 e he hbd.1;rw[hbd.2] at h3;have hj':j < listed.size:=by omega
       simp only[Array.getD_eq_getD_getElem?,Array.getElem?_push] at h3 ⊢;rw[if_neg (by omega)] at h3;simpa [hj'] using h3
      cases hrr:Region.ready md ops listed with
      | nil=>rfl
      | cons k ks =>
       have hk:k∈Region.ready md ops listed:=by rw[hrr]; simp
       obtain⟨h1,oi,ho,_⟩:=mem_ready.1 hk;rw[hall k (Array.getElem?_eq_some_iff.1 ho).1] at h1;cases h1
     ·rw[mem_ready] at hi;obtain⟨_,oi,ho,_⟩:=hi;rw[Array.getElem?_eq_none (by simp; omega)] at ho;cases ho
    have hi':=(ji (o:=o) hs hb hlt).1 hi;have hop:=h.2 i hi';have e1:(ops.push o)[i]? = ops[i]?:=by rw[Array.getElem?_push,if_neg (by omega)]
    have hset:(listed.push false).setIfInBounds i true=(listed.setIfInBounds i true).push false:=by
     apply Array.ext_getElem?
     intro j;rw[Array.getElem?_setIfInBounds,Array.getElem?_push,Array.getElem?_push,Array.getElem?_setIfInBounds];simp only[Array.size_push,Array.size_setIfInBounds];by_cases h1:i=j
     ·subst h1;rw[if_pos rfl,if_pos (by omega),if_neg (by omega),if_pos rfl,if_pos (by omega)]
     ·rw[if_neg h1,if_neg h1]
    unfold wpOp at hop ⊢;rw[e1];cases ho:ops[i]? with
    | none=>rw[ho] at hop; simp only at hop ⊢; rw[hset]; exact ih _ _ _ (by simp[hs]) hop
    | some oi =>
     rw[ho] at hop;simp only at hop ⊢;have hg:Region.wanted oi (yielded (ops.push o) a.tmps)=Region.wanted oi (yielded ops a.tmps):=by
      unfold Region.wanted;have hbi:=List.all_eq_true.1 hb i (List.mem_range.2 hlt);rw[ho] at hbi;simp only[Bool.and_eq_true] at hbi;cases hgd:oi.guard with
      | none=>rfl
      | some jw =>
       obtain⟨j,want⟩:=jw;rw[hgd] at hbi;have hj:j < i:=by simpa using hbi.2
       simp only[yielded];rw[Array.getElem?_push,if_neg (by omega)]
     rw[hg];split
     ·rename_i hw
      rw[if_pos hw] at hop;rcases hop with hop | hop
      ·refine .inl ?_;have:=Oper.wp_mono (K':=wpAny P md (ops.push o) Q (fuel+1) ((listed.push false).setIfInBounds i true)) (fun a' w' h'=>by rw[hset]; exact ih _ _ _ (by simp[hs]) h') hop;exact abw this
      ·exact .inr hop
     ·rename_i hw
      rw[if_neg hw] at hop;rw[hset];exact ih _ _ _ (by simp[hs]) hop
theorem qY {L:List Oper} {o:Oper} (n:Nat) (hn:L.drop n = [o]) (hb:oh (L.take n).toArray=true) (hl:lastB md (L.take n).toArray o=true) {a:Act} {w:World}
  (h:wpAny P md (L.take n).toArray (BZ P Q L.toArray o) n (Array.replicate n false) a w):wpAny P md L.toArray Q (n+1) (Array.replicate (n+1) false) a w:=by
 have hlen:L.length=n+1:=by
  have:=congrArg List.length hn;simp at this; omega
 have hL:L.toArray=(L.take n).toArray.push o:=by
  rw[List.push_toArray,← hn,List.take_append_drop]
 have hs:(L.take n).toArray.size=n:=by simp; omega
 rw[hL] at h ⊢;rw[Array.replicate_succ];exact aeu hb hl n _ a w (by simp[hs]) h
theorem ahl {id:Nat} {L:List Oper} {o:Oper} (S:World→Prop) (n:Nat) (hm:P.follows .mixedOrders=true) (hn:L.drop n = [o]) (hb:oh (L.take n).toArray=true) (hl:lastB .any (L.take n).toArray o=true) {a:Act} {w:World}
  (_hS:S w.drew) (h:wpAnyH P .any (L.take n).toArray (BZ P Q L.toArray o) S n (Array.replicate n false) a w.drew):(Code.region id L.toArray true).wp P Q a w:=by
 have hlen:L.length=n+1:=by
  have:=congrArg List.length hn;simp at this; omega
 refine wp_region_any hm ?_;rw[List.size_toArray,hlen];exact qY n hn hb hl (wpAny_of_held _ _ _ _ h)
theorem ahm {id:Nat} {L:List Oper} {o o':Oper} (S:World→Prop) (n:Nat) (hm:P.follows .mixedOrders=true) (hn:L.drop (n+1) = [o']) (hn':(L.take (n+1)).drop n = [o]) (hb:oh (L.take (n+1)).toArray=true) (hl:lastB .any (L.take (n+1)).toArray o'=true)
  (hb':oh ((L.take (n+1)).take n).toArray=true) (hl':lastB .any ((L.take (n+1)).take n).toArray o=true) {a:Act} {w:World}
  (_hS:S w.drew) (h:wpAnyH P .any ((L.take (n+1)).take n).toArray (BZ P (BZ P Q L.toArray o') (L.take (n+1)).toArray o) S n (Array.replicate n false) a w.drew):(Code.region id L.toArray true).wp P Q a w:=by
 have hlen:L.length=n+1+1:=by
  have:=congrArg List.length hn;simp at this; omega
 refine wp_region_any hm ?_;rw[List.size_toArray,hlen];exact qY (n+1) hn hb hl (qY n hn' hb' hl' (wpAny_of_held _ _ _ _ h))
end
section
variable {P:Program} {md:Region.Mode}
def needs (md:Region.Mode) (ops:Array Oper):Nat→Oper→Nat→Bool
 | 0,o,i=>o.after.any fun e=>Region.binds md e&&e.on==i
 | f+1,o,i=>o.after.any fun e=>Region.binds md e&&(e.on==i||match ops[e.on]? with | some o'=>needs md ops f o' i | none=>false)
def Down (md:Region.Mode) (ops:Array Oper) (listed:Array Bool):Prop:=∀ i o,ops[i]? = some o→listed.getD i false=true→∀ e∈o.after,Region.binds md e=true→listed.getD e.on false=true
theorem vK {ops:Array Oper} {listed:Array Bool} (hd:Down md ops listed):∀ (f:Nat) (o:Oper) (i:Nat),(∀ e∈o.after,Region.binds md e=true→listed.getD e.on false=true)→needs md ops f o i=true→listed.getD i false=true
 | 0,o,i,h,hn=>by
  obtain⟨e,he,hb⟩:=Array.any_eq_true'.1 hn;simp only[Bool.and_eq_true,beq_iff_eq] at hb;rw[← hb.2]; exact h e he hb.1
 | f+1,o,i,h,hn=>by
  obtain⟨e,he,hb⟩:=Array.any_eq_true'.1 hn;simp only[Bool.and_eq_true,Bool.or_eq_true,beq_iff_eq] at hb;have h1:=h e he hb.1;rcases hb.2 with h2 | h2
  ·rw[← h2]; exact h1
  ·cases ho:ops[e.on]? with
   | none=>rw[ho] at h2; cases h2
   | some o' =>
    rw[ho] at h2;exact vK hd f o' i (fun e' he' hb'=>hd e.on o' ho h1 e' he' hb') h2
def ac6 (md:Region.Mode) (ops:Array Oper) (o:Oper):Bool:=o.after.all (fun e=>decide (e.on < ops.size))&&(List.range ops.size).all fun i=>needs md ops ops.size o i
theorem aev {ops:Array Oper} {listed:Array Bool} (hs:listed.size=ops.size) (hd:Down md ops listed) {i:Nat} (hi:i∈Region.ready md ops listed):Down md ops (listed.setIfInBounds i true):=by
 obtain⟨_,oi,hoi,hall⟩:=mem_ready.1 hi;have mono:∀ k,listed.getD k false=true→(listed.setIfInBounds i true).getD k false=true:=by
  intro k hk;simp only[Array.getD_eq_getD_getElem?,Array.getElem?_setIfInBounds] at hk ⊢;by_cases hik:i=k
  ·subst hik;rw[if_pos rfl];by_cases hlt:i < listed.size
   ·simp[hlt]
   ·simp[hlt] at hk
  ·rw[if_neg hik]; exact hk
 intro j o ho hj e he hb;by_cases hij:i=j
 ·subst hij;rw[hoi] at ho; cases ho;exact mono _ (hall e he hb)
 ·refine mono _ (hd j o ho ?_ e he hb);simp only[Array.getD_eq_getD_getElem?,Array.getElem?_setIfInBounds] at hj ⊢;rw[if_neg hij] at hj; exact hj
variable {Q:Exit→Act→World→Prop}
theorem ac7 {ops:Array Oper} {o:Oper} (hb:oh ops=true) (hl:ac6 md ops o=true) :
  ∀ (fuel:Nat) (listed:Array Bool) (a:Act) (w:World),listed.size=ops.size→Down md ops listed→wpAny P md ops (BZ P Q (ops.push o) o) fuel listed a w→wpAny P md (ops.push o) Q (fuel+1) (listed.push false) a w:=by
 have hl1:=((Bool.and_eq_true _ _).mp hl).1;have hl2:=((Bool.and_eq_true _ _).mp hl).2;have waits:∀ (listed:Array Bool),listed.size=ops.size→Down md ops listed→ops.size∈Region.ready md (ops.push o) (listed.push false)→∀ j,j < ops.size→listed.getD j false=true:=by
  intro listed hs hd hi j hj;obtain⟨_,oi,ho,h2⟩:=mem_ready.1 hi;have:oi=o:=by simpa using ho.symm
  subst this;refine vK hd ops.size oi j (fun e he hbd=>?_) (List.all_eq_true.1 hl2 j (List.mem_range.2 hj));have h3:=h2 e he hbd;have hlt:e.on < ops.size:=by simpa using Array.all_eq_true'.1 hl1 e he
  simp only[Array.getD_eq_getD_getElem?,Array.getElem?_push] at h3 ⊢;rw[if_neg (by omega)] at h3;exact h3
 have fin:∀ (fuel:Nat) (listed:Array Bool) (a:Act) (w:World),listed.size=ops.size→Region.ready md ops listed = []→wpList P (ops.push o) Q [o] a w→wpAny P md (ops.push o) Q (fuel+1) (listed.push false) a w:=by
  intro fuel listed a w hs hr h;have hall:=kW hs hb hr;have hmem:∀ i,i∈Region.ready md (ops.push o) (listed.push false)↔i=ops.size:=by
   intro i;constructor
   ·intro hi;rcases Nat.lt_trichotomy i ops.size with h1 | h1 | h1
    ·rw[ji hs hb h1,hr] at hi; cases hi
    ·exact h1
    ·obtain⟨_,oi,ho,_⟩:=mem_ready.1 hi;rw[Array.getElem?_eq_none (by simp; omega)] at ho;cases ho
   ·rintro rfl;rw[mem_ready];refine⟨by rw[← hs]; simp[Array.getD_eq_getD_getElem?],o,by simp,fun e he hbd=>?_⟩;have hlt:e.on < ops.size:=by simpa using Array.all_eq_true'.1 hl1 e he
    have:=hall e.on hlt;simp only[Array.getD_eq_getD_getElem?,Array.getElem?_push];rw[if_neg (by omega)];simpa [Array.getD_eq_getD_getElem?] using this
  refine⟨fun h0=>absurd ((hmem ops.size).2 rfl) (by rw[h0]; simp),fun i hi=>?_⟩;have:=(hmem i).1 hi;subst this;unfold wpList at h;unfold wpOp;simp only[Array.getElem?_push_size];have hend:∀ a w,wpList P (ops.push o) Q [] a w→wpAny P md (ops.push o) Q fuel ((listed.push false).setIfInBounds ops.size true) a w:=by
   intro a w hq;refine wpAny_done ?_ hq fuel;cases hrr:Region.ready md (ops.push o) ((listed.push false).setIfInBounds ops.size true) with
   | nil=>rfl
   | cons k ks =>
    have hk:k∈Region.ready md (ops.push o) ((listed.push false).setIfInBounds ops.size true):=by rw[hrr]; simp
    obtain⟨h1,oi,ho,_⟩:=mem_ready.1 hk;have hlt:=(Array.getElem?_eq_some_iff.1 ho).1;simp only[Array.size_push] at hlt;exfalso
    rcases Nat.lt_or_ge k ops.size with h2 | h2
    ·have h3:=hall k h2;have hk':k < listed.size:=by omega
     simp only[Array.getD_eq_getD_getElem?,Array.getElem?_setIfInBounds,Array.getElem?_push] at h1 h3;rw[if_neg (by omega),if_neg (by omega)] at h1;simp[hk'] at h1 h3;rw[h1] at h3; cases h3
    ·have:k=ops.size:=by omega
     subst this;rw[← hs] at h1;simp[Array.getD_eq_getD_getElem?] at h1
  split
  ·rename_i hw
   rw[if_pos hw] at h;rcases h with h | h
   ·exact .inl (Oper.wp_mono hend h)
   ·exact .inr h
  ·rename_i hw
   rw[if_neg hw] at h;exact hend _ _ h
 intro fuel;induction fuel with
 | zero =>
  intro listed a w hs _ h;exact fin 0 listed a w hs h.1 h.2
 | succ fuel ih =>
  intro listed a w hs hd h;by_cases hr:Region.ready md ops listed = []
  ·exact fin _ listed a w hs hr (h.1 hr)
  ·refine⟨fun h0=>?_,fun i hi=>?_⟩
   ·exfalso
    obtain⟨i,hi⟩:=List.exists_mem_of_ne_nil _ hr;have hlt:i < ops.size:=by
     obtain⟨_,oi,ho,_⟩:=mem_ready.1 hi;exact(Array.getElem?_eq_some_iff.1 ho).1
    rw[← ji (o:=o) hs hb hlt,h0] at hi;cases hi
   ·have hlt:i < ops.size:=by
     rcases Nat.lt_trichotomy i ops.size with h1 | h1 | h1
     ·exact h1
     ·subst h1;exfalso
      apply hr
      have hall:=waits listed hs hd hi;cases hrr:Region.ready md ops listed with
      | nil=>rfl
      | cons k ks =>
       have hk:k∈Region.ready md ops listed:=by rw[hrr]; simp
       obtain⟨h1,oi,ho,_⟩:=mem_ready.1 hk;have hkl:=(Array.getElem?_eq_some_iff.1 ho).1;have h3:=hall k hkl;have hk':k < listed.size:=by omega
       simp[hk'] at h1 h3;rw[h1] at h3; cases h3
     ·obtain⟨_,oi,ho,_⟩:=mem_ready.1 hi;rw[Array.getElem?_eq_none (by simp; omega)] at ho;cases ho
    have hi':=(ji (o:=o) hs hb hlt).1 hi;have hd':=aev hs hd hi';have hop:=h.2 i hi';have e1:(ops.push o)[i]? = ops[i]?:=by rw[Array.getElem?_push,if_neg (by omega)]
    have hset:(listed.push false).setIfInBounds i true=(listed.setIfInBounds i true).push false:=by
     apply Array.ext_getElem?
     intro j;rw[Array.getElem?_setIfInBounds,Array.getElem?_push,Array.getElem?_push,Array.getElem?_setIfInBounds];simp only[Array.size_push,Array.size_setIfInBounds];by_cases h1:i=j
     ·subst h1;rw[if_pos rfl,if_pos (by omega),if_neg (by omega),if_pos rfl,if_pos (by omega)]
     ·rw[if_neg h1,if_neg h1]
    unfold wpOp at hop ⊢;rw[e1];cases ho:ops[i]? with
    | none=>rw[ho] at hop; simp only at hop ⊢; rw[hset]; exact ih _ _ _ (by simp[hs]) hd' hop
    | some oi =>
     rw[ho] at hop;simp only at hop ⊢;have hg:Region.wanted oi (yielded (ops.push o) a.tmps)=Region.wanted oi (yielded ops a.tmps):=by
      unfold Region.wanted;have hbi:=List.all_eq_true.1 hb i (List.mem_range.2 hlt);rw[ho] at hbi;simp only[Bool.and_eq_true] at hbi;cases hgd:oi.guard with
      | none=>rfl
      | some jw =>
       obtain⟨j,want⟩:=jw;rw[hgd] at hbi;have hj:j < i:=by simpa using hbi.2
       simp only[yielded];rw[Array.getElem?_push,if_neg (by omega)]
     rw[hg];split
     ·rename_i hw
      rw[if_pos hw] at hop;rcases hop with hop | hop
      ·refine .inl ?_;have:=Oper.wp_mono (K':=wpAny P md (ops.push o) Q (fuel+1) ((listed.push false).setIfInBounds i true)) (fun a' w' h'=>by rw[hset]; exact ih _ _ _ (by simp[hs]) hd' h') hop;exact abw this
      ·exact .inr hop
     ·rename_i hw
      rw[if_neg hw] at hop;rw[hset];exact ih _ _ _ (by simp[hs]) hd' hop
theorem aga (ops:Array Oper) (n:Nat):Down md ops (Array.replicate n false):=by
 intro i o _ h;simp only[Array.getD_eq_getD_getElem?,Array.getElem?_replicate] at h;split at h <;> simp at h
theorem ab9 {L:List Oper} {o:Oper} (n:Nat) (hn:L.drop n = [o]) (hb:oh (L.take n).toArray=true) (hl:ac6 md (L.take n).toArray o=true) {a:Act} {w:World}
  (h:wpAny P md (L.take n).toArray (BZ P Q L.toArray o) n (Array.replicate n false) a w):wpAny P md L.toArray Q (n+1) (Array.replicate (n+1) false) a w:=by
 have hlen:L.length=n+1:=by
  have:=congrArg List.length hn;simp at this; omega
 have hL:L.toArray=(L.take n).toArray.push o:=by
  rw[List.push_toArray,← hn,List.take_append_drop]
 have hs:(L.take n).toArray.size=n:=by simp; omega
 rw[hL] at h ⊢;rw[Array.replicate_succ];exact ac7 hb hl n _ a w (by simp[hs]) (aga _ _) h
def Bo (P:Program) (Q:Exit→Act→World→Prop) (L:List Oper):Nat→Exit→Act→World→Prop
 | 0=>Q
 | k+1=>BZ P (Bo P Q L k) (L.take (L.length - k)).toArray (L.getD (L.length - (k+1)) default)
theorem zL {L:List Oper} (n:Nat):∀ (k:Nat),L.length=n+k→(∀ j,j < k→oh (L.take (n+j)).toArray=true∧ac6 md (L.take (n+j)).toArray (L.getD (n+j) default)=true)→∀ {a:Act} {w:World},
  wpAny P md (L.take n).toArray (Bo P Q L k) n (Array.replicate n false) a w→wpAny P md L.toArray Q (n+k) (Array.replicate (n+k) false) a w:=by
 have key:∀ (k:Nat),k≤L.length - n→n≤L.length→(∀ j,n+j < L.length→oh (L.take (n+j)).toArray=true∧ac6 md (L.take (n+j)).toArray (L.getD (n+j) default)=true)→∀ {a:Act} {w:World},
   wpAny P md (L.take (L.length - k)).toArray (Bo P Q L k) (L.length - k) (Array.replicate (L.length - k) false) a w→wpAny P md L.toArray Q L.length (Array.replicate L.length false) a w:=by
  intro k;induction k with
  | zero=>intro _ _ _ a w h; simpa [Bo] using h
  | succ k ih =>
   intro hk hn hc a w h;refine ih (by omega) hn hc ?_;have e:L.length - k=(L.length - (k+1))+1:=by omega
   have ht:(L.take (L.length - k)).take (L.length - (k+1))=L.take (L.length - (k+1)):=by rw[List.take_take]; congr 1; omega
   have hd:(L.take (L.length - k)).drop (L.length - (k+1)) = [L.getD (L.length - (k+1)) default]:=by
    rw[List.drop_take,show L.length - k - (L.length - (k+1))=1 by omega,List.drop_eq_getElem_cons (by omega),List.take_succ_cons,List.take_zero];congr 1
    simp[List.getD_eq_getElem?_getD,show L.length - (k+1) < L.length by omega]
   have hcc:=hc (L.length - (k+1) - n) (by omega);rw[show n+(L.length - (k+1) - n)=L.length - (k+1) by omega] at hcc;have:=ab9 (P:=P) (md:=md) (Q:=Bo P Q L k) (L:=L.take (L.length - k)) (o:=L.getD (L.length - (k+1)) default) (L.length - (k+1)) hd (by rw[ht]; exact hcc.1) (by rw[ht]; exact hcc.2) (a:=a) (w:=w) (by rw[ht]; exact h);rw[← e] at this; exact this
 intro k hL hc a w h;have:=key k (by omega) (by omega) (fun j hj=>hc j (by omega)) (a:=a) (w:=w) (by rw[show L.length - k=n by omega]; exact h);rwa [hL] at this
theorem bK {id:Nat} {L:List Oper} (S:World→Prop) (n k:Nat) (hm:P.follows .mixedOrders=true) (hL:L.length=n+k) (hc:(List.range k).all (fun j=>oh (L.take (n+j)).toArray&&ac6 .any (L.take (n+j)).toArray (L.getD (n+j) default))=true) {a:Act} {w:World}
  (h:wpAnyH P .any (L.take n).toArray (Bo P Q L k) S n (Array.replicate n false) a w.drew):(Code.region id L.toArray true).wp P Q a w:=by
 refine wp_region_any hm ?_;rw[List.size_toArray,hL];refine zL n k hL (fun j hj=>?_) (wpAny_of_held _ _ _ _ h);have:=List.all_eq_true.1 hc j (List.mem_range.2 hj);simpa using this
end
structure NV where
 n:Nd
 v3:Value
 v4:Value
 v5:Value
def NV.cells (q:NV):List Value:=[.int .i64 q.n.kind,.int .i64 q.n.ak,.int .i64 q.n.info,q.v3,q.v4,q.v5]
def NV.fine (w:World) (F:Ac) (q:NV):Prop:=Ae w F q.v3 q.n.next∧Ae w F q.v4 q.n.weights∧Ae w F q.v5 q.n.pay
theorem nC {α:Type} {f:α→List Value} {s:Nat} (hf:∀ x,(f x).length=s):∀ (L:List α) (k j:Nat) (x:α),L[k]? = some x→j < s→(L.flatMap f)[k*s+j]? = (f x)[j]?
 | [],k,j,x,h,_=>by cases h
 | y :: L,0,j,x,h,hj=>by
  simp at h; subst h;rw[List.flatMap_cons,Nat.zero_mul,Nat.zero_add,List.getElem?_append_left (by rw[hf]; exact hj)]
 | y :: L,k+1,j,x,h,hj=>by
  rw[List.flatMap_cons,List.getElem?_append_right (by rw[hf,Nat.add_mul,Nat.one_mul]; omega),hf];rw[show(k+1)*s+j - s=k*s+j by rw[Nat.add_mul,Nat.one_mul]; omega];exact nC hf L k j x (by simpa using h) hj
def Lies (w:World) (b:Nat) (cs:List Value):Prop:=b < w.heap.size∧∀ i v,cs[i]? = some v→w.cell? ⟨b,i,none⟩=some v
theorem Row.lies {w:World} {b:Nat} {t:TypeId} {cs:List Value} (h:Row w b t cs):Lies w b cs:=⟨h.lt,fun i v hi=>h.cell hi⟩
theorem Lies.nodes {w:World} {b:Nat} {L:List NV} (h:Lies w b (L.flatMap NV.cells)) {F:Ac} (hb:F b) (hL:∀ q∈L,q.fine w F) {c:Nat} (hc:L.length≤c):AB w F (.slice (some ⟨b,0,none⟩) L.length c) (L.map NV.n):=by
 refine⟨_,c,by rw[List.length_map],by rw[List.length_map]; exact hc,fun _=>⟨b,0,rfl,hb,h.1,fun k x hk=>?_⟩⟩;rw[List.getElem?_map] at hk;obtain⟨q,hq,rfl⟩:=Option.map_eq_some_iff.1 hk;obtain⟨f3,f4,f5⟩:=hL q (List.mem_of_getElem? hq);have g:∀ j v,j < 6→q.cells[j]? = some v→w.cell? ⟨b,0+k*6+j,none⟩=some v:=fun j v hj hv=>by
  rw[Nat.zero_add]; exact h.2 _ _ (by rw[nC (f:=NV.cells) (s:=6) (fun _=>rfl) L k j q hq hj]; exact hv)
 exact⟨g 0 _ (by omega) rfl,g 1 _ (by omega) rfl,g 2 _ (by omega) rfl,⟨_,g 3 _ (by omega) rfl,f3⟩,⟨_,g 4 _ (by omega) rfl,f4⟩,⟨_,g 5 _ (by omega) rfl,f5⟩⟩
def fZ (x:Inf):List Value:=[.int .i64 x.ak,.int .i64 x.actions]
theorem Lies.infos {w:World} {b:Nat} {L:List Inf} (h:Lies w b (L.flatMap fZ)) {F:Ac} (hb:F b) {c:Nat} (hc:L.length≤c):AX w F (.slice (some ⟨b,0,none⟩) L.length c) L:=by
 refine⟨_,c,rfl,hc,fun _=>⟨b,0,rfl,hb,h.1,fun k x hk=>?_⟩⟩;have g:∀ j v,j < 2→(fZ x)[j]? = some v→w.cell? ⟨b,0+k*2+j,none⟩=some v:=fun j v hj hv=>by
  rw[Nat.zero_add]; exact h.2 _ _ (by rw[nC (f:=fZ) (s:=2) (fun _=>rfl) L k j x hk hj]; exact hv)
 exact⟨g 0 _ (by omega) rfl,g 1 _ (by omega) rfl⟩
theorem NV.fine.keep {w w':World} {F G:Ac} {q:NV} (h:q.fine w F) (hFG:∀ b,F b→b < w.heap.size→G b) (hs:Same F w w'):q.fine w' G:=⟨h.1.keep hFG hs,h.2.1.keep hFG hs,h.2.2.keep hFG hs⟩
theorem enters {f:FuncId} {fn:Func} (hf:Tryz.prog.funcs[f]? = some fn) (hn:(fn.name == "runtime.NumGoroutine")=false) (hb:fn.body.isNone=false) (args:Array Value) (w:World):(callFunc f args).run Tryz.prog w = .ok (.enter f args) w:=by
 have h1:fn.name ≠ "runtime.NumGoroutine" := by simpa using hn
 have h2:fn.body.isNone=false:=hb;obtain⟨b,hb⟩:∃ b,fn.body=some b:=by cases h:fn.body <;> simp_all
 simp[callFunc,hf,h1,hb,Sem.run]
theorem ac8 (w:World) (lo hi x:Int) (b1 b2:Nat) (h1:w.cell? ⟨b1,0,none⟩=some (.int .i64 lo)) (h2:w.cell? ⟨b2,0,none⟩=some (.int .i64 hi)) :
  Calls Tryz.prog 204 #[.int .i64 x,.pointer (some ⟨b1,0,none⟩),.pointer (some ⟨b2,0,none⟩)] w fun e w'=>e = .returned (.bool (decide (x < lo)||decide (hi < x)))∧w=w':=by
 by_cases q:x < lo
 ·have HF:=Aa (show(decide (x < lo)||decide (hi < x))=true by simp[q]);go_enter Tryz.func204,Tryz.ntmps204;go_wp2
  go_ret;exact⟨by first | rfl | (rw[HF.out]; rfl),rfl⟩
 ·have d:decide (x < lo)=false:=decide_eq_false q;by_cases q2:hi < x
  ·have HF:=Aa (show(decide (x < lo)||decide (hi < x))=true by simp[q2]);go_enter Tryz.func204,Tryz.ntmps204;go_wp2
   go_ret;exact⟨by first | rfl | (rw[HF.out]; rfl),rfl⟩
  ·have d2:decide (hi < x)=false:=decide_eq_false q2;have HF:=Aa (show(decide (x < lo)||decide (hi < x))=false by simp[d,d2]);go_enter Tryz.func204,Tryz.ntmps204;go_wp2
   go_ret;exact⟨by first | rfl | (rw[HF.out]; rfl),rfl⟩
def jk (lo hi:Int) (l:List Int):Int:=if outside lo hi l then 2 else 0
theorem pU (w:World) (F:Ac) (v:Value) (lo hi:Int) (l:List Int) (hv:Ae w F v l) (hl:l.length≤1000000) :
  Calls Tryz.prog 175 #[.int .i64 lo,.int .i64 hi,v] w (Ret w fun v _=>v = .int .i64 (jk lo hi l)):=by
 have HV:=Aa hv; clear hv;have hmf:∀ (fn:Fn) (first cap:Array Value) (w:World),(Instr.makeFunc fn first cap).run Tryz.prog w = .ok (.func fn first cap) w:=fun _ _ _ _=>rfl
 go_enter Tryz.func175,Tryz.ntmps175;go_wp2_with fail
 obtain⟨W,hW⟩:∃ W:World,W=(w.alloc (.cells #[.int .i64 lo] 3)).alloc (.cells #[.int .i64 hi] 3):=⟨_,rfl⟩;rw[← hW];have hb:=dh w (.cells #[.int .i64 lo] 3) (.cells #[.int .i64 hi] 3) 0;have hsm:Same F w W:=by rw[hW]; exact(Same.alloc _ _ _).trans (Same.alloc _ _ _)
 have c1:W.cell? ⟨w.heap.size,0,none⟩=some (.int .i64 lo):=by rw[hW]; simp
 have c2:W.cell? ⟨w.heap.size+1,0,none⟩=some (.int .i64 hi):=by
  rw[hW]; simp
 have hbW:Below w.heap.size w W:=by rw[hW]; exact hb
 clear hb hW;have ha:CV W 204 #[.pointer (some ⟨w.heap.size,0,none⟩),.pointer (some ⟨w.heap.size+1,0,none⟩)] l (fun x=>decide (x < lo)||decide (hi < x)):=by
  refine⟨enters Tryz.func204 (by decide +kernel) (by decide +kernel),fun n x _=>?_⟩;exact(ac8 (W.drewN n) lo hi x _ _ c1 c2).mono fun e w' ⟨he,hw⟩=>⟨he,n,hw.symm⟩
 refine(oQ W F v l _ _ _ (HV.out.on hsm) hl ha).mono ?_;rintro e w' ⟨rfl,n,rfl⟩;clear ha;have HO:=Aa (show jk lo hi l=if l.any (fun x=>decide (x < lo)||decide (hi < x)) then 2 else 0 from rfl);generalize l.any (fun x=>decide (x < lo)||decide (hi < x))=r at *;dsimp only;cases r
 ·go_wp2
  go_ret;exact⟨_,rfl,aG hbW _,by rw[HO.out]; rfl⟩
 ·go_wp2
  go_ret;exact⟨_,rfl,aG hbW _,by rw[HO.out]; rfl⟩
def maxL (l:List Int):Int:=match l with | []=>0 | x :: r=>r.foldl max x
theorem acd (l:List Int) (a x:Int):(l ++ [x]).foldl max a=max (l.foldl max a) x:=by simp
theorem aiF (w:World) (F:Ac) (v:Value) (l:List Int) (hv:Ae w F v l) (h0:0 < l.length) (hl:l.length≤1000000) :
  Calls Tryz.prog 172 #[v] w fun e w'=>e = .returned (.int .i64 (maxL l))∧w'=w:=by
 obtain⟨A,c,rfl,hc,hN⟩:=hv;obtain⟨b,o,rfl,hbF,hb,hcell⟩:=hN h0;clear hN;obtain⟨y,hy⟩:=au h0;have e0:=hcell 0 y hy;unfold iH at e0;simp only[Nat.zero_mul,Nat.add_zero] at e0;have HC:=Aa hcell; clear hcell;obtain⟨r,rfl⟩:∃ r,l=y :: r:=by cases l with | nil=>simp at h0 | cons a r=>simp at hy; exact⟨r,by rw[hy]⟩
 clear hy;have hd:decide (((y :: r).length:Int) < 1)=false:=decide_eq_false (by omega);have HM:=Aa (show maxL (y :: r)=r.foldl max y from rfl);generalize hL:(y :: r).length=L at *;have HL:=Aa hL; clear hL;go_enter Tryz.func172,Tryz.ntmps172;go_wp2
 go_loopw [3,4] (fun m i wr=>∃ k:Nat,1≤k∧k≤L∧i = .int .i64 k∧m = .int .i64 ((r.take (k - 1)).foldl max y)∧wr=w) (fun _ i _=>L - (intOf i).toNat)
 case atStart=>exact⟨1,by omega,by omega,rfl,rfl,rfl⟩
 case round =>
  obtain⟨k,hk1,hk,rfl,rfl,rfl⟩:=hrel;by_cases hlt:k < L
  ·obtain⟨x,hx⟩:=au (l:=y :: r) (k:=k) (by rw[HL.out]; exact hlt);have ex:=HC.out k x hx;unfold iH at ex; rw[Nat.mul_one] at ex;have HS:=Aa (show(r.take k).foldl max y=max ((r.take (k - 1)).foldl max y) x by
    rw[← acd]; congr 1;have:r[k - 1]? = some x:=by rw[← hx]; cases k with | zero=>omega | succ k=>simp
    have h:=take_snoc this;rwa [Nat.sub_add_cancel hk1] at h)
   clear hx e0;generalize (r.take (k - 1)).foldl max y=m at *;go_wp2
   go_roundw
   case rel=>exact⟨k+1,by omega,by omega,by go_num,by rw[Nat.add_sub_cancel,HS.out]; congr 1; rw[Int.max_def]; split <;> split <;> omega,trivial⟩
   case measure=>simp[intOf]; omega
  ·go_wp2
   go_ret;refine⟨?_,rfl⟩;have:k=L:=by omega
   rw[HM.out,List.take_of_length_le (by rw[this,← HL.out]; simp)]; rfl
theorem agb (w:World) (F:Ac) (v:Value) (l:List Int) (y:Int) (hv:Ae w F v l) (hl:l.length≤1000000) :
  Calls Tryz.prog 226 #[v,.int .i64 y] w fun e w'=>e = .returned (.int .i64 (if y∈l then (l.idxOf y:Int) else -1))∧w'=w:=by
 obtain⟨A,c,rfl,hc,hN⟩:=hv;have HN:=Aa hN; clear hN;obtain⟨R,hR⟩:∃ R:Int,R=(if y∈l then (l.idxOf y:Int) else -1):=⟨_,rfl⟩;rw[← hR];have HR:=Aa hR; clear hR;go_enter Tryz.func226,Tryz.ntmps226;go_wp2
 go_loop [8] (fun i=>∃ k:Nat,k≤l.length∧i = .int .i64 k∧∀ z∈l.take k,z≠y) (fun i=>l.length - (intOf i).toNat)
 case atStart=>exact⟨0,by omega,rfl,by simp⟩
 case round =>
  obtain⟨k,hk,rfl,hp⟩:=hrel;have HP:=Aa hp; clear hp;by_cases hlt:k < l.length
  ·obtain⟨b,o,rfl,_,hb,hx⟩:=HN.out (by omega);obtain⟨x,hx'⟩:=au hlt;have ex:=hx k x hx';unfold iH at ex; rw[Nat.mul_one] at ex;have HX:=Aa hx'; clear hx hx';by_cases he:y=x
   ·subst he;have HF:=Aa (show R=(k:Int) by
     rw[HR.out,if_pos (List.mem_of_getElem? HX.out)];have h1:l.idxOf y≤k:=by
      rcases Nat.lt_or_ge k (l.idxOf y) with h | h
      ·exfalso
       have:=List.not_of_lt_findIdx (xs:=l) (p:=(· == y)) (i:=k) h;have hq:l[k]'hlt=y:=by have:=HX.out; simpa [hlt] using this
       simp[hq] at this
      ·exact h
     have h2:¬ l.idxOf y < k:=by
      intro h;have hm:y∈l:=List.mem_of_getElem? HX.out;have hlt2:=List.idxOf_lt_length_iff.2 hm;exact HP.out y (List.mem_take_iff_getElem.2 ⟨l.idxOf y,by omega,by simp⟩) rfl
     omega)
    go_wp2
    go_ret;exact⟨by first | rfl | (rw[HF.out]; rfl),rfl⟩
   ·have hd:(y==x)=false:=by simp[he]
    have HE:=Aa he; clear he;go_wp2
    go_round
    case rel =>
     refine⟨k+1,by omega,by go_num,fun z hz=>?_⟩;rw[take_snoc HX.out] at hz;simp at hz;rcases hz with hz | rfl
     ·exact HP.out z hz
     ·exact fun h=>HE.out h.symm
    case measure=>simp[intOf]; omega
  ·have HF:=Aa (show R = -1 by
    rw[HR.out,if_neg]; intro hm;have:=HP.out; rw[List.take_of_length_le (by omega)] at this;exact this y hm rfl)
   go_wp2
   go_ret;exact⟨by first | rfl | (rw[HF.out]; rfl),rfl⟩
theorem ace (w:World) (F:Ac) (v:Value) (l:List Int) (y:Int) (hv:Ae w F v l) (hl:l.length≤1000000) :
  Calls Tryz.prog 202 #[v,.int .i64 y] w fun e w'=>e = .returned (.bool (l.contains y))∧w'=w:=by
 have HV:=Aa hv; clear hv;go_enter Tryz.func202,Tryz.ntmps202;go_wp2_with fail
 refine(agb w F v l y HV.out hl).mono ?_;rintro e w' ⟨rfl,rfl⟩;obtain⟨R,hR⟩:∃ R:Int,R=(if y∈l then (l.idxOf y:Int) else -1):=⟨_,rfl⟩;rw[← hR];have HF:=Aa (show decide (0≤R)=l.contains y by
  rw[hR];by_cases h:y∈l
  ·simp[h]
  ·simp[h])
 clear hR;go_wp2
 go_ret;exact⟨by rw[← HF.out]; rfl,rfl⟩
theorem agc (w:World) (x:Int):Calls Tryz.prog 224 #[.int .i64 x] w fun e w'=>e = .returned (.bool false)∧w'=w:=by
 have h:(x != x)=false:=by simp
 go_enter Tryz.func224,Tryz.ntmps224;go_wp2
 go_ret;exact⟨rfl,rfl⟩
theorem ahn (w:World) (x y:Int):Calls Tryz.prog 227 #[.int .i64 x,.int .i64 y] w fun e w'=>e = .returned (.bool (decide (x < y)))∧w'=w:=by
 go_enter Tryz.func227,Tryz.ntmps227;go_wp2_with fail
 refine(agc w x).mono ?_;rintro e w' ⟨rfl,rfl⟩;go_wp2
 go_ret;exact⟨rfl,rfl⟩
theorem Row.iP {A:World} {t:TypeId} {c:Array Value} {cs:List Value} {b:Nat} (hb:A.heap.size=b) (hc:c.toList=cs):Row (A.alloc (.cells c t)) b t cs:=by
 subst hb hc; exact Row.new A t c
def dG:Gm:=⟨2,[⟨2,0,0,[1,2],[],[]⟩,⟨3,0,0,[],[],[1,-1]⟩,⟨2,1,1,[3,4],[],[]⟩,⟨3,0,0,[],[],[0,0]⟩,⟨2,0,2,[5,6,7],[],[]⟩,⟨3,0,0,[],[],[2,-2]⟩,⟨3,0,0,[],[],[-1,1]⟩,⟨3,0,0,[],[],[3,-3]⟩],[⟨0,2⟩,⟨1,2⟩,⟨0,3⟩]⟩
def uo (w:World):List NV:=[⟨⟨2,0,0,[1,2],[],[]⟩,.slice (some ⟨w.heap.size+2,0,none⟩) 2 2,.slice none 0 0,.slice none 0 0⟩,⟨⟨3,0,0,[],[],[1,-1]⟩,.slice none 0 0,.slice none 0 0,.slice (some ⟨w.heap.size+3,0,none⟩) 2 2⟩,⟨⟨2,1,1,[3,4],[],[]⟩,.slice (some ⟨w.heap.size+4,0,none⟩) 2 2,.slice none 0 0,.slice none 0 0⟩,⟨⟨3,0,0,[],[],[0,0]⟩,.slice none 0 0,.slice none 0 0,.slice (some ⟨w.heap.size+5,0,none⟩) 2 2⟩,⟨⟨2,0,2,[5,6,7],[],[]⟩,.slice (some ⟨w.heap.size+6,0,none⟩) 3 3,.slice none 0 0,.slice none 0 0⟩,⟨⟨3,0,0,[],[],[2,-2]⟩,.slice none 0 0,.slice none 0 0,.slice (some ⟨w.heap.size+7,0,none⟩) 2 2⟩,⟨⟨3,0,0,[],[],[-1,1]⟩,.slice none 0 0,.slice none 0 0,.slice (some ⟨w.heap.size+8,0,none⟩) 2 2⟩,⟨⟨3,0,0,[],[],[3,-3]⟩,.slice none 0 0,.slice none 0 0,.slice (some ⟨w.heap.size+9,0,none⟩) 2 2⟩]
theorem zM (w:World):Calls Tryz.prog 32 #[] w (Ret w fun v w'=>Az w' (fun b=>w.heap.size≤b) v dG):=by
 go_enter Tryz.func32,Tryz.ntmps32;go_wp2
 refine bodyPost_ret (v:=.agg #[.int .i64 2,.slice (some ⟨w.heap.size+10,0,none⟩) 8 8,.slice (some ⟨w.heap.size+1,0,none⟩) 3 3]) (by simp[results,Tryz.results32,go_sem]) rfl ?_;generalize hW:World.alloc _ _=W;have hB:Below w.heap.size w W:=by rw[← hW]; repeat (first | exact Below.refl _ _ | refine Below.alloc ?_ (by simp <;> omega) _)
 have r1:Row W (w.heap.size+1) 59 [Value.int .i64 0,Value.int .i64 2,Value.int .i64 1,Value.int .i64 2,Value.int .i64 0,Value.int .i64 3]:=by
  rw[← hW];refine Row.alloc ?_ _;refine Row.alloc ?_ _;refine Row.alloc ?_ _;refine Row.alloc ?_ _;refine Row.alloc ?_ _;refine Row.alloc ?_ _;refine Row.alloc ?_ _;refine Row.alloc ?_ _;refine Row.alloc ?_ _;exact Row.iP (by simp) rfl
 have r2:Row W (w.heap.size+2) 3 [Value.int .i64 1,Value.int .i64 2]:=by
  rw[← hW];refine Row.alloc ?_ _;refine Row.alloc ?_ _;refine Row.alloc ?_ _;refine Row.alloc ?_ _;refine Row.alloc ?_ _;refine Row.alloc ?_ _;refine Row.alloc ?_ _;refine Row.alloc ?_ _;exact Row.iP (by simp) rfl
 have r3:Row W (w.heap.size+3) 3 [Value.int .i64 1,Value.int .i64 (-1)]:=by
  rw[← hW];refine Row.alloc ?_ _;refine Row.alloc ?_ _;refine Row.alloc ?_ _;refine Row.alloc ?_ _;refine Row.alloc ?_ _;refine Row.alloc ?_ _;refine Row.alloc ?_ _;exact Row.iP (by simp) rfl
 have r4:Row W (w.heap.size+4) 3 [Value.int .i64 3,Value.int .i64 4]:=by
  rw[← hW];refine Row.alloc ?_ _;refine Row.alloc ?_ _;refine Row.alloc ?_ _;refine Row.alloc ?_ _;refine Row.alloc ?_ _;refine Row.alloc ?_ _;exact Row.iP (by simp) rfl
 have r5:Row W (w.heap.size+5) 3 [Value.int .i64 0,Value.int .i64 0]:=by
  rw[← hW];refine Row.alloc ?_ _;refine Row.alloc ?_ _;refine Row.alloc ?_ _;refine Row.alloc ?_ _;refine Row.alloc ?_ _;exact Row.iP (by simp) rfl
 have r6:Row W (w.heap.size+6) 3 [Value.int .i64 5,Value.int .i64 6,Value.int .i64 7]:=by
  rw[← hW];refine Row.alloc ?_ _;refine Row.alloc ?_ _;refine Row.alloc ?_ _;refine Row.alloc ?_ _;exact Row.iP (by simp) rfl
 have r7:Row W (w.heap.size+7) 3 [Value.int .i64 2,Value.int .i64 (-2)]:=by
  rw[← hW];refine Row.alloc ?_ _;refine Row.alloc ?_ _;refine Row.alloc ?_ _;exact Row.iP (by simp) rfl
 have r8:Row W (w.heap.size+8) 3 [Value.int .i64 (-1),Value.int .i64 1]:=by
  rw[← hW];refine Row.alloc ?_ _;refine Row.alloc ?_ _;exact Row.iP (by simp) rfl
 have r9:Row W (w.heap.size+9) 3 [Value.int .i64 3,Value.int .i64 (-3)]:=by
  rw[← hW];refine Row.alloc ?_ _;exact Row.iP (by simp) rfl
 have rn:Row W (w.heap.size+10) 61 ((uo w).flatMap NV.cells):=by
  rw[← hW];exact Row.iP (by simp) rfl
 clear hW;refine⟨_,rfl,hB,_,_,rfl,?_,?_⟩
 ·refine(Row.lies rn).nodes (F:=fun b=>w.heap.size≤b) (c:=8) (by omega) ?_ (by simp[uo]);intro q hq;simp only[uo,List.mem_cons,List.not_mem_nil,or_false] at hq;have nil:Ae W (fun b=>w.heap.size≤b) (.slice none 0 0) []:=⟨none,0,rfl,Nat.le_refl _,fun h=>absurd h (by simp)⟩;rcases hq with rfl | rfl | rfl | rfl | rfl | rfl | rfl | rfl
  ·exact⟨Row.ints (l:=[1,2]) (F:=fun b=>w.heap.size≤b) r2 (by omega) (c:=2) (by simp),nil,nil⟩
  ·exact⟨nil,nil,Row.ints (l:=[1,-1]) (F:=fun b=>w.heap.size≤b) r3 (by omega) (c:=2) (by simp)⟩
  ·exact⟨Row.ints (l:=[3,4]) (F:=fun b=>w.heap.size≤b) r4 (by omega) (c:=2) (by simp),nil,nil⟩
  ·exact⟨nil,nil,Row.ints (l:=[0,0]) (F:=fun b=>w.heap.size≤b) r5 (by omega) (c:=2) (by simp)⟩
  ·exact⟨Row.ints (l:=[5,6,7]) (F:=fun b=>w.heap.size≤b) r6 (by omega) (c:=3) (by simp),nil,nil⟩
  ·exact⟨nil,nil,Row.ints (l:=[2,-2]) (F:=fun b=>w.heap.size≤b) r7 (by omega) (c:=2) (by simp)⟩
  ·exact⟨nil,nil,Row.ints (l:=[-1,1]) (F:=fun b=>w.heap.size≤b) r8 (by omega) (c:=2) (by simp)⟩
  ·exact⟨nil,nil,Row.ints (l:=[3,-3]) (F:=fun b=>w.heap.size≤b) r9 (by omega) (c:=2) (by simp)⟩
 ·exact(Row.lies r1).infos (L:=[⟨0,2⟩,⟨1,2⟩,⟨0,3⟩]) (F:=fun b=>w.heap.size≤b) (by omega) (by simp)
def bT:Gm:=⟨2,[⟨2,0,0,[1,4],[],[]⟩,⟨2,1,1,[2,3],[],[]⟩,⟨3,0,0,[],[],[1,-1]⟩,⟨3,0,0,[],[],[-1,1]⟩,⟨2,1,1,[5,6],[],[]⟩,⟨3,0,0,[],[],[-1,1]⟩,⟨3,0,0,[],[],[1,-1]⟩],[⟨0,2⟩,⟨1,2⟩]⟩
def pV (w:World):List NV:=[⟨⟨2,0,0,[1,4],[],[]⟩,.slice (some ⟨w.heap.size+2,0,none⟩) 2 2,.slice none 0 0,.slice none 0 0⟩,⟨⟨2,1,1,[2,3],[],[]⟩,.slice (some ⟨w.heap.size+3,0,none⟩) 2 2,.slice none 0 0,.slice none 0 0⟩,⟨⟨3,0,0,[],[],[1,-1]⟩,.slice none 0 0,.slice none 0 0,.slice (some ⟨w.heap.size+4,0,none⟩) 2 2⟩,⟨⟨3,0,0,[],[],[-1,1]⟩,.slice none 0 0,.slice none 0 0,.slice (some ⟨w.heap.size+5,0,none⟩) 2 2⟩,⟨⟨2,1,1,[5,6],[],[]⟩,.slice (some ⟨w.heap.size+6,0,none⟩) 2 2,.slice none 0 0,.slice none 0 0⟩,⟨⟨3,0,0,[],[],[-1,1]⟩,.slice none 0 0,.slice none 0 0,.slice (some ⟨w.heap.size+7,0,none⟩) 2 2⟩,⟨⟨3,0,0,[],[],[1,-1]⟩,.slice none 0 0,.slice none 0 0,.slice (some ⟨w.heap.size+8,0,none⟩) 2 2⟩]
theorem pW (w:World):Calls Tryz.prog 33 #[] w (Ret w fun v w'=>Az w' (fun b=>w.heap.size≤b) v bT):=by
 go_enter Tryz.func33,Tryz.ntmps33;go_wp2
 refine bodyPost_ret (v:=.agg #[.int .i64 2,.slice (some ⟨w.heap.size+9,0,none⟩) 7 7,.slice (some ⟨w.heap.size+1,0,none⟩) 2 2]) (by simp[results,Tryz.results33,go_sem]) rfl ?_;generalize hW:World.alloc _ _=W;have hB:Below w.heap.size w W:=by rw[← hW]; repeat (first | exact Below.refl _ _ | refine Below.alloc ?_ (by simp <;> omega) _)
 have r1:Row W (w.heap.size+1) 59 [Value.int .i64 0,Value.int .i64 2,Value.int .i64 1,Value.int .i64 2]:=by
  rw[← hW];refine Row.alloc ?_ _;refine Row.alloc ?_ _;refine Row.alloc ?_ _;refine Row.alloc ?_ _;refine Row.alloc ?_ _;refine Row.alloc ?_ _;refine Row.alloc ?_ _;refine Row.alloc ?_ _;exact Row.iP (by simp) rfl
 have r2:Row W (w.heap.size+2) 3 [Value.int .i64 1,Value.int .i64 4]:=by
  rw[← hW];refine Row.alloc ?_ _;refine Row.alloc ?_ _;refine Row.alloc ?_ _;refine Row.alloc ?_ _;refine Row.alloc ?_ _;refine Row.alloc ?_ _;refine Row.alloc ?_ _;exact Row.iP (by simp) rfl
 have r3:Row W (w.heap.size+3) 3 [Value.int .i64 2,Value.int .i64 3]:=by
  rw[← hW];refine Row.alloc ?_ _;refine Row.alloc ?_ _;refine Row.alloc ?_ _;refine Row.alloc ?_ _;refine Row.alloc ?_ _;refine Row.alloc ?_ _;exact Row.iP (by simp) rfl
 have r4:Row W (w.heap.size+4) 3 [Value.int .i64 1,Value.int .i64 (-1)]:=by
  rw[← hW];refine Row.alloc ?_ _;refine Row.alloc ?_ _;refine Row.alloc ?_ _;refine Row.alloc ?_ _;refine Row.alloc ?_ _;exact Row.iP (by simp) rfl
 have r5:Row W (w.heap.size+5) 3 [Value.int .i64 (-1),Value.int .i64 1]:=by
  rw[← hW];refine Row.alloc ?_ _;refine Row.alloc ?_ _;refine Row.alloc ?_ _;refine Row.alloc ?_ _;exact Row.iP (by simp) rfl
 have r6:Row W (w.heap.size+6) 3 [Value.int .i64 5,Value.int .i64 6]:=by
  rw[← hW];refine Row.alloc ?_ _;refine Row.alloc ?_ _;refine Row.alloc ?_ _;exact Row.iP (by simp) rfl
 have r7:Row W (w.heap.size+7) 3 [Value.int .i64 (-1),Value.int .i64 1]:=by
  rw[← hW];refine Row.alloc ?_ _;refine Row.alloc ?_ _;exact Row.iP (by simp) rfl
 have r8:Row W (w.heap.size+8) 3 [Value.int .i64 1,Value.int .i64 (-1)]:=by
  rw[← hW];refine Row.alloc ?_ _;exact Row.iP (by simp) rfl
 have rn:Row W (w.heap.size+9) 61 ((pV w).flatMap NV.cells):=by
  rw[← hW];exact Row.iP (by simp) rfl
 clear hW;refine⟨_,rfl,hB,_,_,rfl,?_,?_⟩
 ·refine(Row.lies rn).nodes (F:=fun b=>w.heap.size≤b) (c:=7) (by omega) ?_ (by simp[pV]);intro q hq;simp only[pV,List.mem_cons,List.not_mem_nil,or_false] at hq;have nil:Ae W (fun b=>w.heap.size≤b) (.slice none 0 0) []:=⟨none,0,rfl,Nat.le_refl _,fun h=>absurd h (by simp)⟩;rcases hq with rfl | rfl | rfl | rfl | rfl | rfl | rfl
  ·exact⟨Row.ints (l:=[1,4]) (F:=fun b=>w.heap.size≤b) r2 (by omega) (c:=2) (by simp),nil,nil⟩
  ·exact⟨Row.ints (l:=[2,3]) (F:=fun b=>w.heap.size≤b) r3 (by omega) (c:=2) (by simp),nil,nil⟩
  ·exact⟨nil,nil,Row.ints (l:=[1,-1]) (F:=fun b=>w.heap.size≤b) r4 (by omega) (c:=2) (by simp)⟩
  ·exact⟨nil,nil,Row.ints (l:=[-1,1]) (F:=fun b=>w.heap.size≤b) r5 (by omega) (c:=2) (by simp)⟩
  ·exact⟨Row.ints (l:=[5,6]) (F:=fun b=>w.heap.size≤b) r6 (by omega) (c:=2) (by simp),nil,nil⟩
  ·exact⟨nil,nil,Row.ints (l:=[-1,1]) (F:=fun b=>w.heap.size≤b) r7 (by omega) (c:=2) (by simp)⟩
  ·exact⟨nil,nil,Row.ints (l:=[1,-1]) (F:=fun b=>w.heap.size≤b) r8 (by omega) (c:=2) (by simp)⟩
 ·exact(Row.lies r1).infos (L:=[⟨0,2⟩,⟨1,2⟩]) (F:=fun b=>w.heap.size≤b) (by omega) (by simp)
def mV (l part:List Int):Bool:=part.all fun x=>l.contains x
theorem contains_of {l part:List Int} (h:∀ x∈part,x∈l):mV l part=true:=by
 unfold mV;rw[List.all_eq_true];intro x hx;exact List.contains_iff_mem.2 (h x hx)
theorem aho {l:List Int} {k:Nat} {x y:Int} (h:l[k]? = some y):(l.take (k+1)).contains x=((l.take k).contains x||decide (y=x)):=by
 rw[take_snoc h,Bool.eq_iff_iff,Bool.or_eq_true,List.contains_iff_mem,List.contains_iff_mem,List.mem_append,List.mem_singleton,decide_eq_true_eq];constructor
 ·rintro(h | h)
  ·exact .inl h
  ·exact .inr h.symm
 ·rintro(h | h)
  ·exact .inl h
  ·exact .inr h.symm
theorem wL (w:World) (F:Ac) (v1 v2:Value) (l part:List Int) (h1:Ae w F v1 l) (h2:Ae w F v2 part) (b1:l.length≤100000) (b2:part.length≤100000) (hc:mV l part=true) :
  Calls Tryz.prog 45 #[v1,v2] w (Ret w fun v _=>v = .bool true):=by
 obtain⟨A,c,rfl,_,hr⟩:=h1;obtain⟨B,d,rfl,_,hs⟩:=h2;have HR:=Aa hr; have HS:=Aa hs;have HC:=Aa (List.all_eq_true.1 hc);clear hr hs hc;go_enter Tryz.func45,Tryz.ntmps45;go_wp2
 go_loopw [5,6,7] (fun i _ _ wr=>∃ k:Nat,k≤part.length∧i = .int .i64 (k:Int)∧Below w.heap.size w wr) (fun i _ _ _=>part.length - (intOf i).toNat)
 case atStart=>exact⟨0,by omega,rfl,Below.refl _ _⟩
 case round =>
  obtain⟨k,hk,rfl,hbel⟩:=hrel;by_cases hlt:k < part.length
  case neg =>
   go_wp2
   go_ret;exact⟨_,rfl,hbel,rfl⟩
  obtain⟨b,o,rfl,_,hb,hx⟩:=HS.out (by omega);obtain⟨x,hxk⟩:=au hlt;have e1:=hx k x hxk;unfold iH at e1;rw[Nat.mul_one] at e1;have HM:=Aa (HC.out x (List.mem_of_getElem? hxk));clear hx hxk;have e2:=(aA hbel b (o+k) hb).trans e1;clear e1;go_wp2
  obtain⟨w0,hw0⟩:∃ w0,w0=wr:=⟨_,rfl⟩;rw[← hw0] at hbel e2 ⊢;clear hw0;go_loopw [6,7] (fun f j wr=>∃ q:Nat,q≤l.length∧j = .int .i64 (q:Int)∧f = .bool ((l.take q).contains x)∧Below w0.heap.size w0 wr) (fun _ j _=>l.length - (intOf j).toNat)
  case atStart=>exact⟨0,by omega,rfl,rfl,Below.refl _ _⟩
  case round =>
   obtain⟨q,hq,rfl,rfl,dR⟩:=hrel;have hz:=hbel.size;by_cases hlt2:q < l.length
   case neg =>
    have ht:(l.take q).contains x=true:=by rw[List.take_of_length_le (by omega)]; exact HM.out
    rw[ht];go_wp2
    go_roundw
    case rel=>exact⟨k+1,by omega,by go_num,hbel.trans (dR.mono hbel.size)⟩
    case measure=>simp[intOf]; omega
   obtain⟨b3,o3,rfl,_,hb3,hx3⟩:=HR.out (by omega);obtain⟨y,hy⟩:=au hlt2;have e3:=hx3 q y hy;unfold iH at e3;rw[Nat.mul_one] at e3;have e4:=(aA dR b3 (o3+q) (by omega)).trans ((aA hbel b3 (o3+q) hb3).trans e3);have e5:=(aA dR b (o+k) (by omega)).trans e2;have HQ:=Aa (aho (x:=x) hy);clear hx3 e3 hy;obtain⟨fb,hfb⟩:∃ fb,fb=(l.take q).contains x:=⟨_,rfl⟩;have HFB:=Aa hfb;rw[← hfb];clear hfb;cases fb
   ·go_wp2_with fail
    go_quiet (fail)
    go_wp2
    go_roundw
    case rel=>exact⟨q+1,by omega,by go_num,by rw[HQ.out,← HFB.out]; simp[Bool.beq_eq_decide_eq],aG dR _⟩
    case measure=>simp[intOf]; omega
   ·go_wp2_with fail
    go_quiet (fail)
    go_wp2
    go_roundw
    case rel=>exact⟨q+1,by omega,by go_num,by rw[HQ.out,← HFB.out]; simp[Bool.beq_eq_decide_eq],aG dR _⟩
    case measure=>simp[intOf]; omega
end Go.Proofs.YthmklhapjegfdaaGreatDoor
