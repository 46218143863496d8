import Derived.Test.YtenaplhghbcjhaaGreatDoorQ04
import Derived.Deep.AppendLies
import Derived.Deep.RegionHeld3
import Derived.Test.YtenaplhghbcjhaaGreatDoorQ02
set_option linter.all false
set_option maxRecDepth 100000
set_option maxHeartbeats 0
namespace Go.Proofs.YtenaplhghbcjhaaGreatDoor
open And renaming intro->Iu
open _root_.Array renaming all_eq_true'->La,getD_eq_getD_getElem?->Ia,getElem?_push->IC,getElem?_setIfInBounds->I8,replicate->Ii
open Go.RowKit.Below renaming alloc->Lc,refl->GR
open Below renaming same'->GL
open Bool renaming and_eq_true->Ib
open Go.IntKind renaming i64->GU
open Go renaming Value->GN,World->GK
open Go.Value renaming bool->G7,int->GV,slice->Gw
open Go.IntWalk renaming i64_in->IY
open List renaming drop_eq_getElem_cons->Jo,drop_eq_nil_of_le->Ip,eq_nil_of_length_eq_zero->IQ,getD_eq_getElem?_getD->GH,getElem?_of_mem->H9,length->JB,length_map->Gz,length_set->Hy,mem_of_getElem?->Gx,range->Ig,range_succ->JJ,replicate->GX,size_toArray->Kr,take_of_length_le->G8
open Nat renaming add_zero->Jb,le_refl->Gy,lt_or_ge->Ku,lt_trichotomy->JF,mul_one->Ho,zero_add->I5,zero_le->Hg,zero_mul->Jc
open Go.Region renaming Mode->Jl,binds->IG,noSelect->Jp,ready->H8,wanted->Jq
open Same renaming drewN->Jv
open Go.Proofs.Tryz renaming prog->GI
open Go.World renaming cell?_alloc_lt->Lm
open Go.RowKit
variable {a:Act} {listed:Array Bool} {ops:Array Oper} {F:Gq} {pl x:Int} {ls:List (List Int)} {cs l:List Int} {L:List Oper} {b base c i id ix j k ni p q:Nat} {o oi oj:Oper} {t:TypeId}
abbrev Own (w:GK) (base:Nat) (t:TypeId) (v:GN) (xs:List GN):Prop:=w.ownsRow base t 1 v xs.length xs
theorem Own.ints {w:GK} {v:GN} (h:Own w base t v (l.map (Value.int .i64))) (hF:∀ b,v.ownBlock=some b->F b):AL w F v l:=by
 have h':w.ownsRow base t 1 v l.length (l.map (Value.int .i64)):=by simpa [Own] using h
 rcases h'.2 with⟨rfl,h0⟩ | ⟨g,cap,cur,rfl,hb,hg,hnc,_,_,htake⟩
 ·have:l = []:=IQ h0;subst this;exact zck
 ·refine⟨_,cap,rfl,hnc,λ_=>⟨g,0,rfl,hF g rfl,(Array.getElem?_eq_some_iff.1 hg).1,λk x hk=>?_⟩⟩;unfold lU;have hlt:=Gn hk;have:=h'.cellAt k FI;grind
structure OwnRows (w:GK) (base:Nat) (t:TypeId) (vs:List GN) (ls:List (List Int)):Prop where
 len:vs.length=ls.length
 own:∀ (j:Nat) (v:GN) (l:List Int),vs[j]? = some v->ls[j]? = some l->w.ownsRow base t 1 v l.length (l.map (Value.int .i64))
 apart:∀ (i j:Nat) (v u:GN),i≠j->vs[i]? = some v->vs[j]? = some u->v.ownBlock=none\/v.ownBlock≠u.ownBlock
theorem OwnRows.start (w:GK) (base:Nat) (t:TypeId) (n:Nat):OwnRows w base t (GX n (Gw none 0 0)) (GX n []):=by
 refine⟨aA,λj v l hv hl=>?_,λi j v u _ hv hu=>?_⟩
 ·have:=Gx hv;have h2:=Gx hl;rw[List.mem_replicate] at this h2;obtain⟨_,rfl⟩:=this;obtain⟨_,rfl⟩:=h2;exact World.ownsRow_nil _ _ _ _
 ·have:=Gx hv;rw[List.mem_replicate] at this;obtain⟨_,rfl⟩:=this;exact .inl rfl
theorem OwnRows.kept {w w':GK} {vs:List GN} (h:OwnRows w base t vs ls) (hs:∀ b,base<=b->b < w.heap.size->w'.heap[b]? = w.heap[b]?):OwnRows w' base t vs ls:=by
 refine⟨h.len,λj v l hv hl=>?_,h.apart⟩;have ho:=h.own j v l hv hl;refine⟨ho.1,?_⟩;rcases ho.2 with hn | ⟨g,cap,cur,rfl,hb,hg,r⟩
 ·exact .inl hn
 ·exact .inr ⟨g,cap,cur,rfl,hb,by rw[hs g hb (Array.getElem?_eq_some_iff.1 hg).1]; exact hg,r⟩
theorem OwnRows.alloc {w:GK} {vs:List GN} (h:OwnRows w base t vs ls) (o:Obj):OwnRows (w.alloc o) base t vs ls :=
 h.kept λb _ hl=>Below.heap_alloc w o b hl
theorem OwnRows.drew {w:GK} {vs:List GN} (h:OwnRows w base t vs ls):OwnRows w.drew base t vs ls:=h.kept λ_ _ _=>rfl
theorem OwnRows.setCell {w:GK} {vs:List GN} (h:OwnRows w base t vs ls) {p:Addr} (hp:p.block < base) (v:GN):OwnRows (w.setCell p v) base t vs ls :=
 h.kept λb hb _=>Below.heap_setCell w p v b FI
theorem OwnRows.put {w w1:GK} {vs:List GN} (h:OwnRows w base t vs ls) {v v':GN} (hv:vs[i]? = some v)
  (hown:w1.ownsRow base t 1 v' (l.length+1) (l.map (Value.int .i64) ++ [GV GU x])) (hg:w.grownBy w1 v.ownBlock) {g:Nat} (hvb:v'.ownBlock=some g) (hat:v.ownBlock=some g\/w.heap.size<=g) :
  OwnRows w1 base t (vs.set i v') (ls.set i (l ++ [x])):=by
 have hi:=Gn hv;have key:∀ j u,i≠j->vs[j]? = some u->u.ownBlock=none\/u.ownBlock≠v'.ownBlock:=by
   intro j u hij hu;rcases h.apart j i u v (λe=>hij e.symm) hu hv with h1 | h1
   ·exact .inl h1
   ·rw[hvb];rcases hat with hat | hat
    ·grind
    ·obtain⟨lj,hlj⟩:=Gl (l:=ls) (k:=j) (by rw[<-h.len]; exact Gn hu);have ho:=h.own j u lj hu hlj;cases hub:u.ownBlock with
     | none=>grind
     | some k =>
       right
       have:=(ho.lt k hub).2;grind
 refine⟨by simp[h.len],λj u m hu hm=>?_,λj k u z hjk hu hz=>?_⟩
 ·rw[List.getElem?_set] at hu hm;by_cases hij:i=j
  ·grind
  ·rw[LG hij] at hu hm;refine(h.own j u m hu hm).kept hg ?_;exact h.apart j i u v (λe=>hij e.symm) hu hv
 ·rw[List.getElem?_set] at hu hz;by_cases hij:i=j
  ·grind
  ·rw[LG hij] at hu;by_cases hik:i=k
   ·grind
   ·rw[LG hik] at hz;exact h.apart j k u z hjk hu hz
theorem OwnRows.rows {w:GK} {t':TypeId} {vs:List GN} (h:OwnRows w base t vs ls) (hr:Row w b t' vs) (hb:F b) (hF:∀ k,base<=k->F k) (hc:ls.length<=c) :
  BL w F (Gw (some ⟨b,0,none⟩) ls.length c) ls:=by
 refine⟨_,c,rfl,hc,λ_=>⟨b,0,rfl,hb,hr.lt,λk x hk=>?_⟩⟩;obtain⟨v,hv⟩:=Gl (l:=vs) (k:=k) (by rw[h.len]; exact Gn hk);refine⟨v,by rw[show 0+k*1=k by omega]; exact hr.cell hv,?_⟩;have ho:=h.own k v x hv hk;exact Own.ints (by simpa [Own] using ho) λb hb=>hF b (ho.lt b hb).1
theorem aaj {w:GK} {K:Act->GK->Prop} {Q:Exit->Act->GK->Prop} {E:Prop} (hgd:o.guard=none) (s x:Operand)
  (ho:o.op = .call { callee:=.builtin .append,args:=#[s,x],argTypes:=#[49,49] })
  (base:Nat) (v:GN) (l:List Int) (hs:a.eval s=v) (hown:w.ownsRow base 3 1 v l.length (l.map (Value.int .i64)))
  (B:Nat) (y:Int) (hx:a.eval x = Gw (some ⟨B,0,none⟩) 1 1) (hB:w.heap[B]? = some (.cells #[GV GU y] 3 (0,0))) (hlen:l.length<=1000000) (hbase:base<=w.heap.size)
  (h:∀ g cap w',w'.ownsRow base 3 1 (Gw (some ⟨g,0,none⟩) (l.length+1) cap) (l.length+1) (l.map (Value.int .i64) ++ [GV GU y])->w.grownBy w' v.ownBlock->(v.ownBlock=some g\/w.heap.size<=g)->g < w'.heap.size ->
   K (a.put o.dst (Gw (some ⟨g,0,none⟩) (l.length+1) cap)) w') :
  if Jq o (yielded ops a.tmps)=true then Oper.wp GI o a w K Q else E:=by
 obtain⟨i0,hi,hz0,hz1,hz2⟩:=info_parts Tryz.infoInt;refine step_append_lies w hgd s x _ ho base _ i0 _ 1 8 Tryz.underlying49 hi hz0 hz1 hz2 rfl FI v l.length _ hs hown ⟨B,0,none⟩ 1 1 [GV GU y] hx rfl (World.news_of_block hB) (by simp[Value.oneCell']) FI (by unfold maxLen; omega) FI hbase w.heap.size rfl ?_;grind
def ig (F7:List Nd) (ni:Nat):Nat->List (List Int)
 | 0=>GX ni []
 | k+1=>match F7[k]? with
  | some n=>if n.kind=2 then (ig F7 ni k).set n.info.toNat ((ig F7 ni k).getD n.info.toNat [] ++ [(k:Int)]) else ig F7 ni k
  | none=>ig F7 ni k
def dK (g:Gm):List (List Int):=ig g.F7 g.F8.length g.F7.length
theorem dD (F7:List Nd) (ni k:Nat):(ig F7 ni k).length=ni:=by induction k <;> grind [ig]
theorem abB {F7:List Nd} {n:Nd} (h:F7[k]? = some n) (hk:n.kind=2) (hl:(ig F7 ni k)[n.info.toNat]? = some l):ig F7 ni (k+1)=(ig F7 ni k).set n.info.toNat (l ++ [(k:Int)]):=by grind [ig]
theorem abC {F7:List Nd} {n:Nd} (h:F7[k]? = some n) (hk:¬ n.kind=2):ig F7 ni (k+1)=ig F7 ni k:=by
 simp[ig,h,hk]
theorem zy {F7:List Nd}:∀ l∈ig F7 ni k,l.length<=k:=by induction k <;> grind [ig]
def BO (g:Gm):Prop:=∀ n∈g.F7,n.kind=2->0<=n.info/\n.info < (g.F8.length:Int)
section
variable {P:Program} {md:Jl} {Q:Exit->Act->GK->Prop}
def DF (P:Program) (Q:Exit->Act->GK->Prop) (ops:Array Oper) (o:Oper):Exit->Act->GK->Prop
 | .normal,a,w=>wpList P ops Q [o] a w
 | e,a,w=>Q e a w
theorem ajL {K:Act->GK->Prop} {r:Result Next} (h:oi.upon P a K (DF P Q ops o) r):oi.upon P a K Q r:=by
 unfold Oper.upon at h ⊢;split at h <;> exact h
def qo (ops:Array Oper):Bool:=(Ig ops.size).all λi=>match ops[i]? with
 | some o=>o.after.all (λe=>decide (e.on < i))&&(match o.guard with | some (j,_)=>decide (j < i) | none=>true)
 | none=>true
def lastB (md:Jl) (ops:Array Oper) (o:Oper):Bool:=o.after.all (λe=>decide (e.on < ops.size))&&(Ig ops.size).all λi=>o.after.any λe=>IG md e&&e.on==i
theorem uj (hs:listed.size=ops.size) (hb:qo ops=true) (hi:i < ops.size) :
  i∈H8 md (ops.push o) (listed.push false)↔i∈H8 md ops listed:=by
 rw[mem_ready,mem_ready];have e1:(ops.push o)[i]? = ops[i]?:=by rw[IC];rw[LG FI]
 have e2:∀ j d,j < ops.size->(listed.push false).getD j d=listed.getD j d:=by
   intro j d hj;simp only[Ia,IC];grind
 rw[e1,e2 i true hi];constructor
 ·rintro⟨h1,oi,ho,h2⟩;refine⟨h1,oi,ho,λe he hbd=>?_⟩;have h3:=h2 e he hbd;have hlt:e.on < i:=by
    have:=List.all_eq_true.1 hb i (List.mem_range.2 hi);grind [La]
  rwa [e2 _ _ FI] at h3
 ·rintro⟨h1,oi,ho,h2⟩;refine⟨h1,oi,ho,λe he hbd=>?_⟩;have hlt:e.on < i:=by
    have:=List.all_eq_true.1 hb i (List.mem_range.2 hi);grind [La]
  rw[e2 _ _ FI];grind
theorem uH (hs:listed.size=ops.size) (hb:qo ops=true) (hr:H8 md ops listed = []):∀ i,i < ops.size->listed.getD i false=true:=by
 intro i;induction i using Nat.strongRecOn with
 | _ i ih =>
   intro hi;by_cases hl:listed.getD i true=false
   ·exfalso
    have:i∈H8 md ops listed:=by
      rw[mem_ready];refine⟨hl,ops[i],by simp[hi],λe he _=>?_⟩;have h:=List.all_eq_true.1 hb i (List.mem_range.2 hi);grind [La]
    grind
   grind
end
section
variable {P:Program} {md:Jl}
def needs (md:Jl) (ops:Array Oper):Nat->Oper->Nat->Bool
 | 0,o,i=>o.after.any λe=>IG md e&&e.on==i
 | f+1,o,i=>o.after.any λe=>IG md e&&(e.on==i||match ops[e.on]? with | some o'=>needs md ops f o' i | none=>false)
def Down (md:Jl) (ops:Array Oper) (listed:Array Bool):Prop:=∀ i o,ops[i]? = some o->listed.getD i false=true->∀ e∈o.after,IG md e=true->listed.getD e.on false=true
theorem aak {ops:Array Oper} {listed:Array Bool} (hd:Down md ops listed):∀ (f:Nat) (o:Oper) (i:Nat),(∀ e∈o.after,IG md e=true->listed.getD e.on false=true)->needs md ops f o i=true->listed.getD i false=true
 | 0,o,i,h,hn=>by
  obtain⟨e,he,hb⟩:=Array.any_eq_true'.1 hn;simp only[Ib,beq_iff_eq] at hb;rw[<-hb.2]; exact h e he hb.1
 | f+1,o,i,h,hn=>by
  obtain⟨e,he,hb⟩:=Array.any_eq_true'.1 hn;simp only[Ib,Bool.or_eq_true,beq_iff_eq] at hb;have h1:=h e he hb.1;rcases hb.2 with h2 | h2
  ·rw[<-h2]; exact h1
  ·cases ho:ops[e.on]? with
   | none=>rw[ho] at h2; cases h2
   | some o' =>
    rw[ho] at h2;exact aak hd f o' i (λe' he' hb'=>hd e.on o' ho h1 e' he' hb') h2
def wO (md:Jl) (ops:Array Oper) (o:Oper):Bool:=o.after.all (λe=>decide (e.on < ops.size))&&(Ig ops.size).all λi=>needs md ops ops.size o i
theorem ahJ (hs:listed.size=ops.size) (hd:Down md ops listed) (hi:i∈H8 md ops listed):Down md ops (listed.setIfInBounds i true):=by
 obtain⟨_,oi,hoi,hall⟩:=mem_ready.1 hi;have mono:∀ k,listed.getD k false=true->(listed.setIfInBounds i true).getD k false=true:=by
   intro k hk;simp only[Ia,I8] at hk ⊢;grind
 intro j o ho hj e he hb;by_cases hij:i=j
 ·grind
 ·refine mono _ (hd j o ho ?_ e he hb);simp only[Ia,I8] at hj ⊢;grind
variable {Q:Exit->Act->GK->Prop}
theorem af9 (hb:qo ops=true) (hl:wO md ops o=true) :
  ∀ (fuel:Nat) (listed:Array Bool) (a:Act) (w:GK),listed.size=ops.size->Down md ops listed->wpAny P md ops (DF P Q (ops.push o) o) fuel listed a w->wpAny P md (ops.push o) Q (fuel+1) (listed.push false) a w:=by
 have hl1:=((Ib _ _).mp hl).1;have hl2:=((Ib _ _).mp hl).2;have waits:∀ (listed:Array Bool),listed.size=ops.size->Down md ops listed->ops.size∈H8 md (ops.push o) (listed.push false)->∀ j,j < ops.size->listed.getD j false=true:=by
  intro listed hs hd hi j hj;obtain⟨_,oi,ho,h2⟩:=mem_ready.1 hi;have:oi=o:=by simpa using ho.symm
  subst this;refine aak hd ops.size oi j (λe he hbd=>?_) (List.all_eq_true.1 hl2 j (List.mem_range.2 hj));have h3:=h2 e he hbd;have hlt:e.on < ops.size:=by simpa using Array.all_eq_true'.1 hl1 e he
  simp only[Ia,IC] at h3 ⊢;rw[LG FI] at h3;exact h3
 have fin:∀ (fuel:Nat) (listed:Array Bool) (a:Act) (w:GK),listed.size=ops.size->H8 md ops listed = []->wpList P (ops.push o) Q [o] a w->wpAny P md (ops.push o) Q (fuel+1) (listed.push false) a w:=by
  intro fuel listed a w hs hr h;have hall:=uH hs hb hr;have hmem:∀ i,i∈H8 md (ops.push o) (listed.push false)↔i=ops.size:=by
   intro i;constructor
   ·intro hi;rcases JF i ops.size with h1 | h1 | h1
    ·rw[uj hs hb h1,hr] at hi;cases hi
    ·exact h1
    ·obtain⟨_,oi,ho,_⟩:=mem_ready.1 hi;rw[Array.getElem?_eq_none aB] at ho;cases ho
   ·rintro rfl;rw[mem_ready];refine⟨by rw[<-hs]; simp[Ia],o,aA,λe he hbd=>?_⟩;have hlt:e.on < ops.size:=by simpa using Array.all_eq_true'.1 hl1 e he
    have:=hall e.on hlt;simp only[Ia,IC];rw[LG FI];simpa [Ia] using this
  refine⟨λh0=>absurd ((hmem ops.size).2 rfl) (by rw[h0]; simp),λi hi=>?_⟩;have:=(hmem i).1 hi;subst this;unfold wpList at h;unfold wpOp;simp only[Array.getElem?_push_size];have hend:∀ a w,wpList P (ops.push o) Q [] a w->wpAny P md (ops.push o) Q fuel ((listed.push false).setIfInBounds ops.size true) a w:=by
   intro a w hq;refine wpAny_done ?_ hq fuel;cases hrr:H8 md (ops.push o) ((listed.push false).setIfInBounds ops.size true) with
   | nil=>rfl
   | cons k ks =>
    have hk:k∈H8 md (ops.push o) ((listed.push false).setIfInBounds ops.size true):=by rw[hrr];simp
    obtain⟨h1,oi,ho,_⟩:=mem_ready.1 hk;have hlt:=(Array.getElem?_eq_some_iff.1 ho).1;simp only[Array.size_push] at hlt;exfalso
    rcases Ku k ops.size with h2 | h2
    ·have h3:=hall k h2;have hk':k < listed.size:=FI;simp only[Ia,I8,IC] at h1 h3;rw[LG FI,LG FI] at h1;simp[hk'] at h1 h3;rw[h1] at h3;cases h3
    ·have:k=ops.size:=FI;subst this;rw[<-hs] at h1;simp[Ia] at h1
  split
  ·rename_i hw
   rw[LH hw] at h;rcases h with h | h
   ·exact .inl (Oper.wp_mono hend h)
   ·exact .inr h
  ·rename_i hw
   rw[LG hw] at h;exact hend _ _ h
 intro fuel;induction fuel with
 | zero =>
  intro listed a w hs _ h;exact fin 0 listed a w hs h.1 h.2
 | succ fuel ih =>
  intro listed a w hs hd h;by_cases hr:H8 md ops listed = []
  ·exact fin _ listed a w hs hr (h.1 hr)
  ·refine⟨λh0=>?_,λi hi=>?_⟩
   ·exfalso
    obtain⟨i,hi⟩:=List.exists_mem_of_ne_nil _ hr;have hlt:i < ops.size:=by
     obtain⟨_,oi,ho,_⟩:=mem_ready.1 hi;exact(Array.getElem?_eq_some_iff.1 ho).1
    rw[<-uj (o:=o) hs hb hlt,h0] at hi;cases hi
   ·have hlt:i < ops.size:=by
     rcases JF i ops.size with h1 | h1 | h1
     ·exact h1
     ·subst h1;exfalso
      apply hr
      have hall:=waits listed hs hd hi;cases hrr:H8 md ops listed with
      | nil=>rfl
      | cons k ks =>
       have hk:k∈H8 md ops listed:=by rw[hrr];simp
       obtain⟨h1,oi,ho,_⟩:=mem_ready.1 hk;have hkl:=(Array.getElem?_eq_some_iff.1 ho).1;have h3:=hall k hkl;have hk':k < listed.size:=FI;simp[hk'] at h1 h3;rw[h1] at h3;cases h3
     ·obtain⟨_,oi,ho,_⟩:=mem_ready.1 hi;rw[Array.getElem?_eq_none aB] at ho;cases ho
    have hi':=(uj (o:=o) hs hb hlt).1 hi;have hd':=ahJ hs hd hi';have hop:=h.2 i hi';have e1:(ops.push o)[i]? = ops[i]?:=by rw[IC,LG FI]
    have hset:(listed.push false).setIfInBounds i true=(listed.setIfInBounds i true).push false:=by
     apply Array.ext_getElem?
     intro j;rw[I8,IC,IC,I8];simp only[Array.size_push,Array.size_setIfInBounds];by_cases h1:i=j
     ·subst h1;rw[LH rfl,LH FI,LG FI,LH rfl,LH FI]
     ·rw[LG h1,LG h1]
    unfold wpOp at hop ⊢;rw[e1];cases ho:ops[i]? with
    | none=>rw[ho] at hop; simp only at hop ⊢; rw[hset]; exact ih _ _ _ (by simp[hs]) hd' hop
    | some oi =>
     rw[ho] at hop;simp only at hop ⊢;have hg:Jq oi (yielded (ops.push o) a.tmps)=Jq oi (yielded ops a.tmps):=by
      unfold Jq;have hbi:=List.all_eq_true.1 hb i (List.mem_range.2 hlt);rw[ho] at hbi;simp only[Ib] at hbi;cases hgd:oi.guard with
      | none=>rfl
      | some jw =>
       obtain⟨j,want⟩:=jw;rw[hgd] at hbi;have hj:j < i:=by simpa using hbi.2
       simp only[yielded];rw[IC,LG FI]
     rw[hg];split
     ·rename_i hw
      rw[LH hw] at hop;rcases hop with hop | hop
      ·refine .inl ?_;have:=Oper.wp_mono (K':=wpAny P md (ops.push o) Q (fuel+1) ((listed.push false).setIfInBounds i true)) (λa' w' h'=>by rw[hset]; exact ih _ _ _ (by simp[hs]) hd' h') hop;exact ajL this
      ·exact .inr hop
     ·rename_i hw
      rw[LG hw] at hop;rw[hset];exact ih _ _ _ (by simp[hs]) hd' hop
theorem ajM (ops:Array Oper) (n:Nat):Down md ops (Ii n false):=by
 intro i o _ h;simp only[Ia,Array.getElem?_replicate] at h;grind
theorem aal (n:Nat) (hn:L.drop n = [o]) (hb:qo (L.take n).toArray=true) (hl:wO md (L.take n).toArray o=true) {w:GK}
  (h:wpAny P md (L.take n).toArray (DF P Q L.toArray o) n (Ii n false) a w):wpAny P md L.toArray Q (n+1) (Ii (n+1) false) a w:=by
 have hlen:L.length=n+1:=by
   have:=congrArg JB hn;grind
 have hL:L.toArray=(L.take n).toArray.push o:=by grind
 grind [af9,ajM]
def AY (P:Program) (Q:Exit->Act->GK->Prop) (L:List Oper):Nat->Exit->Act->GK->Prop
 | 0=>Q
 | k+1=>DF P (AY P Q L k) (L.take (L.length - k)).toArray (L.getD (L.length - (k+1)) default)
theorem qY (n:Nat):∀ (k:Nat),L.length=n+k->(∀ j,j < k->qo (L.take (n+j)).toArray=true/\wO md (L.take (n+j)).toArray (L.getD (n+j) default)=true)->∀ {a:Act} {w:GK},
  wpAny P md (L.take n).toArray (AY P Q L k) n (Ii n false) a w->wpAny P md L.toArray Q (n+k) (Ii (n+k) false) a w:=by
 have key:∀ (k:Nat),k<=L.length - n->n<=L.length->(∀ j,n+j < L.length->qo (L.take (n+j)).toArray=true/\wO md (L.take (n+j)).toArray (L.getD (n+j) default)=true)->∀ {a:Act} {w:GK},
   wpAny P md (L.take (L.length - k)).toArray (AY P Q L k) (L.length - k) (Ii (L.length - k) false) a w->wpAny P md L.toArray Q L.length (Ii L.length false) a w:=by
  intro k;induction k with
  | zero=>intro _ _ _ a w h; simpa [AY] using h
  | succ k ih =>
   intro hk hn hc a w h;refine ih FI hn hc ?_;have e:L.length - k=(L.length - (k+1))+1:=FI;have ht:(L.take (L.length - k)).take (L.length - (k+1))=L.take (L.length - (k+1)):=by rw[List.take_take];congr 1;omega
   have hd:(L.take (L.length - k)).drop (L.length - (k+1)) = [L.getD (L.length - (k+1)) default]:=by
    rw[List.drop_take,show L.length - k - (L.length - (k+1))=1 by omega,Jo FI,List.take_succ_cons,List.take_zero];congr 1;simp[GH,show L.length - (k+1) < L.length by omega]
   have hcc:=hc (L.length - (k+1) - n) FI;rw[show n+(L.length - (k+1) - n)=L.length - (k+1) by omega] at hcc;have:=aal (P:=P) (md:=md) (Q:=AY P Q L k) (L:=L.take (L.length - k)) (o:=L.getD (L.length - (k+1)) default) (L.length - (k+1)) hd (by rw[ht]; exact hcc.1) (by rw[ht]; exact hcc.2) (a:=a) (w:=w) (by rw[ht]; exact h);rw[<-e] at this;exact this
 intro k hL hc a w h;have:=key k FI FI (λj hj=>hc j FI) (a:=a) (w:=w) (by rw[show L.length - k=n by omega]; exact h);rwa [hL] at this
theorem aga (S:GK->Prop) (n k:Nat) (hm:P.follows .mixedOrders=true) (hL:L.length=n+k) (hc:(Ig k).all (λj=>qo (L.take (n+j)).toArray&&wO .any (L.take (n+j)).toArray (L.getD (n+j) default))=true) {w:GK}
  (h:wpAnyH P .any (L.take n).toArray (AY P Q L k) S n (Ii n false) a w.drew):(Code.region id L.toArray true).wp P Q a w:=by
 refine wp_region_any hm ?_;rw[Kr,hL];refine qY n k hL (λj hj=>?_) (wpAny_of_held _ _ _ _ h);have:=List.all_eq_true.1 hc j (List.mem_range.2 hj);simpa using this
theorem aP (S:GK->Prop) (n k:Nat) (hm:P.follows .mixedOrders=true) (hL:L.length=n+k) (hc:(Ig k).all (λj=>qo (L.take (n+j)).toArray&&wO .any (L.take (n+j)).toArray (L.getD (n+j) default))=true) {w:GK}
  (hS:S w.drew) (h:S w.drew->wpAnyH P .any (L.take n).toArray (AY P Q L k) S n (Ii n false) a w.drew):(Code.region id L.toArray true).wp P Q a w:=aga S n k hm hL hc (h hS)
theorem alp (h:lastB md ops o=true):wO md ops o=true:=by
 unfold lastB at h;unfold wO;rw[Ib] at h ⊢;refine⟨h.1,List.all_eq_true.2 λi hi=>?_⟩;have h2:=List.all_eq_true.1 h.2 i hi;generalize ops.size=f;cases f with
 | zero=>exact h2
 | succ f =>
  obtain⟨e,he,hb⟩:=Array.any_eq_true'.1 h2;refine Array.any_eq_true'.2 ⟨e,he,?_⟩;rw[Ib] at hb ⊢;exact⟨hb.1,by rw[hb.2]; rfl⟩
theorem abD (n:Nat) (hn:L.drop n = [o]) (hb:qo (L.take n).toArray=true) (hl:lastB md (L.take n).toArray o=true) {w:GK}
  (h:wpAny P md (L.take n).toArray (DF P Q L.toArray o) n (Ii n false) a w):wpAny P md L.toArray Q (n+1) (Ii (n+1) false) a w:=aal n hn hb (alp hl) h
theorem agb {o':Oper} (S:GK->Prop) (n:Nat) (hm:P.follows .mixedOrders=true) (hn:L.drop (n+1) = [o']) (hn':(L.take (n+1)).drop n = [o]) (hb:qo (L.take (n+1)).toArray=true) (hl:lastB .any (L.take (n+1)).toArray o'=true)
  (hb':qo ((L.take (n+1)).take n).toArray=true) (hl':lastB .any ((L.take (n+1)).take n).toArray o=true) {w:GK}
  (_hS:S w.drew) (h:wpAnyH P .any ((L.take (n+1)).take n).toArray (DF P (DF P Q L.toArray o') (L.take (n+1)).toArray o) S n (Ii n false) a w.drew):(Code.region id L.toArray true).wp P Q a w:=by
 have hlen:L.length=n+1+1:=by
  have:=congrArg JB hn;simp at this;omega
 refine wp_region_any hm ?_;rw[Kr,hlen];exact abD (n+1) hn hb hl (abD n hn' hb' hl' (wpAny_of_held _ _ _ _ h))
end
structure NV where
 n:Nd
 v3:GN
 v4:GN
 v5:GN
def NV.cells (q:NV):List GN:=[GV GU q.n.kind,GV GU q.n.aH,GV GU q.n.info,q.v3,q.v4,q.v5]
def NV.fine (w:GK) (F:Gq) (q:NV):Prop:=AL w F q.v3 q.n.next/\AL w F q.v4 q.n.weights/\AL w F q.v5 q.n.pay
theorem lF {α:Type} {f:α->List GN} {s:Nat} (hf:∀ x,(f x).length=s):∀ (L:List α) (k j:Nat) (x:α),L[k]? = some x->j < s->(L.flatMap f)[k*s+j]? = (f x)[j]?
 | [],k,j,x,h,_=>by cases h
 | y :: L,0,j,x,h,hj=>by
  simp at h; subst h;rw[List.flatMap_cons,Jc,I5,List.getElem?_append_left (by rw[hf]; exact hj)]
 | y :: L,k+1,j,x,h,hj=>by
  rw[List.flatMap_cons,List.getElem?_append_right (by rw[hf,Nat.add_mul,Nat.one_mul]; omega),hf];rw[show(k+1)*s+j - s=k*s+j by rw[Nat.add_mul,Nat.one_mul]; omega];exact lF hf L k j x (by simpa using h) hj
def Lies (w:GK) (b:Nat) (cs:List GN):Prop:=b < w.heap.size/\∀ i v,cs[i]? = some v->w.cell? ⟨b,i,none⟩=some v
theorem Row.lies {w:GK} {cs:List GN} (h:Row w b t cs):Lies w b cs:=⟨h.lt,λi v hi=>h.cell hi⟩
theorem Lies.F7 {w:GK} {L:List NV} (h:Lies w b (L.flatMap NV.cells)) (hb:F b) (hL:∀ q∈L,q.fine w F) (hc:L.length<=c):Bz w F (Gw (some ⟨b,0,none⟩) L.length c) (L.map NV.n):=by
 refine⟨_,c,by rw[Gz],by rw[Gz]; exact hc,λ_=>⟨b,0,rfl,hb,h.1,λk x hk=>?_⟩⟩;rw[List.getElem?_map] at hk;obtain⟨q,hq,rfl⟩:=Option.map_eq_some_iff.1 hk;obtain⟨f3,f4,f5⟩:=hL q (Gx hq);have g:∀ j v,j < 6->q.cells[j]? = some v->w.cell? ⟨b,0+k*6+j,none⟩=some v:=λj v hj hv=>by
  rw[I5];exact h.2 _ _ (by rw[lF (f:=NV.cells) (s:=6) (λ_=>rfl) L k j q hq hj]; exact hv)
 exact⟨g 0 _ FI rfl,g 1 _ FI rfl,g 2 _ FI rfl,⟨_,g 3 _ FI rfl,f3⟩,⟨_,g 4 _ FI rfl,f4⟩,⟨_,g 5 _ FI rfl,f5⟩⟩
def acB (x:Inf):List GN:=[GV GU x.aH,GV GU x.actions]
theorem Lies.F8 {w:GK} {L:List Inf} (h:Lies w b (L.flatMap acB)) (hb:F b) (hc:L.length<=c):BA w F (Gw (some ⟨b,0,none⟩) L.length c) L:=by
 refine⟨_,c,rfl,hc,λ_=>⟨b,0,rfl,hb,h.1,λk x hk=>?_⟩⟩;have g:∀ j v,j < 2->(acB x)[j]? = some v->w.cell? ⟨b,0+k*2+j,none⟩=some v:=λj v hj hv=>by
  rw[I5];exact h.2 _ _ (by rw[lF (f:=acB) (s:=2) (λ_=>rfl) L k j x hk hj]; exact hv)
 exact⟨g 0 _ FI rfl,g 1 _ FI rfl⟩
theorem Row.yT {A:GK} {c:Array GN} {cs:List GN} (hb:A.heap.size=b) (hc:c.toList=cs):Row (A.alloc (.cells c t)) b t cs:=by grind [Row.new]
def fB:Gm:=⟨2,[⟨2,0,0,[1,2],[],[]⟩,⟨3,0,0,[],[],[1,-1]⟩,⟨2,1,1,[3,4],[],[]⟩,⟨3,0,0,[],[],[0,0]⟩,⟨2,0,2,[5,6,7],[],[]⟩,⟨3,0,0,[],[],[2,-2]⟩,⟨3,0,0,[],[],[-1,1]⟩,⟨3,0,0,[],[],[3,-3]⟩],[⟨0,2⟩,⟨1,2⟩,⟨0,3⟩]⟩
def zA (w:GK):List NV:=[⟨⟨2,0,0,[1,2],[],[]⟩,Gw (some ⟨w.heap.size+2,0,none⟩) 2 2,Gw none 0 0,Gw none 0 0⟩,⟨⟨3,0,0,[],[],[1,-1]⟩,Gw none 0 0,Gw none 0 0,Gw (some ⟨w.heap.size+3,0,none⟩) 2 2⟩,⟨⟨2,1,1,[3,4],[],[]⟩,Gw (some ⟨w.heap.size+4,0,none⟩) 2 2,Gw none 0 0,Gw none 0 0⟩,⟨⟨3,0,0,[],[],[0,0]⟩,Gw none 0 0,Gw none 0 0,Gw (some ⟨w.heap.size+5,0,none⟩) 2 2⟩,⟨⟨2,0,2,[5,6,7],[],[]⟩,Gw (some ⟨w.heap.size+6,0,none⟩) 3 3,Gw none 0 0,Gw none 0 0⟩,⟨⟨3,0,0,[],[],[2,-2]⟩,Gw none 0 0,Gw none 0 0,Gw (some ⟨w.heap.size+7,0,none⟩) 2 2⟩,⟨⟨3,0,0,[],[],[-1,1]⟩,Gw none 0 0,Gw none 0 0,Gw (some ⟨w.heap.size+8,0,none⟩) 2 2⟩,⟨⟨3,0,0,[],[],[3,-3]⟩,Gw none 0 0,Gw none 0 0,Gw (some ⟨w.heap.size+9,0,none⟩) 2 2⟩]
theorem ahK (w:GK):Calls GI 17 #[] w (Ret w λv w'=>AB w' (λb=>w.heap.size<=b) v fB):=by
 go_in;go_wp2
 refine bodyPost_ret (v:=.agg #[GV GU 2,Gw (some ⟨w.heap.size+10,0,none⟩) 8 8,Gw (some ⟨w.heap.size+1,0,none⟩) 3 3]) (by simp[results,Tryz.results17,go_sem]) rfl ?_;generalize hW:World.alloc _ _=W;have hB:Below w.heap.size w W:=by rw[<-hW];repeat (first | exact GR _ _ | refine Lc ?_ (by simp <;> omega) _)
 have r1:Row W (w.heap.size+1) 83 [Value.int .i64 0,Value.int .i64 2,Value.int .i64 1,Value.int .i64 2,Value.int .i64 0,Value.int .i64 3]:=by
  rw[<-hW];refine Zm ?_;refine Zm ?_;exact za5
 have r2:Row W (w.heap.size+2) 3 [Value.int .i64 1,Value.int .i64 2]:=by
  rw[<-hW];refine Zm ?_;refine Zm ?_;exact Row.yT aA rfl
 have r3:Row W (w.heap.size+3) 3 [Value.int .i64 1,Value.int .i64 (-1)]:=by
  rw[<-hW];refine Zm ?_;refine Row.alloc ?_ _;refine Row.alloc ?_ _;exact za5
 have r4:Row W (w.heap.size+4) 3 [Value.int .i64 3,Value.int .i64 4]:=by
  rw[<-hW];refine Zm ?_;refine Row.alloc ?_ _;exact za5
 have r5:Row W (w.heap.size+5) 3 [Value.int .i64 0,Value.int .i64 0]:=by
  rw[<-hW];refine Zm ?_;exact za5
 have r6:Row W (w.heap.size+6) 3 [Value.int .i64 5,Value.int .i64 6,Value.int .i64 7]:=by
  rw[<-hW];refine Zm ?_;exact Row.yT aA rfl
 have r7:Row W (w.heap.size+7) 3 [Value.int .i64 2,Value.int .i64 (-2)]:=by
  rw[<-hW];refine Row.alloc ?_ _;refine Row.alloc ?_ _;exact za5
 have r8:Row W (w.heap.size+8) 3 [Value.int .i64 (-1),Value.int .i64 1]:=by
  rw[<-hW];refine Row.alloc ?_ _;exact za5
 have r9:Row W (w.heap.size+9) 3 [Value.int .i64 3,Value.int .i64 (-3)]:=by
  rw[<-hW];exact za5
 have rn:Row W (w.heap.size+10) 51 ((zA w).flatMap NV.cells):=by
  rw[<-hW];exact Row.yT aA rfl
 clear hW;refine⟨_,rfl,hB,_,_,rfl,?_,?_⟩
 ·refine(Row.lies rn).F7 (F:=λb=>w.heap.size<=b) (c:=8) FI ?_ (by simp[zA]);intro q hq;simp only[zA,List.mem_cons,List.not_mem_nil,or_false] at hq;have nil:AL W (λb=>w.heap.size<=b) (Gw none 0 0) []:=⟨none,0,rfl,Gy _,λh=>absurd h aA⟩;rcases hq with rfl | rfl | rfl | rfl | rfl | rfl | rfl | rfl
  ·exact⟨Row.ints (l:=[1,2]) (F:=λb=>w.heap.size<=b) r2 FI (c:=2) aA,nil,nil⟩
  ·exact⟨nil,nil,Row.ints (l:=[1,-1]) (F:=λb=>w.heap.size<=b) r3 FI (c:=2) aA⟩
  ·exact⟨Row.ints (l:=[3,4]) (F:=λb=>w.heap.size<=b) r4 FI (c:=2) aA,nil,nil⟩
  ·exact⟨nil,nil,Row.ints (l:=[0,0]) (F:=λb=>w.heap.size<=b) r5 FI (c:=2) aA⟩
  ·exact⟨Row.ints (l:=[5,6,7]) (F:=λb=>w.heap.size<=b) r6 FI (c:=3) aA,nil,nil⟩
  ·exact⟨nil,nil,Row.ints (l:=[2,-2]) (F:=λb=>w.heap.size<=b) r7 FI (c:=2) aA⟩
  ·exact⟨nil,nil,Row.ints (l:=[-1,1]) (F:=λb=>w.heap.size<=b) r8 FI (c:=2) aA⟩
  ·exact⟨nil,nil,Row.ints (l:=[3,-3]) (F:=λb=>w.heap.size<=b) r9 FI (c:=2) aA⟩
 ·exact(Row.lies r1).F8 (L:=[⟨0,2⟩,⟨1,2⟩,⟨0,3⟩]) (F:=λb=>w.heap.size<=b) FI aA
open List renaming getElem_toArray → lq1, getElem_cons_zero → lq2, getElem_cons_succ → lq3, setIfInBounds_toArray → lq4, set_cons_zero → lq5, set_cons_succ → lq6
theorem zB (w:GK) (F:Gq) (u:GN) (g:Gm) (hg:AB w F u g) (hsm:Small g) (hin:BO g) :
  Calls GI 109 #[u] w (Ret w λv w'=>BL w' (λb=>w.heap.size<=b) v (dK g)):=by
 obtain⟨vn,vi,rfl,⟨A,c,rfl,hc,hN⟩,⟨Ai,ci,rfl,hci,hI⟩⟩:=hg;have HN:=Ag hN;clear hN hI;have hn:=hsm.F7;have hni:=hsm.F8;have HIN:=Ag hin;clear hin;go_in;go_wp2_with (at_make; refine fG _ rfl _ _ 157 rfl 49 (Gw none 0 0) 24 Tryz.underlying157 Tryz.infoInts rfl g.F8.length rfl rfl FI FI ?_; intro w1 hb1 hz1 hrow1)
 simp only[World.size_alloc] at hb1 hz1 hrow1;go_loopw [4] (λi wr=>∃ (k:Nat) (vs:List GN),k<=g.F7.length/\i = GV GU k/\Row wr w.heap.size 25 [GV GU g.aC,Gw A g.F7.length c,Gw Ai g.F8.length ci]/\Row wr (w.heap.size+1) 49 vs/\OwnRows wr (w.heap.size+2) 3 vs (ig g.F7 g.F8.length k)/\Below w.heap.size w wr) (λi _=>g.F7.length - (intOf i).toNat)
 case atStart =>
  refine⟨0,_,FI,rfl,?_,hrow1,?_,?_⟩
  ·exact(Row.new w _ _).below hb1 aA
  ·exact OwnRows.start _ _ _ _
  ·exact((GR w.heap.size w).alloc (Gy _) _).trans (hb1.mono FI)
 case round =>
  obtain⟨k,vs,hk,rfl,hr,hrow,hown,hbel⟩:=hrel;have x1:=hr.cell (i:=1) rfl;by_cases hlt:k < g.F7.length
  ·obtain⟨b,o,rfl,_,hb,hcell⟩:=HN.o FI;obtain⟨n,hn'⟩:=Gl hlt;obtain⟨e0,e1,e2,⟨v3,e3,A3,c3,rfl,hc3,i3⟩,⟨v4,e4,A4,c4,rfl,hc4,i4⟩,⟨v5,e5,A5,c5,rfl,hc5,i5⟩⟩:=hcell k n hn';clear i3 i4 i5 hcell;have HX:=Ag hn';clear hn';have hold:=aK hbel;have hlr:=hrow.lt;by_cases hkd:n.kind=2
   ·refine zcN ?_;clear hkd;intro hin0 hin1 hd HKD l hl v hv;have rv:=hrow.cell hv;have fv:=hrow.frozen n.info.toNat;have ho:=hown.own _ v l hv hl;have hll:=zy l (Gx hl);have HO:=Ag ho;clear ho;have HL:=Ag hl;clear hl;have HV:=Ag hv;clear hv;go_wp2
    refine zb1 ?_;intro W hW;have cx:W.cell? ⟨wr.heap.size,2,none⟩=some (GV GU n.info):=by rw[hW];simp
    have hWz:W.heap.size=wr.heap.size+1:=by rw[hW];simp
    have hWo:OwnRows W (w.heap.size+2) 3 vs (ig g.F7 g.F8.length k):=by rw[hW];exact hown.alloc _
    have hWr:Row W w.heap.size 25 [GV GU g.aC,Gw (some ⟨b,o,none⟩) g.F7.length c,Gw Ai g.F8.length ci]:=by rw[hW];exact hr.alloc _
    have hWw:Row W (w.heap.size+1) 49 vs:=by rw[hW];exact hrow.alloc _
    have hWb:Below w.heap.size w W:=by rw[hW];exact hbel.alloc hbel.size _
    have rv:=hWw.cell HV.o;have fv:=hWw.frozen n.info.toNat;have HOW:=Ag (hWo.own _ v l HV.o HL.o);have hWlt:wr.heap.size < W.heap.size:=FI;have HHW:=Ag hWz;have hWle:w.heap.size+2 < W.heap.size:=FI;clear hW hWz hr hrow hown hbel x1 hold e0 e1 e2 e3 e4 e5 hlr;have HWR:=Ag (Iu hWr (Iu hWw (Iu hWo hWb)));clear hWr hWw hWo hWb;refine agb (λw'=>w'.cell? ⟨wr.heap.size,2,none⟩=some (GV GU n.info)/\w'.cell? ⟨w.heap.size+1,n.info.toNat,none⟩=some v) 11 aj rfl rfl aj aj aj aj ⟨cx,rv⟩ ?_;have hHeld:(λw':GK=>w'.cell? ⟨wr.heap.size,2,none⟩=some (GV GU n.info)/\w'.cell? ⟨w.heap.size+1,n.info.toNat,none⟩=some v) W.drew:=⟨cx,rv⟩;refine Zo ?_;refine tkm [0,1,2,3,4,5,6,7,8] ?_;refine tk2 9 aj rfl λK hK=>?_
    go_simp;refine hK.out _ _ ⟨by rw[World.cell?_drew,Lm _ _ _ aB]; exact cx,by rw[World.cell?_drew,Lm _ _ _ aB]; exact rv⟩ (λhHeld=>?_);clear hK K;refine zaN ?_;refine tk2 10 aj rfl λK hK=>?_
    refine aaj (by rfl) _ _ (by rfl) (w.heap.size+2) v l (by rfl) (HOW.o.alloc _) W.heap.size k (by rfl) (heap_alloc_new W _) FI aB ?_;intro gg cap w1 hown1 hgrow hat hlt1;have hnb:∀ b,v.ownBlock=some b->w.heap.size+2<=b:=λb hb=>(HOW.o.lt b hb).1
    have hHG:∀ b,b < w.heap.size+2->w1.heap[b]? = W.heap[b]?:=λb hb=>by
     exact zdT
    obtain⟨hWr,hWw,hWo,hWb⟩:=HWR.o;have k1:Row w1 w.heap.size _ _:=hWr.of_block (hHG _ FI);have k2:Row w1 (w.heap.size+1) _ _:=hWw.of_block (hHG _ FI);refine zcA ?_;intro k3 k4 rv1 fv1;have KK:=Ag (Iu k1 (Iu k2 (Iu k3 k4)));refine hK.out _ _ ⟨?_,rv1⟩ (λhHeld=>?_)
    ·refine zdq ?_;exact cx
    clear hK K k1 k2 k3 k4 hWr hWw hWo hWb hHG hgrow hown1 hat cx rv fv;refine zaN ?_;refine Z8 ?_;refine zdr ?_;go_wp2
    refine zdr ?_;go_wp2
    go_roundw
    case rel =>
     obtain⟨k1,k2,k3,k4⟩:=KK.o;refine⟨k+1,_,FI,by go_num,k1.other aA _,k2.set _ _,?_,k4.setCell aA _⟩;rw[abB HX.o HKD.o HL.o];exact k3.setCell aA _
    case measure=>exact zMs
   ·have hd:(n.kind==2)=false:=by simp[hkd]
    have HKD:=Ag hkd;clear hkd;go_wp2
    go_roundw
    case rel =>
     refine⟨k+1,vs,FI,by go_num,by repeat (first | exact hr | refine Row.alloc ?_ _ | refine Row.other ?_ (by have:=hr.lt; simp; omega) _),by repeat (first | exact hrow | refine Row.alloc ?_ _ | refine Row.other ?_ aB _),?_,by repeat (first | exact hbel | refine Lc ?_ hbel.size _ | refine Below.setCell ?_ hbel.size _)⟩;rw[abC HX.o HKD.o];repeat (first | exact hown | refine OwnRows.alloc ?_ _)
    case measure=>exact zMs
  ·go_wp2
   go_ret;refine zaI ?_;have hke:k=g.F7.length:=FI;subst hke;have h1:(dK g).length=g.F8.length:=dD _ _ _;exact zb9
def jE (g:Gm):Prop:=g.aC < 1\/4 < g.aC\/g.F7.length < 1\/2000 < g.F7.length\/200 < g.F8.length
instance (g:Gm):Decidable (jE g):=by unfold jE; infer_instance
def dH (aC:Int) (ni:Nat):List Nd->Int
 | []=>0
 | x :: l=>if aT aC ni x≠0 then aT aC ni x else dH aC ni l
def dV (F8:List Inf) (x:Nd):Bool:=decide (x.kind=2)&&(decide ((F8.getD x.info.toNat default).aH≠x.aH)||decide ((F8.getD x.info.toNat default).actions≠(x.next.length:Int)))
def vJ (g:Gm):Bool:=g.F7.any (dV g.F8)
def nK (sets:List (List Int)):Bool:=sets.any λl=>decide (l.length=0)
def ku (sets:List (List Int)) (i:Nat):Bool:=decide ((sets.getD i []).getD 0 0 < (sets.getD (i - 1) []).getD 0 0)
def fH (sets:List (List Int)) (m:Nat):Bool:=(List.range' 1 (m - 1)).any (ku sets)
def kR (g:Gm):Int:=if vJ g then 10 else if nK (dK g) then 18 else if fH (dK g) g.F8.length then 9 else 0
def aQ (g:Gm):Int :=
 if jE g then 2 else if dH g.aC g.F8.length g.F7≠0 then dH g.aC g.F8.length g.F7
 else if (bT g.F7 (g.F7.length+1) 0 0 0).1≠g.F7.length then 9 else if 40 < (bT g.F7 (g.F7.length+1) 0 0 0).2 then 5 else kR g
theorem yU {aC:Int} {l:List Nd} {x:Nd} (h:l[k]? = some x):dH aC ni (l.drop k)=if aT aC ni x≠0 then aT aC ni x else dH aC ni (l.drop (k+1)):=by
 exact zdC
theorem gJ {aC:Int} {ni:Nat}:∀ {l:List Nd},dH aC ni l=0->∀ x∈l,aT aC ni x=0
 | [],_,_,h=>by cases h
 | y :: l,h,x,hx=>by
  unfold dH at h;split at h
  ·rename_i h1; exact absurd h h1
  ·rename_i h1
   rcases List.mem_cons.1 hx with rfl | hx
   ·simpa using h1
   ·exact gJ h x hx
theorem qZ {g:Gm} (h:dH g.aC g.F8.length g.F7=0):BO g:=by
 intro x hx hk;have:=gJ h x hx;grind [aT,dX]
theorem ab6 (sets:List (List Int)) (m:Nat) (h:1<=m):fH sets (m+1)=(fH sets m||ku sets m):=by grind [fH]
theorem adM {sets:List (List Int)} {m:Nat} (h:1<=m) (hm:m < k) (hb:ku sets m=true):fH sets k=true:=by grind [fH]
theorem aa3 (w:GK) (F:Gq) (u:GN) (g:Gm) (hg:AB w F u g) (hsm:Small g) :
  Calls GI 106 #[u] w (Ret w λv _=>v = GV GU (aQ g)):=by
 have HG:=Ag hg;obtain⟨vn,vi,rfl,⟨A,c,rfl,hc,hN⟩,⟨Ai,ci,rfl,hci,hI⟩⟩:=hg;have HN:=Ag hN;have HI:=Ag hI;clear hN hI;have hn:=hsm.F7;have hni:=hsm.F8;have HS:=Ag hsm;clear hsm;by_cases q0:g.aC < 1
 ·exact zb6
 have d0:decide (g.aC < 1)=false:=LJ FI;by_cases q1:4 < g.aC
 ·exact zb6
 have d1:decide ((4:Int) < g.aC)=false:=LJ FI;by_cases q2:g.F7.length < 1
 ·exact zb6
 have d2:decide ((g.F7.length:Int) < 1)=false:=LJ FI;have HV:=Ag (show aQ g=if dH g.aC g.F8.length g.F7≠0 then dH g.aC g.F8.length g.F7
   else if (bT g.F7 (g.F7.length+1) 0 0 0).1≠g.F7.length then 9 else if 40 < (bT g.F7 (g.F7.length+1) 0 0 0).2 then 5 else kR g by
  unfold aQ; rw[LG (by unfold jE; omega)])
 obtain⟨b,o,rfl,hbF,hb,hcell⟩:=HN.o FI;have HC:=Ag hcell;clear hcell;go_in;go_wp2
 go_loopw [3] (λi wr=>∃ k:Nat,k<=g.F7.length/\i = GV GU k/\Row wr w.heap.size 25 [GV GU g.aC,Gw (some ⟨b,o,none⟩) g.F7.length c,Gw Ai g.F8.length ci]/\Below w.heap.size w wr/\dH g.aC g.F8.length g.F7=dH g.aC g.F8.length (g.F7.drop k)) (λi _=>g.F7.length - (intOf i).toNat)
 case atStart=>exact⟨0,FI,rfl,Row.new w _ _,(GR _ _).alloc (Gy _) _,rfl⟩
 case round =>
  obtain⟨k,hk,rfl,hbx,hbel,hval⟩:=hrel;have HV1:=Ag hval;clear hval;have x0:=hbx.cell (i:=0) rfl;have x1:=hbx.cell (i:=1) rfl;have x2:=hbx.cell (i:=2) rfl;have hold:=aK hbel;by_cases hlt:k < g.F7.length
  ·obtain⟨x,hx⟩:=Gl hlt;obtain⟨e0,e1,e2,⟨v3,e3,i3⟩,⟨v4,e4,i4⟩,⟨v5,e5,i5⟩⟩:=HC.o k x hx;have V:=Ag (show Ce w F _ x from⟨v3,v4,v5,rfl,i3,i4,i5⟩);clear i3 i4 i5;have M:=Gx hx;have L:x.next.length < 1000000/\x.weights.length < 1000000/\x.pay.length < 1000000:=⟨by have:=HS.o.next x M; omega,by have:=HS.o.weights x M; omega,by have:=HS.o.pay x M; omega⟩;have HL:=Ag L;clear L M;have HV2:=Ag (HV1.o.trans (yU hx));clear hx;have hbw:b < wr.heap.size:=by have:=hbel.size;omega
   have hBw:w.heap.size < wr.heap.size:=hbx.lt;go_wp2
   refine wp_region_held_drew (S:=λw'=>∀ b o,b < wr.heap.size->w'.cell? ⟨b,o,none⟩=wr.cell? ⟨b,o,none⟩) aj (λ_ _ _=>rfl) (λhHeld=>?_);refine tkm [0,1,2,3,4,5] ?_;refine tk2 6 aj rfl λK hK=>?_
   go_simp;refine(alk _ F _ _ g x (HG.o.on (GL hbel.drew F)) (V.o.on (GL hbel.drew F)) HL.o FI).mono ?_;rintro e w1 ⟨_,rfl,hb1,rfl⟩;have hb1':Below wr.heap.size wr w1:=(GR _ _).drew.trans hb1;dsimp only;refine hK.out _ _ (aK hb1') (λhHeld=>?_);clear hK K;refine Zb ?_;refine tkm [7] ?_;refine Z8 ?_;generalize aT g.aC g.F8.length x=er at *;by_cases he:er=0
   ·subst he;go_wp2
    go_roundw
    case rel =>
     refine⟨k+1,FI,by go_num,hbx.below hb1' hbx.lt,hbel.trans (hb1'.mono hbel.size),?_⟩;rw[HV2.o];simp
    case measure=>exact zMs
   ·have hd:(er != 0)=true:=by simp[he]
    have HF:=Ag (show aQ g=er by rw[HV.o,HV2.o]; simp[he]);clear he;go_wp2
    go_ret;exact⟨_,rfl,hbel.trans (hb1'.mono hbel.size),by rw[HF.o]; rfl⟩
  ·have HNE:=Ag (show dH g.aC g.F8.length g.F7=0 by
    rw[HV1.o,Ip FI]; rfl)
   go_wp2
   obtain⟨W,hW⟩:∃ W:GK,W=wr.alloc (.cells #[GV GU 0] 3):=⟨_,rfl⟩;rw[<-hW];have hbd:Row W wr.heap.size 3 [GV GU 0]:=by rw[hW];exact Row.new wr _ _
   have hbx2:=hbx.alloc (.cells #[GV GU 0] 3);rw[<-hW] at hbx2;have hWb:Below w.heap.size w W:=by rw[hW];exact hbel.alloc hbel.size _
   have hBw:w.heap.size < wr.heap.size:=hbx.lt;clear hW hbx x0 x1 x2 hold hbel;have hGW:AB W (λb=>b≠wr.heap.size) _ g:=HG.o.keep (λb _ hl=>by omega) (GL hWb F);have HGW:=Ag hGW;clear hGW;have x0:=hbx2.cell (i:=0) rfl;have x1:=hbx2.cell (i:=1) rfl;have x2:=hbx2.cell (i:=2) rfl;refine wp_region_held_drew (S:=λw'=>w'.cell? ⟨w.heap.size,0,none⟩=some (GV GU g.aC)/\w'.cell? ⟨w.heap.size,1,none⟩=some (Gw (some ⟨b,o,none⟩) g.F7.length c)/\w'.cell? ⟨w.heap.size,2,none⟩=some (Gw Ai g.F8.length ci)) aj ⟨x0,x1,x2⟩ (λhHeld=>?_);refine tkm [0,2,3,4] ?_;refine tk2 1 aj rfl λK hK=>?_
   go_simp;refine(ajI g HS.o (g.F7.length+1) 0 0 0 W.drew wr.heap.size _ (HGW.o.on (Jv _ W 1)) hbd.drew FI FI FI FI FI).mono ?_;rintro e w1 ⟨rfl,hrw,hgr⟩;have adN:Row w1 w.heap.size _ _:=hbx2.drew.of_block (hgr.block _ (by have:=hbx2.lt; simpa using this) aB);have hb1:Below w.heap.size w w1:=hWb.drew.grown hgr (by have:=hWb.size; simpa using this) (λk hk=>by simp at hk; omega);dsimp only;refine hK.out _ _ ⟨adN.cell rfl,adN.cell rfl,adN.cell rfl⟩ (λhHeld=>?_);clear hK K;refine Zb ?_;refine tkm [5] ?_;refine Z8 ?_;have hdd:=vH g.F7 1000 (g.F7.length+1) 0 0 0 FI FI FI;have HV2:=Ag (HV.o.trans (by rw[HNE.o]; simp only[ne_eq,not_true_eq_false,↓reduceIte]):aQ g=if (bT g.F7 (g.F7.length+1) 0 0 0).1≠g.F7.length then 9 else if 40 < (bT g.F7 (g.F7.length+1) 0 0 0).2 then 5 else kR g);generalize bT g.F7 (g.F7.length+1) 0 0 0=rr at *;obtain⟨rn,rd⟩:=rr;dsimp only at hrw hdd HV2;clear hbd hbx2 x0 x1 x2 hWb hgr hHeld HGW;by_cases he:rn=(g.F7.length:Int)
   case neg =>
    have hd:(rn != (g.F7.length:Int))=true:=by simp[he]
    have HF:=Ag (show aQ g=9 by rw[HV2.o,LH he]);clear he;go_wp2
    go_ret;exact⟨_,rfl,hb1,by rw[HF.o]; rfl⟩
   have hd:(rn != (g.F7.length:Int))=false:=by simp[he]
   have HRN:=Ag he;clear he;have y0:=hrw.cell (i:=0) rfl;by_cases h40:40 < rd
   ·have HF:=Ag (show aQ g=5 by rw[HV2.o,LG (by simpa using HRN.o),LH h40]);go_wp2
    go_ret;exact⟨_,rfl,hb1,by rw[HF.o]; rfl⟩
   have HV3:=Ag (show aQ g=kR g by rw[HV2.o,LG (by simpa using HRN.o),LG h40]);have x1:=adN.cell (i:=1) rfl;go_wp2
   clear hrw y0 x1 hdd;go_loopw [6] (λi wi=>∃ k:Nat,k<=g.F7.length/\i = GV GU k/\(g.F7.take k).any (dV g.F8)=false/\Row wi w.heap.size 25 [GV GU g.aC,Gw (some ⟨b,o,none⟩) g.F7.length c,Gw Ai g.F8.length ci]/\Below w.heap.size w wi) (λi _=>g.F7.length - (intOf i).toNat)
   case atStart=>exact⟨0,FI,rfl,rfl,adN,hb1⟩
   case round =>
    clear adN hb1;obtain⟨k2,hk2,rfl,hpre,hbx,hbel⟩:=hrel;have HP:=Ag hpre;clear hpre;have x0:=hbx.cell (i:=0) rfl;have x1:=hbx.cell (i:=1) rfl;have x2:=hbx.cell (i:=2) rfl;have hold:=aK hbel;have hBw:w.heap.size < wr.heap.size:=hbx.lt;by_cases hlt2:k2 < g.F7.length
    ·obtain⟨x,hx⟩:=Gl hlt2;obtain⟨e0,e1,e2,⟨v3,e3,A3,c3,rfl,hc3,i3⟩,⟨v4,e4,A4,c4,rfl,hc4,i4⟩,⟨v5,e5,A5,c5,rfl,hc5,i5⟩⟩:=HC.o k2 x hx;clear i3 i4 i5;have hl3:=HS.o.next x (Gx hx);have HX:=Ag hx;have BAD:=Ag (show dV g.F8 x=true->aQ g=10 by
      intro h;have:vJ g=true:=List.any_eq_true.2 ⟨x,Gx HX.o,h⟩;rw[HV3.o]; unfold kR; rw[this]; rfl)
     have HII:=Ag (qZ HNE.o x (Gx hx));clear hx;by_cases hkd:x.kind=2
     ·obtain⟨hin0,hin1⟩:=HII.o hkd;have hd2:(x.kind==2)=true:=by simp[hkd]
      obtain⟨bi,oi,rfl,_,hbi,hxi⟩:=HI.o FI;obtain⟨inf,bU⟩:=Gl (l:=g.F8) (k:=x.info.toNat) FI;obtain⟨c0,c1⟩:=hxi _ inf bU;have HT:=Ag (show dV g.F8 x=(decide (inf.aH≠x.aH)||decide (inf.actions≠(x.next.length:Int))) by
       unfold dV; simp[hkd,GH,bU])
      have hbiw:bi < wr.heap.size:=by have:=hbel.size;omega
      clear bU hxi hkd;by_cases p1:inf.aH=x.aH
      ·have f1:(inf.aH != x.aH)=false:=neF p1;by_cases p2:inf.actions=(x.next.length:Int)
       ·have f2:(inf.actions != (x.next.length:Int))=false:=neF p2;have HF:=Ag (show dV g.F8 x=false by rw[HT.o]; simp[p1,p2]);clear p1 p2;go_wp2
        go_quiet (fail)
        go_wp2
        go_roundw
        case rel=>exact⟨k2+1,FI,by go_num,nJ HX.o HP.o HF.o,(hbx.alloc _).dN _,aG (hbel.alloc hbel.size _) _⟩
        case measure=>exact zMs
       ·have f2:(inf.actions != (x.next.length:Int))=true:=neT p2;have HF:=Ag (BAD.o (by rw[HT.o]; simp[p2]));clear p1 p2;go_wp2
        go_quiet (fail)
        exact zaO
      ·have f1:(inf.aH != x.aH)=true:=neT p1;have HF:=Ag (BAD.o (by rw[HT.o]; simp[p1]));clear p1;go_wp2
       go_quiet (fail)
       exact zaO
     ·have hd2:(x.kind==2)=false:=by simp[hkd]
      have HF:=Ag (show dV g.F8 x=false by unfold dV; simp[hkd]);clear hkd;go_wp2
      go_quiet (fail)
      go_wp2
      go_roundw
      case rel=>exact⟨k2+1,FI,by go_num,nJ HX.o HP.o HF.o,(hbx.alloc _).dN _,aG (hbel.alloc hbel.size _) _⟩
      case measure=>exact zMs
    ·have HTB:=Ag (show vJ g=false by
      have:=HP.o; rw[G8 FI] at this; exact this)
     go_wp2_with fail
     refine(zB _ F _ g (HG.o.on (GL hbel F)) HS.o (qZ HNE.o)).mono ?_;rintro e w2 ⟨vss,rfl,hb2,hse⟩;have hB2:Below w.heap.size w w2:=hbel.trans (hb2.mono hbel.size);have HV4:=Ag (show aQ g=if nK (dK g) then 18 else if fH (dK g) g.F8.length then 9 else 0 by
      rw[HV3.o]; unfold kR; rw[HTB.o]; rfl)
     have hsl:(dK g).length=g.F8.length:=dD _ _ _;have hsle:∀ l∈dK g,l.length<=g.F7.length:=zy;generalize dK g=sets at *;obtain⟨As,cs,rfl,hcs,hS⟩:=hse;have HSE:=Ag hS;clear hS;have HSLE:=Ag hsle;clear hsle;have HSL:=Ag hsl;have hsl0:sets.length<=100:=FI;clear hsl hbx x0 x1 x2 hold hbel hb2;dsimp only;go_wp2
     go_loop [9] (λi=>∃ k:Nat,k<=sets.length/\i = GV GU k/\nK (sets.take k)=false) (λi=>sets.length - (intOf i).toNat)
     case atStart=>exact⟨0,FI,rfl,rfl⟩
     case round =>
      obtain⟨k3,hk3,rfl,hpre⟩:=hrel;have HP3:=Ag hpre;clear hpre;by_cases hlt3:k3 < sets.length
      ·obtain⟨bs,os,rfl,_,hbs,hxs⟩:=HSE.o FI;obtain⟨l,hl⟩:=Gl hlt3;obtain⟨vl,el,Al,cl,rfl,hcl,hLl⟩:=hxs k3 l hl;rw[Ho] at el;have HX:=Ag hl;have hll:=HSLE.o l (Gx hl);clear hl hxs hLl;by_cases hz:l.length=0
       ·have hd:((l.length:Int)==0)=true:=eqT FI;have HF:=Ag (show aQ g=18 by
         have:nK sets=true:=List.any_eq_true.2 ⟨l,Gx HX.o,by simp; exact IQ hz⟩;rw[HV4.o,this]; rfl)
        clear hz;go_wp2
        go_ret;exact⟨_,rfl,hB2,by rw[HF.o]; rfl⟩
       ·have hd:((l.length:Int)==0)=false:=eqF FI;go_wp2
        go_round
        case rel=>exact⟨k3+1,FI,by go_num,nJ HX.o HP3.o (by simp; intro h; rw[h] at hz; simp at hz)⟩
        case measure=>exact zMs
      ·have HNB:=Ag (show nK sets=false by
        have:=HP3.o; rw[G8 FI] at this; exact this)
       have HNZ:=Ag (show ∀ l∈sets,0 < l.length by
        intro l hl;have:=List.any_eq_false.1 HNB.o l hl;simp at this;exact List.length_pos_iff.2 this)
       go_wp2
       go_loopw [10] (λi wi=>∃ m n:Nat,1<=m/\(m<=sets.length\/m=1)/\i = GV GU m/\fH sets m=false/\wi=w2.drewN n) (λi _=>sets.length - (intOf i).toNat)
       case atStart=>exact⟨1,0,FI,.inr rfl,rfl,rfl,rfl⟩
       case round =>
        obtain⟨m,nd,hm1,hm,rfl,hpre,rfl⟩:=hrel;have HPM:=Ag hpre;clear hpre;by_cases hmt:m < sets.length
        ·obtain⟨bs,os,rfl,_,hbs,hxs⟩:=HSE.o FI;obtain⟨l,hl⟩:=Gl hmt;obtain⟨vl,el,Al,cl,rfl,hcl,hLl⟩:=hxs m l hl;obtain⟨l',hl'⟩:=Gl (l:=sets) (k:=m - 1) FI;obtain⟨vl',el',Al',cl',rfl,hcl',hLl'⟩:=hxs (m - 1) l' hl';have p0:=HNZ.o l (Gx hl);have p1:=HNZ.o l' (Gx hl');obtain⟨bl,ol,rfl,_,hbl,hxl⟩:=hLl p0;obtain⟨bl',ol',rfl,_,hbl',hxl'⟩:=hLl' p1;obtain⟨x,hx⟩:=Gl p0;obtain⟨y,hy⟩:=Gl p1;have ex:=hxl 0 x hx;have ey:=hxl' 0 y hy;unfold lU at ex ey;simp only[Jc,Jb] at ex ey;rw[Ho] at el el';have HAT:=Ag (show ku sets m=decide (x < y) by
          unfold ku; simp[GH,hl,hl',hx,hy])
         clear hl hl' hx hy hxl hxl' hLl hLl' hxs;have hmd:m - 1 < sets.length:=FI;by_cases q:x < y
         ·have HF:=Ag (show aQ g=9 by
           rw[HV4.o,HNB.o];have:=adM hm1 hmt (by rw[HAT.o]; simp[q]);rw[<-HSL.o,this]; rfl)
          go_wp2
          have hw1:IntKind.i64.wrap ((m:Int) - 1)=((m - 1:Nat):Int):=by rw[IY _ FI];omega
          go_quiet (fail)
          go_wp2
          go_ret;exact⟨_,rfl,aG (aG hB2 _) _,by rw[HF.o]; rfl⟩
         ·have hq:decide (x < y)=false:=LJ q;go_wp2
          have hw1:IntKind.i64.wrap ((m:Int) - 1)=((m - 1:Nat):Int):=by rw[IY _ FI];omega
          go_quiet (fail)
          clear hw1;go_wp2
          go_roundw
          case rel=>exact⟨m+1,nd+nq,FI,.inl FI,by go_num,by rw[ab6 _ _ hm1,HPM.o,HAT.o,hq]; rfl,rfl⟩
          case measure=>exact zMs
        ·go_wp2
         go_ret;refine⟨_,rfl,aG hB2 _,?_⟩;have:aQ g=0:=by
          rw[HV4.o,HNB.o];have h1:=HPM.o;have h2:=HSL.o;rcases hm with hm | hm
          ·have:m=sets.length:=FI;rw[<-h2,<-this,h1];rfl
          ·subst hm;have:fH sets g.F8.length=false:=by
            unfold fH;rw[show g.F8.length - 1=0 by omega];rfl
           rw[this];rfl
         rw[this];rfl
inductive Span (F7:List Nd):List Int->Nat->Nat->Prop
 | nil (a:Nat):Span F7 [] a a
 | cons {a m b:Nat} {n:Nd} {cs:List Int}:F7[a]? = some n->Span F7 n.next (a+1) m->Span F7 cs m b->Span F7 ((a:Int) :: cs) a b
theorem Span.le {F7:List Nd} {a:Nat} (h:Span F7 cs a b):a<=b:=by induction h <;> grind
theorem Span.mem {F7:List Nd} {a:Nat} (h:Span F7 cs a b):∀ c∈cs,(a:Int)<=c/\c < b:=by
 induction h with
 | nil a=>grind
 | cons hn h1 h2 ih1 ih2 =>
   intro c hc;have l1:=h1.le;have l2:=h2.le;grind
theorem Span.kids {F7:List Nd} {a:Nat} (h:Span F7 cs a b):∀ p n,a<=p->p < b->F7[p]? = some n->∀ c∈n.next,(p:Int) < c/\c < b:=by
 induction h with
 | nil a=>grind
 | @cons a m b n cs hn h1 h2 ih1 ih2 =>
   intro p n' ha hb hp c hc;have l1:=h1.le;have l2:=h2.le;by_cases e:p=a
   ·subst e;rw[hn] at hp;cases hp;have:=h1.mem c hc;omega
   grind
theorem Span.parent {F7:List Nd} {a:Nat} (h:Span F7 cs a b):∀ j:Nat,a<=j->j < b->(j:Int)∈cs\/∃ p n,a<=p/\p < j/\F7[p]? = some n/\(j:Int)∈n.next:=by
 induction h with
 | nil a=>grind
 | @cons a m b n cs hn h1 h2 ih1 ih2 =>
   intro j ha hb;by_cases e:j=a
   ·grind
   ·by_cases hm:j < m
    ·grind
    ·rcases ih2 j FI hb with h | ⟨p,n',hp1,hp2,hp3,hp4⟩
     ·grind
     ·have:=h1.le;grind
theorem Span.once {F7:List Nd} {a:Nat} (h:Span F7 cs a b):(∀ c∈cs,∀ p n,a<=p->p < b->F7[p]? = some n->c ∉ n.next) /\
  (∀ c p q n n',a<=p->p < b->a<=q->q < b->F7[p]? = some n->F7[q]? = some n'->c∈n.next->c∈n'.next->p=q):=by
 induction h with
 | nil a=>grind
 | @cons a m b n cs hn h1 h2 ih1 ih2 =>
   have l1:=h1.le;have l2:=h2.le;have k1:=h1.kids;have k2:=h2.kids;have m1:=h1.mem;have m2:=h2.mem;constructor
   ·grind
   ·have key:∀ c p q n1 n2,a<=p->p < q->q < b->F7[p]? = some n1->F7[q]? = some n2->c∈n1.next->c∈n2.next->False:=by
      intro c p q n1 n2 hp1 hpq hq hn1 hn2 hc1 hc2;by_cases e:p=a
      ·grind
      ·by_cases hm:q < m
       all_goals grind
    grind
theorem Span.sub {F7:List Nd} {a:Nat} (h:Span F7 cs a b):∀ i:Nat,a<=i->i < b->∃ e,Span F7 [(i:Int)] i e/\i < e/\e<=b:=by
 induction h with
 | nil a=>grind
 | @cons a m b n cs hn h1 h2 ih1 ih2 =>
   intro i ha hb;have l1:=h1.le;have l2:=h2.le;by_cases e:i=a
   ·subst e;exact⟨m,.cons hn h1 (.nil m),FI,FI⟩
   grind
theorem yV {F7:List Nd} {rec:Nat->Int->Int×Int} (hrec:∀ a d,(rec a d).1≠-1->∃ b:Nat,(rec a d).1=b/\Span F7 [(a:Int)] a b) :
  ∀ (cs:List Int) (x:Nat) (deep:Int),(dG rec cs x deep).1≠-1->∃ b:Nat,(dG rec cs x deep).1=b/\Span F7 cs x b
 | [],x,deep,_=>⟨x,rfl,.nil x⟩
 | c :: cs,x,deep,h=>by
  unfold dG at h ⊢;by_cases hc:c=x
  ·subst hc;simp only[ne_eq,not_true_eq_false,↓reduceIte,Int.toNat_natCast] at h ⊢;by_cases hng:(rec x deep).1 < 0
   ·rw[LH hng] at h; exact absurd rfl h
   ·rw[LG hng] at h ⊢;obtain⟨m,hm,hs⟩:=hrec x deep FI;rw[hm] at h ⊢;obtain⟨b,hb,hs2⟩:=yV hrec cs m _ h;refine⟨b,hb,?_⟩;generalize hl:[(x:Int)]=l at hs;cases hs with
    | nil=>cases hl
    | cons hn h1 h2 =>
     injection hl with e1 e2
     subst e2;cases h2
     exact .cons hn h1 hs2
  ·rw[LH hc] at h; exact absurd rfl h
theorem acC (F7:List Nd):∀ (f a:Nat) (depth deep:Int),(bT F7 f a depth deep).1≠-1->∃ b:Nat,(bT F7 f a depth deep).1=b/\Span F7 [(a:Int)] a b
 | 0,_,_,_,h=>absurd rfl h
 | f+1,a,depth,deep,h=>by
  unfold bT at h ⊢;cases hn:F7[a]? with
  | none=>rw[hn] at h; exact absurd rfl h
  | some n =>
   rw[hn] at h;simp only at h ⊢;have:=yV (F7:=F7) (rec:=λa d=>bT F7 f a (depth+1) d) (λa' d h'=>acC F7 f a' (depth+1) d h') n.next (a+1) (max deep depth) h;obtain⟨b,hb,hs⟩:=this;exact⟨b,hb,.cons hn hs (.nil b)⟩
structure Good (g:Gm):Prop where
 pos:0 < g.F7.length
 span:Span g.F7 [(0:Int)] 0 g.F7.length
 F8:BO g
theorem gQ {g:Gm} (h:aQ g=0):Good g:=by
 unfold aQ at h;split at h
 ·omega
 ·rename_i h1
  split at h
  ·grind
  ·rename_i h2
   split at h
   ·omega
   ·rename_i h3
    have hp:0 < g.F7.length:=by unfold jE at h1;omega
    have h3':(bT g.F7 (g.F7.length+1) 0 0 0).1=(g.F7.length:Int):=by simpa using h3
    obtain⟨b,hb,hs⟩:=acC g.F7 (g.F7.length+1) 0 0 0 FI;have:b=g.F7.length:=FI;subst this;exact⟨hp,hs,qZ (by simpa using h2)⟩
theorem Good.ahL {g:Gm} (h:Good g):EH g.F7:=by
 intro n hn c hc;obtain⟨i,hi⟩:=H9 hn;have:=h.span.kids i n (Hg _) (Gn hi) hi c hc;omega
def Kid (F7:List Nd) (i k c:Nat):Prop:=∃ n,F7[i]? = some n/\n.next[k]? = some (c:Int)
theorem Span.inj {F7:List Nd} {a:Nat} (h:Span F7 cs a b):∀ (k k':Nat) (c:Int),cs[k]? = some c->cs[k']? = some c->k=k':=by
 induction h with
 | nil a=>grind
 | @cons a m b n cs hn h1 h2 ih1 ih2 =>
   intro k k' c hk hk';have l1:=h1.le;have m2:=h2.mem;cases k with
   | zero =>
     cases k' with
     | zero=>rfl
     | succ k' =>
       simp at hk hk';have:=m2 c (Gx hk');omega
   | succ k =>
     cases k' with
     | zero =>
       simp at hk hk';have:=m2 c (Gx hk);omega
     | succ k'=>grind
theorem Span.sub1 {F7:List Nd} {a:Nat} (h:Span F7 cs a b):∀ p n,a<=p->p < b->F7[p]? = some n->∃ e,Span F7 n.next (p+1) e/\e<=b:=by
 intro p n ha hb hn;obtain⟨e,hs,h1,h2⟩:=h.sub p ha hb;generalize hl:[(p:Int)]=l at hs;cases hs with
 | nil=>cases hl
 | cons hn' h3 h4 =>
   injection hl with e1 e2
   subst e2;rw[hn] at hn';cases hn';cases h4
   grind
theorem Good.alq {g:Gm} (h:Good g) (hk:Kid g.F7 i k c):i < c/\c < g.F7.length/\i < g.F7.length:=by
 obtain⟨n,hn,hc⟩:=hk;have hl:=Gn hn;have:=h.span.kids i n (Hg _) hl hn c (Gx hc);omega
theorem Good.ajb {g:Gm} (h:Good g) {i' k':Nat} (h1:Kid g.F7 i k c) (h2:Kid g.F7 i' k' c):i=i'/\k=k':=by
 obtain⟨n,hn,hc⟩:=h1;obtain⟨n',hn',hc'⟩:=h2;have e:=h.span.once.2 c i i' n n' (Hg _) (Gn hn) (Hg _) (Gn hn') hn hn' (Gx hc) (Gx hc');subst e;rw[hn] at hn';cases hn';obtain⟨e,hs,_⟩:=h.span.sub1 i n (Hg _) (Gn hn) hn;grind [Span.inj]
theorem Good.anc {g:Gm} (h:Good g) (h0:0 < c) (hc:c < g.F7.length):∃ i k,Kid g.F7 i k c:=by
 rcases h.span.parent c (Hg _) hc with h | ⟨p,n,_,h1,h2,h3⟩
 ·grind
 ·obtain⟨k,hk⟩:=H9 h3;exact⟨p,k,n,h2,hk⟩
def upTo (F7:List Nd) (c:Nat):Nat->Option (Nat×Nat)
 | 0=>none
 | i+1=>match (F7[i]?).bind λn=>n.next.findIdx? λx=>decide (x=(c:Int)) with
  | some k=>some (i,k)
  | none=>upTo F7 c i
theorem ahM {c:Int} (hinj:∀ (k k':Nat),l[k]? = some c->l[k']? = some c->k=k') (hk:l[k]? = some c):(l.findIdx? λx=>decide (x=c))=some k:=by
 cases hf:l.findIdx? λx=>decide (x=c) with
 | none =>
  rw[List.findIdx?_eq_none_iff] at hf;have:=hf c (Gx hk);simp at this
 | some k' =>
  rw[List.findIdx?_eq_some_iff_getElem] at hf;obtain⟨h1,h2,_⟩:=hf;have h3:=of_decide_eq_true h2;rw[hinj k' k (by rw[<-h3]; simp) hk]
theorem alr {c:Int} (h:c ∉ l):(l.findIdx? λx=>decide (x=c))=none:=by grind
theorem Good.aoi {g:Gm} (h:Good g) (hk:Kid g.F7 i k c):∀ j,i < j->j<=g.F7.length->upTo g.F7 c j=some (i,k):=by
 intro j;induction j with
 | zero=>grind
 | succ j ih =>
   intro h1 h2;obtain⟨n,hn⟩:=Gl (l:=g.F7) (k:=j) FI;unfold upTo;rw[hn,Option.bind_some];by_cases e:j=i
   ·subst e;have hk':=hk;obtain⟨n',hn',hc⟩:=hk';rw[hn] at hn';cases hn';rw[ahM (k:=k) (λa b ha hb=>(h.ajb ⟨n,hn,ha⟩ ⟨n,hn,hb⟩).2) hc]
   ·rw[alr (λhm=>by
     obtain⟨k',hk'⟩:=H9 hm;exact e (h.ajb ⟨n,hn,hk'⟩ hk).1)]
    grind
theorem enters {f:FuncId} {fn:Func} (hf:Tryz.prog.funcs[f]? = some fn) (hn:(fn.name == "runtime.NumGoroutine")=false) (hb:fn.body.isNone=false) (args:Array GN) (w:GK):(callFunc f args).run GI w = .ok (.enter f args) w:=by
 have h1:fn.name ≠ "runtime.NumGoroutine" := by simpa using hn
 have h2:fn.body.isNone=false:=hb;obtain⟨b,hb⟩:∃ b,fn.body=some b:=by cases h:fn.body <;> simp_all
 simp[callFunc,hf,h1,hb,Sem.run]
theorem agc (w:GK) (lo hi x:Int) (b1 b2:Nat) (h1:w.cell? ⟨b1,0,none⟩=some (GV GU lo)) (h2:w.cell? ⟨b2,0,none⟩=some (GV GU hi)) :
  Calls GI 180 #[GV GU x,.pointer (some ⟨b1,0,none⟩),.pointer (some ⟨b2,0,none⟩)] w λe w'=>e = .returned (G7 (decide (x < lo)||decide (hi < x)))/\w=w':=by
 by_cases q:x < lo
 ·have HF:=Ag (show(decide (x < lo)||decide (hi < x))=true by simp[q]);go_in;exact zaM
 ·have d:decide (x < lo)=false:=LJ q;by_cases q2:hi < x
  ·have HF:=Ag (show(decide (x < lo)||decide (hi < x))=true by simp[q2]);go_in;exact zaM
  ·have d2:decide (hi < x)=false:=LJ q2;have HF:=Ag (show(decide (x < lo)||decide (hi < x))=false by simp[d,d2]);go_in;exact zaM
def iT (lo hi:Int) (l:List Int):Int:=if outside lo hi l then 2 else 0
theorem rC (w:GK) (F:Gq) (v:GN) (lo hi:Int) (l:List Int) (hv:AL w F v l) (hl:l.length<=1000000) :
  Calls GI 162 #[GV GU lo,GV GU hi,v] w (Ret w λv _=>v = GV GU (iT lo hi l)):=by
 have HV:=Ag hv;clear hv;refine Z9 ?_;intro hmf;go_in;go_wp2_with fail
 obtain⟨W,hW⟩:∃ W:GK,W=(w.alloc (.cells #[GV GU lo] 3)).alloc (.cells #[GV GU hi] 3):=⟨_,rfl⟩;rw[<-hW];have hb:=bJ w (.cells #[GV GU lo] 3) (.cells #[GV GU hi] 3) 0;have hsm:Same F w W:=by rw[hW];exact(Same.alloc _ _ _).trans (Same.alloc _ _ _)
 have c1:W.cell? ⟨w.heap.size,0,none⟩=some (GV GU lo):=by rw[hW];simp
 have c2:W.cell? ⟨w.heap.size+1,0,none⟩=some (GV GU hi):=by
  rw[hW];simp
 have hbW:Below w.heap.size w W:=by rw[hW];exact hb
 clear hb hW;have ha:DX W 180 #[.pointer (some ⟨w.heap.size,0,none⟩),.pointer (some ⟨w.heap.size+1,0,none⟩)] l (λx=>decide (x < lo)||decide (hi < x)):=by
  refine⟨enters Tryz.func180 (by decide +kernel) (by decide +kernel),λn x _=>?_⟩;exact(agc (W.drewN n) lo hi x _ _ c1 c2).mono λe w' ⟨he,hw⟩=>⟨he,n,hw.symm⟩
 refine(aa2 W F v l _ _ _ (HV.o.on hsm) hl ha).mono ?_;rintro e w' ⟨rfl,n,rfl⟩;clear ha;have HO:=Ag (show iT lo hi l=if l.any (λx=>decide (x < lo)||decide (hi < x)) then 2 else 0 from rfl);generalize l.any (λx=>decide (x < lo)||decide (hi < x))=r at *;dsimp only;cases r
 ·go_wp2
  go_ret;exact⟨_,rfl,aG hbW _,by rw[HO.o]; rfl⟩
 ·go_wp2
  go_ret;exact⟨_,rfl,aG hbW _,by rw[HO.o]; rfl⟩
structure CZ (w:GK) (p:Nat) (aC:Int) (ni:Nat):Prop where
 aC:w.cell? ⟨p,0,none⟩=some (GV GU aC)
 F8:∃ A c,w.cell? ⟨p,2,none⟩=some (Gw A ni c)
theorem ahN (w:GK) (F:Gq) (u ux:GN) (x:Nd) (hx:Ce w F ux x) (hl:x.next.length < 1000000/\x.weights.length < 1000000/\x.pay.length < 1000000) :
  Calls GI 154 #[u,ux] w (Ret w λv _=>v = GV GU (dw x)):=by
 obtain⟨v3,v4,v5,rfl,⟨A3,c3,rfl,hc3,h3⟩,⟨A4,c4,rfl,hc4,h4⟩,⟨A5,c5,rfl,hc5,h5⟩⟩:=hx;obtain⟨hl3,hl4,hl5⟩:=hl;have H4:=Ag (show AL w F (Gw A4 x.weights.length c4) x.weights from⟨A4,c4,rfl,hc4,h4⟩);clear h3 h4 h5;by_cases q0:x.aH≠0
 ·refine zbR ?_;intro HF;have d0:(x.aH != 0)=true:=neT FI;exact Zu
 have d0:(x.aH != 0)=false:=neF FI;by_cases q1:x.info≠0
 ·refine zbR ?_;intro HF;have d1:(x.info != 0)=true:=neT FI;exact Zu
 have d1:(x.info != 0)=false:=neF FI;by_cases q2:0 < x.pay.length
 ·refine zbR ?_;intro HF;exact Zu
 have d2:decide ((0:Int) < (x.pay.length:Int))=false:=LJ FI;by_cases q3:x.next.length < 1
 ·refine zbR ?_;intro HF;exact Zu
 have d3:decide ((x.next.length:Int) < 1)=false:=LJ FI;by_cases q4:60 < x.next.length
 ·refine zbR ?_;intro HF;exact Zu
 have d4:decide ((60:Int) < (x.next.length:Int))=false:=LJ FI;by_cases q5:x.weights.length≠x.next.length
 ·refine zbR ?_;intro HF;have d5:((x.weights.length:Int) != (x.next.length:Int))=true:=neT FI;exact Zu
 have d5:((x.weights.length:Int) != (x.next.length:Int))=false:=neF FI;have HF:=Ag (show dw x=iT 1 1000 x.weights by unfold dw; rw[LG FI]; rfl);clear q0 q1 q5;go_in;go_wp2_with fail
 refine(rC _ F _ 1 1000 x.weights (H4.o.on (Same.alloc _ _ _)) FI).mono ?_;rintro e w' ⟨v,rfl,hb,rfl⟩;dsimp only;go_wp2
 go_ret;exact⟨_,rfl,((GR _ _).alloc (Gy _) _).trans (hb.mono aA),by rw[HF.o]; rfl⟩
theorem dI (w:GK) (t:TypeId) (c:Array GN):∃ W:GK,W=w.alloc (.cells c t)/\Row W w.heap.size t c.toList/\Below w.heap.size w W/\w.heap.size+1=W.heap.size :=
 ⟨_,rfl,Row.new w _ _,(GR _ _).alloc (Gy _) _,aA⟩
theorem ahO (aC:Int) (ni:Nat) (x:Nd) (h:¬ (0 < x.pay.length\/0 < x.weights.length\/x.next.length < 1\/10 < x.next.length)) :
  dX aC ni x=if iT 0 (aC - 1) [x.aH]≠0 then iT 0 (aC - 1) [x.aH] else iT 0 ((ni:Int) - 1) [x.info]:=by grind [dX,iT,outside]
theorem move_any (w:GK) (F:Gq) (p:Nat) (ux:GN) (aC:Int) (ni:Nat) (x:Nd) (hw:CZ w p aC ni) (hx:Ce w F ux x) (hl:x.next.length < 1000000/\x.weights.length < 1000000/\x.pay.length < 1000000)
  (hp:0<=aC/\aC < 1000000) (hni:ni < 1000000) (hpl:p < w.heap.size) :
  Calls GI 155 #[.pointer (some ⟨p,0,none⟩),ux] w (Ret w λv _=>v = GV GU (dX aC ni x)):=by
 obtain⟨v3,v4,v5,rfl,⟨A3,c3,rfl,hc3,h3⟩,⟨A4,c4,rfl,hc4,h4⟩,⟨A5,c5,rfl,hc5,h5⟩⟩:=hx;obtain⟨hl3,hl4,hl5⟩:=hl;clear h3 h4 h5;obtain⟨hwp,Ai,ci,hwi⟩:=hw;by_cases q0:0 < x.weights.length
 ·exact za2
 have d0:decide ((0:Int) < (x.weights.length:Int))=false:=LJ FI;by_cases q1:0 < x.pay.length
 ·exact za2
 have d1:decide ((0:Int) < (x.pay.length:Int))=false:=LJ FI;by_cases q2:x.next.length < 1
 ·exact za2
 have d2:decide ((x.next.length:Int) < 1)=false:=LJ FI;by_cases q3:10 < x.next.length
 ·exact za2
 have d3:decide ((10:Int) < (x.next.length:Int))=false:=LJ FI;have HF:=Ag (ahO aC ni x FI);go_in;go_wp2_with fail
 obtain⟨W,hW,hbx,hWb,hWz⟩:=dI w 51 #[GV GU x.kind,GV GU x.aH,GV GU x.info,Gw A3 x.next.length c3,Gw A4 x.weights.length c4,Gw A5 x.pay.length c5];rw[<-hW];clear hW;have hold:=aK hWb;have wr1:IntKind.i64.wrap (aC - 1)=aC - 1:=IY _ FI;have wr2:IntKind.i64.wrap ((ni:Int) - 1)=(ni:Int) - 1:=IY _ FI;refine wp_region_held_drew (S:=λw'=>w'.cell? ⟨w.heap.size,1,none⟩=some (GV GU x.aH)/\w'.cell? ⟨p,0,none⟩=some (GV GU aC)) aj ⟨hbx.cell rfl,(hold p 0 hpl).trans hwp⟩ (λhHeld=>?_);refine tkm [0,1,2,3,4,5,6,7] ?_;refine tk2 8 aj rfl λK hK=>?_
 go_simp;obtain⟨W1,hW1,hbr,zC,ajN⟩:=dI W 3 #[GV GU x.aH];rw[<-hW1];clear hW1;have lW:=hbx.below zC FI;have hB1:Below w.heap.size w W1:=hWb.trans (zC.mono FI);clear hbx zC hWb;refine hK.out _ _ ⟨lW.drew.cell rfl,(aK hB1.drew p 0 hpl).trans hwp⟩ (λhHeld=>?_);clear hK K;refine Zb ?_;refine tk2 9 aj rfl λK hK=>?_
 go_simp;refine(rC _ (λb=>b=W.heap.size) _ 0 (aC - 1) [x.aH] (Row.ints (l:=[x.aH]) hbr.drew (F:=λb=>b=W.heap.size) rfl (c:=1) aA) aA).mono ?_;rintro e w1 ⟨_,rfl,hb1,rfl⟩;have hbx2:=lW.drew.below hb1 aB;have hB2:Below w.heap.size w w1:=hB1.drew.trans (hb1.mono aB);clear lW hb1 hB1 hbr;dsimp only;refine hK.out _ _ ⟨hbx2.cell rfl,(aK hB2 p 0 hpl).trans hwp⟩ (λhHeld=>?_);clear hK K;refine Zb ?_;refine tkm [10] ?_;refine Z8 ?_;have hx1:=hbx2.lt;generalize iT 0 (aC - 1) [x.aH]=er at *;by_cases he:er=0
 ·subst he;have HF2:=Ag (show dX aC ni x=iT 0 ((ni:Int) - 1) [x.info] by rw[HF.o]; simp);go_wp2_with fail
  refine wp_region_held_drew (S:=λw'=>w'.cell? ⟨w.heap.size,2,none⟩=some (GV GU x.info)/\w'.cell? ⟨p,2,none⟩=some (Gw Ai ni ci)) aj ⟨hbx2.cell rfl,(aK hB2 p 2 hpl).trans hwi⟩ (λhHeld=>?_);refine tkm [0,1,2,3,4,5,6,7,8] ?_;refine tk2 9 aj rfl λK hK=>?_
  go_simp;obtain⟨W3,hW3,hbr,aoj,hW3z⟩:=dI w1 3 #[GV GU x.info];rw[<-hW3];clear hW3;have adN:=hbx2.below aoj FI;have hB3:Below w.heap.size w W3:=hB2.trans (aoj.mono FI);clear hbx2 aoj hB2;refine hK.out _ _ ⟨adN.drew.cell rfl,(aK hB3.drew p 2 hpl).trans hwi⟩ (λhHeld=>?_);clear hK K;refine zcf ?_;intro K hK;go_simp;refine(rC _ (λb=>b=w1.heap.size) _ 0 ((ni:Int) - 1) [x.info] (Row.ints (l:=[x.info]) hbr.drew (F:=λb=>b=w1.heap.size) rfl (c:=1) aA) aA).mono ?_;rintro e w2 ⟨_,rfl,hb2,rfl⟩;have hbx4:=adN.drew.below hb2 aB;have hB4:Below w.heap.size w w2:=hB3.drew.trans (hb2.mono aB);clear adN hb2 hB3 hbr;dsimp only;refine hK.out _ _ ⟨hbx4.cell rfl,(aK hB4 p 2 hpl).trans hwi⟩ (λhHeld=>?_);clear hK K;refine Zb ?_;refine tkm [11] ?_;refine Z8 ?_;go_wp2
  go_ret;exact⟨_,rfl,hB4,by rw[HF2.o]; rfl⟩
 ·have hd:(er != 0)=true:=by simp[he]
  have HF2:=Ag (show dX aC ni x=er by rw[HF.o]; simp[he]);clear he;go_wp2
  go_ret;exact⟨_,rfl,hB2,by rw[HF2.o]; rfl⟩
theorem ane (w:GK) (F:Gq) (p:Nat) (ux:GN) (aC:Int) (ni:Nat) (x:Nd) (hw:CZ w p aC ni) (hx:Ce w F ux x) (hl:x.next.length < 1000000/\x.weights.length < 1000000/\x.pay.length < 1000000) (hpl:p < w.heap.size) :
  Calls GI 156 #[.pointer (some ⟨p,0,none⟩),ux] w (Ret w λv _=>v = GV GU (iG aC x)):=by
 obtain⟨v3,v4,v5,rfl,⟨A3,c3,rfl,hc3,h3⟩,⟨A4,c4,rfl,hc4,h4⟩,⟨A5,c5,rfl,hc5,h5⟩⟩:=hx;obtain⟨hl3,hl4,hl5⟩:=hl;have H5:=Ag (show AL w F (Gw A5 x.pay.length c5) x.pay from⟨A5,c5,rfl,hc5,h5⟩);clear h3 h4 h5;obtain⟨hwp,Ai,ci,hwi⟩:=hw;by_cases q0:x.aH≠0
 ·refine zcx ?_;intro HF;have d0:(x.aH != 0)=true:=neT FI;go_in;go_wp2
  go_quiet (fail)
  exact YJ
 have d0:(x.aH != 0)=false:=neF FI;by_cases q1:x.info≠0
 ·refine zcx ?_;intro HF;have d1:(x.info != 0)=true:=neT FI;go_in;go_wp2
  go_quiet (fail)
  exact YJ
 have d1:(x.info != 0)=false:=neF FI;by_cases q2:0 < x.next.length
 ·refine zcx ?_;intro HF;have d2:decide ((0:Int) < (x.next.length:Int))=true:=LK FI;go_in;go_wp2
  go_quiet (fail)
  exact YJ
 have d2:decide ((0:Int) < (x.next.length:Int))=false:=LJ FI;by_cases q3:0 < x.weights.length
 ·refine zcx ?_;intro HF;have d3:decide ((0:Int) < (x.weights.length:Int))=true:=LK FI;go_in;go_wp2
  go_quiet (fail)
  exact YJ
 have d3:decide ((0:Int) < (x.weights.length:Int))=false:=LJ FI;by_cases q4:(x.pay.length:Int)≠aC
 ·refine zcx ?_;intro HF;have d4:((x.pay.length:Int) != aC)=true:=neT FI;go_in;go_wp2
  go_quiet (fail)
  exact YJ
 have d4:((x.pay.length:Int) != aC)=false:=neF FI;have HF:=Ag (show iG aC x=iT (-1000000) 1000000 x.pay by unfold iG; rw[LG FI]; rfl);clear q0 q1 q4;go_in;go_wp2
 go_quiet (fail)
 go_wp2_with fail
 refine(rC _ F _ (-1000000) 1000000 x.pay ((H5.o.on (Same.alloc _ _ _)).on (Jv _ _ _)) FI).mono ?_;rintro e w' ⟨v,rfl,hb,rfl⟩;dsimp only;go_wp2
 go_ret;exact⟨_,rfl,(aG ((GR _ _).alloc (Gy _) _) _).trans (hb.mono aA),by rw[HF.o]; rfl⟩
def maxL (l:List Int):Int:=match l with | []=>0 | x :: r=>r.foldl max x
theorem ae4 (l:List Int) (a x:Int):(l ++ [x]).foldl max a=max (l.foldl max a) x:=aA
theorem anf (w:GK) (F:Gq) (v:GN) (l:List Int) (hv:AL w F v l) (h0:0 < l.length) (hl:l.length<=1000000) :
  Calls GI 132 #[v] w λe w'=>e = .returned (GV GU (maxL l))/\w'=w:=by
 obtain⟨A,c,rfl,hc,hN⟩:=hv;obtain⟨b,o,rfl,hbF,hb,hcell⟩:=hN h0;clear hN;obtain⟨y,hy⟩:=Gl h0;have e0:=hcell 0 y hy;unfold lU at e0;simp only[Jc,Jb] at e0;have HC:=Ag hcell;clear hcell;obtain⟨r,rfl⟩:∃ r,l=y :: r:=by cases l with | nil=>simp at h0 | cons a r=>simp at hy;exact⟨r,by rw[hy]⟩
 clear hy;have hd:decide (((y :: r).length:Int) < 1)=false:=LJ FI;have HM:=Ag (show maxL (y :: r)=r.foldl max y from rfl);generalize hL:(y :: r).length=L at *;have HL:=Ag hL;clear hL;go_in;go_wp2
 go_loopw [3,4] (λm i wr=>∃ k:Nat,1<=k/\k<=L/\i = GV GU k/\m = GV GU ((r.take (k - 1)).foldl max y)/\wr=w) (λ_ i _=>L - (intOf i).toNat)
 case atStart=>exact⟨1,FI,FI,rfl,rfl,rfl⟩
 case round =>
  obtain⟨k,hk1,hk,rfl,rfl,rfl⟩:=hrel;by_cases hlt:k < L
  ·obtain⟨x,hx⟩:=Gl (l:=y :: r) (k:=k) (by rw[HL.o]; exact hlt);have ex:=HC.o k x hx;unfold lU at ex; rw[Ho] at ex;have HS:=Ag (show(r.take k).foldl max y=max ((r.take (k - 1)).foldl max y) x by
    rw[<-ae4];congr 1;have:r[k - 1]? = some x:=by rw[<-hx];cases k with | zero=>omega | succ k=>simp
    have h:=Gv this;rwa [Nat.sub_add_cancel hk1] at h)
   clear hx e0;generalize (r.take (k - 1)).foldl max y=m at *;go_wp2
   go_roundw
   case rel=>exact⟨k+1,FI,FI,by go_num,by rw[Nat.add_sub_cancel,HS.o]; congr 1; rw[Int.max_def]; split <;> split <;> omega,trivial⟩
   case measure=>exact zMs
  ·go_wp2
   go_ret;refine⟨?_,rfl⟩;have:k=L:=FI;rw[HM.o,G8 (by rw[this,<-HL.o]; simp)];rfl
theorem aee (w:GK) (F:Gq) (v:GN) (l:List Int) (y:Int) (hv:AL w F v l) (hl:l.length<=1000000) :
  Calls GI 177 #[v,GV GU y] w λe w'=>e = .returned (GV GU (if y∈l then (l.idxOf y:Int) else -1))/\w'=w:=by
 obtain⟨A,c,rfl,hc,hN⟩:=hv;have HN:=Ag hN;clear hN;obtain⟨R,hR⟩:∃ R:Int,R=(if y∈l then (l.idxOf y:Int) else -1):=⟨_,rfl⟩;rw[<-hR];have HR:=Ag hR;clear hR;go_in;go_wp2
 go_loop [8] (λi=>∃ k:Nat,k<=l.length/\i = GV GU k/\∀ z∈l.take k,z≠y) (λi=>l.length - (intOf i).toNat)
 case atStart=>exact⟨0,FI,rfl,aA⟩
 case round =>
  obtain⟨k,hk,rfl,hp⟩:=hrel;have HP:=Ag hp;clear hp;by_cases hlt:k < l.length
  ·obtain⟨b,o,rfl,_,hb,hx⟩:=HN.o FI;refine zbt ?_;intro x hx' ex;unfold lU at ex;rw[Ho] at ex;have HX:=Ag hx';clear hx hx';by_cases he:y=x
   ·subst he;have HF:=Ag (show R=(k:Int) by
     rw[HR.o,LH (Gx HX.o)];have h1:l.idxOf y<=k:=by
      rcases Ku k (l.idxOf y) with h | h
      ·exfalso
       have:=List.not_of_lt_findIdx (xs:=l) (p:=(· == y)) (i:=k) h;have hq:l[k]'hlt=y:=by have:=HX.o;simpa [hlt] using this
       simp[hq] at this
      ·exact h
     have h2:¬ l.idxOf y < k:=by
      intro h;have hm:y∈l:=Gx HX.o;have hlt2:=List.idxOf_lt_length_iff.2 hm;exact HP.o y (List.mem_take_iff_getElem.2 ⟨l.idxOf y,FI,aA⟩) rfl
     omega)
    exact zaM
   ·have hd:(y==x)=false:=by simp[he]
    have HE:=Ag he;clear he;go_wp2
    go_round
    case rel =>
     refine⟨k+1,FI,by go_num,λz hz=>?_⟩;rw[Gv HX.o] at hz;simp at hz;rcases hz with hz | rfl
     ·exact HP.o z hz
     ·exact λh=>HE.o h.symm
    case measure=>exact zMs
  ·have HF:=Ag (show R = -1 by
    rw[HR.o,LG]; intro hm;have:=HP.o; rw[G8 FI] at this;exact this y hm rfl)
   exact zaM
theorem ae5 (w:GK) (F:Gq) (v:GN) (l:List Int) (y:Int) (hv:AL w F v l) (hl:l.length<=1000000) :
  Calls GI 157 #[v,GV GU y] w λe w'=>e = .returned (G7 (l.contains y))/\w'=w:=by
 have HV:=Ag hv;clear hv;go_in;go_wp2_with fail
 refine(aee w F v l y HV.o hl).mono ?_;rintro e w' ⟨rfl,rfl⟩;obtain⟨R,hR⟩:∃ R:Int,R=(if y∈l then (l.idxOf y:Int) else -1):=⟨_,rfl⟩;rw[<-hR];have HF:=Ag (show decide (0<=R)=l.contains y by
  rw[hR];by_cases h:y∈l
  ·simp[h]
  ·simp[h])
 clear hR;go_wp2
 go_ret;exact⟨by rw[<-HF.o]; rfl,rfl⟩
theorem ajO (w:GK) (x:Int):Calls GI 159 #[GV GU x] w λe w'=>e = .returned (G7 false)/\w'=w:=by
 have h:(x != x)=false:=aA;exact zbo
theorem als (w:GK) (x y:Int):Calls GI 178 #[GV GU x,GV GU y] w λe w'=>e = .returned (G7 (decide (x < y)))/\w'=w:=by
 go_in;go_wp2_with fail
 refine(ajO w x).mono ?_;rintro e w' ⟨rfl,rfl⟩;go_wp2
 go_ret;exact⟨rfl,rfl⟩
def gU:List Int->Bool
 | a :: b :: r=>decide (a<=b)&&gU (b :: r)
 | _=>true
theorem vK:∀ (l:List Int) (k:Nat),gU l=true->gU (l.drop k)=true
 | l,0,h=>h
 | [],k+1,h=>by simp[gU]
 | [a],k+1,h=>by simp[gU]
 | a :: b :: r,k+1,h=>by
  simp only[gU,Ib] at h;simp only[List.drop_succ_cons];exact vK (b :: r) k h.2
theorem aam {y:Int} (hx:l[k]? = some x) (hy:l[k+1]? = some y):gU (l.drop k)=(decide (x<=y)&&gU (l.drop (k+1))):=by
 have h1:=Gn hx;have h2:=Gn hy;have e1:l[k]=x:=by simpa [h1] using hx
 have e2:l[k+1]=y:=by simpa [h2] using hy
 rw[Jo h1,Jo h2,e1,e2];rfl
theorem agd (l:List Int):gU l=true↔∀ k x y,l[k]? = some x->l[k+1]? = some y->x<=y:=by
 constructor
 ·intro h k x y hx hy;have:=vK l k h;rw[aam hx hy] at this;grind
 ·induction l with
  | nil=>intro _; rfl
  | cons a r ih=>match r with
   | []=>intro _; rfl
   | b :: r=>intro h; simp only[gU,Ib,decide_eq_true_eq]; exact⟨h 0 a b rfl rfl,ih (λk x y hx hy=>h (k+1) x y (by simpa using hx) (by simpa using hy))⟩
theorem ae6 (w:GK) (F:Gq) (v:GN) (l:List Int) (hv:AL w F v l) (hl:l.length<=1000000) :
  Calls GI 158 #[v] w (Ret w λv _=>v = G7 (gU l)):=by
 obtain⟨A,c,rfl,hc,hN⟩:=hv;have HN:=Ag hN;clear hN;go_in;go_wp2
 go_loopw [3] (λi wr=>∃ k:Nat,k<=l.length/\i = GV GU ((k:Int) - 1)/\gU (l.drop (k - 1))=true/\∃ n,wr=w.drewN n) (λi _=>(intOf i+1).toNat)
 case atStart=>exact⟨l.length,FI,rfl,by cases h:l.length with | zero=>simp[List.length_eq_zero_iff.1 h,gU] | succ m=>(have hm:m < l.length:=by omega); simp[Jo hm,Ip (show l.length<=m+1 by omega),gU],0,rfl⟩
 case round =>
  obtain⟨k,hk,rfl,hp,nn,rfl⟩:=hrel;have HP:=Ag hp;clear hp;by_cases hlt:2<=k
  ·obtain⟨b,o,rfl,_,hb,hx⟩:=HN.o FI;obtain⟨q,rfl⟩:∃ q,k=q+2:=⟨k - 2,FI⟩;obtain⟨p,hpq⟩:=Gp (q+1);have hpl:p < l.length:=FI;have hql:q < l.length:=FI;obtain⟨x,hx'⟩:=Gl (l:=l) (k:=q) FI;obtain⟨y,hy'⟩:=Gl (l:=l) (k:=p) FI;have ex:=hx q x hx';have ey:=hx p y hy';unfold lU at ex ey;rw[Ho] at ex ey;have HS:=Ag (aam hx' (by rw[<-hpq]; exact hy'));clear hx hx' hy';have i1:(((q+2:Nat):Int) - 1)=(p:Int):=FI;have i2:((p:Int) - 1)=(q:Int):=FI;have wr2:IntKind.i64.wrap (q:Int)=(q:Int):=IY _ FI;have hp0:(0:Int) < (p:Int):=FI;rw[i1];have HPQ:=Ag hpq;clear hpq i1;go_wp2_with fail
   refine wp_region_held_drew (S:=λw'=>w'.cell? ⟨b,o+q,none⟩=some (GV GU x)/\w'.cell? ⟨b,o+p,none⟩=some (GV GU y)) aj ⟨ex,ey⟩ (λhHeld=>?_);refine tkm [0,1,2,3,4,5,6,7,8] ?_;refine tk2 9 aj rfl λK hK=>?_
   go_simp;refine(als _ y x).mono ?_;rintro e w1 ⟨rfl,rfl⟩;dsimp only;refine hK.out _ _ ⟨ex,ey⟩ (λhHeld=>?_);clear hK K;refine Zb ?_;refine Z8 ?_;clear hHeld ex ey;by_cases hyx:y < x
   ·have HF:=Ag (show gU l=false by
     cases h:gU l with
     | false=>rfl
     | true=>have:=vK l q h; rw[HS.o] at this; simp at this; omega)
    go_wp2
    go_ret;exact⟨_,rfl,aG (GR _ _) _,by first | rfl | (rw[HF.o]; rfl)⟩
   ·have hd:decide (y < x)=false:=LJ hyx;go_wp2
    go_roundw
    case rel =>
     have e:=HPQ.o;refine⟨q+1,FI,by first | rfl | (congr 1; omega),?_,_,rfl⟩;have:=HP.o;rw[Nat.add_sub_cancel,HS.o];simp only[Ib,decide_eq_true_eq];exact⟨FI,this⟩
    case measure=>exact zMs
  ·go_wp2
   go_ret;refine⟨_,rfl,aG (GR _ _) _,?_⟩;have:=HP.o;rw[show k - 1=0 by omega] at this;simp at this;rw[this];rfl
theorem abE {i:Int} {p:List Int} (hj:j < p.length) (hl:∀ c∈l,0<=c):(lM l i p)[j]? = if (j:Int)∈l then some i else p[j]?:=by
 unfold lM;induction l generalizing p with
 | nil=>simp
 | cons c l ih =>
   simp only[List.foldl_cons];rw[ih (by simpa using hj) (λd hd=>hl d (List.mem_cons_of_mem _ hd))];have hc:=hl c aA;grind
theorem ajP {g:Gm} (hg:Good g) {n:Nd} (hj:j < g.F7.length) (hp:g.F7[p]? = some n) (hc:(j:Int)∈n.next) (k:Nat):k<=g.F7.length->p < k->(qW g.F7 k)[j]? = some (p:Int):=by
 induction k with
 | zero=>grind
 | succ k ih =>
   intro hk hpk;obtain⟨m,hm⟩:=Gl (l:=g.F7) (k:=k) FI;rw[acz hm,abE (by rw[kQ]; exact hj) (λc hc=>(hg.ahL m (Gx hm) c hc).1)];by_cases h1:(j:Int)∈m.next
   ·have hpk':p=k:=hg.span.once.2 _ p k n m FI (Gn hp) FI FI hp hm hc h1;grind
   grind
theorem pz {g:Gm} (hg:Good g) {n:Nd} (hj:j < g.F7.length) (hp:g.F7[p]? = some n) (hc:(j:Int)∈n.next):(dO g.F7)[j]? = some (p:Int) :=
 ajP hg hj hp hc _ (Gy _) (Gn hp)
theorem lX {g:Gm} (hg:Good g) (h0:0 < j) (hj:j < g.F7.length):∃ p n,p < j/\g.F7[p]? = some n/\(j:Int)∈n.next:=by
 rcases hg.span.parent j FI hj with h | ⟨p,n,_,h1,h2,h3⟩
 all_goals grind
def Falls (N:Nat) (par:List Int):Prop:=∀ (i:Nat) (x:Int),i < N->par[i]? = some x→-1<=x/\x < (i:Int)
theorem ahP (F7:List Nd) (hk:∀ n∈F7,∀ c∈n.next,0 < c) (k:Nat):F7.length≠0->(qW F7 k)[0]? = some (-1):=by induction k <;> grind [qW,abE]
theorem yX {g:Gm} (hg:Good g):Falls g.F7.length (dO g.F7):=by
 intro i x hi hx;by_cases h0:i=0
 ·subst h0;have h1:=ahP g.F7 (λn hn c hc=>by
   obtain⟨k,hk⟩:=H9 hn;have:=hg.span.kids k n (Hg _) (Gn hk) hk c hc;omega) g.F7.length (by have:=hg.pos; omega)
  grind [dO]
 ·obtain⟨p,n,h1,h2,h3⟩:=lX hg FI hi;grind [pz]
theorem gY (F7:List Nd):(dO F7).length=F7.length:=kQ _ _
theorem Good.par {g:Gm} (hg:Good g) (hc:c < g.F7.length):∃ p:Int,(dO g.F7)[c]? = some p/\((c=0/\p = -1)\/∃ (q:Nat) (n:Nd),p=(q:Int)/\q < c/\g.F7[q]? = some n/\(c:Int)∈n.next):=by
 obtain⟨p,hp⟩:=Gl (l:=dO g.F7) (k:=c) (by rw[gY]; exact hc);refine⟨p,hp,?_⟩;by_cases h0:c=0
 ·subst h0;have:=yX hg 0 p hc hp;grind
 ·obtain⟨q,n,h1,h2,h3⟩:=lX hg FI hc;grind [pz]
def gu (pl:Int) (n:Nd) (c j:Nat):List (Int×Int):=if n.kind=2/\n.aH=pl then ((Ig j).filter λk=>decide (n.next[k]? = some (c:Int))).map λk:Nat=>(n.info,(k:Int)) else []
def jS (g:Gm) (pl:Int):Nat->Nat->List (Int×Int)
 | 0,_=>[]
 | f+1,c=>match (dO g.F7)[c]? with
  | some p=>if 0<=p then gu pl (g.F7.getD p.toNat default) c (g.F7.getD p.toNat default).next.length++jS g pl f p.toNat else []
  | none=>[]
def jB (g:Gm) (pl:Int) (c:Nat):List (Int×Int):=(jS g pl g.F7.length c).reverse
theorem kS {n:Nd} (h:¬ (n.kind=2/\n.aH=pl)):gu pl n c j = []:=LG h
theorem aan {n:Nd}:gu pl n c 0 = []:=by unfold gu; split <;> rfl
theorem acD {n:Nd} (h:n.kind=2/\n.aH=pl) (hj:n.next[j]? = some (c:Int)):gu pl n c (j+1)=gu pl n c j ++ [(n.info,(j:Int))]:=by grind [gu,JJ]
theorem abG {n:Nd} (hj:n.next[j]? = some x) (hx:x≠(c:Int)):gu pl n c (j+1)=gu pl n c j:=by grind [gu,JJ]
theorem wP {n:Nd}:(gu pl n c j).length<=j:=by grind [gu]
theorem nM {g:Gm} (hg:Good g):∀ f,jS g pl f 0 = []
 | 0=>rfl
 | f+1=>by
  obtain⟨p,hp,h | ⟨q,n,_,h,_⟩⟩:=hg.par hg.pos
  ·rw[jS,hp]; simp only; rw[LG FI]
  ·omega
theorem kT {g:Gm} (hg:Good g) {f:Nat} {n:Nd} (hc:c < g.F7.length) (hp:(dO g.F7)[c]? = some (q:Int)) (hn:g.F7[q]? = some n):jS g pl (f+1) c=gu pl n c n.next.length++jS g pl f q:=by grind [jS]
theorem ae7 {g:Gm} (hg:Good g):∀ (f f' c:Nat),c < g.F7.length->c<=f->c<=f'->jS g pl f c=jS g pl f' c:=by
 intro f;induction f with
 | zero=>grind [nM]
 | succ f ih =>
   intro f' c hc h1 h2;obtain⟨p,hp,h | ⟨q,n,rfl,h,hn,_⟩⟩:=hg.par hc
   ·grind
   ·obtain⟨f'',rfl⟩:∃ k,f'=k+1:=⟨f' - 1,FI⟩;rw[kT hg hc hp hn,kT hg hc hp hn,ih f'' q FI FI FI]
theorem aa4 {g:Gm} (hg:Good g):jB g pl 0 = []:=by grind [jB,nM]
theorem acE {g:Gm} (hg:Good g) {n:Nd} (hc:c < g.F7.length) (hp:(dO g.F7)[c]? = some (q:Int)) (hn:g.F7[q]? = some n) (hq:q < c):jB g pl c=jB g pl q++(gu pl n c n.next.length).reverse:=by
 unfold jB;obtain⟨N,hN⟩:∃ N,g.F7.length=N+1:=⟨g.F7.length - 1,FI⟩;rw[hN,kT hg hc hp hn,List.reverse_append,ae7 hg N (N+1) q FI FI FI]
theorem abH {g:Gm} (hg:Good g) (hs:Small g) {pl:Int}:∀ (f c:Nat),c < g.F7.length->(jS g pl f c).length<=100*c
 | 0,_,_=>Hg _
 | f+1,c,hc=>by
  obtain⟨p,hp,h | ⟨q,n,rfl,h,hn,_⟩⟩:=hg.par hc
  ·obtain⟨rfl,_⟩:=h; rw[nM hg]; exact Hg _
  ·have ih:=abH hg hs (pl:=pl) f q FI;have h1:=wP (pl:=pl) (n:=n) (c:=c) (j:=n.next.length);have h2:=hs.next n (Gx hn);rw[kT hg hc hp hn,List.length_append]; omega
theorem acF {g:Gm} (hg:Good g) (hs:Small g) (pl:Int) (hc:c < g.F7.length):(jB g pl c).length<=10000:=by
 have h1:=abH hg hs (pl:=pl) g.F7.length c hc;have h2:=hs.F7;grind [jB]
section
variable {P:Program} {md:Jl} {Q:Exit->Act->GK->Prop}
def lC (ops:Array Oper) (j:Nat) (oj:Oper) (af:Array Edge):Array Oper:=ops.setIfInBounds j { oj with after:=af }
theorem uI {af:Array Edge} (hj:ops[j]? = some oj):(lC ops j oj af)[k]? = if k=j then some { oj with after:=af } else ops[k]?:=by grind [lC]
theorem ae8 {af:Array Edge} (hj:ops[j]? = some oj) (tm:Array GN):yielded (lC ops j oj af) tm=yielded ops tm:=by
 funext k
 unfold yielded;grind [uI]
theorem aa5 {af:Array Edge} (hj:ops[j]? = some oj) {K:Act->GK->Prop} {w:GK} (h:wpOp P (lC ops j oj af) Q k K a w):wpOp P ops Q k K a w:=by
 unfold wpOp at h ⊢;rw[uI hj,ae8 hj] at h;by_cases hk:k=j
 ·subst hk;rw[LH rfl] at h;rw[hj];exact h
 grind
theorem rD {e:Edge} (hj:ops[j]? = some oj) (he:e.on=i) (h:k∈H8 md ops listed) (hk:k≠j\/listed.getD i false=true):k∈H8 md (lC ops j oj (oj.after.push e)) listed:=by
 obtain⟨h0,o,ho,hall⟩:=mem_ready.1 h;refine mem_ready.2 ⟨h0,?_⟩;grind [uI]
theorem ahQ {e:Edge} (hj:ops[j]? = some oj) (h:k∈H8 md (lC ops j oj (oj.after.push e)) listed):k∈H8 md ops listed:=by
 obtain⟨h0,o,ho,hall⟩:=mem_ready.1 h;refine mem_ready.2 ⟨h0,?_⟩;grind [uI]
theorem agf {t:Operand} (hop:oi.op = .extract t ix) (a:Act):(∃ v,∀ w,(execOp a.eval oi).run P w = .ok (.value v) w)\/(∃ m,∀ w,(execOp a.eval oi).run P w = .halt (.stuck m) w/\(execOp a.eval oi).runT P w #[]=(.halt (.stuck m) w,#[])):=by
 unfold execOp;rw[hop];simp only[Instr.extract];cases a.eval t with
 | tuple vs =>
  cases hx:vs[ix]? with
  | none=>simp only[hx]; exact .inr ⟨_,λ_=>⟨rfl,rfl⟩⟩
  | some v=>simp only[hx]; exact .inl ⟨v,λ_=>rfl⟩
 | _=>exact .inr ⟨_,λ_=>⟨rfl,rfl⟩⟩
theorem acG {t:Operand} (hi:ops[i]? = some oi) (hop:oi.op = .extract t ix) (hg:oi.guard=none) {K:Act->GK->Prop} {w:GK} (h:wpOp P ops Q i K a w):∃ v,Yields P ops oi v a/\K (a.put oi.dst v) w:=by
 unfold wpOp at h;rw[hi] at h;have hw:Jq oi (yielded ops a.tmps)=true:=by unfold Jq;rw[hg]
 simp only[hw,if_true] at h;unfold Oper.wp Oper.asks at h;rcases agf (P:=P) hop a with⟨v,hv⟩ | ⟨m,hm⟩
 ·rw[hv w] at h;rcases h with h | ⟨⟨h,_⟩,_⟩
  ·exact⟨v,.inl ⟨hw,hv⟩,h⟩
  ·exfalso
   have h2:((execOp a.eval oi).runT P w #[]).2 = #[]:=by
     unfold execOp;rw[hop];simp only[Instr.extract];cases a.eval t with
     | tuple vs =>
       cases hx:vs[ix]? with
       | none=>simp only[hx]; rfl
       | some v=>simp only[hx]; rfl
     | _=>rfl
   grind
 ·rw[(hm w).1,(hm w).2] at h;rcases h with h | ⟨⟨h,_⟩,_⟩
  ·exact h.elim
  ·simp at h
theorem ahR {t:Operand} {e:Edge} (hi:ops[i]? = some oi) (hj:ops[j]? = some oj) (hij:i≠j) (hop:oi.op = .extract t ix) (hg:oi.guard=none)
  (he:e.on=i) (hwait:∀ x∈oi.after,IG md x=true->∃ y∈oj.after,IG md y=true/\y.on=x.on)
  (hns:Jp ops=true) (hap:∀ k ok,ops[k]? = some ok->k≠i->(∀ e∈oi.after,IG md e=true->e.on≠k)->(∀ e∈ok.after,IG md e=true->e.on≠i)->oi.apart ops ok=true)
  (hQ:∀ v c a w,Q (.panic c) (a.put oi.dst v) w->Q (.panic c) a w) :
  ∀ (fuel:Nat) (listed:Array Bool) (a:Act) (w:GK),listed.size=ops.size->wpAny P md (lC ops j oj (oj.after.push e)) Q fuel listed a w->wpAny P md ops Q fuel listed a w:=by
 have hil:=(Array.getElem?_eq_some_iff.1 hi).1;have hcase:∀ (listed:Array Bool),listed.size=ops.size->listed.getD i true=false\/listed.getD i false=true:=by grind
 have hri:∀ (listed:Array Bool),listed.getD i true=false->j∈H8 md ops listed->i∈H8 md ops listed:=by
   intro listed h0 h;obtain⟨_,o,ho,hall⟩:=mem_ready.1 h;rw[hj] at ho;cases ho;refine mem_ready.2 ⟨h0,oi,hi,λx hx hb=>?_⟩;grind
 have hpre:∀ (listed:Array Bool),i∈H8 md ops listed->∀ k,listed.getD k true=false->∀ x∈oi.after,IG md x=true->x.on=k->False:=by
   intro listed h k hun x hx hb hxk;obtain⟨_,o,ho,hall⟩:=mem_ready.1 h;grind
 have hnil:∀ (listed:Array Bool),listed.size=ops.size->H8 md (lC ops j oj (oj.after.push e)) listed = []->H8 md ops listed = []:=by
   intro listed hs h;cases hr:H8 md ops listed with
   | nil=>rfl
   | cons k ks =>
     exfalso
     have hk:k∈H8 md ops listed:=by rw[hr];simp
     rcases hcase listed hs with hc | hc
     ·by_cases hkj:k=j
      ·subst hkj;have:=rD (e:=e) hj he (hri listed hc hk) (.inl hij);grind
      ·have:=rD (e:=e) hj he hk (.inl hkj);grind
     ·have:=rD (e:=e) hj he hk (.inr hc);grind
 intro fuel;induction fuel with
 | zero =>
   intro listed a w hs h;exact⟨hnil listed hs h.1,h.2⟩
 | succ fuel ih =>
   intro listed a w hs h;have plain:(∀ k∈H8 md ops listed,k≠j\/listed.getD i false=true)->wpAny P md ops Q (fuel+1) listed a w:=by
     intro hall;refine⟨λh0=>h.1 ?_,λk hk=>?_⟩
     ·cases hr:H8 md (lC ops j oj (oj.after.push e)) listed with
      | nil=>rfl
      | cons k ks =>
        have:=ahQ (e:=e) hj (listed:=listed) (k:=k) (md:=md) (by rw[hr]; simp);grind
     ·exact wpOp_mono (λa' w' h'=>ih _ a' w' (by simp[hs]) h') (aa5 hj (h.2 k (rD hj he hk (hall k hk))))
   rcases hcase listed hs with hc | hc
   ·by_cases hjr:j∈H8 md ops listed
    ·have hir:=hri listed hc hjr;obtain⟨v,hy,hk⟩:=acG hi hop hg (aa5 hj (h.2 i (rD hj he hir (.inl hij))));refine wpAny_first hi (Region.noSelect_spec hns) (hQ v) fuel listed a w (λk ok hk hki hun hno=>hap k ok hk hki (λx hx hb hxk=>hpre listed hir k hun x hx hb hxk) hno) hir hy (ih _ _ _ (by simp[hs]) hk)
    grind
   grind
theorem agh {af:Array Edge} (hi:ops[i]? = some oi) (haf:∀ e,IG md e=true->(e∈af↔e∈oi.after)) :
  ∀ (fuel:Nat) (listed:Array Bool) (a:Act) (w:GK),wpAny P md (lC ops i oi af) Q fuel listed a w->wpAny P md ops Q fuel listed a w:=by
 have hr:∀ (listed:Array Bool) (k:Nat),k∈H8 md (lC ops i oi af) listed↔k∈H8 md ops listed:=by
   intro listed k;rw[mem_ready,mem_ready,uI hi];grind
 have hn:∀ (listed:Array Bool),H8 md (lC ops i oi af) listed = []↔H8 md ops listed = []:=by
   intro listed;constructor <;> intro h <;> rw[List.eq_nil_iff_forall_not_mem] at h ⊢ <;> intro k hk
   all_goals grind
 intro fuel;induction fuel with
 | zero=>intro listed a w h; exact⟨(hn listed).1 h.1,h.2⟩
 | succ fuel ih =>
   intro listed a w h;exact⟨λh0=>h.1 ((hn listed).2 h0),λk hk=>wpOp_mono (λa' w' h'=>ih _ a' w' h') (aa5 hi (h.2 k ((hr listed k).2 hk)))⟩
theorem ab7 (S:GK->Prop) (n k i j:Nat) {t:Operand} {e:Edge} (af:Array Edge) (hi:L.toArray[i]? = some oi)
  (haf:(oi.after.all (λx=>!Region.binds .any x||af.any (λy=>y.on==x.on&&decide (y.ground=x.ground)))&&af.all (λx=>oi.after.any (λy=>y.on==x.on&&decide (y.ground=x.ground))))=true)
  (hj:(L.set i { oi with after:=af }).toArray[j]? = some oj) (hop:oi.op = .extract t ix) (hg:oi.guard=none) (he:e.on=i)
  (hc1:(decide (i≠j)&&decide (i < L.length)&&af.all (λx=>!Region.binds .any x||oj.after.any (λy=>IG .any y&&y.on==x.on))&&Jp (L.set i { oi with after:=af }).toArray&&(Ig L.length).all (λk=>k==i||af.any (λx=>IG .any x&&x.on==k)||match (L.set i { oi with after:=af }).toArray[k]? with | some ok=>ok.after.any (λx=>IG .any x&&x.on==i)||({ oi with after:=af }:Oper).apart (L.set i { oi with after:=af }).toArray ok | none=>true))=true)
  (hQ:∀ v c a w,Q (.panic c) (a.put oi.dst v) w->Q (.panic c) a w)
  (hm:P.follows .mixedOrders=true) (hL:L.length=n+k) (hc:(Ig k).all (λm=>qo (((L.set i { oi with after:=af }).set j { oj with after:=oj.after.push e }).take (n+m)).toArray&&wO .any (((L.set i { oi with after:=af }).set j { oj with after:=oj.after.push e }).take (n+m)).toArray (((L.set i { oi with after:=af }).set j { oj with after:=oj.after.push e }).getD (n+m) default))=true) {w:GK}
  (hS:S w.drew) (h:S w.drew->wpAnyH P .any (((L.set i { oi with after:=af }).set j { oj with after:=oj.after.push e }).take n).toArray (AY P Q ((L.set i { oi with after:=af }).set j { oj with after:=oj.after.push e }) k) S n (Ii n false) a w.drew):(Code.region id L.toArray true).wp P Q a w:=by
 refine wp_region_any hm ?_;simp only[Ib,decide_eq_true_eq] at hc1 haf;obtain⟨⟨⟨⟨hij,hil⟩,hw⟩,hns⟩,hf⟩:=hc1;have hsz:L.toArray.size=n+k:=by rw[Kr,hL]
 have e1:lC L.toArray i oi af=(L.set i { oi with after:=af }).toArray:=by unfold lC;rw[List.setIfInBounds_toArray]
 have hL':lC (L.set i { oi with after:=af }).toArray j oj (oj.after.push e)=((L.set i { oi with after:=af }).set j { oj with after:=oj.after.push e }).toArray:=by unfold lC;rw[List.setIfInBounds_toArray]
 have heq:∀ x y:Edge,(y.on==x.on&&decide (y.ground=x.ground))=true->y=x:=by
  intro x y h;obtain⟨a1,b1⟩:=x;obtain⟨a2,b2⟩:=y;simp only[Ib,beq_iff_eq,decide_eq_true_eq] at h;rw[h.1,h.2]
 refine agh (af:=af) hi (λx hb=>⟨λhx=>?_,λhx=>?_⟩) _ _ _ _ ?_
 ·have:=(Array.all_eq_true_iff_forall_mem.1 haf.2) x hx;obtain⟨y,hy,h2⟩:=Array.any_eq_true'.1 this;rw[<-heq x y h2];exact hy
 ·have:=(Array.all_eq_true_iff_forall_mem.1 haf.1) x hx;rw[hb] at this;simp only[Bool.not_true,Bool.false_or] at this;obtain⟨y,hy,h2⟩:=Array.any_eq_true'.1 this;rw[<-heq x y h2];exact hy
 rw[e1];have hi1:(L.set i { oi with after:=af }).toArray[i]? = some { oi with after:=af }:=by rw[<-e1,uI hi,LH rfl]
 refine ahR (oi:={ oi with after:=af }) hi1 hj hij hop hg he (λx hx hb=>?_) hns (λk' ok hk hki hnp hno=>?_) hQ _ _ _ _ aA ?_
 ·have:=(Array.all_eq_true_iff_forall_mem.1 hw) x hx;rw[hb] at this;simp only[Bool.not_true,Bool.false_or] at this;obtain⟨y,hy,h2⟩:=Array.any_eq_true'.1 this;simp only[Ib,beq_iff_eq] at h2;exact⟨y,hy,h2.1,h2.2⟩
 ·have hkl:=(Array.getElem?_eq_some_iff.1 hk).1;rw[Kr,Hy] at hkl;have h1:=List.all_eq_true.1 hf k' (List.mem_range.2 hkl);rw[hk] at h1;simp only[Bool.or_eq_true,beq_iff_eq] at h1;rcases h1 with(h1 | h1) | h1 | h1
  ·exact absurd h1 hki
  ·obtain⟨x,hx,h2⟩:=Array.any_eq_true'.1 h1;simp only[Ib,beq_iff_eq] at h2;exact absurd h2.2 (hnp x hx h2.1)
  ·obtain⟨x,hx,h2⟩:=Array.any_eq_true'.1 h1;simp only[Ib,beq_iff_eq] at h2;exact absurd h2.2 (hno x hx h2.1)
  ·exact h1
 ·rw[hL',hsz];refine qY n k (by rw[Hy,Hy,hL]) (λj hj=>?_) (wpAny_of_held _ _ _ _ (h hS));have:=List.all_eq_true.1 hc j (List.mem_range.2 hj);simpa using this
end
