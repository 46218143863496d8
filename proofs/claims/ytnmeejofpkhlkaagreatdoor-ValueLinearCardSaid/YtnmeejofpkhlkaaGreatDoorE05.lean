/- Part of a claim. -/
import Derived.Test.YtnmeejofpkhlkaaGreatDoorE04
import Derived.Deep.AppendLies
import Derived.Deep.RegionHeld3
import Derived.Test.YtnmeejofpkhlkaaGreatDoorE02
set_option linter.all false
set_option maxRecDepth 100000
set_option maxHeartbeats 12800000
namespace Go.Proofs.YtnmeejofpkhlkaaGreatDoor
open And renaming intro->Ij
open _root_.Array renaming getD_eq_getD_getElem?->Gw,getElem?_eq_none->JB,getElem?_push->Hl,getElem?_setIfInBounds->Ji,replicate->Ik
open Go.RowKit.Below renaming heap_alloc->KG,refl->F9
open Below renaming same'->FZ
open Bool renaming and_eq_true->GN
open Go.IntKind renaming i64->F5
open Go renaming Value->F7,World->FW
open Go.Value renaming bool->Gj,int->F6,slice->FQ
open Go.IntWalk renaming i64_in->GH
open List renaming drop_eq_getElem_cons->Ii,drop_eq_nil_of_le->GU,eq_nil_of_length_eq_zero->Hq,findIdx?_eq_none_iff->KC,flatMap_cons->Kt,getD_eq_getElem?_getD->FU,getElem?_of_mem->Gz,length_append->Gn,length_map->FX,map_append->GL,mem_cons_of_mem->GI,mem_of_getElem?->FT,range->Ir,replicate->F8,take_append_drop->JY,take_of_length_le->Gl
open Nat renaming add_mul->KO,add_zero->J7,le_refl->FV,lt_or_ge->Ip,lt_trichotomy->II,mul_one->Gp,zero_add->Iz,zero_le->GR,zero_mul->KF
open Go.Region renaming Mode->Jh,binds->Kz,ready->G7,wanted->IV
open Same renaming drewN->Jl
open Go.Proofs.Tryz renaming prog->FY
open Go.World renaming cell?_alloc_lt->KR
open Lib renaming hid → Ac
open Go.RowKit
variable {listed:Array Bool} {ops:Array Oper} {F:FI} {pl x:Int} {ls:List (List Int)} {cs l:List Int} {L:List Oper} {a b base c i id j k ni p q:Nat} {o:Oper} {t:TypeId}
abbrev Own (w:FW) (base:Nat) (t:TypeId) (v:F7) (xs:List F7):Prop:=w.ownsRow base t 1 v xs.length xs
theorem Own.ints {w:FW} {v:F7} (h:Own w base t v (l.map (Value.int .i64))) (hF:∀ b,v.ownBlock=some b->F b):Aj w F v l:=by
 have h':w.ownsRow base t 1 v l.length (l.map (Value.int .i64)):=by simpa [Own] using h
 rcases h'.2 with⟨rfl,h0⟩ | ⟨g,cap,cur,rfl,hb,hg,hnc,_,_,htake⟩
 ·have:l = []:=Hq h0;subst this;exact YN
 ·refine⟨_,cap,rfl,hnc,λ_=>⟨g,0,rfl,hF g rfl,(Array.getElem?_eq_some_iff.1 hg).1,λk x hk=>?_⟩⟩;unfold jP;have hlt:=FD hk;have:=h'.cellAt k EN;rw[show 0+k*1=k by omega,this];simp[hk]
structure OwnRows (w:FW) (base:Nat) (t:TypeId) (vs:List F7) (ls:List (List Int)):Prop where
 len:vs.length=ls.length
 own:∀ (j:Nat) (v:F7) (l:List Int),vs[j]? = some v->ls[j]? = some l->w.ownsRow base t 1 v l.length (l.map (Value.int .i64))
 apart:∀ (i j:Nat) (v u:F7),i≠j->vs[i]? = some v->vs[j]? = some u->v.ownBlock=none\/v.ownBlock≠u.ownBlock
theorem OwnRows.start (w:FW) (base:Nat) (t:TypeId) (n:Nat):OwnRows w base t (F8 n (FQ none 0 0)) (F8 n []):=by
 refine⟨aF,λj v l hv hl=>?_,λi j v u _ hv hu=>?_⟩
 ·have:=FT hv;have h2:=FT hl;rw[List.mem_replicate] at this h2;obtain⟨_,rfl⟩:=this;obtain⟨_,rfl⟩:=h2;exact World.ownsRow_nil _ _ _ _
 ·have:=FT hv;rw[List.mem_replicate] at this;obtain⟨_,rfl⟩:=this;exact .inl rfl
theorem OwnRows.kept {w w':FW} {vs:List F7} (h:OwnRows w base t vs ls) (hs:∀ b,base<=b->b < w.heap.size->w'.heap[b]? = w.heap[b]?):OwnRows w' base t vs ls:=by
 refine⟨h.len,λj v l hv hl=>?_,h.apart⟩;have ho:=h.own j v l hv hl;refine⟨ho.1,?_⟩;rcases ho.2 with hn | ⟨g,cap,cur,rfl,hb,hg,r⟩
 ·exact .inl hn
 ·exact .inr ⟨g,cap,cur,rfl,hb,by rw[hs g hb (Array.getElem?_eq_some_iff.1 hg).1]; exact hg,r⟩
theorem OwnRows.alloc {w:FW} {vs:List F7} (h:OwnRows w base t vs ls) (o:Obj):OwnRows (w.alloc o) base t vs ls :=
 h.kept λb _ hl=>KG w o b hl
theorem OwnRows.drew {w:FW} {vs:List F7} (h:OwnRows w base t vs ls):OwnRows w.drew base t vs ls:=h.kept λ_ _ _=>rfl
theorem OwnRows.setCell {w:FW} {vs:List F7} (h:OwnRows w base t vs ls) {p:Addr} (hp:p.block < base) (v:F7):OwnRows (w.setCell p v) base t vs ls :=
 h.kept λb hb _=>Below.heap_setCell w p v b EN
theorem OwnRows.put {w w1:FW} {vs:List F7} (h:OwnRows w base t vs ls) {v v':F7} (hv:vs[i]? = some v)
  (hown:w1.ownsRow base t 1 v' (l.length+1) (l.map (Value.int .i64) ++ [F6 F5 x])) (hg:w.grownBy w1 v.ownBlock) {g:Nat} (hvb:v'.ownBlock=some g) (hat:v.ownBlock=some g\/w.heap.size<=g) :
  OwnRows w1 base t (vs.set i v') (ls.set i (l ++ [x])):=by
 have hi:=FD hv;have key:∀ j u,i≠j->vs[j]? = some u->u.ownBlock=none\/u.ownBlock≠v'.ownBlock:=by
  intro j u hij hu;rcases h.apart j i u v (λe=>hij e.symm) hu hv with h1 | h1
  ·exact .inl h1
  ·rw[hvb];rcases hat with hat | hat
   ·right; rw[<-hat]; exact h1
   ·obtain⟨lj,hlj⟩:=FC (l:=ls) (k:=j) (by rw[<-h.len]; exact FD hu);have ho:=h.own j u lj hu hlj;cases hub:u.ownBlock with
    | none=>exact .inl rfl
    | some k =>
     right
     have:=(ho.lt k hub).2;intro e;injection e;omega
 refine⟨by simp[h.len],λj u m hu hm=>?_,λj k u z hjk hu hz=>?_⟩
 ·rw[List.getElem?_set] at hu hm;by_cases hij:i=j
  ·subst hij;rw[L8 rfl,L8 hi] at hu;rw[L8 rfl,L8 (by rw[<-h.len]; exact hi)] at hm;cases hu;cases hm
   simpa using hown
  ·rw[L6 hij] at hu hm;refine(h.own j u m hu hm).kept hg ?_;exact h.apart j i u v (λe=>hij e.symm) hu hv
 ·rw[List.getElem?_set] at hu hz;by_cases hij:i=j
  ·subst hij;rw[L8 rfl,L8 hi] at hu;rw[L6 hjk] at hz;cases hu
   rcases key k z hjk hz with h1 | h1
   ·right; rw[hvb,h1]; simp
   ·right; exact λe=>h1 e.symm
  ·rw[L6 hij] at hu;by_cases hik:i=k
   ·subst hik;rw[L8 rfl,L8 hi] at hz;cases hz;exact key j u hij hu
   ·rw[L6 hik] at hz;exact h.apart j k u z hjk hu hz
theorem OwnRows.rows {w:FW} {t':TypeId} {vs:List F7} (h:OwnRows w base t vs ls) (hr:Row w b t' vs) (hb:F b) (hF:∀ k,base<=k->F k) (hc:ls.length<=c) :
  Bg w F (FQ (some ⟨b,0,none⟩) ls.length c) ls:=by
 refine⟨_,c,rfl,hc,λ_=>⟨b,0,rfl,hb,hr.lt,λk x hk=>?_⟩⟩;obtain⟨v,hv⟩:=FC (l:=vs) (k:=k) (by rw[h.len]; exact FD hk);refine⟨v,by rw[show 0+k*1=k by omega]; exact hr.cell hv,?_⟩;have ho:=h.own k v x hv hk;exact Own.ints (by simpa [Own] using ho) λb hb=>hF b (ho.lt b hb).1
theorem aeM {w:FW} {a:Act} {K:Act->FW->Prop} {Q:Exit->Act->FW->Prop} {E:Prop} (hgd:o.guard=none) (s x:Operand)
  (ho:o.op = .call { callee:=.builtin .append,args:=#[s,x],argTypes:=#[22,22] })
  (base:Nat) (v:F7) (l:List Int) (hs:a.eval s=v) (hown:w.ownsRow base 3 1 v l.length (l.map (Value.int .i64)))
  (B:Nat) (y:Int) (hx:a.eval x = FQ (some ⟨B,0,none⟩) 1 1) (hB:w.heap[B]? = some (.cells #[F6 F5 y] 3 (0,0))) (hlen:l.length<=1000000) (hbase:base<=w.heap.size)
  (h:∀ g cap w',w'.ownsRow base 3 1 (FQ (some ⟨g,0,none⟩) (l.length+1) cap) (l.length+1) (l.map (Value.int .i64) ++ [F6 F5 y])->w.grownBy w' v.ownBlock->(v.ownBlock=some g\/w.heap.size<=g)->g < w'.heap.size ->
   K (a.put o.dst (FQ (some ⟨g,0,none⟩) (l.length+1) cap)) w') :
  if IV o (yielded ops a.tmps)=true then Oper.wp FY o a w K Q else E:=by
 obtain⟨i0,hi,hz0,hz1,hz2⟩:=info_parts Tryz.infoInt;refine step_append_lies w hgd s x _ ho base _ i0 _ 1 8 Tryz.underlying22 hi hz0 hz1 hz2 rfl EN v l.length _ hs hown ⟨B,0,none⟩ 1 1 [F6 F5 y] hx rfl (World.news_of_block hB) (by simp[Value.oneCell']) EN (by unfold maxLen; omega) EN hbase w.heap.size rfl ?_;intro g cap w' h1 h2 h3 h4;exact h g cap w' h1 h2 (h3.imp id λe=>by omega) h4
def iq (Fg:List Nd) (ni:Nat):Nat->List (List Int)
 | 0=>F8 ni []
 | k+1=>match Fg[k]? with
  | some n=>if n.kind=2 then (iq Fg ni k).set n.info.toNat ((iq Fg ni k).getD n.info.toNat [] ++ [(k:Int)]) else iq Fg ni k
  | none=>iq Fg ni k
def dK (g:Gm):List (List Int):=iq g.Fg g.Fh.length g.Fg.length
theorem fE (Fg:List Nd) (ni k:Nat):(iq Fg ni k).length=ni:=by
 induction k with
 | zero=>simp[iq]
 | succ k ih =>
  unfold iq;split
  ·split
   ·rw[List.length_set,ih]
   ·exact ih
  ·exact ih
theorem aa5 {Fg:List Nd} {n:Nd} (h:Fg[k]? = some n) (hk:n.kind=2) (hl:(iq Fg ni k)[n.info.toNat]? = some l):iq Fg ni (k+1)=(iq Fg ni k).set n.info.toNat (l ++ [(k:Int)]):=by
 simp[iq,h,hk,hl,FU]
theorem aa6 {Fg:List Nd} {n:Nd} (h:Fg[k]? = some n) (hk:¬ n.kind=2):iq Fg ni (k+1)=iq Fg ni k:=by
 simp[iq,h,hk]
theorem acd {Fg:List Nd}:∀ l∈iq Fg ni k,l.length<=k:=by
 induction k with
 | zero=>intro l hl; simp[iq] at hl; simp[hl.2]
 | succ k ih =>
  intro l hl;unfold iq at hl;split at hl
  ·split at hl
   ·rcases List.mem_or_eq_of_mem_set hl with h | h
    ·have:=ih l h;omega
    ·rename_i n _ _
     subst h;rw[Gn];rcases Ip n.info.toNat (iq Fg ni k).length with hlt | hge
     ·have:=ih ((iq Fg ni k).getD n.info.toNat []) (by rw[FU]; simp[hlt]);simp;simp at this;omega
     ·rw[FU,List.getElem?_eq_none hge];simp
   ·have:=ih l hl;omega
  ·have:=ih l hl;omega
def BN (g:Gm):Prop:=∀ n∈g.Fg,n.kind=2->0<=n.info/\n.info < (g.Fh.length:Int)
section
variable {P:Program} {md:Jh} {Q:Exit->Act->FW->Prop}
def CU (P:Program) (Q:Exit->Act->FW->Prop) (ops:Array Oper) (o:Oper):Exit->Act->FW->Prop
 | .normal,a,w=>wpList P ops Q [o] a w
 | e,a,w=>Q e a w
theorem adR {oi:Oper} {a:Act} {K:Act->FW->Prop} {r:Result Next} (h:oi.upon P a K (CU P Q ops o) r):oi.upon P a K Q r:=by
 unfold Oper.upon at h ⊢;split at h <;> exact h
def rW (ops:Array Oper):Bool:=(Ir ops.size).all λi=>match ops[i]? with
 | some o=>o.after.all (λe=>decide (e.on < i))&&(match o.guard with | some (j,_)=>decide (j < i) | none=>true)
 | none=>true
def lastB (md:Jh) (ops:Array Oper) (o:Oper):Bool:=o.after.all (λe=>decide (e.on < ops.size))&&(Ir ops.size).all λi=>o.after.any λe=>Kz md e&&e.on==i
theorem kE (hs:listed.size=ops.size) (hb:rW ops=true) (hi:i < ops.size) :
  i∈G7 md (ops.push o) (listed.push false)↔i∈G7 md ops listed:=by
 rw[mem_ready,mem_ready];have e1:(ops.push o)[i]? = ops[i]?:=by rw[Hl];rw[L6 EN]
 have e2:∀ j d,j < ops.size->(listed.push false).getD j d=listed.getD j d:=by
  intro j d hj;simp only[Gw,Hl];rw[L6 EN]
 rw[e1,e2 i true hi];constructor
 ·rintro⟨h1,oi,ho,h2⟩;refine⟨h1,oi,ho,λe he hbd=>?_⟩;have h3:=h2 e he hbd;have hlt:e.on < i:=by
   have:=List.all_eq_true.1 hb i (List.mem_range.2 hi);rw[ho] at this;simp only[GN] at this;have:=Array.all_eq_true'.1 this.1 e he;simpa using this
  rwa [e2 _ _ EN] at h3
 ·rintro⟨h1,oi,ho,h2⟩;refine⟨h1,oi,ho,λe he hbd=>?_⟩;have hlt:e.on < i:=by
   have:=List.all_eq_true.1 hb i (List.mem_range.2 hi);rw[ho] at this;simp only[GN] at this;have:=Array.all_eq_true'.1 this.1 e he;simpa using this
  rw[e2 _ _ EN];exact h2 e he hbd
theorem oH (hs:listed.size=ops.size) (hb:rW ops=true) (hr:G7 md ops listed = []):∀ i,i < ops.size->listed.getD i false=true:=by
 intro i;induction i using Nat.strongRecOn with
 | _ i ih =>
  intro hi;by_cases hl:listed.getD i true=false
  ·exfalso
   have:i∈G7 md ops listed:=by
    rw[mem_ready];refine⟨hl,ops[i],by simp[hi],λe he _=>?_⟩;have h:=List.all_eq_true.1 hb i (List.mem_range.2 hi);rw[show ops[i]? = some ops[i] by simp[hi]] at h;simp only[GN] at h;have:=Array.all_eq_true'.1 h.1 e he;have hlt:e.on < i:=by simpa using this
    exact ih e.on hlt EN
   rw[hr] at this;cases this
  ·have hi':i < listed.size:=EN;simp[hi'] at hl ⊢;exact hl
theorem ahm (hb:rW ops=true) (hl:lastB md ops o=true) :
  ∀ (fuel:Nat) (listed:Array Bool) (a:Act) (w:FW),listed.size=ops.size->wpAny P md ops (CU P Q (ops.push o) o) fuel listed a w->wpAny P md (ops.push o) Q (fuel+1) (listed.push false) a w:=by
 have fin:∀ (fuel:Nat) (listed:Array Bool) (a:Act) (w:FW),listed.size=ops.size->G7 md ops listed = []->wpList P (ops.push o) Q [o] a w->wpAny P md (ops.push o) Q (fuel+1) (listed.push false) a w:=by
  intro fuel listed a w hs hr h;have hall:=oH hs hb hr;have hmem:∀ i,i∈G7 md (ops.push o) (listed.push false)↔i=ops.size:=by
   intro i;constructor
   ·intro hi;rcases II i ops.size with h1 | h1 | h1
    ·rw[kE hs hb h1,hr] at hi;cases hi
    ·exact h1
    ·rw[mem_ready] at hi;obtain⟨_,oi,ho,_⟩:=hi;rw[JB aG] at ho;cases ho
   ·rintro rfl;rw[mem_ready];refine⟨by rw[<-hs]; simp[Gw],o,aF,λe he hbd=>?_⟩;by_cases hlt:e.on < ops.size
    ·have:=hall e.on hlt;simp only[Gw,Hl];rw[L6 EN];simpa [Gw] using this
    ·exfalso
     simp only[lastB,GN] at hl;have:=Array.all_eq_true'.1 hl.1 e he;simp at this;omega
  refine⟨λh0=>absurd ((hmem ops.size).2 rfl) (by rw[h0]; simp),λi hi=>?_⟩;have:=(hmem i).1 hi;subst this;unfold wpList at h;unfold wpOp;simp only[Array.getElem?_push_size];have hend:∀ a w,wpList P (ops.push o) Q [] a w->wpAny P md (ops.push o) Q fuel ((listed.push false).setIfInBounds ops.size true) a w:=by
   intro a w hq;refine wpAny_done ?_ hq fuel;cases hrr:G7 md (ops.push o) ((listed.push false).setIfInBounds ops.size true) with
   | nil=>rfl
   | cons k ks =>
    have hk:k∈G7 md (ops.push o) ((listed.push false).setIfInBounds ops.size true):=by rw[hrr];simp
    obtain⟨h1,oi,ho,_⟩:=mem_ready.1 hk;have hlt:=(Array.getElem?_eq_some_iff.1 ho).1;simp only[Array.size_push] at hlt;exfalso
    rcases Ip k ops.size with h2 | h2
    ·have h3:=hall k h2;have hk':k < listed.size:=EN;simp only[Gw,Ji,Hl] at h1 h3;rw[L6 EN,L6 EN] at h1;simp[hk'] at h1 h3;rw[h1] at h3;cases h3
    ·have:k=ops.size:=EN;subst this;rw[<-hs] at h1;simp[Gw] at h1
  split
  ·rename_i hw
   rw[L8 hw] at h;rcases h with h | h
   ·exact .inl (Oper.wp_mono hend h)
   ·exact .inr h
  ·rename_i hw
   rw[L6 hw] at h;exact hend _ _ h
 intro fuel;induction fuel with
 | zero =>
  intro listed a w hs h;exact fin 0 listed a w hs h.1 h.2
 | succ fuel ih =>
  intro listed a w hs h;by_cases hr:G7 md ops listed = []
  ·exact fin _ listed a w hs hr (h.1 hr)
  ·refine⟨λh0=>?_,λi hi=>?_⟩
   ·exfalso
    obtain⟨i,hi⟩:=List.exists_mem_of_ne_nil _ hr;have hlt:i < ops.size:=by
     have:=mem_ready.1 hi;obtain⟨_,oi,ho,_⟩:=this;exact(Array.getElem?_eq_some_iff.1 ho).1
    rw[<-kE (o:=o) hs hb hlt,h0] at hi;cases hi
   ·have hlt:i < ops.size:=by
     rcases II i ops.size with h1 | h1 | h1
     ·exact h1
     ·subst h1;exfalso
      apply hr
      have hall:∀ j,j < ops.size->listed.getD j true=true:=by
       intro j hj;have:=List.all_eq_true.1 ((GN _ _).mp hl).2 j (List.mem_range.2 hj);obtain⟨e,he,hbd⟩:=Array.any_eq_true'.1 this;simp only[GN,beq_iff_eq] at hbd;obtain⟨_,oi,ho,h2⟩:=mem_ready.1 hi;have:oi=o:=by simpa using ho.symm
       subst this;have h3:=h2 e he hbd.1;rw[hbd.2] at h3;have hj':j < listed.size:=EN;simp only[Gw,Hl] at h3 ⊢;rw[L6 EN] at h3;simpa [hj'] using h3
      cases hrr:G7 md ops listed with
      | nil=>rfl
      | cons k ks =>
       have hk:k∈G7 md ops listed:=by rw[hrr];simp
       obtain⟨h1,oi,ho,_⟩:=mem_ready.1 hk;rw[hall k (Array.getElem?_eq_some_iff.1 ho).1] at h1;cases h1
     ·rw[mem_ready] at hi;obtain⟨_,oi,ho,_⟩:=hi;rw[JB aG] at ho;cases ho
    have hi':=(kE (o:=o) hs hb hlt).1 hi;have hop:=h.2 i hi';have e1:(ops.push o)[i]? = ops[i]?:=by rw[Hl,L6 EN]
    have hset:(listed.push false).setIfInBounds i true=(listed.setIfInBounds i true).push false:=by
     apply Array.ext_getElem?
     intro j;refine zb6 ?_;by_cases h1:i=j
     ·subst h1;rw[L8 rfl,L8 EN,L6 EN,L8 rfl,L8 EN]
     ·rw[L6 h1,L6 h1]
    unfold wpOp at hop ⊢;rw[e1];cases ho:ops[i]? with
    | none=>rw[ho] at hop; simp only at hop ⊢; rw[hset]; exact ih _ _ _ (by simp[hs]) hop
    | some oi =>
     rw[ho] at hop;simp only at hop ⊢;have hg:IV oi (yielded (ops.push o) a.tmps)=IV oi (yielded ops a.tmps):=by
      unfold IV;have hbi:=List.all_eq_true.1 hb i (List.mem_range.2 hlt);rw[ho] at hbi;simp only[GN] at hbi;cases hgd:oi.guard with
      | none=>rfl
      | some jw =>
       obtain⟨j,want⟩:=jw;rw[hgd] at hbi;have hj:j < i:=by simpa using hbi.2
       simp only[yielded];rw[Hl,L6 EN]
     rw[hg];split
     ·rename_i hw
      rw[L8 hw] at hop;rcases hop with hop | hop
      ·refine .inl ?_;have:=Oper.wp_mono (K':=wpAny P md (ops.push o) Q (fuel+1) ((listed.push false).setIfInBounds i true)) (λa' w' h'=>by rw[hset]; exact ih _ _ _ (by simp[hs]) h') hop;exact adR this
      ·exact .inr hop
     ·rename_i hw
      rw[L6 hw] at hop;rw[hset];exact ih _ _ _ (by simp[hs]) hop
theorem aa7 (n:Nat) (hn:L.drop n = [o]) (hb:rW (L.take n).toArray=true) (hl:lastB md (L.take n).toArray o=true) {a:Act} {w:FW}
  (h:wpAny P md (L.take n).toArray (CU P Q L.toArray o) n (Ik n false) a w):wpAny P md L.toArray Q (n+1) (Ik (n+1) false) a w:=by
 have hlen:L.length=n+1:=by
  exact zdU
 have hL:L.toArray=(L.take n).toArray.push o:=by
  rw[List.push_toArray,<-hn,JY]
 have hs:(L.take n).toArray.size=n:=aG;rw[hL] at h ⊢;rw[Array.replicate_succ];exact ahm hb hl n _ a w (by simp[hs]) h
theorem alm {o':Oper} (S:FW->Prop) (n:Nat) (hm:P.follows .mixedOrders=true) (hn:L.drop (n+1) = [o']) (hn':(L.take (n+1)).drop n = [o]) (hb:rW (L.take (n+1)).toArray=true) (hl:lastB .any (L.take (n+1)).toArray o'=true)
  (hb':rW ((L.take (n+1)).take n).toArray=true) (hl':lastB .any ((L.take (n+1)).take n).toArray o=true) {a:Act} {w:FW}
  (_hS:S w.drew) (h:wpAnyH P .any ((L.take (n+1)).take n).toArray (CU P (CU P Q L.toArray o') (L.take (n+1)).toArray o) S n (Ik n false) a w.drew):(Code.region id L.toArray true).wp P Q a w:=by
 have hlen:L.length=n+1+1:=by
  exact zdU
 refine wp_region_any hm ?_;rw[List.size_toArray,hlen];exact aa7 (n+1) hn hb hl (aa7 n hn' hb' hl' (wpAny_of_held _ _ _ _ h))
end
section
variable {P:Program} {md:Jh}
def needs (md:Jh) (ops:Array Oper):Nat->Oper->Nat->Bool
 | 0,o,i=>o.after.any λe=>Kz md e&&e.on==i
 | f+1,o,i=>o.after.any λe=>Kz md e&&(e.on==i||match ops[e.on]? with | some o'=>needs md ops f o' i | none=>false)
def Down (md:Jh) (ops:Array Oper) (listed:Array Bool):Prop:=∀ i o,ops[i]? = some o->listed.getD i false=true->∀ e∈o.after,Kz md e=true->listed.getD e.on false=true
theorem zG {ops:Array Oper} {listed:Array Bool} (hd:Down md ops listed):∀ (f:Nat) (o:Oper) (i:Nat),(∀ e∈o.after,Kz md e=true->listed.getD e.on false=true)->needs md ops f o i=true->listed.getD i false=true
 | 0,o,i,h,hn=>by
  obtain⟨e,he,hb⟩:=Array.any_eq_true'.1 hn;simp only[GN,beq_iff_eq] at hb;rw[<-hb.2]; exact h e he hb.1
 | f+1,o,i,h,hn=>by
  obtain⟨e,he,hb⟩:=Array.any_eq_true'.1 hn;simp only[GN,Bool.or_eq_true,beq_iff_eq] at hb;have h1:=h e he hb.1;rcases hb.2 with h2 | h2
  ·rw[<-h2]; exact h1
  ·cases ho:ops[e.on]? with
   | none=>rw[ho] at h2; cases h2
   | some o' =>
    rw[ho] at h2;exact zG hd f o' i (λe' he' hb'=>hd e.on o' ho h1 e' he' hb') h2
def adS (md:Jh) (ops:Array Oper) (o:Oper):Bool:=o.after.all (λe=>decide (e.on < ops.size))&&(Ir ops.size).all λi=>needs md ops ops.size o i
theorem ahn (hs:listed.size=ops.size) (hd:Down md ops listed) (hi:i∈G7 md ops listed):Down md ops (listed.setIfInBounds i true):=by
 obtain⟨_,oi,hoi,hall⟩:=mem_ready.1 hi;have mono:∀ k,listed.getD k false=true->(listed.setIfInBounds i true).getD k false=true:=by
  intro k hk;simp only[Gw,Ji] at hk ⊢;by_cases hik:i=k
  ·subst hik;rw[L8 rfl];by_cases hlt:i < listed.size
   ·simp[hlt]
   ·simp[hlt] at hk
  ·rw[L6 hik];exact hk
 intro j o ho hj e he hb;by_cases hij:i=j
 ·subst hij;rw[hoi] at ho;cases ho;exact mono _ (hall e he hb)
 ·refine mono _ (hd j o ho ?_ e he hb);simp only[Gw,Ji] at hj ⊢;rw[L6 hij] at hj;exact hj
variable {Q:Exit->Act->FW->Prop}
theorem afS (hb:rW ops=true) (hl:adS md ops o=true) :
  ∀ (fuel:Nat) (listed:Array Bool) (a:Act) (w:FW),listed.size=ops.size->Down md ops listed->wpAny P md ops (CU P Q (ops.push o) o) fuel listed a w->wpAny P md (ops.push o) Q (fuel+1) (listed.push false) a w:=by
 have hl1:=((GN _ _).mp hl).1;have hl2:=((GN _ _).mp hl).2;have waits:∀ (listed:Array Bool),listed.size=ops.size->Down md ops listed->ops.size∈G7 md (ops.push o) (listed.push false)->∀ j,j < ops.size->listed.getD j false=true:=by
  intro listed hs hd hi j hj;obtain⟨_,oi,ho,h2⟩:=mem_ready.1 hi;have:oi=o:=by simpa using ho.symm
  subst this;refine zG hd ops.size oi j (λe he hbd=>?_) (List.all_eq_true.1 hl2 j (List.mem_range.2 hj));have h3:=h2 e he hbd;have hlt:e.on < ops.size:=by simpa using Array.all_eq_true'.1 hl1 e he
  simp only[Gw,Hl] at h3 ⊢;rw[L6 EN] at h3;exact h3
 have fin:∀ (fuel:Nat) (listed:Array Bool) (a:Act) (w:FW),listed.size=ops.size->G7 md ops listed = []->wpList P (ops.push o) Q [o] a w->wpAny P md (ops.push o) Q (fuel+1) (listed.push false) a w:=by
  intro fuel listed a w hs hr h;have hall:=oH hs hb hr;have hmem:∀ i,i∈G7 md (ops.push o) (listed.push false)↔i=ops.size:=by
   intro i;constructor
   ·intro hi;rcases II i ops.size with h1 | h1 | h1
    ·rw[kE hs hb h1,hr] at hi;cases hi
    ·exact h1
    ·obtain⟨_,oi,ho,_⟩:=mem_ready.1 hi;rw[JB aG] at ho;cases ho
   ·rintro rfl;rw[mem_ready];refine⟨by rw[<-hs]; simp[Gw],o,aF,λe he hbd=>?_⟩;have hlt:e.on < ops.size:=by simpa using Array.all_eq_true'.1 hl1 e he
    have:=hall e.on hlt;simp only[Gw,Hl];rw[L6 EN];simpa [Gw] using this
  refine⟨λh0=>absurd ((hmem ops.size).2 rfl) (by rw[h0]; simp),λi hi=>?_⟩;have:=(hmem i).1 hi;subst this;unfold wpList at h;unfold wpOp;simp only[Array.getElem?_push_size];have hend:∀ a w,wpList P (ops.push o) Q [] a w->wpAny P md (ops.push o) Q fuel ((listed.push false).setIfInBounds ops.size true) a w:=by
   intro a w hq;refine wpAny_done ?_ hq fuel;cases hrr:G7 md (ops.push o) ((listed.push false).setIfInBounds ops.size true) with
   | nil=>rfl
   | cons k ks =>
    have hk:k∈G7 md (ops.push o) ((listed.push false).setIfInBounds ops.size true):=by rw[hrr];simp
    obtain⟨h1,oi,ho,_⟩:=mem_ready.1 hk;have hlt:=(Array.getElem?_eq_some_iff.1 ho).1;simp only[Array.size_push] at hlt;exfalso
    rcases Ip k ops.size with h2 | h2
    ·have h3:=hall k h2;have hk':k < listed.size:=EN;simp only[Gw,Ji,Hl] at h1 h3;rw[L6 EN,L6 EN] at h1;simp[hk'] at h1 h3;rw[h1] at h3;cases h3
    ·have:k=ops.size:=EN;subst this;rw[<-hs] at h1;simp[Gw] at h1
  split
  ·rename_i hw
   rw[L8 hw] at h;rcases h with h | h
   ·exact .inl (Oper.wp_mono hend h)
   ·exact .inr h
  ·rename_i hw
   rw[L6 hw] at h;exact hend _ _ h
 intro fuel;induction fuel with
 | zero =>
  intro listed a w hs _ h;exact fin 0 listed a w hs h.1 h.2
 | succ fuel ih =>
  intro listed a w hs hd h;by_cases hr:G7 md ops listed = []
  ·exact fin _ listed a w hs hr (h.1 hr)
  ·refine⟨λh0=>?_,λi hi=>?_⟩
   ·exfalso
    obtain⟨i,hi⟩:=List.exists_mem_of_ne_nil _ hr;have hlt:i < ops.size:=by
     obtain⟨_,oi,ho,_⟩:=mem_ready.1 hi;exact(Array.getElem?_eq_some_iff.1 ho).1
    rw[<-kE (o:=o) hs hb hlt,h0] at hi;cases hi
   ·have hlt:i < ops.size:=by
     rcases II i ops.size with h1 | h1 | h1
     ·exact h1
     ·subst h1;exfalso
      apply hr
      have hall:=waits listed hs hd hi;cases hrr:G7 md ops listed with
      | nil=>rfl
      | cons k ks =>
       have hk:k∈G7 md ops listed:=by rw[hrr];simp
       obtain⟨h1,oi,ho,_⟩:=mem_ready.1 hk;have hkl:=(Array.getElem?_eq_some_iff.1 ho).1;have h3:=hall k hkl;have hk':k < listed.size:=EN;simp[hk'] at h1 h3;rw[h1] at h3;cases h3
     ·obtain⟨_,oi,ho,_⟩:=mem_ready.1 hi;rw[JB aG] at ho;cases ho
    have hi':=(kE (o:=o) hs hb hlt).1 hi;have hd':=ahn hs hd hi';have hop:=h.2 i hi';have e1:(ops.push o)[i]? = ops[i]?:=by rw[Hl,L6 EN]
    have hset:(listed.push false).setIfInBounds i true=(listed.setIfInBounds i true).push false:=by
     apply Array.ext_getElem?
     intro j;refine zb6 ?_;by_cases h1:i=j
     ·subst h1;rw[L8 rfl,L8 EN,L6 EN,L8 rfl,L8 EN]
     ·rw[L6 h1,L6 h1]
    unfold wpOp at hop ⊢;rw[e1];cases ho:ops[i]? with
    | none=>rw[ho] at hop; simp only at hop ⊢; rw[hset]; exact ih _ _ _ (by simp[hs]) hd' hop
    | some oi =>
     rw[ho] at hop;simp only at hop ⊢;have hg:IV oi (yielded (ops.push o) a.tmps)=IV oi (yielded ops a.tmps):=by
      unfold IV;have hbi:=List.all_eq_true.1 hb i (List.mem_range.2 hlt);rw[ho] at hbi;simp only[GN] at hbi;cases hgd:oi.guard with
      | none=>rfl
      | some jw =>
       obtain⟨j,want⟩:=jw;rw[hgd] at hbi;have hj:j < i:=by simpa using hbi.2
       simp only[yielded];rw[Hl,L6 EN]
     rw[hg];split
     ·rename_i hw
      rw[L8 hw] at hop;rcases hop with hop | hop
      ·refine .inl ?_;have:=Oper.wp_mono (K':=wpAny P md (ops.push o) Q (fuel+1) ((listed.push false).setIfInBounds i true)) (λa' w' h'=>by rw[hset]; exact ih _ _ _ (by simp[hs]) hd' h') hop;exact adR this
      ·exact .inr hop
     ·rename_i hw
      rw[L6 hw] at hop;rw[hset];exact ih _ _ _ (by simp[hs]) hd' hop
theorem ajJ (ops:Array Oper) (n:Nat):Down md ops (Ik n false):=by
 intro i o _ h;simp only[Gw,Array.getElem?_replicate] at h;split at h <;> simp at h
theorem aeN (n:Nat) (hn:L.drop n = [o]) (hb:rW (L.take n).toArray=true) (hl:adS md (L.take n).toArray o=true) {a:Act} {w:FW}
  (h:wpAny P md (L.take n).toArray (CU P Q L.toArray o) n (Ik n false) a w):wpAny P md L.toArray Q (n+1) (Ik (n+1) false) a w:=by
 have hlen:L.length=n+1:=by
  exact zdU
 have hL:L.toArray=(L.take n).toArray.push o:=by
  rw[List.push_toArray,<-hn,JY]
 have hs:(L.take n).toArray.size=n:=aG;rw[hL] at h ⊢;rw[Array.replicate_succ];exact afS hb hl n _ a w (by simp[hs]) (ajJ _ _) h
def Bj (P:Program) (Q:Exit->Act->FW->Prop) (L:List Oper):Nat->Exit->Act->FW->Prop
 | 0=>Q
 | k+1=>CU P (Bj P Q L k) (L.take (L.length - k)).toArray (L.getD (L.length - (k+1)) default)
theorem vU (n:Nat):∀ (k:Nat),L.length=n+k->(∀ j,j < k->rW (L.take (n+j)).toArray=true/\adS md (L.take (n+j)).toArray (L.getD (n+j) default)=true)->∀ {a:Act} {w:FW},
  wpAny P md (L.take n).toArray (Bj P Q L k) n (Ik n false) a w->wpAny P md L.toArray Q (n+k) (Ik (n+k) false) a w:=by
 have key:∀ (k:Nat),k<=L.length - n->n<=L.length->(∀ j,n+j < L.length->rW (L.take (n+j)).toArray=true/\adS md (L.take (n+j)).toArray (L.getD (n+j) default)=true)->∀ {a:Act} {w:FW},
   wpAny P md (L.take (L.length - k)).toArray (Bj P Q L k) (L.length - k) (Ik (L.length - k) false) a w->wpAny P md L.toArray Q L.length (Ik L.length false) a w:=by
  intro k;induction k with
  | zero=>intro _ _ _ a w h; simpa [Bj] using h
  | succ k ih =>
   intro hk hn hc a w h;refine ih EN hn hc ?_;have e:L.length - k=(L.length - (k+1))+1:=EN;have ht:(L.take (L.length - k)).take (L.length - (k+1))=L.take (L.length - (k+1)):=by rw[List.take_take];congr 1;omega
   have hd:(L.take (L.length - k)).drop (L.length - (k+1)) = [L.getD (L.length - (k+1)) default]:=by
    rw[List.drop_take,show L.length - k - (L.length - (k+1))=1 by omega,Ii EN,List.take_succ_cons,List.take_zero];congr 1;simp[FU,show L.length - (k+1) < L.length by omega]
   have hcc:=hc (L.length - (k+1) - n) EN;rw[show n+(L.length - (k+1) - n)=L.length - (k+1) by omega] at hcc;have:=aeN (P:=P) (md:=md) (Q:=Bj P Q L k) (L:=L.take (L.length - k)) (o:=L.getD (L.length - (k+1)) default) (L.length - (k+1)) hd (by rw[ht]; exact hcc.1) (by rw[ht]; exact hcc.2) (a:=a) (w:=w) (by rw[ht]; exact h);rw[<-e] at this;exact this
 intro k hL hc a w h;have:=key k EN EN (λj hj=>hc j EN) (a:=a) (w:=w) (by rw[show L.length - k=n by omega]; exact h);rwa [hL] at this
theorem aW (S:FW->Prop) (n k:Nat) (hm:P.follows .mixedOrders=true) (hL:L.length=n+k) (hc:(Ir k).all (λj=>rW (L.take (n+j)).toArray&&adS .any (L.take (n+j)).toArray (L.getD (n+j) default))=true) {a:Act} {w:FW}
  (h:wpAnyH P .any (L.take n).toArray (Bj P Q L k) S n (Ik n false) a w.drew):(Code.region id L.toArray true).wp P Q a w:=by
 refine wp_region_any hm ?_;rw[List.size_toArray,hL];refine vU n k hL (λj hj=>?_) (wpAny_of_held _ _ _ _ h);have:=List.all_eq_true.1 hc j (List.mem_range.2 hj);simpa using this
end
theorem enters {f:FuncId} {fn:Func} (hf:Tryz.prog.funcs[f]? = some fn) (hn:(fn.name == "runtime.NumGoroutine")=false) (hb:fn.body.isNone=false) (args:Array F7) (w:FW):(callFunc f args).run FY w = .ok (.enter f args) w:=by
 have h1:fn.name ≠ "runtime.NumGoroutine" := by simpa using hn
 have h2:fn.body.isNone=false:=hb;obtain⟨b,hb⟩:∃ b,fn.body=some b:=by cases h:fn.body <;> simp_all
 simp[callFunc,hf,h1,hb,Sem.run]
theorem afT (w:FW) (lo hi x:Int) (b1 b2:Nat) (h1:w.cell? ⟨b1,0,none⟩=some (F6 F5 lo)) (h2:w.cell? ⟨b2,0,none⟩=some (F6 F5 hi)) :
  Calls FY 174 #[F6 F5 x,.pointer (some ⟨b1,0,none⟩),.pointer (some ⟨b2,0,none⟩)] w λe w'=>e = .returned (Gj (decide (x < lo)||decide (hi < x)))/\w=w':=by
 by_cases q:x < lo
 ·have HF:=Ac (show(decide (x < lo)||decide (hi < x))=true by simp[q]);go_in;exact zaL
 ·have d:decide (x < lo)=false:=L9 q;by_cases q2:hi < x
  ·have HF:=Ac (show(decide (x < lo)||decide (hi < x))=true by simp[q2]);go_in;exact zaL
  ·have d2:decide (hi < x)=false:=L9 q2;have HF:=Ac (show(decide (x < lo)||decide (hi < x))=false by simp[d,d2]);go_in;exact zaL
def kF (lo hi:Int) (l:List Int):Int:=if outside lo hi l then 2 else 0
theorem uG (w:FW) (F:FI) (v:F7) (lo hi:Int) (l:List Int) (hv:Aj w F v l) (hl:l.length<=1000000) :
  Calls FY 147 #[F6 F5 lo,F6 F5 hi,v] w (Ret w λv _=>v = F6 F5 (kF lo hi l)):=by
 have HV:=Ac hv;clear hv;refine zdc ?_;intro hmf;go_in;go_wp2_with fail
 obtain⟨W,hW⟩:∃ W:FW,W=(w.alloc (.cells #[F6 F5 lo] 3)).alloc (.cells #[F6 F5 hi] 3):=⟨_,rfl⟩;rw[<-hW];have hb:=bJ w (.cells #[F6 F5 lo] 3) (.cells #[F6 F5 hi] 3) 0;have hsm:Same F w W:=by rw[hW];exact(Same.alloc _ _ _).trans (Same.alloc _ _ _)
 have c1:W.cell? ⟨w.heap.size,0,none⟩=some (F6 F5 lo):=by rw[hW];simp
 have c2:W.cell? ⟨w.heap.size+1,0,none⟩=some (F6 F5 hi):=by
  rw[hW];simp
 have hbW:Below w.heap.size w W:=by rw[hW];exact hb
 clear hb hW;have ha:Dn W 174 #[.pointer (some ⟨w.heap.size,0,none⟩),.pointer (some ⟨w.heap.size+1,0,none⟩)] l (λx=>decide (x < lo)||decide (hi < x)):=by
  refine⟨enters Tryz.func174 (by decide +kernel) (by decide +kernel),λn x _=>?_⟩;exact(afT (W.drewN n) lo hi x _ _ c1 c2).mono λe w' ⟨he,hw⟩=>⟨he,n,hw.symm⟩
 refine(aax W F v l _ _ _ (HV.out.on hsm) hl ha).mono ?_;rintro e w' ⟨rfl,n,rfl⟩;clear ha;have HO:=Ac (show kF lo hi l=if l.any (λx=>decide (x < lo)||decide (hi < x)) then 2 else 0 from rfl);generalize l.any (λx=>decide (x < lo)||decide (hi < x))=r at *;dsimp only;cases r
 ·go_wp2
  go_ret;exact⟨_,rfl,aI hbW _,by rw[HO.out]; rfl⟩
 ·go_wp2
  go_ret;exact⟨_,rfl,aI hbW _,by rw[HO.out]; rfl⟩
open List renaming getElem_toArray → lq1, getElem_cons_zero → lq2, getElem_cons_succ → lq3, setIfInBounds_toArray → lq4, set_cons_zero → lq5, set_cons_succ → lq6
structure Cj (w:FW) (p:Nat) (ay:Int) (ni:Nat):Prop where
 ay:w.cell? ⟨p,0,none⟩=some (F6 F5 ay)
 Fh:∃ A c,w.cell? ⟨p,2,none⟩=some (FQ A ni c)
theorem aho (w:FW) (F:FI) (u ux:F7) (x:Nd) (hx:Bf w F ux x) (hl:x.next.length < 1000000/\x.weights.length < 1000000/\x.pay.length < 1000000) :
  Calls FY 190 #[u,ux] w (Ret w λv _=>v = F6 F5 (dw x)):=by
 obtain⟨v3,v4,v5,rfl,⟨A3,c3,rfl,hc3,h3⟩,⟨A4,c4,rfl,hc4,h4⟩,⟨A5,c5,rfl,hc5,h5⟩⟩:=hx;obtain⟨hl3,hl4,hl5⟩:=hl;have H4:=Ac (show Aj w F (FQ A4 x.weights.length c4) x.weights from⟨A4,c4,rfl,hc4,h4⟩);clear h3 h4 h5;by_cases q0:x.aC≠0
 ·refine zbF ?_;intro HF;have d0:(x.aC != 0)=true:=neT EN;exact Zt
 have d0:(x.aC != 0)=false:=neF EN;by_cases q1:x.info≠0
 ·refine zbF ?_;intro HF;have d1:(x.info != 0)=true:=neT EN;exact Zt
 have d1:(x.info != 0)=false:=neF EN;by_cases q2:0 < x.pay.length
 ·refine zbF ?_;intro HF;exact Zt
 have d2:decide ((0:Int) < (x.pay.length:Int))=false:=L9 EN;by_cases q3:x.next.length < 1
 ·refine zbF ?_;intro HF;exact Zt
 have d3:decide ((x.next.length:Int) < 1)=false:=L9 EN;by_cases q4:60 < x.next.length
 ·refine zbF ?_;intro HF;exact Zt
 have d4:decide ((60:Int) < (x.next.length:Int))=false:=L9 EN;by_cases q5:x.weights.length≠x.next.length
 ·refine zbF ?_;intro HF;have d5:((x.weights.length:Int) != (x.next.length:Int))=true:=neT EN;exact Zt
 have d5:((x.weights.length:Int) != (x.next.length:Int))=false:=neF EN;have HF:=Ac (show dw x=kF 1 1000 x.weights by unfold dw; rw[L6 EN]; rfl);clear q0 q1 q5;go_in;go_wp2_with fail
 refine(uG _ F _ 1 1000 x.weights (H4.out.on (Same.alloc _ _ _)) EN).mono ?_;rintro e w' ⟨v,rfl,hb,rfl⟩;dsimp only;go_wp2
 go_ret;exact⟨_,rfl,((F9 _ _).alloc (FV _) _).trans (hb.mono aF),by rw[HF.out]; rfl⟩
theorem fV (w:FW) (t:TypeId) (c:Array F7):∃ W:FW,W=w.alloc (.cells c t)/\Row W w.heap.size t c.toList/\Below w.heap.size w W/\w.heap.size+1=W.heap.size :=
 ⟨_,rfl,Row.new w _ _,(F9 _ _).alloc (FV _) _,aF⟩
theorem ahp (ay:Int) (ni:Nat) (x:Nd) (h:¬ (0 < x.pay.length\/0 < x.weights.length\/x.next.length < 1\/10 < x.next.length)) :
  fA ay ni x=if kF 0 (ay - 1) [x.aC]≠0 then kF 0 (ay - 1) [x.aC] else kF 0 ((ni:Int) - 1) [x.info]:=by
 unfold fA kF outside;rw[L6 h];simp only[List.any_cons,List.any_nil,Bool.or_false,Bool.or_eq_true,decide_eq_true_eq];repeat' split
 all_goals first | rfl | omega
theorem move_any (w:FW) (F:FI) (p:Nat) (ux:F7) (ay:Int) (ni:Nat) (x:Nd) (hw:Cj w p ay ni) (hx:Bf w F ux x) (hl:x.next.length < 1000000/\x.weights.length < 1000000/\x.pay.length < 1000000)
  (hp:0<=ay/\ay < 1000000) (hni:ni < 1000000) (hpl:p < w.heap.size) :
  Calls FY 191 #[.pointer (some ⟨p,0,none⟩),ux] w (Ret w λv _=>v = F6 F5 (fA ay ni x)):=by
 obtain⟨v3,v4,v5,rfl,⟨A3,c3,rfl,hc3,h3⟩,⟨A4,c4,rfl,hc4,h4⟩,⟨A5,c5,rfl,hc5,h5⟩⟩:=hx;obtain⟨hl3,hl4,hl5⟩:=hl;clear h3 h4 h5;obtain⟨hwp,Ai,ci,hwi⟩:=hw;by_cases q0:0 < x.weights.length
 ·exact zaZ
 have d0:decide ((0:Int) < (x.weights.length:Int))=false:=L9 EN;by_cases q1:0 < x.pay.length
 ·exact zaZ
 have d1:decide ((0:Int) < (x.pay.length:Int))=false:=L9 EN;by_cases q2:x.next.length < 1
 ·exact zaZ
 have d2:decide ((x.next.length:Int) < 1)=false:=L9 EN;by_cases q3:10 < x.next.length
 ·exact zaZ
 have d3:decide ((10:Int) < (x.next.length:Int))=false:=L9 EN;have HF:=Ac (ahp ay ni x EN);go_in;go_wp2_with fail
 obtain⟨W,hW,hbx,hWb,hWz⟩:=fV w 127 #[F6 F5 x.kind,F6 F5 x.aC,F6 F5 x.info,FQ A3 x.next.length c3,FQ A4 x.weights.length c4,FQ A5 x.pay.length c5];rw[<-hW];clear hW;have hold:=aS hWb;have wr1:IntKind.i64.wrap (ay - 1)=ay - 1:=GH _ EN;have wr2:IntKind.i64.wrap ((ni:Int) - 1)=(ni:Int) - 1:=GH _ EN;refine wp_region_held_drew (S:=λw'=>w'.cell? ⟨w.heap.size,1,none⟩=some (F6 F5 x.aC)/\w'.cell? ⟨p,0,none⟩=some (F6 F5 ay)) ak ⟨hbx.cell rfl,(hold p 0 hpl).trans hwp⟩ (λhHeld=>?_);refine tkm [0,1,2,3,4,5,6,7] ?_;refine tk2 8 ak rfl λK hK=>?_
 go_simp;obtain⟨W1,hW1,hbr,yG,ajK⟩:=fV W 3 #[F6 F5 x.aC];rw[<-hW1];clear hW1;have jh:=hbx.below yG EN;have hB1:Below w.heap.size w W1:=hWb.trans (yG.mono EN);clear hbx yG hWb;refine hK.out _ _ ⟨jh.drew.cell rfl,(aS hB1.drew p 0 hpl).trans hwp⟩ (λhHeld=>?_);clear hK K;refine Zb ?_;refine tk2 9 ak rfl λK hK=>?_
 go_simp;refine(uG _ (λb=>b=W.heap.size) _ 0 (ay - 1) [x.aC] (Row.ints (l:=[x.aC]) hbr.drew (F:=λb=>b=W.heap.size) rfl (c:=1) aF) aF).mono ?_;rintro e w1 ⟨_,rfl,hb1,rfl⟩;have hbx2:=jh.drew.below hb1 aG;have hB2:Below w.heap.size w w1:=hB1.drew.trans (hb1.mono aG);clear jh hb1 hB1 hbr;dsimp only;refine hK.out _ _ ⟨hbx2.cell rfl,(aS hB2 p 0 hpl).trans hwp⟩ (λhHeld=>?_);clear hK K;refine Zb ?_;refine tkm [10] ?_;refine Yf ?_;have hx1:=hbx2.lt;generalize kF 0 (ay - 1) [x.aC]=er at *;by_cases he:er=0
 ·subst he;have HF2:=Ac (show fA ay ni x=kF 0 ((ni:Int) - 1) [x.info] by rw[HF.out]; simp);go_wp2_with fail
  refine wp_region_held_drew (S:=λw'=>w'.cell? ⟨w.heap.size,2,none⟩=some (F6 F5 x.info)/\w'.cell? ⟨p,2,none⟩=some (FQ Ai ni ci)) ak ⟨hbx2.cell rfl,(aS hB2 p 2 hpl).trans hwi⟩ (λhHeld=>?_);refine tkm [0,1,2,3,4,5,6,7,8] ?_;refine tk2 9 ak rfl λK hK=>?_
  go_simp;obtain⟨W3,hW3,hbr,anV,hW3z⟩:=fV w1 3 #[F6 F5 x.info];rw[<-hW3];clear hW3;have adr:=hbx2.below anV EN;have hB3:Below w.heap.size w W3:=hB2.trans (anV.mono EN);clear hbx2 anV hB2;refine hK.out _ _ ⟨adr.drew.cell rfl,(aS hB3.drew p 2 hpl).trans hwi⟩ (λhHeld=>?_);clear hK K;refine Zb ?_;refine tk2 10 ak rfl λK hK=>?_
  go_simp;refine(uG _ (λb=>b=w1.heap.size) _ 0 ((ni:Int) - 1) [x.info] (Row.ints (l:=[x.info]) hbr.drew (F:=λb=>b=w1.heap.size) rfl (c:=1) aF) aF).mono ?_;rintro e w2 ⟨_,rfl,hb2,rfl⟩;have hbx4:=adr.drew.below hb2 aG;have hB4:Below w.heap.size w w2:=hB3.drew.trans (hb2.mono aG);clear adr hb2 hB3 hbr;dsimp only;refine hK.out _ _ ⟨hbx4.cell rfl,(aS hB4 p 2 hpl).trans hwi⟩ (λhHeld=>?_);clear hK K;refine Zb ?_;refine tkm [11] ?_;refine Yf ?_;go_wp2
  go_ret;exact⟨_,rfl,hB4,by rw[HF2.out]; rfl⟩
 ·have hd:(er != 0)=true:=by simp[he]
  have HF2:=Ac (show fA ay ni x=er by rw[HF.out]; simp[he]);clear he;go_wp2
  go_ret;exact⟨_,rfl,hB2,by rw[HF2.out]; rfl⟩
theorem amS (w:FW) (F:FI) (p:Nat) (ux:F7) (ay:Int) (ni:Nat) (x:Nd) (hw:Cj w p ay ni) (hx:Bf w F ux x) (hl:x.next.length < 1000000/\x.weights.length < 1000000/\x.pay.length < 1000000) (hpl:p < w.heap.size) :
  Calls FY 192 #[.pointer (some ⟨p,0,none⟩),ux] w (Ret w λv _=>v = F6 F5 (iV ay x)):=by
 obtain⟨v3,v4,v5,rfl,⟨A3,c3,rfl,hc3,h3⟩,⟨A4,c4,rfl,hc4,h4⟩,⟨A5,c5,rfl,hc5,h5⟩⟩:=hx;obtain⟨hl3,hl4,hl5⟩:=hl;have H5:=Ac (show Aj w F (FQ A5 x.pay.length c5) x.pay from⟨A5,c5,rfl,hc5,h5⟩);clear h3 h4 h5;obtain⟨hwp,Ai,ci,hwi⟩:=hw;by_cases q0:x.aC≠0
 ·refine zcf ?_;intro HF;have d0:(x.aC != 0)=true:=neT EN;exact Yh
 have d0:(x.aC != 0)=false:=neF EN;by_cases q1:x.info≠0
 ·refine zcf ?_;intro HF;have d1:(x.info != 0)=true:=neT EN;exact Yh
 have d1:(x.info != 0)=false:=neF EN;by_cases q2:0 < x.next.length
 ·refine zcf ?_;intro HF;have d2:decide ((0:Int) < (x.next.length:Int))=true:=Mc EN;exact Yh
 have d2:decide ((0:Int) < (x.next.length:Int))=false:=L9 EN;by_cases q3:0 < x.weights.length
 ·refine zcf ?_;intro HF;have d3:decide ((0:Int) < (x.weights.length:Int))=true:=Mc EN;exact Yh
 have d3:decide ((0:Int) < (x.weights.length:Int))=false:=L9 EN;by_cases q4:(x.pay.length:Int)≠ay
 ·refine zcf ?_;intro HF;have d4:((x.pay.length:Int) != ay)=true:=neT EN;exact Yh
 have d4:((x.pay.length:Int) != ay)=false:=neF EN;have HF:=Ac (show iV ay x=kF (-1000000) 1000000 x.pay by unfold iV; rw[L6 EN]; rfl);clear q0 q1 q4;go_in;go_wp2
 go_quiet (fail)
 go_wp2_with fail
 refine(uG _ F _ (-1000000) 1000000 x.pay ((H5.out.on (Same.alloc _ _ _)).on (Jl _ _ _)) EN).mono ?_;rintro e w' ⟨v,rfl,hb,rfl⟩;dsimp only;go_wp2
 go_ret;exact⟨_,rfl,(aI ((F9 _ _).alloc (FV _) _) _).trans (hb.mono aF),by rw[HF.out]; rfl⟩
structure NV where
 n:Nd
 v3:F7
 v4:F7
 v5:F7
def NV.cells (q:NV):List F7:=[F6 F5 q.n.kind,F6 F5 q.n.aC,F6 F5 q.n.info,q.v3,q.v4,q.v5]
def NV.fine (w:FW) (F:FI) (q:NV):Prop:=Aj w F q.v3 q.n.next/\Aj w F q.v4 q.n.weights/\Aj w F q.v5 q.n.pay
theorem qW {α:Type} {f:α->List F7} {s:Nat} (hf:∀ x,(f x).length=s):∀ (L:List α) (k j:Nat) (x:α),L[k]? = some x->j < s->(L.flatMap f)[k*s+j]? = (f x)[j]?
 | [],k,j,x,h,_=>by cases h
 | y :: L,0,j,x,h,hj=>by
  simp at h; subst h;rw[Kt,KF,Iz,List.getElem?_append_left (by rw[hf]; exact hj)]
 | y :: L,k+1,j,x,h,hj=>by
  rw[Kt,List.getElem?_append_right (by rw[hf,KO,Nat.one_mul]; omega),hf];rw[show(k+1)*s+j - s=k*s+j by rw[KO,Nat.one_mul]; omega];exact qW hf L k j x (by simpa using h) hj
def Lies (w:FW) (b:Nat) (cs:List F7):Prop:=b < w.heap.size/\∀ i v,cs[i]? = some v->w.cell? ⟨b,i,none⟩=some v
theorem Row.lies {w:FW} {cs:List F7} (h:Row w b t cs):Lies w b cs:=⟨h.lt,λi v hi=>h.cell hi⟩
theorem Lies.Fg {w:FW} {L:List NV} (h:Lies w b (L.flatMap NV.cells)) (hb:F b) (hL:∀ q∈L,q.fine w F) (hc:L.length<=c):Bq w F (FQ (some ⟨b,0,none⟩) L.length c) (L.map NV.n):=by
 refine⟨_,c,by rw[FX],by rw[FX]; exact hc,λ_=>⟨b,0,rfl,hb,h.1,λk x hk=>?_⟩⟩;rw[List.getElem?_map] at hk;obtain⟨q,hq,rfl⟩:=Option.map_eq_some_iff.1 hk;obtain⟨f3,f4,f5⟩:=hL q (FT hq);have g:∀ j v,j < 6->q.cells[j]? = some v->w.cell? ⟨b,0+k*6+j,none⟩=some v:=λj v hj hv=>by
  rw[Iz];exact h.2 _ _ (by rw[qW (f:=NV.cells) (s:=6) (λ_=>rfl) L k j q hq hj]; exact hv)
 exact⟨g 0 _ EN rfl,g 1 _ EN rfl,g 2 _ EN rfl,⟨_,g 3 _ EN rfl,f3⟩,⟨_,g 4 _ EN rfl,f4⟩,⟨_,g 5 _ EN rfl,f5⟩⟩
def vV (x:Inf):List F7:=[F6 F5 x.aC,F6 F5 x.actions]
theorem Lies.Fh {w:FW} {L:List Inf} (h:Lies w b (L.flatMap vV)) (hb:F b) (hc:L.length<=c):Bv w F (FQ (some ⟨b,0,none⟩) L.length c) L:=by
 refine⟨_,c,rfl,hc,λ_=>⟨b,0,rfl,hb,h.1,λk x hk=>?_⟩⟩;have g:∀ j v,j < 2->(vV x)[j]? = some v->w.cell? ⟨b,0+k*2+j,none⟩=some v:=λj v hj hv=>by
  rw[Iz];exact h.2 _ _ (by rw[qW (f:=vV) (s:=2) (λ_=>rfl) L k j x hk hj]; exact hv)
 exact⟨g 0 _ EN rfl,g 1 _ EN rfl⟩
theorem NV.fine.keep {w w':FW} {G:FI} {q:NV} (h:q.fine w F) (hFG:∀ b,F b->b < w.heap.size->G b) (hs:Same F w w'):q.fine w' G:=⟨h.1.keep hFG hs,h.2.1.keep hFG hs,h.2.2.keep hFG hs⟩
theorem yH (w:FW) (F:FI) (u:F7) (g:Gm) (hg:AA w F u g) (hsm:Small g) (hin:BN g) :
  Calls FY 98 #[u] w (Ret w λv w'=>Bg w' (λb=>w.heap.size<=b) v (dK g)):=by
 obtain⟨vn,vi,rfl,⟨A,c,rfl,hc,hN⟩,⟨Ai,ci,rfl,hci,hI⟩⟩:=hg;have HN:=Ac hN;clear hN hI;have hn:=hsm.Fg;have hni:=hsm.Fh;have HIN:=Ac hin;clear hin;go_in;go_wp2_with (at_make; refine gX _ rfl _ _ 83 rfl 22 (FQ none 0 0) 24 Tryz.underlying83 Tryz.infoInts rfl g.Fh.length rfl rfl EN EN ?_; intro w1 hb1 hz1 hrow1)
 simp only[World.size_alloc] at hb1 hz1 hrow1;go_loopw [4] (λi wr=>∃ (k:Nat) (vs:List F7),k<=g.Fg.length/\i = F6 F5 k/\Row wr w.heap.size 27 [F6 F5 g.ay,FQ A g.Fg.length c,FQ Ai g.Fh.length ci]/\Row wr (w.heap.size+1) 22 vs/\OwnRows wr (w.heap.size+2) 3 vs (iq g.Fg g.Fh.length k)/\Below w.heap.size w wr) (λi _=>g.Fg.length - (intOf i).toNat)
 case atStart =>
  refine⟨0,_,EN,rfl,?_,hrow1,?_,?_⟩
  ·exact(Row.new w _ _).below hb1 aF
  ·exact OwnRows.start _ _ _ _
  ·exact((F9 w.heap.size w).alloc (FV _) _).trans (hb1.mono EN)
 case round =>
  obtain⟨k,vs,hk,rfl,hr,hrow,hown,hbel⟩:=hrel;have x1:=hr.cell (i:=1) rfl;by_cases hlt:k < g.Fg.length
  ·obtain⟨b,o,rfl,_,hb,hcell⟩:=HN.out EN;obtain⟨n,hn'⟩:=FC hlt;obtain⟨e0,e1,e2,⟨v3,e3,A3,c3,rfl,hc3,i3⟩,⟨v4,e4,A4,c4,rfl,hc4,i4⟩,⟨v5,e5,A5,c5,rfl,hc5,i5⟩⟩:=hcell k n hn';clear i3 i4 i5 hcell;have HX:=Ac hn';clear hn';have hold:=aS hbel;have hlr:=hrow.lt;by_cases hkd:n.kind=2
   ·obtain⟨hin0,hin1⟩:=HIN.out n (FT HX.out) hkd;have hd:(n.kind==2)=true:=by simp[hkd]
    have HKD:=Ac hkd;clear hkd;obtain⟨l,hl⟩:=FC (l:=iq g.Fg g.Fh.length k) (k:=n.info.toNat) (by rw[fE]; omega);obtain⟨v,hv⟩:=FC (l:=vs) (k:=n.info.toNat) (by rw[hown.len,fE]; omega);have rv:=hrow.cell hv;have fv:=hrow.frozen n.info.toNat;have ho:=hown.own _ v l hv hl;have hll:=acd l (FT hl);have HO:=Ac ho;clear ho;have HL:=Ac hl;clear hl;have HV:=Ac hv;clear hv;go_wp2
    obtain⟨W,hW⟩:∃ W:FW,W=wr.alloc (.cells #[F6 F5 n.kind,F6 F5 n.aC,F6 F5 n.info,FQ A3 n.next.length c3,FQ A4 n.weights.length c4,FQ A5 n.pay.length c5] 127):=⟨_,rfl⟩;rw[<-hW];have cx:W.cell? ⟨wr.heap.size,2,none⟩=some (F6 F5 n.info):=by rw[hW];simp
    have hWz:W.heap.size=wr.heap.size+1:=by rw[hW];simp
    have hWo:OwnRows W (w.heap.size+2) 3 vs (iq g.Fg g.Fh.length k):=by rw[hW];exact hown.alloc _
    have hWr:Row W w.heap.size 27 [F6 F5 g.ay,FQ (some ⟨b,o,none⟩) g.Fg.length c,FQ Ai g.Fh.length ci]:=by rw[hW];exact hr.alloc _
    have hWw:Row W (w.heap.size+1) 22 vs:=by rw[hW];exact hrow.alloc _
    have hWb:Below w.heap.size w W:=by rw[hW];exact hbel.alloc hbel.size _
    have rv:=hWw.cell HV.out;have fv:=hWw.frozen n.info.toNat;have HOW:=Ac (hWo.own _ v l HV.out HL.out);have hWlt:wr.heap.size < W.heap.size:=EN;have HHW:=Ac hWz;have hWle:w.heap.size+2 < W.heap.size:=EN;clear hW hWz hr hrow hown hbel x1 hold e0 e1 e2 e3 e4 e5 hlr;have HWR:=Ac (Ij hWr (Ij hWw (Ij hWo hWb)));clear hWr hWw hWo hWb;refine alm (λw'=>w'.cell? ⟨wr.heap.size,2,none⟩=some (F6 F5 n.info)/\w'.cell? ⟨w.heap.size+1,n.info.toNat,none⟩=some v) 11 ak rfl rfl ak ak ak ak ⟨cx,rv⟩ ?_;have hHeld:(λw':FW=>w'.cell? ⟨wr.heap.size,2,none⟩=some (F6 F5 n.info)/\w'.cell? ⟨w.heap.size+1,n.info.toNat,none⟩=some v) W.drew:=⟨cx,rv⟩;refine Zv ?_;refine tkm [0,1,2,3,4,5,6,7,8] ?_;refine tk2 9 ak rfl λK hK=>?_
    go_simp;refine hK.out _ _ ⟨by rw[World.cell?_drew,KR _ _ _ aG]; exact cx,by rw[World.cell?_drew,KR _ _ _ aG]; exact rv⟩ (λhHeld=>?_);clear hK K;try simp only[Act.put,List.setIfInBounds_toArray,List.set_cons_zero,List.set_cons_succ]
    refine tk2 10 ak rfl λK hK=>?_
    refine aeM (by rfl) _ _ (by rfl) (w.heap.size+2) v l (by rfl) (HOW.out.alloc _) W.heap.size k (by rfl) (heap_alloc_new W _) EN aG ?_;intro gg cap w1 hown1 hgrow hat hlt1;have hnb:∀ b,v.ownBlock=some b->w.heap.size+2<=b:=λb hb=>(HOW.out.lt b hb).1
    have hHG:∀ b,b < w.heap.size+2->w1.heap[b]? = W.heap[b]?:=λb hb=>by
     rw[hgrow.block b aG (λe=>by have:=hnb b e.symm; omega)];exact KG W _ b EN
    obtain⟨hWr,hWw,hWo,hWb⟩:=HWR.out;have k1:Row w1 w.heap.size _ _:=hWr.of_block (hHG _ EN);have k2:Row w1 (w.heap.size+1) _ _:=hWw.of_block (hHG _ EN);have k3:=((hWo.alloc _).drew).put HV.out hown1 hgrow rfl hat;have k4:Below w.heap.size w w1:=((hWb.alloc EN _).drew).grown hgrow aG (λk hk=>by have:=hnb k hk; omega);have rv1:=k2.cell HV.out;have fv1:=k2.frozen n.info.toNat;have KK:=Ac (Ij k1 (Ij k2 (Ij k3 k4)));refine hK.out _ _ ⟨?_,rv1⟩ (λhHeld=>?_)
    ·rw[hgrow.cell_far _ aG (λe=>by have:=(HO.out.lt _ e.symm).2; simp at this),World.cell?_drew,KR _ _ _ aG];exact cx
    clear hK K k1 k2 k3 k4 hWr hWw hWo hWb hHG hgrow hown1 hat cx rv fv;try simp only[Act.put,List.setIfInBounds_toArray,List.set_cons_zero,List.set_cons_succ]
    refine Yf ?_;refine zaf ?_;go_wp2
    refine zaf ?_;go_wp2
    go_roundw
    case rel =>
     obtain⟨k1,k2,k3,k4⟩:=KK.out;refine⟨k+1,_,EN,by go_num,k1.other aF _,k2.set _ _,?_,k4.setCell aF _⟩;rw[aa5 HX.out HKD.out HL.out];exact k3.setCell aF _
    case measure=>simp[intOf]; omega
   ·have hd:(n.kind==2)=false:=by simp[hkd]
    have HKD:=Ac hkd;clear hkd;go_wp2
    go_roundw
    case rel =>
     refine⟨k+1,vs,EN,by go_num,by repeat (first | exact hr | refine Row.alloc ?_ _ | refine Row.other ?_ (by have:=hr.lt; simp; omega) _),by repeat (first | exact hrow | refine Row.alloc ?_ _ | refine Row.other ?_ aG _),?_,by repeat (first | exact hbel | refine Below.alloc ?_ hbel.size _ | refine Below.setCell ?_ hbel.size _)⟩;rw[aa6 HX.out HKD.out];repeat (first | exact hown | refine OwnRows.alloc ?_ _)
    case measure=>simp[intOf]; omega
  ·go_wp2
   go_ret;refine zc2 ?_;have hke:k=g.Fg.length:=EN;subst hke;have h1:(dK g).length=g.Fh.length:=fE _ _ _;have:=OwnRows.rows (F:=λb=>w.heap.size<=b) hown hrow EN (λ_ _=>by omega) (c:=g.Fh.length) (by rw[fE]; omega);rw[fE] at this;exact this
def jH (g:Gm):Prop:=g.ay < 1\/4 < g.ay\/g.Fg.length < 1\/2000 < g.Fg.length\/200 < g.Fh.length
instance (g:Gm):Decidable (jH g):=by unfold jH; infer_instance
def dA (ay:Int) (ni:Nat):List Nd->Int
 | []=>0
 | x :: l=>if aQ ay ni x≠0 then aQ ay ni x else dA ay ni l
def eH (Fh:List Inf) (x:Nd):Bool:=decide (x.kind=2)&&(decide ((Fh.getD x.info.toNat default).aC≠x.aC)||decide ((Fh.getD x.info.toNat default).actions≠(x.next.length:Int)))
def qH (g:Gm):Bool:=g.Fg.any (eH g.Fh)
def lG (sets:List (List Int)):Bool:=sets.any λl=>decide (l.length=0)
def jS (sets:List (List Int)) (i:Nat):Bool:=decide ((sets.getD i []).getD 0 0 < (sets.getD (i - 1) []).getD 0 0)
def fB (sets:List (List Int)) (m:Nat):Bool:=(List.range' 1 (m - 1)).any (jS sets)
def kL (g:Gm):Int:=if qH g then 10 else if lG (dK g) then 18 else if fB (dK g) g.Fh.length then 9 else 0
def bF (g:Gm):Int :=
 if jH g then 2 else if dA g.ay g.Fh.length g.Fg≠0 then dA g.ay g.Fh.length g.Fg
 else if (bP g.Fg (g.Fg.length+1) 0 0 0).1≠g.Fg.length then 9 else if 40 < (bP g.Fg (g.Fg.length+1) 0 0 0).2 then 5 else kL g
theorem xW {ay:Int} {l:List Nd} {x:Nd} (h:l[k]? = some x):dA ay ni (l.drop k)=if aQ ay ni x≠0 then aQ ay ni x else dA ay ni (l.drop (k+1)):=by
 exact zdb
theorem jD {ay:Int} {ni:Nat}:∀ {l:List Nd},dA ay ni l=0->∀ x∈l,aQ ay ni x=0
 | [],_,_,h=>by cases h
 | y :: l,h,x,hx=>by
  unfold dA at h;split at h
  ·rename_i h1; exact absurd h h1
  ·rename_i h1
   rcases List.mem_cons.1 hx with rfl | hx
   ·simpa using h1
   ·exact jD h x hx
theorem oJ {g:Gm} (h:dA g.ay g.Fh.length g.Fg=0):BN g:=by
 intro x hx hk;have:=jD h x hx;unfold aQ fA at this;rw[L6 EN,L8 hk] at this;split at this
 ·omega
 ·split at this
  ·omega
  ·omega
theorem abC (sets:List (List Int)) (m:Nat) (h:1<=m):fB sets (m+1)=(fB sets m||jS sets m):=by
 unfold fB;have:m+1 - 1=(m - 1)+1:=EN;rw[this,List.range'_concat,List.any_append];simp;rw[show 1+(m - 1)=m by omega]
theorem ads {sets:List (List Int)} {m:Nat} (h:1<=m) (hm:m < k) (hb:jS sets m=true):fB sets k=true:=by
 unfold fB;rw[List.any_eq_true];exact⟨m,by rw[List.mem_range'_1]; omega,hb⟩
theorem adT (w:FW) (F:FI) (u:F7) (g:Gm) (hg:AA w F u g) (hsm:Small g) :
  Calls FY 93 #[u] w (Ret w λv _=>v = F6 F5 (bF g)):=by
 have HG:=Ac hg;obtain⟨vn,vi,rfl,⟨A,c,rfl,hc,hN⟩,⟨Ai,ci,rfl,hci,hI⟩⟩:=hg;have HN:=Ac hN;have HI:=Ac hI;clear hN hI;have hn:=hsm.Fg;have hni:=hsm.Fh;have HS:=Ac hsm;clear hsm;by_cases q0:g.ay < 1
 ·exact zbQ
 have d0:decide (g.ay < 1)=false:=L9 EN;by_cases q1:4 < g.ay
 ·exact zbQ
 have d1:decide ((4:Int) < g.ay)=false:=L9 EN;by_cases q2:g.Fg.length < 1
 ·exact zbQ
 have d2:decide ((g.Fg.length:Int) < 1)=false:=L9 EN;have HV:=Ac (show bF g=if dA g.ay g.Fh.length g.Fg≠0 then dA g.ay g.Fh.length g.Fg
   else if (bP g.Fg (g.Fg.length+1) 0 0 0).1≠g.Fg.length then 9 else if 40 < (bP g.Fg (g.Fg.length+1) 0 0 0).2 then 5 else kL g by
  unfold bF; rw[L6 (by unfold jH; omega)])
 obtain⟨b,o,rfl,hbF,hb,hcell⟩:=HN.out EN;have HC:=Ac hcell;clear hcell;go_in;go_wp2
 go_loopw [3] (λi wr=>∃ k:Nat,k<=g.Fg.length/\i = F6 F5 k/\Row wr w.heap.size 27 [F6 F5 g.ay,FQ (some ⟨b,o,none⟩) g.Fg.length c,FQ Ai g.Fh.length ci]/\Below w.heap.size w wr/\dA g.ay g.Fh.length g.Fg=dA g.ay g.Fh.length (g.Fg.drop k)) (λi _=>g.Fg.length - (intOf i).toNat)
 case atStart=>exact⟨0,EN,rfl,Row.new w _ _,(F9 _ _).alloc (FV _) _,rfl⟩
 case round =>
  obtain⟨k,hk,rfl,hbx,hbel,hval⟩:=hrel;have HV1:=Ac hval;clear hval;have x0:=hbx.cell (i:=0) rfl;have x1:=hbx.cell (i:=1) rfl;have x2:=hbx.cell (i:=2) rfl;have hold:=aS hbel;by_cases hlt:k < g.Fg.length
  ·obtain⟨x,hx⟩:=FC hlt;obtain⟨e0,e1,e2,⟨v3,e3,i3⟩,⟨v4,e4,i4⟩,⟨v5,e5,i5⟩⟩:=HC.out k x hx;have V:=Ac (show Bf w F _ x from⟨v3,v4,v5,rfl,i3,i4,i5⟩);clear i3 i4 i5;have M:=FT hx;have L:x.next.length < 1000000/\x.weights.length < 1000000/\x.pay.length < 1000000:=⟨by have:=HS.out.next x M; omega,by have:=HS.out.weights x M; omega,by have:=HS.out.pay x M; omega⟩;have HL:=Ac L;clear L M;have HV2:=Ac (HV1.out.trans (xW hx));clear hx;have hbw:b < wr.heap.size:=by have:=hbel.size;omega
   have hBw:w.heap.size < wr.heap.size:=hbx.lt;go_wp2
   refine wp_region_held_drew (S:=λw'=>∀ b o,b < wr.heap.size->w'.cell? ⟨b,o,none⟩=wr.cell? ⟨b,o,none⟩) ak (λ_ _ _=>rfl) (λhHeld=>?_);refine tkm [0,1,2,3,4,5] ?_;refine tk2 6 ak rfl λK hK=>?_
   go_simp;refine(alk _ F _ _ g x (HG.out.on (FZ hbel.drew F)) (V.out.on (FZ hbel.drew F)) HL.out EN).mono ?_;rintro e w1 ⟨_,rfl,hb1,rfl⟩;have hb1':Below wr.heap.size wr w1:=(F9 _ _).drew.trans hb1;dsimp only;refine hK.out _ _ (aS hb1') (λhHeld=>?_);clear hK K;refine Zb ?_;refine tkm [7] ?_;refine Yf ?_;generalize aQ g.ay g.Fh.length x=er at *;by_cases he:er=0
   ·subst he;go_wp2
    go_roundw
    case rel =>
     refine⟨k+1,EN,by go_num,hbx.below hb1' hbx.lt,hbel.trans (hb1'.mono hbel.size),?_⟩;rw[HV2.out];simp
    case measure=>simp[intOf]; omega
   ·have hd:(er != 0)=true:=by simp[he]
    have HF:=Ac (show bF g=er by rw[HV.out,HV2.out]; simp[he]);clear he;go_wp2
    go_ret;exact⟨_,rfl,hbel.trans (hb1'.mono hbel.size),by rw[HF.out]; rfl⟩
  ·have HNE:=Ac (show dA g.ay g.Fh.length g.Fg=0 by
    rw[HV1.out,GU EN]; rfl)
   go_wp2
   obtain⟨W,hW⟩:∃ W:FW,W=wr.alloc (.cells #[F6 F5 0] 3):=⟨_,rfl⟩;rw[<-hW];have hbd:Row W wr.heap.size 3 [F6 F5 0]:=by rw[hW];exact Row.new wr _ _
   have hbx2:=hbx.alloc (.cells #[F6 F5 0] 3);rw[<-hW] at hbx2;have hWb:Below w.heap.size w W:=by rw[hW];exact hbel.alloc hbel.size _
   have hBw:w.heap.size < wr.heap.size:=hbx.lt;clear hW hbx x0 x1 x2 hold hbel;have hGW:AA W (λb=>b≠wr.heap.size) _ g:=HG.out.keep (λb _ hl=>by omega) (FZ hWb F);have HGW:=Ac hGW;clear hGW;have x0:=hbx2.cell (i:=0) rfl;have x1:=hbx2.cell (i:=1) rfl;have x2:=hbx2.cell (i:=2) rfl;refine wp_region_held_drew (S:=λw'=>w'.cell? ⟨w.heap.size,0,none⟩=some (F6 F5 g.ay)/\w'.cell? ⟨w.heap.size,1,none⟩=some (FQ (some ⟨b,o,none⟩) g.Fg.length c)/\w'.cell? ⟨w.heap.size,2,none⟩=some (FQ Ai g.Fh.length ci)) ak ⟨x0,x1,x2⟩ (λhHeld=>?_);refine tkm [0,2,3,4] ?_;refine tk2 1 ak rfl λK hK=>?_
   go_simp;refine(ajH g HS.out (g.Fg.length+1) 0 0 0 W.drew wr.heap.size _ (HGW.out.on (Jl _ W 1)) hbd.drew EN EN EN EN EN).mono ?_;rintro e w1 ⟨rfl,hrw,hgr⟩;have adr:Row w1 w.heap.size _ _:=hbx2.drew.of_block (hgr.block _ (by have:=hbx2.lt; simpa using this) aG);have hb1:Below w.heap.size w w1:=hWb.drew.grown hgr (by have:=hWb.size; simpa using this) (λk hk=>by simp at hk; omega);dsimp only;refine hK.out _ _ ⟨adr.cell rfl,adr.cell rfl,adr.cell rfl⟩ (λhHeld=>?_);clear hK K;refine Zb ?_;refine tkm [5] ?_;refine Yf ?_;have hdd:=uD g.Fg 1000 (g.Fg.length+1) 0 0 0 EN EN EN;have HV2:=Ac (HV.out.trans (by rw[HNE.out]; simp only[ne_eq,not_true_eq_false,↓reduceIte]):bF g=if (bP g.Fg (g.Fg.length+1) 0 0 0).1≠g.Fg.length then 9 else if 40 < (bP g.Fg (g.Fg.length+1) 0 0 0).2 then 5 else kL g);generalize bP g.Fg (g.Fg.length+1) 0 0 0=rr at *;obtain⟨rn,rd⟩:=rr;dsimp only at hrw hdd HV2;clear hbd hbx2 x0 x1 x2 hWb hgr hHeld HGW;by_cases he:rn=(g.Fg.length:Int)
   case neg =>
    have hd:(rn != (g.Fg.length:Int))=true:=by simp[he]
    have HF:=Ac (show bF g=9 by rw[HV2.out,L8 he]);clear he;go_wp2
    go_ret;exact⟨_,rfl,hb1,by rw[HF.out]; rfl⟩
   have hd:(rn != (g.Fg.length:Int))=false:=by simp[he]
   have HRN:=Ac he;clear he;have y0:=hrw.cell (i:=0) rfl;by_cases h40:40 < rd
   ·have HF:=Ac (show bF g=5 by rw[HV2.out,L6 (by simpa using HRN.out),L8 h40]);go_wp2
    go_ret;exact⟨_,rfl,hb1,by rw[HF.out]; rfl⟩
   have HV3:=Ac (show bF g=kL g by rw[HV2.out,L6 (by simpa using HRN.out),L6 h40]);have x1:=adr.cell (i:=1) rfl;go_wp2
   clear hrw y0 x1 hdd;go_loopw [6] (λi wi=>∃ k:Nat,k<=g.Fg.length/\i = F6 F5 k/\(g.Fg.take k).any (eH g.Fh)=false/\Row wi w.heap.size 27 [F6 F5 g.ay,FQ (some ⟨b,o,none⟩) g.Fg.length c,FQ Ai g.Fh.length ci]/\Below w.heap.size w wi) (λi _=>g.Fg.length - (intOf i).toNat)
   case atStart=>exact⟨0,EN,rfl,rfl,adr,hb1⟩
   case round =>
    clear adr hb1;obtain⟨k2,hk2,rfl,hpre,hbx,hbel⟩:=hrel;have HP:=Ac hpre;clear hpre;have x0:=hbx.cell (i:=0) rfl;have x1:=hbx.cell (i:=1) rfl;have x2:=hbx.cell (i:=2) rfl;have hold:=aS hbel;have hBw:w.heap.size < wr.heap.size:=hbx.lt;by_cases hlt2:k2 < g.Fg.length
    ·obtain⟨x,hx⟩:=FC hlt2;obtain⟨e0,e1,e2,⟨v3,e3,A3,c3,rfl,hc3,i3⟩,⟨v4,e4,A4,c4,rfl,hc4,i4⟩,⟨v5,e5,A5,c5,rfl,hc5,i5⟩⟩:=HC.out k2 x hx;clear i3 i4 i5;have hl3:=HS.out.next x (FT hx);have HX:=Ac hx;have BAD:=Ac (show eH g.Fh x=true->bF g=10 by
      intro h;have:qH g=true:=List.any_eq_true.2 ⟨x,FT HX.out,h⟩;rw[HV3.out]; unfold kL; rw[this]; rfl)
     have HII:=Ac (oJ HNE.out x (FT hx));clear hx;by_cases hkd:x.kind=2
     ·obtain⟨hin0,hin1⟩:=HII.out hkd;have hd2:(x.kind==2)=true:=by simp[hkd]
      obtain⟨bi,oi,rfl,_,hbi,hxi⟩:=HI.out EN;obtain⟨inf,gU⟩:=FC (l:=g.Fh) (k:=x.info.toNat) EN;obtain⟨c0,c1⟩:=hxi _ inf gU;have HT:=Ac (show eH g.Fh x=(decide (inf.aC≠x.aC)||decide (inf.actions≠(x.next.length:Int))) by
       unfold eH; simp[hkd,FU,gU])
      have hbiw:bi < wr.heap.size:=by have:=hbel.size;omega
      clear gU hxi hkd;by_cases p1:inf.aC=x.aC
      ·have f1:(inf.aC != x.aC)=false:=neF p1;by_cases p2:inf.actions=(x.next.length:Int)
       ·have f2:(inf.actions != (x.next.length:Int))=false:=neF p2;have HF:=Ac (show eH g.Fh x=false by rw[HT.out]; simp[p1,p2]);clear p1 p2;go_wp2
        go_quiet (fail)
        go_wp2
        go_roundw
        case rel=>exact⟨k2+1,EN,by go_num,pI HX.out HP.out HF.out,(hbx.alloc _).dN _,aI (hbel.alloc hbel.size _) _⟩
        case measure=>simp[intOf]; omega
       ·have f2:(inf.actions != (x.next.length:Int))=true:=neT p2;have HF:=Ac (BAD.out (by rw[HT.out]; simp[p2]));clear p1 p2;exact zai
      ·have f1:(inf.aC != x.aC)=true:=neT p1;have HF:=Ac (BAD.out (by rw[HT.out]; simp[p1]));clear p1;exact zai
     ·have hd2:(x.kind==2)=false:=by simp[hkd]
      have HF:=Ac (show eH g.Fh x=false by unfold eH; simp[hkd]);clear hkd;go_wp2
      go_quiet (fail)
      go_wp2
      go_roundw
      case rel=>exact⟨k2+1,EN,by go_num,pI HX.out HP.out HF.out,(hbx.alloc _).dN _,aI (hbel.alloc hbel.size _) _⟩
      case measure=>simp[intOf]; omega
    ·have HTB:=Ac (show qH g=false by
      have:=HP.out; rw[Gl EN] at this; exact this)
     go_wp2_with fail
     refine(yH _ F _ g (HG.out.on (FZ hbel F)) HS.out (oJ HNE.out)).mono ?_;rintro e w2 ⟨vss,rfl,hb2,hse⟩;have hB2:Below w.heap.size w w2:=hbel.trans (hb2.mono hbel.size);have HV4:=Ac (show bF g=if lG (dK g) then 18 else if fB (dK g) g.Fh.length then 9 else 0 by
      rw[HV3.out]; unfold kL; rw[HTB.out]; rfl)
     have hsl:(dK g).length=g.Fh.length:=fE _ _ _;have hsle:∀ l∈dK g,l.length<=g.Fg.length:=acd;generalize dK g=sets at *;obtain⟨As,cs,rfl,hcs,hS⟩:=hse;have HSE:=Ac hS;clear hS;have HSLE:=Ac hsle;clear hsle;have HSL:=Ac hsl;have hsl0:sets.length<=100:=EN;clear hsl hbx x0 x1 x2 hold hbel hb2;dsimp only;go_wp2
     go_loop [9] (λi=>∃ k:Nat,k<=sets.length/\i = F6 F5 k/\lG (sets.take k)=false) (λi=>sets.length - (intOf i).toNat)
     case atStart=>exact⟨0,EN,rfl,rfl⟩
     case round =>
      obtain⟨k3,hk3,rfl,hpre⟩:=hrel;have HP3:=Ac hpre;clear hpre;by_cases hlt3:k3 < sets.length
      ·obtain⟨bs,os,rfl,_,hbs,hxs⟩:=HSE.out EN;obtain⟨l,hl⟩:=FC hlt3;obtain⟨vl,el,Al,cl,rfl,hcl,hLl⟩:=hxs k3 l hl;rw[Gp] at el;have HX:=Ac hl;have hll:=HSLE.out l (FT hl);clear hl hxs hLl;by_cases hz:l.length=0
       ·have hd:((l.length:Int)==0)=true:=eqT EN;have HF:=Ac (show bF g=18 by
         have:lG sets=true:=List.any_eq_true.2 ⟨l,FT HX.out,by simp; exact Hq hz⟩;rw[HV4.out,this]; rfl)
        clear hz;go_wp2
        go_ret;exact⟨_,rfl,hB2,by rw[HF.out]; rfl⟩
       ·have hd:((l.length:Int)==0)=false:=eqF EN;go_wp2
        go_round
        case rel=>exact⟨k3+1,EN,by go_num,pI HX.out HP3.out (by simp; intro h; rw[h] at hz; simp at hz)⟩
        case measure=>simp[intOf]; omega
      ·have HNB:=Ac (show lG sets=false by
        have:=HP3.out; rw[Gl EN] at this; exact this)
       have HNZ:=Ac (show ∀ l∈sets,0 < l.length by
        intro l hl;have:=List.any_eq_false.1 HNB.out l hl;simp at this;exact List.length_pos_iff.2 this)
       go_wp2
       go_loopw [10] (λi wi=>∃ m n:Nat,1<=m/\(m<=sets.length\/m=1)/\i = F6 F5 m/\fB sets m=false/\wi=w2.drewN n) (λi _=>sets.length - (intOf i).toNat)
       case atStart=>exact⟨1,0,EN,.inr rfl,rfl,rfl,rfl⟩
       case round =>
        obtain⟨m,nd,hm1,hm,rfl,hpre,rfl⟩:=hrel;have HPM:=Ac hpre;clear hpre;by_cases hmt:m < sets.length
        ·obtain⟨bs,os,rfl,_,hbs,hxs⟩:=HSE.out EN;obtain⟨l,hl⟩:=FC hmt;obtain⟨vl,el,Al,cl,rfl,hcl,hLl⟩:=hxs m l hl;obtain⟨l',hl'⟩:=FC (l:=sets) (k:=m - 1) EN;obtain⟨vl',el',Al',cl',rfl,hcl',hLl'⟩:=hxs (m - 1) l' hl';have p0:=HNZ.out l (FT hl);have p1:=HNZ.out l' (FT hl');obtain⟨bl,ol,rfl,_,hbl,hxl⟩:=hLl p0;obtain⟨bl',ol',rfl,_,ajL,hxl'⟩:=hLl' p1;obtain⟨x,hx⟩:=FC p0;obtain⟨y,hy⟩:=FC p1;have ex:=hxl 0 x hx;have ey:=hxl' 0 y hy;unfold jP at ex ey;simp only[KF,J7] at ex ey;rw[Gp] at el el';have HAT:=Ac (show jS sets m=decide (x < y) by
          unfold jS; simp[FU,hl,hl',hx,hy])
         clear hl hl' hx hy hxl hxl' hLl hLl' hxs;have hmd:m - 1 < sets.length:=EN;by_cases q:x < y
         ·have HF:=Ac (show bF g=9 by
           rw[HV4.out,HNB.out];have:=ads hm1 hmt (by rw[HAT.out]; simp[q]);rw[<-HSL.out,this]; rfl)
          go_wp2
          have hw1:IntKind.i64.wrap ((m:Int) - 1)=((m - 1:Nat):Int):=by rw[GH _ EN];omega
          go_quiet (fail)
          go_wp2
          go_ret;exact⟨_,rfl,aI (aI hB2 _) _,by rw[HF.out]; rfl⟩
         ·have hq:decide (x < y)=false:=L9 q;go_wp2
          have hw1:IntKind.i64.wrap ((m:Int) - 1)=((m - 1:Nat):Int):=by rw[GH _ EN];omega
          go_quiet (fail)
          clear hw1;go_wp2
          go_roundw
          case rel=>exact⟨m+1,nd+nq,EN,.inl EN,by go_num,by rw[abC _ _ hm1,HPM.out,HAT.out,hq]; rfl,rfl⟩
          case measure=>simp[intOf]; omega
        ·go_wp2
         go_ret;refine⟨_,rfl,aI hB2 _,?_⟩;have:bF g=0:=by
          rw[HV4.out,HNB.out];have h1:=HPM.out;have h2:=HSL.out;rcases hm with hm | hm
          ·have:m=sets.length:=EN;rw[<-h2,<-this,h1];rfl
          ·subst hm;have:fB sets g.Fh.length=false:=by
            unfold fB;rw[show g.Fh.length - 1=0 by omega];rfl
           rw[this];rfl
         rw[this];rfl
inductive Span (Fg:List Nd):List Int->Nat->Nat->Prop
 | nil (a:Nat):Span Fg [] a a
 | cons {a m b:Nat} {n:Nd} {cs:List Int}:Fg[a]? = some n->Span Fg n.next (a+1) m->Span Fg cs m b->Span Fg ((a:Int) :: cs) a b
theorem Span.le {Fg:List Nd} (h:Span Fg cs a b):a<=b:=by
 induction h with
 | nil a=>exact FV _
 | cons _ _ _ ih1 ih2=>omega
theorem Span.bound {Fg:List Nd} (h:Span Fg cs a b) (ha:a<=Fg.length):b<=Fg.length:=by
 induction h with
 | nil a=>exact ha
 | cons hn _ _ ih1 ih2=>exact ih2 (ih1 (FD hn))
theorem Span.mem {Fg:List Nd} (h:Span Fg cs a b):∀ c∈cs,(a:Int)<=c/\c < b:=by
 induction h with
 | nil a=>intro c hc; cases hc
 | cons hn h1 h2 ih1 ih2 =>
  intro c hc;have l1:=h1.le;have l2:=h2.le;rcases List.mem_cons.1 hc with rfl | hc
  ·omega
  ·have:=ih2 c hc;omega
theorem Span.kids {Fg:List Nd} (h:Span Fg cs a b):∀ p n,a<=p->p < b->Fg[p]? = some n->∀ c∈n.next,(p:Int) < c/\c < b:=by
 induction h with
 | nil a=>intro p n h1 h2; omega
 | @cons a m b n cs hn h1 h2 ih1 ih2 =>
  intro p n' ha hb hp c hc;have l1:=h1.le;have l2:=h2.le;by_cases e:p=a
  ·subst e;rw[hn] at hp;cases hp;have:=h1.mem c hc;omega
  ·by_cases hm:p < m
   ·have:=ih1 p n' EN hm hp c hc;omega
   ·exact ih2 p n' EN hb hp c hc
theorem Span.parent {Fg:List Nd} (h:Span Fg cs a b):∀ j:Nat,a<=j->j < b->(j:Int)∈cs\/∃ p n,a<=p/\p < j/\Fg[p]? = some n/\(j:Int)∈n.next:=by
 induction h with
 | nil a=>intro j h1 h2; omega
 | @cons a m b n cs hn h1 h2 ih1 ih2 =>
  intro j ha hb;by_cases e:j=a
  ·subst e;exact .inl aF
  ·by_cases hm:j < m
   ·rcases ih1 j EN hm with h | ⟨p,n',hp1,hp2,hp3,hp4⟩
    ·exact .inr ⟨a,n,FV _,EN,hn,h⟩
    ·exact .inr ⟨p,n',EN,hp2,hp3,hp4⟩
   ·rcases ih2 j EN hb with h | ⟨p,n',hp1,hp2,hp3,hp4⟩
    ·exact .inl (by simp[h])
    ·have:=h1.le;exact .inr ⟨p,n',EN,hp2,hp3,hp4⟩
theorem Span.once {Fg:List Nd} (h:Span Fg cs a b):(∀ c∈cs,∀ p n,a<=p->p < b->Fg[p]? = some n->c ∉ n.next) /\
  (∀ c p q n n',a<=p->p < b->a<=q->q < b->Fg[p]? = some n->Fg[q]? = some n'->c∈n.next->c∈n'.next->p=q):=by
 induction h with
 | nil a=>exact⟨(λc hc=>(by cases hc)),(λc p q n n' h1 h2=>EN)⟩
 | @cons a m b n cs hn h1 h2 ih1 ih2 =>
  have l1:=h1.le;have l2:=h2.le;have k1:=h1.kids;have k2:=h2.kids;have m1:=h1.mem;have m2:=h2.mem;constructor
  ·intro c hc p n' hp1 hp2 hp3 hp4;rcases List.mem_cons.1 hc with rfl | hc'
   ·by_cases e:p=a
    ·subst e;rw[hn] at hp3;cases hp3;have:=m1 _ hp4;omega
    ·by_cases hm:p < m
     ·have:=k1 p n' EN hm hp3 _ hp4;omega
     ·have:=k2 p n' EN hp2 hp3 _ hp4;omega
   ·by_cases e:p=a
    ·subst e;rw[hn] at hp3;cases hp3;have:=m1 _ hp4;have:=m2 _ hc';omega
    ·by_cases hm:p < m
     ·have:=k1 p n' EN hm hp3 _ hp4;have:=m2 _ hc';omega
     ·exact ih2.1 c hc' p n' EN hp2 hp3 hp4
  ·have key:∀ c p q n1 n2,a<=p->p < q->q < b->Fg[p]? = some n1->Fg[q]? = some n2->c∈n1.next->c∈n2.next->False:=by
    intro c p q n1 n2 hp1 hpq hq hn1 hn2 hc1 hc2;by_cases e:p=a
    ·subst e;rw[hn] at hn1;cases hn1;by_cases hm:q < m
     ·exact ih1.1 c hc1 q n2 EN hm hn2 hc2
     ·have:=m1 c hc1;have:=k2 q n2 EN hq hn2 c hc2;omega
    ·by_cases hm:q < m
     ·have:=ih1.2 c p q n1 n2 EN EN EN hm hn1 hn2 hc1 hc2;omega
     ·by_cases hmp:p < m
      ·have:=k1 p n1 EN hmp hn1 c hc1;have:=k2 q n2 EN hq hn2 c hc2;omega
      ·have:=ih2.2 c p q n1 n2 EN EN EN hq hn1 hn2 hc1 hc2;omega
   intro c p q n1 n2 hp1 hp2 hq1 hq2 hn1 hn2 hc1 hc2;rcases II p q with h | h | h
   ·exact(key c p q n1 n2 hp1 h hq2 hn1 hn2 hc1 hc2).elim
   ·exact h
   ·exact(key c q p n2 n1 hq1 h hp2 hn2 hn1 hc2 hc1).elim
theorem Span.sub {Fg:List Nd} (h:Span Fg cs a b):∀ i:Nat,a<=i->i < b->∃ e,Span Fg [(i:Int)] i e/\i < e/\e<=b:=by
 induction h with
 | nil a=>intro i h1 h2; omega
 | @cons a m b n cs hn h1 h2 ih1 ih2 =>
  intro i ha hb;have l1:=h1.le;have l2:=h2.le;by_cases e:i=a
  ·subst e;exact⟨m,.cons hn h1 (.nil m),EN,EN⟩
  ·by_cases hm:i < m
   ·obtain⟨e,h,h3,h4⟩:=ih1 i EN hm;exact⟨e,h,h3,EN⟩
   ·obtain⟨e,h,h3,h4⟩:=ih2 i EN hb;exact⟨e,h,h3,h4⟩
theorem Span.unique {Fg:List Nd} (h:Span Fg cs a b):∀ {b'},Span Fg cs a b'->b=b':=by
 induction h with
 | nil a=>intro b' h; cases h; rfl
 | cons hn h1 h2 ih1 ih2 =>
  intro b' h;generalize hx:((_:Int) :: _)=l at h;cases h with
  | nil=>cases hx
  | cons hn' h1' h2' =>
   injection hx with e1 e2
   rw[hn] at hn';cases hn';have:=ih1 h1';subst this;subst e2;exact ih2 h2'
theorem xX {Fg:List Nd} {rec:Nat->Int->Int×Int} (hrec:∀ a d,(rec a d).1≠-1->∃ b:Nat,(rec a d).1=b/\Span Fg [(a:Int)] a b) :
  ∀ (cs:List Int) (x:Nat) (deep:Int),(bK rec cs x deep).1≠-1->∃ b:Nat,(bK rec cs x deep).1=b/\Span Fg cs x b
 | [],x,deep,_=>⟨x,rfl,.nil x⟩
 | c :: cs,x,deep,h=>by
  unfold bK at h ⊢;by_cases hc:c=x
  ·subst hc;simp only[ne_eq,not_true_eq_false,↓reduceIte,Int.toNat_natCast] at h ⊢;by_cases hng:(rec x deep).1 < 0
   ·rw[L8 hng] at h; exact absurd rfl h
   ·rw[L6 hng] at h ⊢;obtain⟨m,hm,hs⟩:=hrec x deep EN;rw[hm] at h ⊢;obtain⟨b,hb,hs2⟩:=xX hrec cs m _ h;refine⟨b,hb,?_⟩;generalize hl:[(x:Int)]=l at hs;cases hs with
    | nil=>cases hl
    | cons hn h1 h2 =>
     injection hl with e1 e2
     subst e2;cases h2
     exact .cons hn h1 hs2
  ·rw[L8 hc] at h; exact absurd rfl h
theorem ace (Fg:List Nd):∀ (f a:Nat) (depth deep:Int),(bP Fg f a depth deep).1≠-1->∃ b:Nat,(bP Fg f a depth deep).1=b/\Span Fg [(a:Int)] a b
 | 0,_,_,_,h=>absurd rfl h
 | f+1,a,depth,deep,h=>by
  unfold bP at h ⊢;cases hn:Fg[a]? with
  | none=>rw[hn] at h; exact absurd rfl h
  | some n =>
   rw[hn] at h;simp only at h ⊢;have:=xX (Fg:=Fg) (rec:=λa d=>bP Fg f a (depth+1) d) (λa' d h'=>ace Fg f a' (depth+1) d h') n.next (a+1) (max deep depth) h;obtain⟨b,hb,hs⟩:=this;exact⟨b,hb,.cons hn hs (.nil b)⟩
structure Good (g:Gm):Prop where
 pos:0 < g.Fg.length
 span:Span g.Fg [(0:Int)] 0 g.Fg.length
 Fh:BN g
theorem iO {g:Gm} (h:bF g=0):Good g:=by
 unfold bF at h;split at h
 ·omega
 ·rename_i h1
  split at h
  ·rename_i h2; exact absurd h h2
  ·rename_i h2
   split at h
   ·omega
   ·rename_i h3
    have hp:0 < g.Fg.length:=by unfold jH at h1;omega
    have h3':(bP g.Fg (g.Fg.length+1) 0 0 0).1=(g.Fg.length:Int):=by simpa using h3
    obtain⟨b,hb,hs⟩:=ace g.Fg (g.Fg.length+1) 0 0 0 EN;have:b=g.Fg.length:=EN;subst this;exact⟨hp,hs,oJ (by simpa using h2)⟩
theorem Good.ahq {g:Gm} (h:Good g):D7 g.Fg:=by
 intro n hn c hc;obtain⟨i,hi⟩:=Gz hn;have:=h.span.kids i n (GR _) (FD hi) hi c hc;omega
def Kid (Fg:List Nd) (i k c:Nat):Prop:=∃ n,Fg[i]? = some n/\n.next[k]? = some (c:Int)
theorem Span.inj {Fg:List Nd} (h:Span Fg cs a b):∀ (k k':Nat) (c:Int),cs[k]? = some c->cs[k']? = some c->k=k':=by
 induction h with
 | nil a=>intro k k' c h1; simp at h1
 | @cons a m b n cs hn h1 h2 ih1 ih2 =>
  intro k k' c hk hk';have l1:=h1.le;have m2:=h2.mem;cases k with
  | zero =>
   cases k' with
   | zero=>rfl
   | succ k' =>
    simp at hk hk';have:=m2 c (FT hk');omega
  | succ k =>
   cases k' with
   | zero =>
    simp at hk hk';have:=m2 c (FT hk);omega
   | succ k' =>
    simp at hk hk';rw[ih2 k k' c hk hk']
theorem Span.amT {Fg:List Nd} (h:Span Fg cs a b):∀ p n,a<=p->p < b->Fg[p]? = some n->∃ e,Span Fg n.next (p+1) e/\e<=b:=by
 intro p n ha hb hn;obtain⟨e,hs,h1,h2⟩:=h.sub p ha hb;generalize hl:[(p:Int)]=l at hs;cases hs with
 | nil=>cases hl
 | cons hn' h3 h4 =>
  injection hl with e1 e2
  subst e2;rw[hn] at hn';cases hn';cases h4;exact⟨e,h3,h2⟩
theorem Good.aay {g:Gm} (h:Good g) (hk:Kid g.Fg i k c):i < c/\c < g.Fg.length/\i < g.Fg.length:=by
 obtain⟨n,hn,hc⟩:=hk;have hl:=FD hn;have:=h.span.kids i n (GR _) hl hn c (FT hc);omega
theorem Good.aeO {g:Gm} (h:Good g) {i' k':Nat} (h1:Kid g.Fg i k c) (h2:Kid g.Fg i' k' c):i=i'/\k=k':=by
 obtain⟨n,hn,hc⟩:=h1;obtain⟨n',hn',hc'⟩:=h2;have e:=h.span.once.2 c i i' n n' (GR _) (FD hn) (GR _) (FD hn') hn hn' (FT hc) (FT hc');subst e;rw[hn] at hn';cases hn';obtain⟨e,hs,_⟩:=h.span.amT i n (GR _) (FD hn) hn;exact⟨rfl,hs.inj k k' c hc hc'⟩
theorem Good.abL {g:Gm} (h:Good g) (h0:0 < c) (hc:c < g.Fg.length):∃ i k,Kid g.Fg i k c:=by
 rcases h.span.parent c (GR _) hc with h | ⟨p,n,_,h1,h2,h3⟩
 ·simp at h;omega
 ·obtain⟨k,hk⟩:=Gz h3;exact⟨p,k,n,h2,hk⟩
def upTo (Fg:List Nd) (c:Nat):Nat->Option (Nat×Nat)
 | 0=>none
 | i+1=>match (Fg[i]?).bind λn=>n.next.findIdx? λx=>decide (x=(c:Int)) with
  | some k=>some (i,k)
  | none=>upTo Fg c i
theorem ahr {c:Int} (hinj:∀ (k k':Nat),l[k]? = some c->l[k']? = some c->k=k') (hk:l[k]? = some c):(l.findIdx? λx=>decide (x=c))=some k:=by
 cases hf:l.findIdx? λx=>decide (x=c) with
 | none =>
  rw[KC] at hf;have:=hf c (FT hk);simp at this
 | some k' =>
  rw[List.findIdx?_eq_some_iff_getElem] at hf;obtain⟨h1,h2,_⟩:=hf;have h3:=of_decide_eq_true h2;rw[hinj k' k (by rw[<-h3]; simp) hk]
theorem aln {c:Int} (h:c ∉ l):(l.findIdx? λx=>decide (x=c))=none:=by
 rw[KC];intro x hx;simp;rintro rfl;exact h hx
theorem Good.anW {g:Gm} (h:Good g) (hk:Kid g.Fg i k c):∀ j,i < j->j<=g.Fg.length->upTo g.Fg c j=some (i,k):=by
 intro j;induction j with
 | zero=>intro h1; omega
 | succ j ih =>
  intro h1 h2;obtain⟨n,hn⟩:=FC (l:=g.Fg) (k:=j) EN;unfold upTo;rw[hn,Option.bind_some];by_cases e:j=i
  ·subst e;have hk':=hk;obtain⟨n',hn',hc⟩:=hk';rw[hn] at hn';cases hn';rw[ahr (k:=k) (λa b ha hb=>(h.aeO ⟨n,hn,ha⟩ ⟨n,hn,hb⟩).2) hc]
  ·rw[aln (λhm=>by
    obtain⟨k',hk'⟩:=Gz hm;exact e (h.aeO ⟨n,hn,hk'⟩ hk).1)]
   exact ih EN EN
def maxL (l:List Int):Int:=match l with | []=>0 | x :: r=>r.foldl max x
theorem aeP (l:List Int) (a x:Int):(l ++ [x]).foldl max a=max (l.foldl max a) x:=aF
theorem amU (w:FW) (F:FI) (v:F7) (l:List Int) (hv:Aj w F v l) (h0:0 < l.length) (hl:l.length<=1000000) :
  Calls FY 164 #[v] w λe w'=>e = .returned (F6 F5 (maxL l))/\w'=w:=by
 obtain⟨A,c,rfl,hc,hN⟩:=hv;obtain⟨b,o,rfl,hbF,hb,hcell⟩:=hN h0;clear hN;obtain⟨y,hy⟩:=FC h0;have e0:=hcell 0 y hy;unfold jP at e0;simp only[KF,J7] at e0;have HC:=Ac hcell;clear hcell;obtain⟨r,rfl⟩:∃ r,l=y :: r:=by cases l with | nil=>simp at h0 | cons a r=>simp at hy;exact⟨r,by rw[hy]⟩
 clear hy;have hd:decide (((y :: r).length:Int) < 1)=false:=L9 EN;have HM:=Ac (show maxL (y :: r)=r.foldl max y from rfl);generalize hL:(y :: r).length=L at *;have HL:=Ac hL;clear hL;go_in;go_wp2
 go_loopw [3,4] (λm i wr=>∃ k:Nat,1<=k/\k<=L/\i = F6 F5 k/\m = F6 F5 ((r.take (k - 1)).foldl max y)/\wr=w) (λ_ i _=>L - (intOf i).toNat)
 case atStart=>exact⟨1,EN,EN,rfl,rfl,rfl⟩
 case round =>
  obtain⟨k,hk1,hk,rfl,rfl,rfl⟩:=hrel;by_cases hlt:k < L
  ·obtain⟨x,hx⟩:=FC (l:=y :: r) (k:=k) (by rw[HL.out]; exact hlt);have ex:=HC.out k x hx;unfold jP at ex; rw[Gp] at ex;have HS:=Ac (show(r.take k).foldl max y=max ((r.take (k - 1)).foldl max y) x by
    rw[<-aeP];congr 1;have:r[k - 1]? = some x:=by rw[<-hx];cases k with | zero=>omega | succ k=>simp
    have h:=FP this;rwa [Nat.sub_add_cancel hk1] at h)
   clear hx e0;generalize (r.take (k - 1)).foldl max y=m at *;go_wp2
   go_roundw
   case rel=>exact⟨k+1,EN,EN,by go_num,by rw[Nat.add_sub_cancel,HS.out]; congr 1; rw[Int.max_def]; split <;> split <;> omega,trivial⟩
   case measure=>simp[intOf]; omega
  ·go_wp2
   go_ret;refine⟨?_,rfl⟩;have:k=L:=EN;rw[HM.out,Gl (by rw[this,<-HL.out]; simp)];rfl
theorem ajM (w:FW) (F:FI) (v:F7) (l:List Int) (y:Int) (hv:Aj w F v l) (hl:l.length<=1000000) :
  Calls FY 203 #[v,F6 F5 y] w λe w'=>e = .returned (F6 F5 (if y∈l then (l.idxOf y:Int) else -1))/\w'=w:=by
 obtain⟨A,c,rfl,hc,hN⟩:=hv;have HN:=Ac hN;clear hN;obtain⟨R,hR⟩:∃ R:Int,R=(if y∈l then (l.idxOf y:Int) else -1):=⟨_,rfl⟩;rw[<-hR];have HR:=Ac hR;clear hR;go_in;go_wp2
 go_loop [8] (λi=>∃ k:Nat,k<=l.length/\i = F6 F5 k/\∀ z∈l.take k,z≠y) (λi=>l.length - (intOf i).toNat)
 case atStart=>exact⟨0,EN,rfl,aF⟩
 case round =>
  obtain⟨k,hk,rfl,hp⟩:=hrel;have HP:=Ac hp;clear hp;by_cases hlt:k < l.length
  ·obtain⟨b,o,rfl,_,hb,hx⟩:=HN.out EN;refine zaQ ?_;intro x hx' ex;unfold jP at ex;rw[Gp] at ex;have HX:=Ac hx';clear hx hx';by_cases he:y=x
   ·subst he;have HF:=Ac (show R=(k:Int) by
     rw[HR.out,L8 (FT HX.out)];have h1:l.idxOf y<=k:=by
      rcases Ip k (l.idxOf y) with h | h
      ·exfalso
       have:=List.not_of_lt_findIdx (xs:=l) (p:=(· == y)) (i:=k) h;have hq:l[k]'hlt=y:=by have:=HX.out;simpa [hlt] using this
       simp[hq] at this
      ·exact h
     have h2:¬ l.idxOf y < k:=by
      intro h;have hm:y∈l:=FT HX.out;have hlt2:=List.idxOf_lt_length_iff.2 hm;exact HP.out y (List.mem_take_iff_getElem.2 ⟨l.idxOf y,EN,aF⟩) rfl
     omega)
    exact zaL
   ·have hd:(y==x)=false:=by simp[he]
    have HE:=Ac he;clear he;go_wp2
    go_round
    case rel =>
     refine⟨k+1,EN,by go_num,λz hz=>?_⟩;rw[FP HX.out] at hz;simp at hz;rcases hz with hz | rfl
     ·exact HP.out z hz
     ·exact λh=>HE.out h.symm
    case measure=>simp[intOf]; omega
  ·have HF:=Ac (show R = -1 by
    rw[HR.out,L6]; intro hm;have:=HP.out; rw[Gl EN] at this;exact this y hm rfl)
   exact zaL
theorem aeQ (w:FW) (F:FI) (v:F7) (l:List Int) (y:Int) (hv:Aj w F v l) (hl:l.length<=1000000) :
  Calls FY 193 #[v,F6 F5 y] w λe w'=>e = .returned (Gj (l.contains y))/\w'=w:=by
 have HV:=Ac hv;clear hv;go_in;go_wp2_with fail
 refine(ajM w F v l y HV.out hl).mono ?_;rintro e w' ⟨rfl,rfl⟩;obtain⟨R,hR⟩:∃ R:Int,R=(if y∈l then (l.idxOf y:Int) else -1):=⟨_,rfl⟩;rw[<-hR];have HF:=Ac (show decide (0<=R)=l.contains y by
  rw[hR];by_cases h:y∈l
  ·simp[h]
  ·simp[h])
 clear hR;go_wp2
 go_ret;exact⟨by rw[<-HF.out]; rfl,rfl⟩
theorem ajN (w:FW) (x:Int):Calls FY 188 #[F6 F5 x] w λe w'=>e = .returned (Gj false)/\w'=w:=by
 have h:(x != x)=false:=aF;exact zbU
theorem alo (w:FW) (x y:Int):Calls FY 211 #[F6 F5 x,F6 F5 y] w λe w'=>e = .returned (Gj (decide (x < y)))/\w'=w:=by
 go_in;go_wp2_with fail
 refine(ajN w x).mono ?_;rintro e w' ⟨rfl,rfl⟩;go_wp2
 go_ret;exact⟨rfl,rfl⟩
def iD:List Int->Bool
 | a :: b :: r=>decide (a<=b)&&iD (b :: r)
 | _=>true
theorem uH:∀ (l:List Int) (k:Nat),iD l=true->iD (l.drop k)=true
 | l,0,h=>h
 | [],k+1,h=>by simp[iD]
 | [a],k+1,h=>by simp[iD]
 | a :: b :: r,k+1,h=>by
  simp only[iD,GN] at h;simp only[List.drop_succ_cons];exact uH (b :: r) k h.2
theorem zH {y:Int} (hx:l[k]? = some x) (hy:l[k+1]? = some y):iD (l.drop k)=(decide (x<=y)&&iD (l.drop (k+1))):=by
 have h1:=FD hx;have h2:=FD hy;have e1:l[k]=x:=by simpa [h1] using hx
 have e2:l[k+1]=y:=by simpa [h2] using hy
 rw[Ii h1,Ii h2,e1,e2];rfl
theorem afU (l:List Int):iD l=true↔∀ k x y,l[k]? = some x->l[k+1]? = some y->x<=y:=by
 constructor
 ·intro h k x y hx hy;have:=uH l k h;rw[zH hx hy] at this;simp at this;exact this.1
 ·induction l with
  | nil=>intro _; rfl
  | cons a r ih=>match r with
   | []=>intro _; rfl
   | b :: r=>intro h; simp only[iD,GN,decide_eq_true_eq]; exact⟨h 0 a b rfl rfl,ih (λk x y hx hy=>h (k+1) x y (by simpa using hx) (by simpa using hy))⟩
theorem aeR (w:FW) (F:FI) (v:F7) (l:List Int) (hv:Aj w F v l) (hl:l.length<=1000000) :
  Calls FY 194 #[v] w (Ret w λv _=>v = Gj (iD l)):=by
 obtain⟨A,c,rfl,hc,hN⟩:=hv;have HN:=Ac hN;clear hN;go_in;go_wp2
 go_loopw [3] (λi wr=>∃ k:Nat,k<=l.length/\i = F6 F5 ((k:Int) - 1)/\iD (l.drop (k - 1))=true/\∃ n,wr=w.drewN n) (λi _=>(intOf i+1).toNat)
 case atStart=>exact⟨l.length,EN,rfl,by cases h:l.length with | zero=>simp[List.length_eq_zero_iff.1 h,iD] | succ m=>(have hm:m < l.length:=by omega); simp[Ii hm,GU (show l.length<=m+1 by omega),iD],0,rfl⟩
 case round =>
  obtain⟨k,hk,rfl,hp,nn,rfl⟩:=hrel;have HP:=Ac hp;clear hp;by_cases hlt:2<=k
  ·obtain⟨b,o,rfl,_,hb,hx⟩:=HN.out EN;obtain⟨q,rfl⟩:∃ q,k=q+2:=⟨k - 2,EN⟩;obtain⟨p,hpq⟩:=FH (q+1);have hpl:p < l.length:=EN;have hql:q < l.length:=EN;obtain⟨x,hx'⟩:=FC (l:=l) (k:=q) EN;obtain⟨y,hy'⟩:=FC (l:=l) (k:=p) EN;have ex:=hx q x hx';have ey:=hx p y hy';unfold jP at ex ey;rw[Gp] at ex ey;have HS:=Ac (zH hx' (by rw[<-hpq]; exact hy'));clear hx hx' hy';have i1:(((q+2:Nat):Int) - 1)=(p:Int):=EN;have i2:((p:Int) - 1)=(q:Int):=EN;have wr2:IntKind.i64.wrap (q:Int)=(q:Int):=GH _ EN;have hp0:(0:Int) < (p:Int):=EN;rw[i1];have HPQ:=Ac hpq;clear hpq i1;go_wp2_with fail
   refine wp_region_held_drew (S:=λw'=>w'.cell? ⟨b,o+q,none⟩=some (F6 F5 x)/\w'.cell? ⟨b,o+p,none⟩=some (F6 F5 y)) ak ⟨ex,ey⟩ (λhHeld=>?_);refine tkm [0,1,2,3,4,5,6,7,8] ?_;refine tk2 9 ak rfl λK hK=>?_
   go_simp;refine(alo _ y x).mono ?_;rintro e w1 ⟨rfl,rfl⟩;dsimp only;refine hK.out _ _ ⟨ex,ey⟩ (λhHeld=>?_);clear hK K;refine Zb ?_;refine Yf ?_;clear hHeld ex ey;by_cases hyx:y < x
   ·have HF:=Ac (show iD l=false by
     cases h:iD l with
     | false=>rfl
     | true=>have:=uH l q h; rw[HS.out] at this; simp at this; omega)
    go_wp2
    go_ret;exact⟨_,rfl,aI (F9 _ _) _,by first | rfl | (rw[HF.out]; rfl)⟩
   ·have hd:decide (y < x)=false:=L9 hyx;go_wp2
    go_roundw
    case rel =>
     have e:=HPQ.out;refine⟨q+1,EN,by first | rfl | (congr 1; omega),?_,_,rfl⟩;have:=HP.out;rw[Nat.add_sub_cancel,HS.out];simp only[GN,decide_eq_true_eq];exact⟨EN,this⟩
    case measure=>simp[intOf]; omega
  ·go_wp2
   go_ret;refine⟨_,rfl,aI (F9 _ _) _,?_⟩;have:=HP.out;rw[show k - 1=0 by omega] at this;simp at this;rw[this];rfl
theorem Row.xY {A:FW} {c:Array F7} {cs:List F7} (hb:A.heap.size=b) (hc:c.toList=cs):Row (A.alloc (.cells c t)) b t cs:=by
 subst hb hc;exact Row.new A t c
def bZ:Gm:=⟨2,[⟨2,0,0,[1,2],[],[]⟩,⟨3,0,0,[],[],[1,-1]⟩,⟨2,1,1,[3,4],[],[]⟩,⟨3,0,0,[],[],[0,0]⟩,⟨2,0,2,[5,6,7],[],[]⟩,⟨3,0,0,[],[],[2,-2]⟩,⟨3,0,0,[],[],[-1,1]⟩,⟨3,0,0,[],[],[3,-3]⟩],[⟨0,2⟩,⟨1,2⟩,⟨0,3⟩]⟩
def yI (w:FW):List NV:=[⟨⟨2,0,0,[1,2],[],[]⟩,FQ (some ⟨w.heap.size+2,0,none⟩) 2 2,FQ none 0 0,FQ none 0 0⟩,⟨⟨3,0,0,[],[],[1,-1]⟩,FQ none 0 0,FQ none 0 0,FQ (some ⟨w.heap.size+3,0,none⟩) 2 2⟩,⟨⟨2,1,1,[3,4],[],[]⟩,FQ (some ⟨w.heap.size+4,0,none⟩) 2 2,FQ none 0 0,FQ none 0 0⟩,⟨⟨3,0,0,[],[],[0,0]⟩,FQ none 0 0,FQ none 0 0,FQ (some ⟨w.heap.size+5,0,none⟩) 2 2⟩,⟨⟨2,0,2,[5,6,7],[],[]⟩,FQ (some ⟨w.heap.size+6,0,none⟩) 3 3,FQ none 0 0,FQ none 0 0⟩,⟨⟨3,0,0,[],[],[2,-2]⟩,FQ none 0 0,FQ none 0 0,FQ (some ⟨w.heap.size+7,0,none⟩) 2 2⟩,⟨⟨3,0,0,[],[],[-1,1]⟩,FQ none 0 0,FQ none 0 0,FQ (some ⟨w.heap.size+8,0,none⟩) 2 2⟩,⟨⟨3,0,0,[],[],[3,-3]⟩,FQ none 0 0,FQ none 0 0,FQ (some ⟨w.heap.size+9,0,none⟩) 2 2⟩]
theorem yJ (w:FW):Calls FY 28 #[] w (Ret w λv w'=>AA w' (λb=>w.heap.size<=b) v bZ):=by
 go_in;go_wp2
 refine bodyPost_ret (v:=.agg #[F6 F5 2,FQ (some ⟨w.heap.size+10,0,none⟩) 8 8,FQ (some ⟨w.heap.size+1,0,none⟩) 3 3]) (by simp[results,Tryz.results28,go_sem]) rfl ?_;generalize hW:World.alloc _ _=W;have hB:Below w.heap.size w W:=by rw[<-hW];repeat (first | exact F9 _ _ | refine Below.alloc ?_ (by simp <;> omega) _)
 have r1:Row W (w.heap.size+1) 37 [Value.int .i64 0,Value.int .i64 2,Value.int .i64 1,Value.int .i64 2,Value.int .i64 0,Value.int .i64 3]:=by
  rw[<-hW];refine Zp ?_;refine Zp ?_;exact za0
 have r2:Row W (w.heap.size+2) 3 [Value.int .i64 1,Value.int .i64 2]:=by
  rw[<-hW];refine Zp ?_;refine Zp ?_;exact Row.xY aF rfl
 have r3:Row W (w.heap.size+3) 3 [Value.int .i64 1,Value.int .i64 (-1)]:=by
  rw[<-hW];refine Zp ?_;refine Row.alloc ?_ _;refine Row.alloc ?_ _;exact za0
 have r4:Row W (w.heap.size+4) 3 [Value.int .i64 3,Value.int .i64 4]:=by
  rw[<-hW];refine Zp ?_;refine Row.alloc ?_ _;exact za0
 have r5:Row W (w.heap.size+5) 3 [Value.int .i64 0,Value.int .i64 0]:=by
  rw[<-hW];refine Zp ?_;exact za0
 have r6:Row W (w.heap.size+6) 3 [Value.int .i64 5,Value.int .i64 6,Value.int .i64 7]:=by
  rw[<-hW];refine Zp ?_;exact Row.xY aF rfl
 have r7:Row W (w.heap.size+7) 3 [Value.int .i64 2,Value.int .i64 (-2)]:=by
  rw[<-hW];refine Row.alloc ?_ _;refine Row.alloc ?_ _;exact za0
 have r8:Row W (w.heap.size+8) 3 [Value.int .i64 (-1),Value.int .i64 1]:=by
  rw[<-hW];refine Row.alloc ?_ _;exact za0
 have r9:Row W (w.heap.size+9) 3 [Value.int .i64 3,Value.int .i64 (-3)]:=by
  rw[<-hW];exact za0
 have rn:Row W (w.heap.size+10) 127 ((yI w).flatMap NV.cells):=by
  rw[<-hW];exact Row.xY aF rfl
 clear hW;refine⟨_,rfl,hB,_,_,rfl,?_,?_⟩
 ·refine(Row.lies rn).Fg (F:=λb=>w.heap.size<=b) (c:=8) EN ?_ (by simp[yI]);intro q hq;simp only[yI,List.mem_cons,List.not_mem_nil,or_false] at hq;have nil:Aj W (λb=>w.heap.size<=b) (FQ none 0 0) []:=⟨none,0,rfl,FV _,λh=>absurd h aF⟩;rcases hq with rfl | rfl | rfl | rfl | rfl | rfl | rfl | rfl
  ·exact⟨Row.ints (l:=[1,2]) (F:=λb=>w.heap.size<=b) r2 EN (c:=2) aF,nil,nil⟩
  ·exact⟨nil,nil,Row.ints (l:=[1,-1]) (F:=λb=>w.heap.size<=b) r3 EN (c:=2) aF⟩
  ·exact⟨Row.ints (l:=[3,4]) (F:=λb=>w.heap.size<=b) r4 EN (c:=2) aF,nil,nil⟩
  ·exact⟨nil,nil,Row.ints (l:=[0,0]) (F:=λb=>w.heap.size<=b) r5 EN (c:=2) aF⟩
  ·exact⟨Row.ints (l:=[5,6,7]) (F:=λb=>w.heap.size<=b) r6 EN (c:=3) aF,nil,nil⟩
  ·exact⟨nil,nil,Row.ints (l:=[2,-2]) (F:=λb=>w.heap.size<=b) r7 EN (c:=2) aF⟩
  ·exact⟨nil,nil,Row.ints (l:=[-1,1]) (F:=λb=>w.heap.size<=b) r8 EN (c:=2) aF⟩
  ·exact⟨nil,nil,Row.ints (l:=[3,-3]) (F:=λb=>w.heap.size<=b) r9 EN (c:=2) aF⟩
 ·exact(Row.lies r1).Fh (L:=[⟨0,2⟩,⟨1,2⟩,⟨0,3⟩]) (F:=λb=>w.heap.size<=b) EN aF
theorem aa8 {i:Int} {p:List Int} (hj:j < p.length) (hl:∀ c∈l,0<=c):(l7 l i p)[j]? = if (j:Int)∈l then some i else p[j]?:=by
 unfold l7;induction l generalizing p with
 | nil=>simp
 | cons c l ih =>
  simp only[List.foldl_cons];rw[ih (by simpa using hj) (λd hd=>hl d (GI _ hd))];have hc:=hl c aF;by_cases h1:(j:Int)∈l
  ·rw[L8 h1,L8 (GI _ h1)]
  ·rw[L6 h1];by_cases h2:(j:Int)=c
   ·rw[L8 (by rw[h2]; simp),List.getElem?_set,L8 EN,L8 EN]
   ·rw[L6 (by simp[h1,h2]),List.getElem?_set_ne EN]
theorem ajO {g:Gm} (hg:Good g) {n:Nd} (hj:j < g.Fg.length) (hp:g.Fg[p]? = some n) (hc:(j:Int)∈n.next) (k:Nat):k<=g.Fg.length->p < k->(pJ g.Fg k)[j]? = some (p:Int):=by
 induction k with
 | zero=>intro _ h; omega
 | succ k ih =>
  intro hk hpk;obtain⟨m,hm⟩:=FC (l:=g.Fg) (k:=k) EN;rw[ab8 hm,aa8 (by rw[jR]; exact hj) (λc hc=>(hg.ahq m (FT hm) c hc).1)];by_cases h1:(j:Int)∈m.next
  ·have hpk':p=k:=hg.span.once.2 _ p k n m EN (FD hp) EN EN hp hm hc h1;rw[L8 h1,hpk']
  ·rw[L6 h1];by_cases h2:p=k
   ·subst h2;rw[hp] at hm;cases hm;exact absurd hc h1
   ·exact ih EN EN
theorem ny {g:Gm} (hg:Good g) {n:Nd} (hj:j < g.Fg.length) (hp:g.Fg[p]? = some n) (hc:(j:Int)∈n.next):(iI g.Fg)[j]? = some (p:Int) :=
 ajO hg hj hp hc _ (FV _) (FD hp)
theorem acf {g:Gm} (hg:Good g) (h0:0 < j) (hj:j < g.Fg.length):∃ p n,p < j/\g.Fg[p]? = some n/\(j:Int)∈n.next:=by
 rcases hg.span.parent j EN hj with h | ⟨p,n,_,h1,h2,h3⟩
 ·simp at h;omega
 ·exact⟨p,n,h1,h2,h3⟩
def Falls (N:Nat) (par:List Int):Prop:=∀ (i:Nat) (x:Int),i < N->par[i]? = some x→-1<=x/\x < (i:Int)
theorem ahs (Fg:List Nd) (hk:∀ n∈Fg,∀ c∈n.next,0 < c) (k:Nat):Fg.length≠0->(pJ Fg k)[0]? = some (-1):=by
 intro h0;induction k with
 | zero=>unfold pJ; rw[List.getElem?_set_self aG]
 | succ k ih =>
  unfold pJ;split
  ·rename_i n hn
   rw[aa8 (by rw[jR]; omega) (λc hc=>by have:=hk n (FT hn) c hc; omega),L6,ih];intro hm;have:=hk n (FT hn) _ hm;omega
  ·exact ih
theorem xZ {g:Gm} (hg:Good g):Falls g.Fg.length (iI g.Fg):=by
 intro i x hi hx;by_cases h0:i=0
 ·subst h0;have h1:=ahs g.Fg (λn hn c hc=>by
   obtain⟨k,hk⟩:=Gz hn;have:=hg.span.kids k n (GR _) (FD hk) hk c hc;omega) g.Fg.length (by have:=hg.pos; omega)
  unfold iI at hx;rw[h1] at hx;cases hx;omega
 ·obtain⟨p,n,h1,h2,h3⟩:=acf hg EN hi;rw[ny hg hi h2 h3] at hx;cases hx;omega
theorem qw (Fg:List Nd):(iI Fg).length=Fg.length:=jR _ _
theorem Good.par {g:Gm} (hg:Good g) (hc:c < g.Fg.length):∃ p:Int,(iI g.Fg)[c]? = some p/\((c=0/\p = -1)\/∃ (q:Nat) (n:Nd),p=(q:Int)/\q < c/\g.Fg[q]? = some n/\(c:Int)∈n.next):=by
 obtain⟨p,hp⟩:=FC (l:=iI g.Fg) (k:=c) (by rw[qw]; exact hc);refine⟨p,hp,?_⟩;by_cases h0:c=0
 ·subst h0;have:=xZ hg 0 p hc hp;exact .inl ⟨rfl,EN⟩
 ·obtain⟨q,n,h1,h2,h3⟩:=acf hg EN hc;rw[ny hg hc h2 h3] at hp;cases hp;exact .inr ⟨q,n,rfl,h1,h2,h3⟩
def gW (pl:Int) (n:Nd) (c j:Nat):List (Int×Int):=if n.kind=2/\n.aC=pl then ((Ir j).filter λk=>decide (n.next[k]? = some (c:Int))).map λk:Nat=>(n.info,(k:Int)) else []
def lH (g:Gm) (pl:Int):Nat->Nat->List (Int×Int)
 | 0,_=>[]
 | f+1,c=>match (iI g.Fg)[c]? with
  | some p=>if 0<=p then gW pl (g.Fg.getD p.toNat default) c (g.Fg.getD p.toNat default).next.length++lH g pl f p.toNat else []
  | none=>[]
def gG (g:Gm) (pl:Int) (c:Nat):List (Int×Int):=(lH g pl g.Fg.length c).reverse
theorem fG {n:Nd} (h:¬ (n.kind=2/\n.aC=pl)):gW pl n c j = []:=L6 h
theorem zI {n:Nd}:gW pl n c 0 = []:=by unfold gW; split <;> rfl
theorem acg {n:Nd} (h:n.kind=2/\n.aC=pl) (hj:n.next[j]? = some (c:Int)):gW pl n c (j+1)=gW pl n c j ++ [(n.info,(j:Int))]:=by
 unfold gW;rw[L8 h,L8 h,List.range_succ,List.filter_append,GL];simp[hj]
theorem aa9 {n:Nd} (hj:n.next[j]? = some x) (hx:x≠(c:Int)):gW pl n c (j+1)=gW pl n c j:=by
 unfold gW;split
 ·rw[List.range_succ,List.filter_append,GL];simp[hj,hx]
 ·rfl
theorem vW {n:Nd}:(gW pl n c j).length<=j:=by
 unfold gW;split
 ·rw[FX];refine Nat.le_trans (List.length_filter_le _ _) ?_;simp
 ·exact GR _
theorem jT {g:Gm} (hg:Good g):∀ f,lH g pl f 0 = []
 | 0=>rfl
 | f+1=>by
  obtain⟨p,hp,h | ⟨q,n,_,h,_⟩⟩:=hg.par hg.pos
  ·rw[lH,hp]; simp only; rw[L6 EN]
  ·omega
theorem nV {g:Gm} (hg:Good g) {f:Nat} {n:Nd} (hc:c < g.Fg.length) (hp:(iI g.Fg)[c]? = some (q:Int)) (hn:g.Fg[q]? = some n):lH g pl (f+1) c=gW pl n c n.next.length++lH g pl f q:=by
 rw[lH,hp];simp only;refine zdd ?_;rfl
theorem aeS {g:Gm} (hg:Good g):∀ (f f' c:Nat),c < g.Fg.length->c<=f->c<=f'->lH g pl f c=lH g pl f' c:=by
 intro f;induction f with
 | zero =>
  intro f' c hc h1 h2;obtain rfl:c=0:=EN;rw[jT hg,jT hg]
 | succ f ih =>
  intro f' c hc h1 h2;obtain⟨p,hp,h | ⟨q,n,rfl,h,hn,_⟩⟩:=hg.par hc
  ·obtain⟨rfl,_⟩:=h;rw[jT hg,jT hg]
  ·obtain⟨f'',rfl⟩:∃ k,f'=k+1:=⟨f' - 1,EN⟩;rw[nV hg hc hp hn,nV hg hc hp hn,ih f'' q EN EN EN]
theorem lI {g:Gm} (hg:Good g):gG g pl 0 = []:=by unfold gG; rw[jT hg]; rfl
theorem pK {g:Gm} (hg:Good g) {n:Nd} (hc:c < g.Fg.length) (hp:(iI g.Fg)[c]? = some (q:Int)) (hn:g.Fg[q]? = some n) (hq:q < c):gG g pl c=gG g pl q++(gW pl n c n.next.length).reverse:=by
 unfold gG;obtain⟨N,hN⟩:∃ N,g.Fg.length=N+1:=⟨g.Fg.length - 1,EN⟩;rw[hN,nV hg hc hp hn,List.reverse_append,aeS hg N (N+1) q EN EN EN]
theorem abb {g:Gm} (hg:Good g) (hs:Small g) {pl:Int}:∀ (f c:Nat),c < g.Fg.length->(lH g pl f c).length<=100*c
 | 0,_,_=>GR _
 | f+1,c,hc=>by
  obtain⟨p,hp,h | ⟨q,n,rfl,h,hn,_⟩⟩:=hg.par hc
  ·obtain⟨rfl,_⟩:=h; rw[jT hg]; exact GR _
  ·have ih:=abb hg hs (pl:=pl) f q EN;have h1:=vW (pl:=pl) (n:=n) (c:=c) (j:=n.next.length);have h2:=hs.next n (FT hn);rw[nV hg hc hp hn,Gn]; omega
theorem afV {g:Gm} (hg:Good g) (hs:Small g) (pl:Int) (hc:c < g.Fg.length):(gG g pl c).length<=10000:=by
 have h1:=abb hg hs (pl:=pl) g.Fg.length c hc;have h2:=hs.Fg;unfold gG;rw[List.length_reverse];omega
end Go.Proofs.YtnmeejofpkhlkaaGreatDoor
