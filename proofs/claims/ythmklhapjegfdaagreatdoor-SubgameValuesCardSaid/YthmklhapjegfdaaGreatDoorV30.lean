/- A region that draws its order, of plain operations and one receive from a channel that holds something: whatever the order, each operation gives the same value. -/
import Derived.Test.YthmklhapjegfdaaGreatDoorV12
import Derived.Test.YthmklhapjegfdaaGreatDoorV21
set_option linter.all false
namespace Go.Proofs.YthmklhapjegfdaaGreatDoor
open Go.RowKit Go.Conc
section
variable {P:Program} {ops:Array Oper} {Q:Exit→Act→World→Prop}
def Does (P:Program) (ops:Array Oper) (i:Nat) (v:Value) (a:Act) (w w':World):Prop :=
 ∀ o,ops[i]? = some o→Region.wanted o (yielded ops a.tmps)=true∧((execOp a.eval o).run P w = .ok (.value v) w' ∨
  ∃ c cap s r l z tm closed,(execOp a.eval o).run P w = .ok (.comm #[rcase c z] true (.recv false)) w∧w.heap[c]? = some (.chan cap (v :: l).toArray closed s r tm)∧w'=w.setChan c cap l.toArray closed s (r+1) tm)
theorem Does.alz {i:Nat} {v:Value} {a:Act} {w w':World} {o:Oper} {K:Act→World→Prop} (h:Does P ops i v a w w') (ho:ops[i]? = some o) (hK:K (a.put o.dst v) w'):Dh P ops i K a w:=by
 obtain⟨hw,h | ⟨c,cap,s,r,l,z,tm,closed,h1,h2,rfl⟩⟩:=h o ho
 ·exact aaG ho hw h hK
 ·exact aaH ho hw h1 h2 hK
theorem Does.same {i:Nat} {v:Value} {a b:Act} {w w':World} (h:Does P ops i v a w w') (he:∀ o,ops[i]? = some o→execOp b.eval o=execOp a.eval o∧Region.wanted o (yielded ops b.tmps)=Region.wanted o (yielded ops a.tmps)):Does P ops i v b w w':=by
 intro o ho;obtain⟨e1,e2⟩:=he o ho;rw[e1,e2];exact h o ho
theorem Does.put {i:Nat} {v:Value} {a:Act} {w w':World} {dst:Option Tmp} {u:Value} (h:Does P ops i v a w w') (hn:Region.noSelect ops=true)
  (h1:∀ o,ops[i]? = some o→∀ d,dst=some d→d ∉ o.looksAt ops):Does P ops i v (a.put dst u) w w' :=
 h.same fun o ho=>⟨execOp_put o (fun cs b=>Region.noSelect_spec hn i o cs b ho) a dst u (h1 o ho),wanted_put o a dst u (h1 o ho)⟩
theorem Does.agV {i:Nat} {v:Value} {a:Act} {w w':World} {dst:Option Tmp} {u:Value} (h:Does P ops i v (a.put dst u) w w') (hn:Region.noSelect ops=true)
  (h1:∀ o,ops[i]? = some o→∀ d,dst=some d→d ∉ o.looksAt ops):Does P ops i v a w w' :=
 h.same fun o ho=>⟨(execOp_put o (fun cs b=>Region.noSelect_spec hn i o cs b ho) a dst u (h1 o ho)).symm,(wanted_put o a dst u (h1 o ho)).symm⟩
def AY (P:Program) (ops:Array Oper) (Q:Exit→Act→World→Prop) (W0 W1:World) (c:Nat):List Nat→Act→Prop
 | [],a=>Q .normal a W1
 | j :: js,a=>∃ v,(if j=c then Does P ops j v a W0 W1 else Does P ops j v a W0 W0∧Does P ops j v a W1 W1)∧AY P ops Q W0 W1 c js (a.put (dY ops j) v)
def Dc (P:Program) (ops:Array Oper) (W0 W1:World) (c j:Nat) (v:Value) (a:Act):Prop:=if j=c then Does P ops j v a W0 W1 else Does P ops j v a W0 W0∧Does P ops j v a W1 W1
theorem Dc.map {W0 W1:World} {c j:Nat} {v:Value} {a b:Act} (h:Dc P ops W0 W1 c j v a) (f:∀ w w',Does P ops j v a w w'→Does P ops j v b w w'):Dc P ops W0 W1 c j v b:=by
 unfold Dc at *;split
 ·rename_i hc; rw[if_pos hc] at h; exact f _ _ h
 ·rename_i hc; rw[if_neg hc] at h; exact⟨f _ _ h.1,f _ _ h.2⟩
theorem AY.pull (hn:Region.noSelect ops=true) {W0 W1:World} {c i:Nat}:∀ {js:List Nat} {a:Act},(∀ j∈js,j < ops.size)→jL .any ops js=true→js.Nodup→i∈js→(∀ j∈js,dep .any ops i j=false)→AY P ops Q W0 W1 c js a →
  ∃ u,Dc P ops W0 W1 c i u a∧AY P ops Q W0 W1 c (js.erase i) (a.put (dY ops i) u)
 | [],_,_,_,_,hi,_,_=>by cases hi
 | j :: js,a,hlt,hok,hnd,hi,pq,H=>by
  by_cases hji:j=i
  ·subst hji;rw[List.erase_cons_head];exact H
  ·have hi':i∈js:=by
    rcases List.mem_cons.1 hi with h | h
    ·exact absurd h.symm hji
    ·exact h
   simp only[jL,Bool.and_eq_true,List.all_eq_true] at hok;refine Yt ?_;intro ahJ x hx y hy f1 f2 f3 f3' ex ey;obtain⟨v,hv,hr⟩:=H;obtain⟨u,hu,hr2⟩:=AY.pull hn (i:=i) (fun k hk=>hlt k (List.mem_cons_of_mem _ hk)) hok.2 (List.nodup_cons.1 hnd).2 hi' (fun k hk=>pq k (List.mem_cons_of_mem _ hk)) hr;refine⟨u,hu.map fun w w' h=>h.agV hn (fun o ho d hd=>?_),?_⟩
   ·exact zda
   ·rw[List.erase_cons_tail (by simpa using hji)];refine⟨v,Dc.map (a:=a) hv fun w w' h=>h.put hn (fun o ho d hd=>?_),?_⟩
    ·exact zde
    ·have e:(a.put (dY ops i) u).put (dY ops j) v=(a.put (dY ops j) v).put (dY ops i) u:=by
      rw[ex,ey];exact Act.put_comm a u v f2
     rw[e];exact hr2
theorem agu (hn:Region.noSelect ops=true) (hb:oI ops=true) {W0 W1:World} {c:Nat} :
  ∀ (n:Nat) (fuel:Nat) (js:List Nat) (listed:Array Bool) (a:Act),js.length=n→n≤fuel→(∀ j∈js,j < ops.size)→jL .any ops js=true→js.Nodup →
   (∀ j,j < ops.size→(j∈js↔listed.getD j true=false))→listed.size=ops.size→AY P ops Q W0 W1 c js a→ad3 P .any ops Q fuel listed a (if c∈js then W0 else W1):=by
 intro n;induction n with
 | zero =>
  intro fuel js listed a hl _ hlt _ _ hun hsz H;obtain rfl:=List.eq_nil_of_length_eq_zero hl;rw[if_neg ay];refine afI ?_ H fuel;cases hr:Region.ready .any ops listed with
  | nil=>rfl
  | cons i rs =>
   have hi:i∈Region.ready .any ops listed:=by rw[hr];simp
   obtain⟨h1,o,ho,_⟩:=mem_ready.1 hi;have:=(hun i (Array.getElem?_eq_some_iff.1 ho).1).2 h1;cases this
 | succ n ih =>
  intro fuel js listed a hl hfu hlt hok hnd hun hsz H;cases fuel with
  | zero=>omega
  | succ fuel =>
   refine⟨fun hr0=>?_,fun i hi=>?_⟩
   ·exfalso
    have hall:=ku hsz hb hr0;cases js with
    | nil=>simp at hl
    | cons j js =>
     have hjl:=hlt j ay;have h3:=(hun j hjl).1 ay;have h2:=hall j hjl;have hjs:j < listed.size:=byOmega;simp[Array.getD_eq_getD_getElem?,hjs] at h2 h3;rw[h2] at h3;cases h3
   obtain⟨h1,o,ho,hall⟩:=mem_ready.1 hi;have hil:=(Array.getElem?_eq_some_iff.1 ho).1;have hij:=(hun i hil).2 h1;have pq:∀ j∈js,dep .any ops i j=false:=by
    intro j hj;unfold dep;rw[ho];simp only;rw[Bool.eq_false_iff];intro he;obtain⟨e,hem,hb⟩:=Array.any_eq_true'.1 he;simp only[Bool.and_eq_true,beq_iff_eq] at hb;have h2:=hall e hem hb.1;rw[hb.2] at h2;have h3:=(hun j (hlt j hj)).1 hj;have hjs:j < listed.size:=by rw[hsz];exact hlt j hj
    simp[Array.getD_eq_getD_getElem?,hjs] at h2 h3;rw[h2] at h3;cases h3
   obtain⟨u,hu,hr⟩:=AY.pull hn hlt hok hnd hij pq H;have hd:dY ops i=o.dst:=by simp[dY,ho]
   have key:=ih fuel (js.erase i) (listed.setIfInBounds i true) (a.put (dY ops i) u) (by rw[List.length_erase_of_mem hij,hl]; rfl) byOmega (fun j hj=>hlt j (List.mem_of_mem_erase hj)) (by
     clear hl hlt hnd hun H hij pq hr;induction js with
     | nil=>exact hok
     | cons j js ih =>
      simp only[jL,Bool.and_eq_true,List.all_eq_true] at hok;by_cases hji:j=i
      ·subst hji;rw[List.erase_cons_head];exact hok.2
      ·rw[List.erase_cons_tail (by simpa using hji)];simp only[jL,Bool.and_eq_true,List.all_eq_true];exact⟨fun k hk=>hok.1 k (List.mem_of_mem_erase hk),ih hok.2⟩) (hnd.erase i) (by
     intro j hj;rw[hnd.mem_erase_iff];by_cases hji:j=i
     ·subst hji;refine zb3 ?_;intro this;simp[Array.getD_eq_getD_getElem?,this]
     ·rw[getD_set_ne true (Ne.symm hji)];simp[hji,hun j hj]) (by simp[hsz]) hr
   rw[hd] at key;unfold Dc at hu;by_cases hic:i=c
   ·subst hic;rw[if_pos rfl] at hu;rw[if_pos hij];rw[if_neg (fun h=>(hnd.mem_erase_iff.1 h).1 rfl)] at key;exact hu.alz ho key
   ·rw[if_neg hic] at hu;by_cases hcj:c∈js
    ·rw[if_pos hcj];rw[if_pos ((hnd.mem_erase_iff).2 ⟨Ne.symm hic,hcj⟩)] at key;exact hu.1.alz ho key
    ·rw[if_neg hcj];rw[if_neg (fun h=>hcj (List.mem_of_mem_erase h))] at key;exact hu.2.alz ho key
theorem yL {id:Nat} {a:Act} {w W1:World} {c:Nat} {js:List Nat} (hm:P.follows .mixedOrders=true) (hok:aej ops (Array.replicate ops.size false) js ops.size=true) (hc:c∈js)
  (h:AY P ops Q w.drew W1 c js a):(Code.region id ops true).wp P Q a w:=by
 simp only[aej,Bool.and_eq_true,List.all_eq_true,decide_eq_true_eq,List.mem_range,beq_iff_eq] at hok;obtain⟨⟨⟨⟨⟨⟨⟨h1,h2⟩,h3⟩,h4⟩,h5⟩,h6⟩,h7⟩,h8⟩:=hok;have key:=agu h1 h2 js.length ops.size js (Array.replicate ops.size false) a rfl h4 h5 h3 h6 (fun j hj=>by
  have:=h8 j hj;rw[← List.contains_iff_mem,this];cases (Array.replicate ops.size false).getD j true <;> simp) h7 h
 rw[if_pos hc] at key;exact zF hm key
theorem AY.val {W0 W1:World} {c j:Nat} {js:List Nat} {a:Act} {o:Oper} {v:Value} (hj:j≠c) (ho:ops[j]? = some o) (hw:Region.wanted o (yielded ops a.tmps)=true) (h0:(execOp a.eval o).run P W0 = .ok (.value v) W0)
  (h1:(execOp a.eval o).run P W1 = .ok (.value v) W1) (h:AY P ops Q W0 W1 c js (a.put o.dst v)):AY P ops Q W0 W1 c (j :: js) a:=by
 have:dY ops j=o.dst:=by simp[dY,ho]
 refine⟨v,?_,by rw[this]; exact h⟩;rw[if_neg hj];exact⟨fun o' ho'=>by rw[ho] at ho'; cases ho'; exact⟨hw,.inl h0⟩,fun o' ho'=>by rw[ho] at ho'; cases ho'; exact⟨hw,.inl h1⟩⟩
theorem AY.recv {W0:World} {j:Nat} {js:List Nat} {a:Act} {o:Oper} {c cap s r:Nat} {l:List Value} {v z:Value} {tm closed:Bool} (ho:ops[j]? = some o) (hw:Region.wanted o (yielded ops a.tmps)=true)
  (hr:(execOp a.eval o).run P W0 = .ok (.comm #[rcase c z] true (.recv false)) W0) (hc:W0.heap[c]? = some (.chan cap (v :: l).toArray closed s r tm))
  {W1:World} (hW:W1=W0.setChan c cap l.toArray closed s (r+1) tm) (h:AY P ops Q W0 W1 j js (a.put o.dst v)):AY P ops Q W0 W1 j (j :: js) a:=by
 have:dY ops j=o.dst:=by simp[dY,ho]
 refine⟨v,?_,by rw[this]; exact h⟩;rw[if_pos rfl];exact fun o' ho'=>by rw[ho] at ho';cases ho';exact⟨hw,.inr ⟨c,cap,s,r,l,z,tm,closed,hr,hc,hW⟩⟩
end
end Go.Proofs.YthmklhapjegfdaaGreatDoor
