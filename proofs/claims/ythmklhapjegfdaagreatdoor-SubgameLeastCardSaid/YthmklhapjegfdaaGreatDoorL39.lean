/- parlourref17: Reaches. -/
import Derived.Test.YthmklhapjegfdaaGreatDoorL35
import Derived.Deep.Cut
set_option linter.all false
set_option maxRecDepth 100000
set_option maxHeartbeats 12800000
namespace Go.Proofs.YthmklhapjegfdaaGreatDoor
open Go.RowKit
structure BK (w:World) (F:Ac) (g:Gm) (m:List (List Rat)) (cnt:Nd→Bool) (bo:Nat) (i k:Nat) (L:List RV) (W:World):Prop where
 len:L.length=g.nodes.length
 made:Aw W bo 83 (fun b=>(F b∧b < w.heap.size)∨bo < b) L
 root:∃ q,L[0]? = some q∧q.r=aK 1
 kid:∀ i' k' c,Kid g.nodes i' k' c→(i' < i∨(i'=i∧k' < k))→∃ q,L[c]? = some q∧q.r=aK (jE cnt g.nodes m c)
section
variable {w:World} {F:Ac} {g:Gm} {m:List (List Rat)} {cnt:Nd→Bool} {bo i k:Nat} {L:List RV} {W W':World}
theorem BK.below (h:BK w F g m cnt bo i k L W) (hb:Below W.heap.size W W'):BK w F g m cnt bo i k L W':=⟨h.len,h.made.below hb,h.root,h.kid⟩
theorem BK.at (h:BK w F g m cnt bo i k L W) (hg:Good g) (hi:i < g.nodes.length):∃ (A:Option Addr) (c:Nat) (B:Option Addr) (d:Nat),L[i]? = some ⟨aK (jE cnt g.nodes m i),.slice A (aK (jE cnt g.nodes m i)).num.length c,.slice B (aK (jE cnt g.nodes m i)).den.length d⟩∧(⟨aK (jE cnt g.nodes m i),.slice A (aK (jE cnt g.nodes m i)).num.length c,.slice B (aK (jE cnt g.nodes m i)).den.length d⟩:RV).fine W (fun b=>(F b∧b < w.heap.size)∨bo < b):=by
 obtain⟨q,hq,hr⟩:∃ q,L[i]? = some q∧q.r=aK (jE cnt g.nodes m i):=by
  by_cases h0:i=0
  ·subst h0; exact h.root
  ·obtain⟨i',k',hk⟩:=hg.afP (Nat.pos_of_ne_zero h0) hi;exact h.kid i' k' i hk (.inl (hg.acA hk).1)
 have hf:=h.made.fine q (List.mem_of_getElem? hq);obtain⟨r,vn,vd⟩:=q;simp only at hr;subst hr;have hf':=RV.fine.keep hf (G:=fun b=>(F b∧b < w.heap.size)∨bo < b) (fun b hb _=>hb.1) (Same.refl _ _);have h1:=hf'.1; have h2:=hf'.2;obtain⟨A,c,e1,_⟩:=h1;obtain⟨B,d,e2,_⟩:=h2;simp only at e1 e2;subst e1; subst e2;exact⟨A,c,B,d,hq,hf'⟩
theorem BK.set (h:BK w F g m cnt bo i k L W) (hg:Good g) (hwb:w.heap.size≤bo) {c:Nat} (hk:Kid g.nodes i k c) (vn vd:Value) (hq:(⟨aK (jE cnt g.nodes m c),vn,vd⟩:RV).fine W (fun b=>(F b∧b < w.heap.size)∨bo < b)) :
  ∃ W',W'=(((W.setCell ⟨bo,c*3,none⟩ (.bool (aK (jE cnt g.nodes m c)).neg)).setCell ⟨bo,c*3+1,none⟩ vn).setCell ⟨bo,c*3+2,none⟩ vd)∧BK w F g m cnt bo i (k+1) (L.set c ⟨aK (jE cnt g.nodes m c),vn,vd⟩) W'∧Below w.heap.size W W'∧W'.heap.size=W.heap.size∧W.grownBy W' (some bo):=by
 have hl:=hg.acA hk;have hn:¬ ((F bo∧bo < w.heap.size)∨bo < bo):=by omega
 obtain⟨W',hW',hm,hwB,hwS,hwz,hwb'⟩:=h.made.set c ⟨aK (jE cnt g.nodes m c),vn,vd⟩ (RV.fine.keep hq (fun b hb _=>⟨hb,fun e=>hn (e▸hb)⟩) (Same.refl _ _));refine⟨W',hW',⟨by rw[List.length_set]; exact h.len,hm,?_,fun i' k' c' hk' hlt=>?_⟩,hwB _ _ hwb (Below.refl _ _),hwz,?_⟩
 ·obtain⟨q,h1,h2⟩:=h.root;exact⟨q,by rw[List.getElem?_set_ne (by omega)]; exact h1,h2⟩
 ·by_cases e:c'=c
  ·subst e;exact⟨_,List.getElem?_set_self (by rw[h.len]; omega),rfl⟩
  ·rw[List.getElem?_set_ne (fun h=>e h.symm)];refine h.kid i' k' c' hk' ?_;rcases hlt with h1 | ⟨h1,h2⟩
   ·exact .inl h1
   ·by_cases e2:k'=k
    ·subst e2; subst h1;obtain⟨n,hn1,hc⟩:=hk;obtain⟨n',hn',hc'⟩:=hk';rw[hn1] at hn'; cases hn';rw[hc] at hc'; injection hc' with e3
     exact absurd (Int.ofNat_inj.1 e3).symm e
    ·exact .inr ⟨h1,by omega⟩
 ·rw[hW'];exact grown_setCell (p:=⟨bo,c*3+2,none⟩) (grown_setCell (p:=⟨bo,c*3+1,none⟩) (grown_setCell (p:=⟨bo,c*3,none⟩) (aes _ _) (.inl rfl) _) (.inl rfl) _) (.inl rfl) _
theorem BK.next {n:Nd} (h:BK w F g m cnt bo i k L W) (hn:g.nodes[i]? = some n) (hk:n.next.length≤k):BK w F g m cnt bo (i+1) 0 L W :=
 ⟨h.len,h.made,h.root,fun i' k' c hk' hlt=>h.kid i' k' c hk' (by
  rcases hlt with h1 | ⟨_,h2⟩
  ·by_cases e:i'=i
   ·subst e;obtain⟨n',hn',hc⟩:=hk';rw[hn] at hn'; cases hn';have:=aB hc;exact .inr ⟨rfl,by omega⟩
   ·exact .inl (by omega)
  ·omega)⟩
theorem BK.done (h:BK w F g m cnt bo i k L W) (hg:Good g) (hi:g.nodes.length≤i):L.map RV.r=((List.range g.nodes.length).map (jE cnt g.nodes m)).map aK:=by
 apply List.ext_getElem?
 intro c;by_cases hc:c < g.nodes.length
 ·obtain⟨q,hq,hr⟩:∃ q,L[c]? = some q∧q.r=aK (jE cnt g.nodes m c):=by
   by_cases h0:c=0
   ·subst h0; exact h.root
   ·obtain⟨i',k',hk⟩:=hg.afP (Nat.pos_of_ne_zero h0) hc;have:=hg.acA hk;exact h.kid i' k' c hk (.inl (by omega))
  simp[hq,hr,hc]
 ·have:=h.len;rw[List.getElem?_eq_none (by simp; omega),List.getElem?_eq_none (by simp; omega)]
end
end Go.Proofs.YthmklhapjegfdaaGreatDoor
