import Derived.Test.YtenaplhghbcjhaaGreatDoorQ27
import Derived.Sort.CutIn
import Derived.Deep.Cut
import Derived.Test.YtenaplhghbcjhaaGreatDoorQ35
import Derived.Test.YtenaplhghbcjhaaGreatDoorQ29
set_option linter.all false
set_option maxRecDepth 100000
set_option maxHeartbeats 0
namespace Go.Proofs.YtenaplhghbcjhaaGreatDoor
open List renaming map->Iq
open Go.RowKit
variable {m:List (List Raw)} {k:Nat}
theorem adi {g:Gm} {F7 sets:Int} (h:lV g F7 sets=false) (hn:F7<=100) (hs:sets<=100):Small g:=by
 unfold lV at h;simp only[Bool.or_eq_false_iff,decide_eq_false_iff_not,List.any_eq_false] at h;obtain⟨⟨h1,h2⟩,h3⟩:=h;have h4:∀ n∈g.F7,n.next.length<=100/\n.weights.length<=100/\n.pay.length<=100:=by grind [uh]
 exact⟨FI,FI,λn hn=>(h4 n hn).1,λn hn=>(h4 n hn).2.1,λn hn=>(h4 n hn).2.2⟩
theorem ad3 (h:qp m 30 20 4=false):m.length<=30/\(∀ l∈m,l.length<=20)/\BQ m:=by
 unfold qp at h;rw[Bool.or_eq_false_iff] at h;have h1:=h.1;have h2:=List.any_eq_false.1 h.2;have h3:∀ l∈m,l.length<=20/\∀ r∈l,r.num.length<=4/\r.den.length<=4:=by grind [aaC]
 exact⟨by simp at h1; omega,λl hl=>(h3 l hl).1,λl hl=>(h3 l hl).2⟩
theorem anK (h:∀ l∈m,l.length<=20) (h4:BQ m) (hU:∀ l∈m,∀ r∈l,U32 r):Bv m :=
 λl hl=>⟨by have:=h l hl; omega,λr hr=>⟨hU l hl r hr,by have:=h4 l hl r hr; omega,by have:=h4 l hl r hr; omega⟩⟩
section
variable {C:MC} {V:List View} {cr:List Nat} {g:Gm}
end
structure Em (g:Gm) (m:List (List Rat)):Prop where
 rows:BH g m
 agU:iw g (m.map (Iq ak))=0
 fit:Fit g m
 fine:Bv (m.map (Iq ak))
 len:m.length<=100000
theorem afH (x:Rat):U32 (ak x):=⟨λy hy=>by have:=aO x.num.natAbs y hy; unfold LB at this; omega,λy hy=>by have:=aO x.den y hy; unfold LB at this; omega⟩
theorem BH.facts {g:Gm} {m:List (List Rat)} (hf:aQ g=0) (hs:Small g) (hr:BH g m):Em g m:=by
 have hl4:=hr.limbs;refine⟨hr,hr.agU hf,hr.fit hf,λl hl=>?_,by have:=hr.1; have:=hs.F8; omega⟩;obtain⟨l',hl',rfl⟩:=List.mem_map.1 hl;obtain⟨k,hk⟩:=List.getElem?_of_mem hl';obtain⟨i,hi⟩:=Gl (l:=g.F8) (k:=k) (by have:=Gn hk; have:=hr.1; omega);have h1:=(hr.2 k i l' hi hk).1;have h2:=dJ hf i (List.mem_of_getElem? hi);refine⟨by rw[List.length_map]; omega,λr hr'=>?_⟩;have h4:=hl4 _ hl r hr';grind [afH]
theorem BF.wr {K:Gq} {w w':World} (h:BF w) (hw:Wrote K w w') (hK:¬ K 0):BF w':=λj hj=>fK (h j hj) hw hK
section
variable {g:Gm} {m:List (List Rat)}
def iI (g:Gm) (f:Nat->Rat):Nat->Rat
 | 0=>0
 | k+1=>match g.F7[k]? with
  | some n=>if n.kind=3 then iI g f k+f k else iI g f k
  | none=>iI g f k
theorem kM {f:Nat->Rat} {n:Nd} (hn:g.F7[k]? = some n) (hk:n.kind=3):iI g f (k+1)=iI g f k+f k:=by grind [iI]
theorem jL {f:Nat->Rat} {n:Nd} (hn:g.F7[k]? = some n) (hk:n.kind≠3):iI g f (k+1)=iI g f k:=by grind [iI]
end
theorem aeD {g:Gm} {f:Nat->Rat} {c:Nat}:∀ k,(∀ (i:Nat) (n:Nd),g.F7[i]? = some n->n.kind=3->i < k->rl (f i)<=c)->rl (iI g f k)<=1+k*(c+1)
 | 0,_=>by
  show rl 0<=_;rw[lK]; omega
 | k+1,h=>by
  have ih:=aeD k λi n h1 h2 h3=>h i n h1 h2 FI
  rw[Nat.succ_mul];cases hn:g.F7[k]? with
  | none=>rw[iI,hn]; dsimp only; omega
  | some n =>
   by_cases hk:n.kind=3
   ·rw[kM hn hk];have h1:=acw (iI g f k) (f k);have h2:=h k n hn hk FI;omega
   ·rw[jL hn hk]; omega
section
variable {g:Gm} {m:List (List Rat)}
end
