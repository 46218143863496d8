import Derived.Test.YtenaplhghbcjhaaGreatDoorQ14
import Derived.Test.YtenaplhghbcjhaaGreatDoorQ09
set_option linter.all false
namespace Go.Proofs.YtenaplhghbcjhaaGreatDoor
open Go.Value renaming bool->G7,slice->Gw
open Go renaming World->GK
open Wrote renaming refl->Ir
open Go.RowKit
structure Acc (t:TypeId) (G:Gq) (w0:GK) (ub:Nat) (r:Raw) (A:Option Addr) (c:Nat) (B:Option Addr) (d:Nat) (wr:GK):Prop where
 box:Row wr ub t [G7 r.neg,Gw A r.num.length c,Gw B r.den.length d]
 fine:(⟨r,Gw A r.num.length c,Gw B r.den.length d⟩:RV).fine wr (λb=>G b/\b≠ub)
 wr:Wrote (λb=>b=ub) w0 wr
theorem Acc.start {w:GK} (t:TypeId) {G F:Gq} {r:Raw} {A:Option Addr} {c:Nat} {B:Option Addr} {d:Nat} (hf:(⟨r,Gw A r.num.length c,Gw B r.den.length d⟩:RV).fine w F) (hG:∀ b,F b->b < w.heap.size->G b) :
  ∃ W,W=w.alloc (.cells #[G7 r.neg,Gw A r.num.length c,Gw B r.den.length d] t)/\Acc t G W w.heap.size r A c B d W/\Below w.heap.size w W/\w.heap.size < W.heap.size:=by
 have hb:Below w.heap.size w (w.alloc (.cells #[G7 r.neg,Gw A r.num.length c,Gw B r.den.length d] t)):=(Below.refl w.heap.size w).alloc (Nat.le_refl _) _;exact⟨_,rfl,⟨Row.new w t _,hf.keep (λb hb hl=>⟨hG b hb hl,FI⟩) (Below.same' hb _),Ir _ _⟩,hb,aA⟩
theorem Acc.zero (w:GK) (t:TypeId) (G:Gq) :
  ∃ W,W=w.alloc (.cells #[G7 false,Gw none 0 0,Gw none 0 0] t)/\Acc t G W w.heap.size (ay 0) none 0 none 0 W/\Below w.heap.size w W/\w.heap.size < W.heap.size:=by
 obtain⟨W,hW,h1,h2,h3⟩:=Acc.start (w:=w) t (G:=G) (F:=λ_=>False) (r:=rv0.r) (A:=none) (c:=0) (B:=none) (d:=0) ⟨gV _ _ _ _,gV _ _ _ _⟩ (λ_ h=>h.elim);refine⟨W,hW,?_,h2,h3⟩;grind [alK]
section
variable {t:TypeId} {G:Gq} {w0 wr w':GK} {ub:Nat} {r:Raw} {A:Option Addr} {c:Nat} {B:Option Addr} {d:Nat}
theorem Acc.below (h:Acc t G w0 ub r A c B d wr) (hb:Below wr.heap.size wr w'):Acc t G w0 ub r A c B d w' :=
 ⟨h.box.below hb h.box.lt,h.fine.below hb,h.wr.trans ⟨hb.os,hb.tape,hb.output,hb.size,λi hi _=>hb.block i hi⟩⟩
theorem Acc.lt (h:Acc t G w0 ub r A c B d wr):ub < wr.heap.size:=h.box.lt
theorem Acc.val (h:Acc t G w0 ub r A c B d wr):Ak wr (λb=>G b/\b≠ub) (.agg #[G7 r.neg,Gw A r.num.length c,Gw B r.den.length d]) r:=Ak.make rfl h.fine.1 h.fine.2
theorem Acc.put (h:Acc t G w0 ub r A c B d wr) {r':Raw} {A':Option Addr} {c':Nat} {B':Option Addr} {d':Nat} (hf:(⟨r',Gw A' r'.num.length c',Gw B' r'.den.length d'⟩:RV).fine wr (λb=>G b/\b≠ub)) :
  ∃ W,W=((wr.setCell ⟨ub,0,none⟩ (G7 r'.neg)).setCell ⟨ub,1,none⟩ (Gw A' r'.num.length c')).setCell ⟨ub,2,none⟩ (Gw B' r'.den.length d')/\Acc t G w0 ub r' A' c' B' d' W:=by
 have hw:Wrote (λb=>b=ub) wr (((wr.setCell ⟨ub,0,none⟩ (G7 r'.neg)).setCell ⟨ub,1,none⟩ (Gw A' r'.num.length c')).setCell ⟨ub,2,none⟩ (Gw B' r'.den.length d')) :=
  (((Ir (λb=>b=ub) wr).setCell (p:=⟨ub,0,none⟩) (.inl rfl) _).setCell (p:=⟨ub,1,none⟩) (.inl rfl) _).setCell (p:=⟨ub,2,none⟩) (.inl rfl) _
 exact⟨_,rfl,((h.box.set 0 _).set 1 _).set 2 _,hf.keep (λ_ hb _=>hb) (hw.same λb hb e=>hb.2 e),h.wr.trans hw⟩
end
