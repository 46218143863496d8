/- Part of a claim. -/
import Derived.RangeFuncNested
import Derived.RangeFuncBound
import Derived.RangeFuncCalls
import Derived.RangeFuncLeaves
import Derived.RangeFuncWrites
import Derived.Shelf.Abstract
import Derived.Shelf.RegionOpen
import Derived.WalkKit
import Derived.OwnWalkIn
import Derived.TacticsInMore
import Derived.LoopNIn
import Derived.LoopIn
import Derived.Test.YtnmeejofpkhlkaaGreatDoorE21
set_option linter.all false
set_option maxRecDepth 100000
set_option maxHeartbeats 12800000
namespace Go.Proofs.YtnmeejofpkhlkaaGreatDoor
open Go renaming World->FW
open Nat renaming lt_of_lt_of_le->GZ
open Go.Proofs.Tryz renaming prog->FY
open Go.World renaming block_lt_of_cell?->Gg
open Go.RowKit Go.Shelf
variable {F:FI} {N b k:Nat} {t:TypeId} {v:Value}
attribute [local go_sem] Oper.semAt_some
def acM (up:List Int) (j:Nat):Int:=up[j]?.getD 0
def wM (N k:Nat):List (Fin N):=(List.finRange N).take k
theorem aae (h:k<=N):(wM N k).length=k:=by unfold wM; rw[List.length_take,List.length_finRange]; omega
theorem acN (h:k < N):wM N (k+1)=wM N k ++ [⟨k,h⟩]:=by
 unfold wM;exact FP (by simp[h])
theorem akp (n:Nat) (hn:1<=n) (l lb bp n₀ b off len cap:Nat) (up:List Int) (hlen:len<=1000000) (hb:b < n₀) (J Jx:List (Fin len)->FW->Prop)
  (hY:∀ pre x W,J pre W->pre.length < len->YieldAt Fence.wide (n - 1) FY l #[.int .i64 (x.1:Int),.int .i64 (acM up x.1)] W λe W' =>
   (e = .returned (.bool true)/\J (pre ++ [x]) W'/\Below n₀ W W')\/(e = .returned (.bool false)/\Jx (pre ++ [x]) W'))
  (W:FW) (hlb:W.cell? ⟨lb,0,none⟩=some (.pointer (some ⟨bp,0,none⟩))) (hbp:W.cell? ⟨bp,3,none⟩=some (.slice (some ⟨b,off,none⟩) len cap)) (hc:∀ j,j < len->W.cell? ⟨b,off+j,none⟩=some (.int .i64 (acM up j))) (h0:J [] W) :
  CallsIn Fence.wide n FY 166 #[.func (.yield l) #[] #[],.pointer (some ⟨lb,0,none⟩)] W λe W'=>(∃ v,e = .returned v) /\
   ((∃ ys,ys=List.finRange len/\J ys W')\/(∃ pre,True/\Jx pre W')):=by
 refine callsIn_of_wp Tryz.func166 rfl trivial ?_ rfl;simp only[Tryz.ntmps166,List.size_toArray,List.length_cons,List.length_nil,Nat.reduceAdd,Nat.reduceSub,Array.replicate_succ,Array.replicate_zero,List.push_toArray,List.append_toArray,List.nil_append,List.cons_append];gi_wp2
 gi_loopw [10] (λi wr=>∃ k:Nat,k<=len/\i = .int .i64 k/\J (wM len k) wr/\Below n₀ W wr)
  (λi _=>len - (intOf i).toNat)
 case atStart=>exact⟨0,Nat.zero_le _,rfl,h0,Below.refl _ _⟩
 case round =>
  obtain⟨k,hk,rfl,hJs,hnx⟩:=hrel;have hcx:k < len->wr.cell? ⟨b,off+k,none⟩=some (.int .i64 (acM up k)):=λh=>(hnx.cell (p:=⟨b,off+k,none⟩) hb).trans (hc k h)
  by_cases hlt:k < len
  ·obtain⟨fn,tmps,assign,body,hy,hR⟩:=hY _ ⟨k,hlt⟩ wr hJs (by rw[aae hk]; exact hlt);dsimp only at hy;have hcx':=hcx hlt;gi_wp2;refine hR.mono ?_;rintro e W3 (⟨rfl,hJ3,hk3⟩ | ⟨rfl,hJx3⟩)
   ·gi_wp2
    go_roundw
    case rel=>exact⟨k+1,EN,aF,by rw[acN hlt]; exact hJ3,hnx.trans hk3⟩
    case measure=>simp[intOf]; omega
   ·gi_wp2
    refine bodyPost_ret (results_none rfl _ _ _) rfl ?_;exact⟨⟨_,rfl⟩,.inr ⟨_,trivial,hJx3⟩⟩
  ·obtain rfl:k=len:=EN;gi_wp2
   go_end0
   exact⟨⟨_,rfl⟩,.inl ⟨_,rfl,by unfold wM at hJs; rw[List.take_of_length_le aF] at hJs; exact hJs⟩⟩
theorem agG (n:Nat) (hn:1<=n) (lb bp n₀:Nat) (uv:Value) (up:List Int) (w:FW) (hlb:w.cell? ⟨lb,0,none⟩=some (.pointer (some ⟨bp,0,none⟩))) (hn₀:n₀<=w.heap.size)
  (hbp:w.cell? ⟨bp,3,none⟩=some uv) (hu:Aj w (λb=>b < n₀) uv up) (hpos:0 < up.length) (hlen:up.length<=1000000) :
  SeqStopsK Fence.wide n FY 166 #[.pointer (some ⟨lb,0,none⟩)] (λx:Fin up.length=>#[Value.int .i64 (x.1:Int),Value.int .i64 (acM up x.1)]) (Below n₀) (λys=>ys=List.finRange up.length)
   (λ_=>True) up.length w:=λl J Jx W hW _ _ hY h0=>by
 obtain⟨A,c,rfl,hc,hx⟩:=hu;obtain⟨b,o,rfl,hb,hbl,hcell⟩:=hx hpos;refine akp n hn l lb bp n₀ b o up.length c up hlen hb J Jx hY W ?_ ?_ (λj hj=>?_) h0
 ·exact(hW.cell (p:=⟨lb,0,none⟩) (Gg w _ hlb)).trans hlb
 ·exact(hW.cell (p:=⟨bp,3,none⟩) (Gg w _ hbp)).trans hbp
 ·obtain⟨x,hx'⟩:=FC hj;have:=hcell j x hx';unfold jP at this;rw[Nat.mul_one] at this;unfold acM;rw[hx'];exact(hW.cell (p:=⟨b,o+j,none⟩) hbl).trans this
open Go.RowKit
section
variable {W W':FW} {row:Option Nat}
theorem Row.kept {cs:List Value} (h:Row W b t cs) (hg:W.grownBy W' row) (hr:∀ r,row=some r->∃ o:Obj,W.heap[r]? = some o/\o.isCells=false):Row W' b t cs :=
 (grownBy_keeps_cells hg hr h rfl).trans h
theorem Ag.kept {l:List Nat} (h:Ag W F v l) (hg:W.grownBy W' row) (hr:∀ r,row=some r->∃ o:Obj,W.heap[r]? = some o/\o.isCells=false):Ag W' F v l:=by
 obtain⟨A,c,rfl,hc,hx⟩:=h;refine⟨A,c,rfl,hc,λh0=>?_⟩;obtain⟨b,o,rfl,hF,hb,hx⟩:=hx h0;exact⟨b,o,rfl,hF,GZ hb hg.size,λk x hk=>cell_kept (hx k x hk) hg hr⟩
theorem C9.kept {o:Nat} {r:Raw} (h:C9 W F b o r) (hg:W.grownBy W' row) (hr:∀ r,row=some r->∃ o:Obj,W.heap[r]? = some o/\o.isCells=false):C9 W' F b o r:=by
 obtain⟨h0,⟨u,h1,h2⟩,⟨v,h3,h4⟩⟩:=h;exact⟨cell_kept h0 hg hr,⟨u,cell_kept h1 hg hr,h2.kept hg hr⟩,⟨v,cell_kept h3 hg hr,h4.kept hg hr⟩⟩
theorem FK.kept {l:List Raw} (h:FK W F v l) (hg:W.grownBy W' row) (hr:∀ r,row=some r->∃ o:Obj,W.heap[r]? = some o/\o.isCells=false):FK W' F v l:=by
 obtain⟨A,c,rfl,hc,hx⟩:=h;refine⟨A,c,rfl,hc,λh0=>?_⟩;obtain⟨b,o,rfl,hF,hb,hx⟩:=hx h0;exact⟨b,o,rfl,hF,GZ hb hg.size,λk x hk=>(hx k x hk).kept hg hr⟩
theorem RV.fine.kept {q:RV} (h:q.fine W F) (hg:W.grownBy W' row) (hr:∀ r,row=some r->∃ o:Obj,W.heap[r]? = some o/\o.isCells=false):q.fine W' F:=⟨h.1.kept hg hr,h.2.kept hg hr⟩
theorem AB.kept {L:List RV} (h:AB W b t F L) (hg:W.grownBy W' row) (hr:∀ r,row=some r->∃ o:Obj,W.heap[r]? = some o/\o.isCells=false):AB W' b t F L:=⟨h.row.kept hg hr,λq hq=>(h.fine q hq).kept hg hr⟩
end
theorem gq {W W':FW} (h:Below W.heap.size W W') (B:Nat):KeepsFrom B W W':=⟨h.size,λk o _ hk _=>(h.block k (Array.getElem?_eq_some_iff.1 hk).1).trans hk⟩
end Go.Proofs.YtnmeejofpkhlkaaGreatDoor
