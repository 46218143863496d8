/- A range over a function that counts: its rounds come by number, so a round may lean on those before it. -/
import Derived.Test.YtnmeejofpkhlkaaGreatDoorR25
import Derived.Test.YtnmeejofpkhlkaaGreatDoorR27
import Derived.RangeFuncNested
import Derived.RangeFuncBound
import Derived.RangeFuncCalls
import Derived.RangeFuncLeaves
import Derived.RangeFuncWrites
import Derived.Shelf.Abstract
import Derived.Shelf.RegionOpen
import Derived.WalkKit
import Derived.OwnWalkIn
import Derived.TacticsInMore
import Derived.LoopNIn
import Derived.LoopIn
set_option linter.all false
set_option maxRecDepth 100000
set_option maxHeartbeats 12800000
namespace Go.Proofs.YtnmeejofpkhlkaaGreatDoor
open Go.RowKit Go.Shelf
def DL (n gf:Nat) (lb:Array Value) (encs:Nat→Array Value) (n₀ len:Nat) (w:World):Prop :=
 ∀ (l:Nat) (J Jx:Nat→World→Prop) (W:World),Below w.heap.size w W→J 0 W →
  (∀ k W1,k < len→J k W1→YieldAt Fence.wide (n - 1) Tryz.prog l (encs k) W1 fun e W'=>(e = .returned (.bool true)∧J (k+1) W'∧Below n₀ W1 W')∨(e = .returned (.bool false)∧Jx k W')) →
  CallsIn Fence.wide n Tryz.prog gf (#[.func (.yield l) #[] #[]]++lb) W fun e W'=>(∃ v,e = .returned v)∧(J len W'∨∃ k,Jx k W')
def ai3 (B n₀ k:Nat) (I:Nat→World→Prop) (Ix:World→Prop) (W:World):Exit→Act→World→Prop
 | .normal,_,W'=>KeepsFrom B W W'∧Below n₀ W W'∧I (k+1) W'
 | .ret,_,W'=>KeepsFrom B W W'∧Ix W'
 | _,_,_=>False
def marked (B:Nat) (r:Loop) (p:World→Prop) (W:World):Prop:=p W∧W.heap[B+1]? = some (.loop r)∧W.heap[B]? = some (.deferred (some []))
theorem marked.put {B:Nat} {r r':Loop} {p p':World→Prop} {W:World} (h:marked B r p W) (hp:p' (W.putObj (B+1) (.loop r'))):marked B r' p' (W.putObj (B+1) (.loop r')) :=
 ⟨hp,World.putObj_heap_same (Array.getElem?_eq_some_iff.1 h.2.1).1,(World.putObj_heap_other byOmega).trans h.2.2⟩
theorem marked.kept {B:Nat} {r:Loop} {p p':World→Prop} {W W':World} (h:marked B r p W) (hk:KeepsFrom B W W') (hp:p' W'):marked B r p' W' :=
 ⟨hp,hk.same _ _ byOmega h.2.1 rfl,hk.same _ _ (Nat.le_refl _) h.2.2 rfl⟩
theorem sS {g:Operand} {ps:Array Tmp} {assign body:Code} {Q:Exit→Act→World→Prop} {a:Act} {w w0:World} {n gf n₀ len:Nat} {lb:Array Value} {encs:Nat→Array Value}
  (h1:1≤n) (hg:a.eval g = .func (.func gf) #[] lb) (eg:∀ args w,(callFunc gf args).run Tryz.prog w = .ok (.enter gf args) w) (hseq:DL (n - 1) gf lb encs n₀ len w0) (hb0:Below w0.heap.size w0 w) (hn₀:n₀≤w.heap.size) (hps:∀ k,(encs k).size=ps.size)
  (I:Nat→World→Prop) (Ix:World→Prop) (hI:OwnFrom w.heap.size I) (hIx:OwnFrom w.heap.size (fun (_:Unit)=>Ix)) (h0:I 0 w) (a₁:Nat→Act)
  (hassign:∀ (l k:Nat) (W:World) (K:Act→World→Prop),K (a₁ k) W→assign.wpIn (Fence.wide.inRound l) (n - 1 - 1) Tryz.prog (Exit.then K (fun _ _ _=>False)) { tmps:=(ps.zip (encs k)).foldl (fun t (p,v)=>t.setIfInBounds p v) a.tmps,defers:=[] } W)
  (hbody:∀ (l k:Nat) (W:World),I k W→k < len→body.wpIn (Fence.wide.inRound l) (n - 1 - 1) Tryz.prog (ai3 w.heap.size n₀ k I Ix W) (a₁ k) W)
  (hdone:∀ (D:Nat) (W:World),w.heap.size≤D→I len W→W.heap[D]? = some (.deferred (some []))→Q .normal { a with defers:={ target:=.collected D,args:=#[] } :: a.defers } W)
  (hstop:∀ (D:Nat) (W:World),w.heap.size≤D→Ix W→W.heap[D]? = some (.deferred (some []))→Code.ret.wpIn Fence.wide n Tryz.prog Q { a with defers:={ target:=.collected D,args:=#[] } :: a.defers } W) :
  (Code.rangeFunc g ps assign body).wpIn Fence.wide n Tryz.prog Q a w:=by
 refine wpIn_rangeFunc fun fn hfn=>?_
 obtain⟨mk,hmk⟩:∃ mk:LoopState→Option Code→Loop,mk=fun st pe=>{ state:=st,pending:=pe,fn,tmps:=a.tmps,params:=ps,assign,body,defers:=w.heap.size }:=⟨_,rfl⟩
 obtain⟨B,hB⟩:=named w.heap.size;have hstart:marked B (mk .ready none) (I 0) ((w.alloc (.deferred (some []))).alloc (.loop (mk .ready none))):=by
  subst hB;refine⟨hI.alloc _ (hI.alloc _ h0),?_,(Below.heap_alloc _ _ _ aB).trans (World.alloc_heap_new w _)⟩;have:=World.alloc_heap_new (w.alloc (.deferred (some []))) (.loop (mk .ready none));rwa [World.size_alloc] at this
 have hbel:Below w0.heap.size w0 ((w.alloc (.deferred (some []))).alloc (.loop (mk .ready none))) :=
  hb0.trans ((((Below.refl _ w).alloc (Nat.le_refl _) _).alloc aB _).mono hb0.size)
 have ai4:∀ {k W} (r r':Loop),marked B r (I k) W→marked B r' (I k) (W.putObj (B+1) (.loop r')):=fun r r' h=>h.put (hI.putObj _ h.1 byOmega h.2.1 rfl)
 have akr:∀ {W} (r r':Loop),marked B r Ix W→marked B r' Ix (W.putObj (B+1) (.loop r')):=fun r r' h=>h.put (hIx.putObj (s:=()) _ h.1 byOmega h.2.1 rfl)
 have hlow:∀ {p W} (r r':Loop),marked B r p W→Below n₀ W (W.putObj (B+1) (.loop r')):=fun r r' h=>belowK_b (w:=w) hn₀ _ _ _ _ byOmega h.2.1 rfl rfl
 obtain⟨W0,hW0⟩:=named ((w.alloc (.deferred (some []))).alloc (.loop (mk .ready none)));rw[← hW0] at hstart hbel;refine⟨B+1,[{ target:=.collected B,args:=#[] }],W0,{ target:=.fn (.func gf) lb,args:=#[.func (.yield (B+1)) #[] #[]] },W0,gf,#[.func (.yield (B+1)) #[] #[]]++lb,W0,?_,?_,?_,?_,fun _=>h1,?_⟩
 ·rw[hW0,hmk,hB];exact run_enterLoop_outer _ _ _ _ _
 ·simp only[resolve,hg];simp[go_sem]
 ·intro f' hf';simp[Target.leads] at hf';subst hf';exact trivial
 ·simp[invoke,go_sem,eg]
 refine(hseq (B+1) (fun k=>marked B (mk .ready none) (I k)) (fun _=>marked B (mk .done (some .ret)) Ix) _ hbel hstart fun k W hk hm=>?_).mono ?_
 ·have hy:=run_yield (P:=Tryz.prog) (args:=encs k) hm.2.1 (by rw[hmk]; exact hps k);rw[hmk] at hy;refine⟨fn,_,assign,body,hy,roundIn_of_wpIn hfn (hassign _ k W _ ⟨_,run_beginRound hm.2.1 (by rw[hmk]),?_⟩)⟩;have ai5:=ai4 _ { mk .ready none with state:=.busy } hm;refine wpIn_mono (hbody _ k _ ai5.1 hk) ?_;rw[← hB];rintro e a3 W3 hp;cases e with
  | normal =>
   obtain⟨hk3,hb3,hi3⟩:=hp;have h3:=ai5.kept hk3 hi3;have hr:=run_endRound (P:=Tryz.prog) none h3.2.1;exact⟨_,_,hr,.inl ⟨rfl,by have:=ai4 _ (mk .ready none) h3; rw[hmk] at this ⊢; exact this,((hlow _ _ hm).trans hb3).trans (hlow _ _ h3)⟩⟩
  | ret =>
   obtain⟨hk3,hi3⟩:=hp;have h3:=ai5.kept hk3 hi3;have hr:=run_endRound (P:=Tryz.prog) (some .ret) h3.2.1;exact⟨_,_,hr,.inr ⟨rfl,by have:=akr _ (mk .done (some .ret)) h3; rw[hmk] at this ⊢; exact this⟩⟩
  | exit id=>exact hp.elim
  | goto t=>exact hp.elim
  | panic c=>exact hp.elim
  | outgrown=>exact hp.elim
 ·rintro e W2 ⟨⟨v,rfl⟩,hm | ⟨k,hm⟩⟩
  ·have hr:=run_endLoop (P:=Tryz.prog) hm.2.1 (by rw[hmk]; simp);have h3:=ai4 _ { mk .ready none with state:=.exhausted } hm;exact⟨none,_,by rw[hmk] at hr ⊢; exact hr,hdone B _ byOmega h3.1 h3.2.2⟩
  ·have hr:=run_endLoop (P:=Tryz.prog) hm.2.1 (by rw[hmk]; simp);have h3:=akr _ { mk .done (some .ret) with state:=.exhausted } hm;exact⟨some .ret,_,by rw[hmk] at hr ⊢; exact hr,hstop B _ byOmega h3.1 h3.2.2⟩
attribute [local go_sem] Oper.semAt_some
theorem ai6 (n:Nat) (hn:1≤n) (l bn n₀ len:Nat) (hlen:len≤1000000) (J Jx:Nat→World→Prop)
  (hY:∀ k W,k < len→J k W→YieldAt Fence.wide (n - 1) Tryz.prog l #[.int .i64 (k:Int)] W fun e W' =>
   (e = .returned (.bool true)∧J (k+1) W'∧Below n₀ W W')∨(e = .returned (.bool false)∧Jx k W'))
  (W:World) (hlb:W.cell? ⟨bn,0,none⟩=some (.int .i64 (len:Int))) (h0:J 0 W) :
  CallsIn Fence.wide n Tryz.prog 116 #[.func (.yield l) #[] #[],.pointer (some ⟨bn,0,none⟩)] W fun e W'=>(∃ v,e = .returned v) ∧
   (J len W'∨∃ k,Jx k W'):=by
 refine callsIn_of_wp Tryz.func116 rfl trivial ?_ rfl;simp only[Tryz.ntmps116,List.size_toArray,List.length_cons,List.length_nil,Nat.reduceAdd,Nat.reduceSub,Array.replicate_succ,Array.replicate_zero,List.push_toArray,List.append_toArray,List.nil_append,List.cons_append];gi_wp2
 gi_loopw [5] (fun i wr=>∃ k:Nat,k≤len∧i = .int .i64 k∧J k wr∧Below n₀ W wr)
  (fun i _=>len - (intOf i).toNat)
 case atStart=>exact⟨0,Nat.zero_le _,rfl,h0,Below.refl _ _⟩
 case round =>
  obtain⟨k,hk,rfl,hJs,hnx⟩:=hrel;by_cases hlt:k < len
  ·obtain⟨fn,tmps,assign,body,hy,hR⟩:=hY k wr hlt hJs;gi_wp2;refine hR.mono ?_;rintro e W3 (⟨rfl,hJ3,hk3⟩ | ⟨rfl,hJx3⟩)
   ·gi_wp2
    go_roundw
    case rel=>exact⟨k+1,byOmega,aB,hJ3,hnx.trans hk3⟩
    case measure=>simp[intOf]; omega
   ·gi_wp2
    refine bodyPost_ret (results_none rfl _ _ _) rfl ?_;exact⟨⟨_,rfl⟩,.inr ⟨_,hJx3⟩⟩
  ·obtain rfl:k=len:=byOmega;gi_wp2
   go_end0
   exact⟨⟨_,rfl⟩,.inl hJs⟩
theorem ab4 (n:Nat) (hn:1≤n) (bn n₀ len:Nat) (w:World) (hlb:w.cell? ⟨bn,0,none⟩=some (.int .i64 (len:Int))) (hb:bn < w.heap.size) (hlen:len≤1000000) :
  DL n 116 #[.pointer (some ⟨bn,0,none⟩)] (fun k=>#[Value.int .i64 (k:Int)]) n₀ len w:=fun l J Jx W hW h0 hY =>
 ai6 n hn l bn n₀ len hlen J Jx hY W ((hW.cell (p:=⟨bn,0,none⟩) hb).trans hlb) h0
theorem ab5 (w:World) (n:Int):Calls Tryz.prog 66 #[.int .i64 n] w fun e w'=>e = .returned (.func (.func 116) #[] #[.pointer (some ⟨w.heap.size,0,none⟩)])∧w'=w.alloc (.cells #[.int .i64 n] 3):=by
 exact zat
end Go.Proofs.YtnmeejofpkhlkaaGreatDoor
