import Derived.Test.YtenaplhghbcjhaaGreatDoorQ24
import Derived.Test.YtenaplhghbcjhaaGreatDoorQ26
import Derived.RangeFuncNested
import Derived.RangeFuncBound
import Derived.RangeFuncCalls
import Derived.RangeFuncLeaves
import Derived.RangeFuncWrites
import Derived.Shelf.Abstract
import Derived.Shelf.RegionOpen
import Derived.WalkKit
import Derived.OwnWalkIn
import Derived.TacticsInMore
import Derived.LoopNIn
import Derived.LoopIn
set_option linter.all false
set_option maxRecDepth 100000
set_option maxHeartbeats 0
namespace Go.Proofs.YtenaplhghbcjhaaGreatDoor
open Go.RowKit.Below renaming refl->GR
open Go renaming World->GK
open Nat renaming le_refl->Gy
open Go.Proofs.Tryz renaming prog->GI
open Go.RowKit Go.Shelf
def Eu (n gf:Nat) (lb:Array Value) (encs:Nat->Array Value) (n₀ len:Nat) (w:GK):Prop :=
 ∀ (l:Nat) (J Jx:Nat->GK->Prop) (W:GK),Below w.heap.size w W->J 0 W ->
  (∀ k W1,k < len->J k W1->YieldAt Fence.wide (n - 1) GI l (encs k) W1 λe W'=>(e = .returned (.bool true)/\J (k+1) W'/\Below n₀ W1 W')\/(e = .returned (.bool false)/\Jx k W')) ->
  CallsIn Fence.wide n GI gf (#[.func (.yield l) #[] #[]]++lb) W λe W'=>(∃ v,e = .returned v)/\(J len W'\/∃ k,Jx k W')
def al9 (B n₀ k:Nat) (I:Nat->GK->Prop) (Ix:GK->Prop) (W:GK):Exit->Act->GK->Prop
 | .normal,_,W'=>KeepsFrom B W W'/\Below n₀ W W'/\I (k+1) W'
 | .ret,_,W'=>KeepsFrom B W W'/\Ix W'
 | _,_,_=>False
def marked (B:Nat) (r:Loop) (p:GK->Prop) (W:GK):Prop:=p W/\W.heap[B+1]? = some (.loop r)/\W.heap[B]? = some (.deferred (some []))
theorem marked.put {B:Nat} {r r':Loop} {p p':GK->Prop} {W:GK} (h:marked B r p W) (hp:p' (W.putObj (B+1) (.loop r'))):marked B r' p' (W.putObj (B+1) (.loop r')) :=
 ⟨hp,World.putObj_heap_same (Array.getElem?_eq_some_iff.1 h.2.1).1,(World.putObj_heap_other FI).trans h.2.2⟩
theorem marked.kept {B:Nat} {r:Loop} {p p':GK->Prop} {W W':GK} (h:marked B r p W) (hk:KeepsFrom B W W') (hp:p' W'):marked B r p' W' :=
 ⟨hp,hk.same _ _ FI h.2.1 rfl,hk.same _ _ (Gy _) h.2.2 rfl⟩
theorem ac5 {g:Operand} {ps:Array Tmp} {assign body:Code} {Q:Exit->Act->GK->Prop} {a:Act} {w w0:GK} {n gf n₀ len:Nat} {lb:Array Value} {encs:Nat->Array Value}
  (h1:1<=n) (hg:a.eval g = .func (.func gf) #[] lb) (eg:∀ args w,(callFunc gf args).run GI w = .ok (.enter gf args) w) (hseq:Eu (n - 1) gf lb encs n₀ len w0) (hb0:Below w0.heap.size w0 w) (hn₀:n₀<=w.heap.size) (hps:∀ k,(encs k).size=ps.size)
  (I:Nat->GK->Prop) (Ix:GK->Prop) (hI:OwnFrom w.heap.size I) (hIx:OwnFrom w.heap.size (λ(_:Unit)=>Ix)) (h0:I 0 w) (a₁:Nat->Act)
  (hassign:∀ (l k:Nat) (W:GK) (K:Act->GK->Prop),K (a₁ k) W->assign.wpIn (Fence.wide.inRound l) (n - 1 - 1) GI (Exit.then K (λ_ _ _=>False)) { tmps:=(ps.zip (encs k)).foldl (λt (p,v)=>t.setIfInBounds p v) a.tmps,defers:=[] } W)
  (hbody:∀ (l k:Nat) (W:GK),I k W->k < len->body.wpIn (Fence.wide.inRound l) (n - 1 - 1) GI (al9 w.heap.size n₀ k I Ix W) (a₁ k) W)
  (hdone:∀ (D:Nat) (W:GK),w.heap.size<=D->I len W->W.heap[D]? = some (.deferred (some []))->Q .normal { a with defers:={ target:=.collected D,args:=#[] } :: a.defers } W)
  (hstop:∀ (D:Nat) (W:GK),w.heap.size<=D->Ix W->W.heap[D]? = some (.deferred (some []))->Code.ret.wpIn Fence.wide n GI Q { a with defers:={ target:=.collected D,args:=#[] } :: a.defers } W) :
  (Code.rangeFunc g ps assign body).wpIn Fence.wide n GI Q a w:=by
 refine wpIn_rangeFunc λfn hfn=>?_
 obtain⟨mk,hmk⟩:∃ mk:LoopState->Option Code->Loop,mk=λst pe=>{ state:=st,pending:=pe,fn,tmps:=a.tmps,params:=ps,assign,body,defers:=w.heap.size }:=⟨_,rfl⟩
 obtain⟨B,hB⟩:=Gp w.heap.size;have hstart:marked B (mk .ready none) (I 0) ((w.alloc (.deferred (some []))).alloc (.loop (mk .ready none))):=by
  subst hB;refine⟨hI.alloc _ (hI.alloc _ h0),?_,(Below.heap_alloc _ _ _ aA).trans (World.alloc_heap_new w _)⟩;have:=World.alloc_heap_new (w.alloc (.deferred (some []))) (.loop (mk .ready none));rwa [World.size_alloc] at this
 have hbel:Below w0.heap.size w0 ((w.alloc (.deferred (some []))).alloc (.loop (mk .ready none))) :=
  hb0.trans ((((GR _ w).alloc (Gy _) _).alloc aA _).mono hb0.size)
 have ama:∀ {k W} (r r':Loop),marked B r (I k) W->marked B r' (I k) (W.putObj (B+1) (.loop r')):=λr r' h=>h.put (hI.putObj _ h.1 FI h.2.1 rfl)
 have an4:∀ {W} (r r':Loop),marked B r Ix W->marked B r' Ix (W.putObj (B+1) (.loop r')):=λr r' h=>h.put (hIx.putObj (s:=()) _ h.1 FI h.2.1 rfl)
 have hlow:∀ {p W} (r r':Loop),marked B r p W->Below n₀ W (W.putObj (B+1) (.loop r')):=λr r' h=>belowK_b (w:=w) hn₀ _ _ _ _ FI h.2.1 rfl rfl
 obtain⟨W0,hW0⟩:=Gp ((w.alloc (.deferred (some []))).alloc (.loop (mk .ready none)));rw[<-hW0] at hstart hbel;refine⟨B+1,[{ target:=.collected B,args:=#[] }],W0,{ target:=.fn (.func gf) lb,args:=#[.func (.yield (B+1)) #[] #[]] },W0,gf,#[.func (.yield (B+1)) #[] #[]]++lb,W0,?_,?_,?_,?_,λ_=>h1,?_⟩
 ·rw[hW0,hmk,hB];exact run_enterLoop_outer _ _ _ _ _
 ·simp only[resolve,hg];simp[go_sem]
 ·intro f' hf';simp[Target.leads] at hf';subst hf';exact trivial
 ·simp[invoke,go_sem,eg]
 refine(hseq (B+1) (λk=>marked B (mk .ready none) (I k)) (λ_=>marked B (mk .done (some .ret)) Ix) _ hbel hstart λk W hk hm=>?_).mono ?_
 ·have hy:=run_yield (P:=GI) (args:=encs k) hm.2.1 (by rw[hmk]; exact hps k);rw[hmk] at hy;refine⟨fn,_,assign,body,hy,roundIn_of_wpIn hfn (hassign _ k W _ ⟨_,run_beginRound hm.2.1 (by rw[hmk]),?_⟩)⟩;have amb:=ama _ { mk .ready none with state:=.busy } hm;refine wpIn_mono (hbody _ k _ amb.1 hk) ?_;rw[<-hB];rintro e a3 W3 hp;cases e with
  | normal =>
   obtain⟨hk3,hb3,hi3⟩:=hp;have h3:=amb.kept hk3 hi3;have hr:=run_endRound (P:=GI) none h3.2.1;exact⟨_,_,hr,.inl ⟨rfl,by have:=ama _ (mk .ready none) h3; rw[hmk] at this ⊢; exact this,((hlow _ _ hm).trans hb3).trans (hlow _ _ h3)⟩⟩
  | ret =>
   obtain⟨hk3,hi3⟩:=hp;have h3:=amb.kept hk3 hi3;have hr:=run_endRound (P:=GI) (some .ret) h3.2.1;exact⟨_,_,hr,.inr ⟨rfl,by have:=an4 _ (mk .done (some .ret)) h3; rw[hmk] at this ⊢; exact this⟩⟩
  | exit id=>exact hp.elim
  | goto t=>exact hp.elim
  | panic c=>exact hp.elim
  | outgrown=>exact hp.elim
 ·rintro e W2 ⟨⟨v,rfl⟩,hm | ⟨k,hm⟩⟩
  ·have hr:=run_endLoop (P:=GI) hm.2.1 (by rw[hmk]; simp);have h3:=ama _ { mk .ready none with state:=.exhausted } hm;exact⟨none,_,by rw[hmk] at hr ⊢; exact hr,hdone B _ FI h3.1 h3.2.2⟩
  ·have hr:=run_endLoop (P:=GI) hm.2.1 (by rw[hmk]; simp);have h3:=an4 _ { mk .done (some .ret) with state:=.exhausted } hm;exact⟨some .ret,_,by rw[hmk] at hr ⊢; exact hr,hstop B _ FI h3.1 h3.2.2⟩
attribute [local go_sem] Oper.semAt_some
theorem amc (n:Nat) (hn:1<=n) (l bn n₀ len:Nat) (hlen:len<=1000000) (J Jx:Nat->GK->Prop)
  (hY:∀ k W,k < len->J k W->YieldAt Fence.wide (n - 1) GI l #[.int .i64 (k:Int)] W λe W' =>
   (e = .returned (.bool true)/\J (k+1) W'/\Below n₀ W W')\/(e = .returned (.bool false)/\Jx k W'))
  (W:GK) (hlb:W.cell? ⟨bn,0,none⟩=some (.int .i64 (len:Int))) (h0:J 0 W) :
  CallsIn Fence.wide n GI 116 #[.func (.yield l) #[] #[],.pointer (some ⟨bn,0,none⟩)] W λe W'=>(∃ v,e = .returned v) /\
   (J len W'\/∃ k,Jx k W'):=by
 refine callsIn_of_wp Tryz.func116 rfl trivial ?_ rfl;simp only[Tryz.ntmps116,List.size_toArray,List.length_cons,List.length_nil,Nat.reduceAdd,Nat.reduceSub,Array.replicate_succ,Array.replicate_zero,List.push_toArray,List.append_toArray,List.nil_append,List.cons_append];gi_wp2
 gi_loopw [5] (λi wr=>∃ k:Nat,k<=len/\i = .int .i64 k/\J k wr/\Below n₀ W wr)
  (λi _=>len - (intOf i).toNat)
 case atStart=>exact⟨0,Nat.zero_le _,rfl,h0,GR _ _⟩
 case round =>
  obtain⟨k,hk,rfl,hJs,hnx⟩:=hrel;by_cases hlt:k < len
  ·obtain⟨fn,tmps,assign,body,hy,hR⟩:=hY k wr hlt hJs;gi_wp2;refine hR.mono ?_;rintro e W3 (⟨rfl,hJ3,hk3⟩ | ⟨rfl,hJx3⟩)
   ·gi_wp2
    go_roundw
    case rel=>exact⟨k+1,FI,aA,hJ3,hnx.trans hk3⟩
    case measure=>exact zMs
   ·gi_wp2
    refine bodyPost_ret (results_none rfl _ _ _) rfl ?_;exact⟨⟨_,rfl⟩,.inr ⟨_,hJx3⟩⟩
  ·obtain rfl:k=len:=FI;gi_wp2
   go_end0
   exact⟨⟨_,rfl⟩,.inl hJs⟩
theorem aky (n:Nat) (hn:1<=n) (bn n₀ len:Nat) (w:GK) (hlb:w.cell? ⟨bn,0,none⟩=some (.int .i64 (len:Int))) (hb:bn < w.heap.size) (hlen:len<=1000000) :
  Eu n 116 #[.pointer (some ⟨bn,0,none⟩)] (λk=>#[Value.int .i64 (k:Int)]) n₀ len w:=λl J Jx W hW h0 hY =>
 amc n hn l bn n₀ len hlen J Jx hY W ((hW.cell (p:=⟨bn,0,none⟩) hb).trans hlb) h0
theorem akz (w:GK) (n:Int):Calls GI 69 #[.int .i64 n] w λe w'=>e = .returned (.func (.func 116) #[] #[.pointer (some ⟨w.heap.size,0,none⟩)])/\w'=w.alloc (.cells #[.int .i64 n] 3):=by
 exact zbo
