/- plan.Check; parlourref16.shape. -/
import Derived.Test.YthmklhapjegfdaaGreatDoorP19
import Derived.Test.YthmklhapjegfdaaGreatDoorP20
set_option linter.all false
set_option maxRecDepth 100000
set_option maxHeartbeats 12800000
namespace Go.Proofs.YthmklhapjegfdaaGreatDoor
open Lib renaming hid → Af
open Go.RowKit
def dM (g:Gm) (m:List (List Raw)):Int:=if bK g≠0 then bK g else kK (g.infos.map Inf.actions) m
theorem Ag.below {w w':World} {F:Ah} {v:Value} {l:List (List Raw)} (h:Ag w F v l) (hb:Below w.heap.size w w'):Ag w' F v l:=h.on (Below.same' hb F)
theorem pz (w:World) (F:Ah) (vg vm:Value) (g:Gm) (m:List (List Raw)) (hg:AV w F vg g) (hsm:Small g) (hm:Ag w F vm m) (hT:Bl w) (hlm:m.length≤100000) (hb:BD m) :
  Calls Tryz.prog 28 #[vg,vm] w (Ret w fun v _=>v = .int .i64 (dM g m)):=by
 have HG:=Af hg;have HM:=Af hm;have HS:=Af hsm;have HT:=Af hT;have hli:=hsm.infos;have hact:bK g=0→∀ i∈g.infos,i.actions≤10:=qF;obtain⟨vn,vi,rfl,⟨A,c,rfl,hc,_⟩,⟨Ai,ci,rfl,hci,_⟩⟩:=hg;clear hm hsm hT;go_in;go_wp2_with fail
 refine Yb ?_;intro W hW rx hB hz;clear hW hz;replace HG:=Af (HG.out.on (Below.same' hB F));replace HM:=Af (HM.out.below hB);replace HT:=Af (HT.out.on hB);refine Zj ?_;intro x0 x1 x2;clear rx;go_wp2_with fail
 refine(sO W F _ g HG.out HS.out).mono ?_;rintro e w1 ⟨_,rfl,hb1,rfl⟩;rw[qE];replace HG:=Af (HG.out.on (Below.same' hb1 F));replace HM:=Af (HM.out.below hb1);replace HT:=Af (HT.out.on hb1);replace x0:=aj x0 hb1;replace x1:=aj x1 hb1;replace x2:=aj x2 hb1;have hB1:=hB.trans (hb1.mono hB.size);clear hb1;have HE:=Af (show dM g m=if bK g≠0 then bK g else kK (g.infos.map Inf.actions) m from rfl);generalize bK g=fe at *;by_cases h0:fe=0
 ·have t1:(fe != 0)=false:=by rw[h0];rfl
  have HF:=Af (HE.out.trans (if_neg (by simpa using h0)));have ha:=hact h0;clear h0 hact;dsimp only;go_wp2_with fail
  refine(aae w1 F _ _ g m HG.out HM.out HT.out hlm byOmega hb ha).mono ?_;rintro e w2 ⟨_,rfl,hb2,rfl⟩;have hB2:=hB1.trans (hb2.mono hB1.size);rw[← HF.out];dsimp only;go_wp2
  go_ret;exact⟨_,rfl,hB2,rfl⟩
 ·have t1:(fe != 0)=true:=by simp[h0]
  have HF:=Af (HE.out.trans (if_pos h0));clear h0 hact;dsimp only;go_wp2
  go_ret;exact⟨_,rfl,hB1,by rw[HF.out]; rfl⟩
theorem afE:∀ {mr:List (List Raw)},(∀ l∈mr,∃ xs:List Rat,l=xs.map aH)→∃ m:List (List Rat),mr=m.map (List.map aH)
 | [],_=>⟨[],rfl⟩
 | l :: mr,h=>by
  obtain⟨xs,hx⟩:=h l (List.mem_cons_self);obtain⟨m,hm⟩:=afE (mr:=mr) (fun l hl=>h l (List.mem_cons_of_mem _ hl));exact⟨xs :: m,by rw[hx,hm]; rfl⟩
theorem jX {g:Gm} {mr:List (List Raw)} (h:dM g mr=0):bK g=0:=by
 unfold dM at h;by_cases h1:bK g=0
 ·exact h1
 ·rw[if_pos h1] at h;exact h
theorem lY {g:Gm} {mr:List (List Raw)} (h:dM g mr=0):kK (g.infos.map Inf.actions) mr=0:=by
 have h1:=jX h;unfold dM at h;rwa [if_neg (by simpa using h1)] at h
theorem vS {a:Int} {l:List Raw} (h:mQ a l=0):(l.length:Int)=a∧lI l=0∧lQ (jh (l.map rD)) 1=0:=by
 unfold mQ at h;split at h
 ·omega
 rename_i h1
 split at h
 ·omega
 rename_i h2
 split at h
 ·omega
 rename_i h3
 exact⟨byOmega,byOmega,byOmega⟩
theorem qG {acts:List Int} {mr:List (List Raw)} (h:kK acts mr=0):mr.length=acts.length∧∀ (k:Nat) (a:Int) (l:List Raw),acts[k]? = some a→mr[k]? = some l→mQ a l=0:=by
 unfold kK at h;split at h
 ·omega
 rename_i h1
 exact⟨byOmega,fun k a l ha hl=>wP h _ (List.mem_of_getElem? (acd ha hl))⟩
theorem mX {g:Gm} (h:bK g=0):1≤g.aA∧g.aA≤4:=by
 unfold bK at h;split at h
 ·omega
 ·rename_i h1
  unfold jI at h1;omega
theorem afF:∀ (l:List Int) (a:Int) (k:Nat),(∀ x∈l,1≤x∧x≤1000)→a+l.length≤l.foldl (· + ·) a∧l.foldl (· + ·) a≤a+1000*l.length
 | [],a,k,_=>by simp
 | x :: l,a,k,h=>by
  have h1:=h x (List.mem_cons_self);have h2:=afF l (a+x) k (fun y hy=>h y (List.mem_cons_of_mem _ hy));rw[List.foldl_cons,List.length_cons];omega
theorem aeU {l:List Int} (h:∀ x∈l,1≤x∧x≤1000):(l.length:Int)≤aiE l∧aiE l≤1000*l.length:=by
 have:=afF l 0 0 h;unfold aiE;omega
theorem acf {aA:Int} {ni:Nat} {nodes:List Nd} (h:dF aA ni nodes=0) {n:Nd} (hn:n∈nodes) (hk:n.kind=1):n.weights.length=n.next.length∧1≤n.next.length∧n.next.length≤60∧∀ x∈n.weights,1≤x∧x≤1000:=by
 have h1:=iT h n hn;unfold dR at h1;rw[if_pos hk] at h1;unfold dH at h1;split at h1
 ·omega
 ·rename_i h2
  split at h1
  ·omega
  ·rename_i h3
   refine⟨byOmega,byOmega,byOmega,fun x hx=>?_⟩;have h4:outside 1 1000 n.weights=false:=by simpa using h3
   unfold outside at h4;have:=List.any_eq_false.1 h4 x hx;simp at this;omega
theorem qH {aA:Int} {ni:Nat} {nodes:List Nd} (h:dF aA ni nodes=0) {n:Nd} (hn:n∈nodes) (hk:n.kind=2):1≤n.next.length∧n.next.length≤10∧0≤n.aC∧n.aC < aA∧0≤n.info∧n.info < (ni:Int):=by
 have h1:=iT h n hn;unfold dR at h1;rw[if_neg byOmega,if_pos hk] at h1;unfold fU at h1;split at h1
 ·omega
 ·rename_i h2
  split at h1
  ·omega
  ·exact⟨byOmega,byOmega,byOmega,byOmega,byOmega,byOmega⟩
theorem kinds {aA:Int} {ni:Nat} {nodes:List Nd} (h:dF aA ni nodes=0) {n:Nd} (hn:n∈nodes):n.kind=1∨n.kind=2∨n.kind=3:=by
 have h1:=iT h n hn;unfold dR at h1;split at h1
 ·exact .inl ‹_›
 ·split at h1
  ·exact .inr (.inl ‹_›)
  ·split at h1
   ·exact .inr (.inr ‹_›)
   ·omega
theorem nU {g:Gm} (h:bK g=0) {n:Nd} (hn:n∈g.nodes) (hk:n.kind=2):∃ inf,g.infos[n.info.toNat]? = some inf∧inf.actions=n.next.length∧inf.aC=n.aC:=by
 obtain⟨h2,h5⟩:=iG h;have h6:=qH h2 hn hk;unfold mO at h5;split at h5
 ·omega
 rename_i ht
 obtain⟨inf,hi⟩:=aF (l:=g.infos) (k:=n.info.toNat) byOmega;have e2:fK g.infos n=false:=by
  cases hb:fK g.infos n with
  | false=>rfl
  | true=>exact absurd (List.any_eq_true.2 ⟨n,hn,hb⟩) ht
 unfold fK at e2;rw[decide_eq_true hk,Bool.true_and,Bool.or_eq_false_iff,List.getD_eq_getElem?_getD,hi] at e2;have e3:=of_decide_eq_false e2.1;have e4:=of_decide_eq_false e2.2;simp only[Option.getD_some] at e3 e4;exact⟨inf,hi,byOmega,byOmega⟩
theorem afG {a b:Int} (ha:1≤a∧a≤1000) (hb:1≤b∧b≤60000):rl ((a:Rat) / (b:Rat))≤4:=by
 have h1:rl (a:Rat)≤1:=by
  rw[zy];have:(dig a.natAbs).length≤1:=aY (by unfold LB; omega);omega
 have h2:rl (b:Rat)≤1:=by
  rw[zy];have:(dig b.natAbs).length≤1:=aY (by unfold LB; omega);omega
 have hb0:(b:Rat)≠0:=fun e=>by
  have:b=0:=Rat.intCast_inj.1 e;omega
 rw[Rat.div_def];have h3:=o7 (a:Rat) (b:Rat)⁻¹;rw[aei hb0] at h3;omega
def BO (mr:List (List Raw)):Prop:=∀ l∈mr,∀ r∈l,r.num.length≤4∧r.den.length≤4
theorem acg {g:Gm} {mr:List (List Raw)} (h:dM g mr=0) (hL:BO mr):∃ m:List (List Rat),mr=m.map (List.map aH)∧Fit g m∧∀ l∈m,jh l=1∧∀ x∈l,dI x=false:=by
 have hf:=jX h;obtain⟨hlen,hrows⟩:=qG (lY h);have hrow:∀ l∈mr,∃ a:Int,mQ a l=0:=by
  intro l hl;obtain⟨k,hk⟩:=List.getElem?_of_mem hl;obtain⟨a,ha⟩:=aF (l:=g.infos.map Inf.actions) (k:=k) (by have:=aJ hk; omega);exact⟨a,hrows k a l ha hk⟩
 obtain⟨m,rfl⟩:=afE (mr:=mr) (fun l hl=>by
  obtain⟨a,ha⟩:=hrow l hl;obtain⟨xs,hx,_⟩:=uj (vS ha).2.1;exact⟨xs,hx⟩)
 obtain⟨hne,_⟩:=iG hf;refine⟨m,rfl,⟨lH hf,hne,mX hf,by simpa using hlen,fun n hn hk=>?_⟩,fun l hl=>?_⟩
 ·rcases kinds hne hn with k1 | k1 | k1
  ·obtain⟨c1,c2,c3,c4⟩:=acf hne hn k1;have hs:=aeU c4;unfold afu;rw[if_neg byOmega,List.length_map];refine⟨c1,fun x hx=>?_⟩;obtain⟨y,hy,rfl⟩:=List.mem_map.1 hx;exact afG (c4 y hy) byOmega
  ·obtain⟨inf,hi,ha,_⟩:=nU hf hn k1;obtain⟨l,hl⟩:=aF (l:=m) (k:=n.info.toNat) (by have:=aJ hi; simp at hlen; omega);have hr:=hrows n.info.toNat inf.actions (l.map aH) (by rw[List.getElem?_map,hi]; rfl) (by rw[List.getElem?_map,hl]; rfl);have hll:=(vS hr).1;rw[List.length_map] at hll;unfold afu;rw[if_pos k1,List.getD_eq_getElem?_getD,hl,Option.getD_some];refine⟨byOmega,fun x hx=>?_⟩;have:=hL (l.map aH) (List.mem_map_of_mem (List.mem_of_getElem? hl)) (aH x) (List.mem_map_of_mem hx);exact Nat.max_le.2 this
  ·exact absurd k1 hk
 ·obtain⟨a,ha⟩:=hrow (l.map aH) (List.mem_map_of_mem hl);obtain⟨_,h2,h3⟩:=vS ha;rw[zK] at h3;refine⟨(o8 _ _).1 h3,fun x hx=>?_⟩;have h4:=wP h2 (eH (aH x)) (List.mem_map_of_mem (List.mem_map_of_mem hx));obtain⟨y,hy,_,hn⟩:=wQ h4;rw[aa5 hy];exact hn
end Go.Proofs.YthmklhapjegfdaaGreatDoor
