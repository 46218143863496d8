/- plan.Check; parlourref16.shape. -/
import Derived.Test.YtnmeejofpkhlkaaGreatDoorH19
import Derived.Test.YtnmeejofpkhlkaaGreatDoorH20
set_option linter.all false
set_option maxRecDepth 100000
set_option maxHeartbeats 12800000
namespace Go.Proofs.YtnmeejofpkhlkaaGreatDoor
open Lib renaming hid → Ag
open Go.RowKit
def dX (g:Gm) (m:List (List Raw)):Int:=if bJ g≠0 then bJ g else lU (g.infos.map Inf.actions) m
theorem RawRowsAt.below {w w':World} {F:Foot} {v:Value} {l:List (List Raw)} (h:RawRowsAt w F v l) (hb:Below w.heap.size w w'):RawRowsAt w' F v l:=h.on (Below.same' hb F)
theorem qJ (w:World) (F:Foot) (vg vm:Value) (g:Gm) (m:List (List Raw)) (hg:AO w F vg g) (hsm:Small g) (hm:RawRowsAt w F vm m) (hT:Bl w) (hlm:m.length≤100000) (hb:BF m) :
  Calls Tryz.prog 61 #[vg,vm] w (Ret w fun v _=>v = .int .i64 (dX g m)):=by
 have HG:=Ag hg;have HM:=Ag hm;have HS:=Ag hsm;have HT:=Ag hT;have hli:=hsm.infos;have hact:bJ g=0→∀ i∈g.infos,i.actions≤10:=rO;obtain⟨vn,vi,rfl,⟨A,c,rfl,hc,_⟩,⟨Ai,ci,rfl,hci,_⟩⟩:=hg;clear hm hsm hT;go_in;go_wp2_with fail
 refine Yj ?_;intro W hW rx hB hz;clear hW hz;replace HG:=Ag (HG.out.on (Below.same' hB F));replace HM:=Ag (HM.out.below hB);replace HT:=Ag (HT.out.on hB);refine Zn ?_;intro x0 x1 x2;clear rx;go_wp2_with fail
 refine(uS W F _ g HG.out HS.out).mono ?_;rintro e w1 ⟨_,rfl,hb1,rfl⟩;rw[rM];replace HG:=Ag (HG.out.on (Below.same' hb1 F));replace HM:=Ag (HM.out.below hb1);replace HT:=Ag (HT.out.on hb1);replace x0:=ak x0 hb1;replace x1:=ak x1 hb1;replace x2:=ak x2 hb1;have hB1:=hB.trans (hb1.mono hB.size);clear hb1;have HE:=Ag (show dX g m=if bJ g≠0 then bJ g else lU (g.infos.map Inf.actions) m from rfl);generalize bJ g=fe at *;by_cases h0:fe=0
 ·have t1:(fe != 0)=false:=by rw[h0];rfl
  have HF:=Ag (HE.out.trans (if_neg (by simpa using h0)));have ha:=hact h0;clear h0 hact;dsimp only;go_wp2_with fail
  refine(aaV w1 F _ _ g m HG.out HM.out HT.out hlm byOmega hb ha).mono ?_;rintro e w2 ⟨_,rfl,hb2,rfl⟩;have hB2:=hB1.trans (hb2.mono hB1.size);rw[← HF.out];dsimp only;go_wp2
  go_ret;exact⟨_,rfl,hB2,rfl⟩
 ·have t1:(fe != 0)=true:=by simp[h0]
  have HF:=Ag (HE.out.trans (if_pos h0));clear h0 hact;dsimp only;go_wp2
  go_ret;exact⟨_,rfl,hB1,by rw[HF.out]; rfl⟩
theorem ag2:∀ {mr:List (List Raw)},(∀ l∈mr,∃ xs:List Rat,l=xs.map aC)→∃ m:List (List Rat),mr=m.map (List.map aC)
 | [],_=>⟨[],rfl⟩
 | l :: mr,h=>by
  obtain⟨xs,hx⟩:=h l (List.mem_cons_self);obtain⟨m,hm⟩:=ag2 (mr:=mr) (fun l hl=>h l (List.mem_cons_of_mem _ hl));exact⟨xs :: m,by rw[hx,hm]; rfl⟩
theorem lD {g:Gm} {mr:List (List Raw)} (h:dX g mr=0):bJ g=0:=by
 unfold dX at h;by_cases h1:bJ g=0
 ·exact h1
 ·rw[if_pos h1] at h;exact h
theorem lF {g:Gm} {mr:List (List Raw)} (h:dX g mr=0):lU (g.infos.map Inf.actions) mr=0:=by
 have h1:=lD h;unfold dX at h;rwa [if_neg (by simpa using h1)] at h
theorem xM {a:Int} {l:List Raw} (h:oq a l=0):(l.length:Int)=a∧mZ l=0∧nG (fQ (l.map sW)) 1=0:=by
 unfold oq at h;split at h
 ·omega
 rename_i h1
 split at h
 ·omega
 rename_i h2
 split at h
 ·omega
 rename_i h3
 exact⟨byOmega,byOmega,byOmega⟩
theorem rP {acts:List Int} {mr:List (List Raw)} (h:lU acts mr=0):mr.length=acts.length∧∀ (k:Nat) (a:Int) (l:List Raw),acts[k]? = some a→mr[k]? = some l→oq a l=0:=by
 unfold lU at h;split at h
 ·omega
 rename_i h1
 exact⟨byOmega,fun k a l ha hl=>yE h _ (List.mem_of_getElem? (ada ha hl))⟩
theorem oz {g:Gm} (h:bJ g=0):1≤g.aA∧g.aA≤4:=by
 unfold bJ at h;split at h
 ·omega
 ·rename_i h1
  unfold kG at h1;omega
theorem ag3:∀ (l:List Int) (a:Int) (k:Nat),(∀ x∈l,1≤x∧x≤1000)→a+l.length≤l.foldl (· + ·) a∧l.foldl (· + ·) a≤a+1000*l.length
 | [],a,k,_=>by simp
 | x :: l,a,k,h=>by
  have h1:=h x (List.mem_cons_self);have h2:=ag3 l (a+x) k (fun y hy=>h y (List.mem_cons_of_mem _ hy));rw[List.foldl_cons,List.length_cons];omega
theorem aga {l:List Int} (h:∀ x∈l,1≤x∧x≤1000):(l.length:Int)≤pW l∧pW l≤1000*l.length:=by
 have:=ag3 l 0 0 h;unfold pW;omega
theorem adf {aA:Int} {ni:Nat} {nodes:List Nd} (h:dM aA ni nodes=0) {n:Nd} (hn:n∈nodes) (hk:n.kind=1):n.weights.length=n.next.length∧1≤n.next.length∧n.next.length≤60∧∀ x∈n.weights,1≤x∧x≤1000:=by
 have h1:=jy h n hn;unfold eX at h1;rw[if_pos hk] at h1;unfold dR at h1;split at h1
 ·omega
 ·rename_i h2
  split at h1
  ·omega
  ·rename_i h3
   refine⟨byOmega,byOmega,byOmega,fun x hx=>?_⟩;have h4:outside 1 1000 n.weights=false:=by simpa using h3
   unfold outside at h4;have:=List.any_eq_false.1 h4 x hx;simp at this;omega
theorem mQ {aA:Int} {ni:Nat} {nodes:List Nd} (h:dM aA ni nodes=0) {n:Nd} (hn:n∈nodes) (hk:n.kind=2):1≤n.next.length∧n.next.length≤10∧0≤n.aF∧n.aF < aA∧0≤n.info∧n.info < (ni:Int):=by
 have h1:=jy h n hn;unfold eX at h1;rw[if_neg byOmega,if_pos hk] at h1;unfold gU at h1;split at h1
 ·omega
 ·rename_i h2
  split at h1
  ·omega
  ·exact⟨byOmega,byOmega,byOmega,byOmega,byOmega,byOmega⟩
theorem kinds {aA:Int} {ni:Nat} {nodes:List Nd} (h:dM aA ni nodes=0) {n:Nd} (hn:n∈nodes):n.kind=1∨n.kind=2∨n.kind=3:=by
 have h1:=jy h n hn;unfold eX at h1;split at h1
 ·exact .inl ‹_›
 ·split at h1
  ·exact .inr (.inl ‹_›)
  ·split at h1
   ·exact .inr (.inr ‹_›)
   ·omega
theorem pF {g:Gm} (h:bJ g=0) {n:Nd} (hn:n∈g.nodes) (hk:n.kind=2):∃ inf,g.infos[n.info.toNat]? = some inf∧inf.actions=n.next.length∧inf.aF=n.aF:=by
 obtain⟨h2,h5⟩:=gW h;have h6:=mQ h2 hn hk;unfold oh at h5;split at h5
 ·omega
 rename_i ht
 obtain⟨inf,hi⟩:=getSome (l:=g.infos) (k:=n.info.toNat) byOmega;have e2:gG g.infos n=false:=by
  cases hb:gG g.infos n with
  | false=>rfl
  | true=>exact absurd (List.any_eq_true.2 ⟨n,hn,hb⟩) ht
 unfold gG at e2;rw[decide_eq_true hk,Bool.true_and,Bool.or_eq_false_iff,List.getD_eq_getElem?_getD,hi] at e2;have e3:=of_decide_eq_false e2.1;have e4:=of_decide_eq_false e2.2;simp only[Option.getD_some] at e3 e4;exact⟨inf,hi,byOmega,byOmega⟩
theorem ag4 {a b:Int} (ha:1≤a∧a≤1000) (hb:1≤b∧b≤60000):rl ((a:Rat) / (b:Rat))≤4:=by
 have h1:rl (a:Rat)≤1:=by
  rw[aax];have:(dig a.natAbs).length≤1:=aS (by unfold LB; omega);omega
 have h2:rl (b:Rat)≤1:=by
  rw[aax];have:(dig b.natAbs).length≤1:=aS (by unfold LB; omega);omega
 have hb0:(b:Rat)≠0:=fun e=>by
  have:b=0:=Rat.intCast_inj.1 e;omega
 rw[Rat.div_def];have h3:=nS (a:Rat) (b:Rat)⁻¹;rw[aft hb0] at h3;omega
def BN (mr:List (List Raw)):Prop:=∀ l∈mr,∀ r∈l,r.num.length≤4∧r.den.length≤4
theorem adg {g:Gm} {mr:List (List Raw)} (h:dX g mr=0) (hL:BN mr):∃ m:List (List Rat),mr=m.map (List.map aC)∧Fit g m∧∀ l∈m,fQ l=1∧∀ x∈l,dF x=false:=by
 have hf:=lD h;obtain⟨hlen,hrows⟩:=rP (lF h);have hrow:∀ l∈mr,∃ a:Int,oq a l=0:=by
  intro l hl;refine zbQ ?_;intro k hk;obtain⟨a,ha⟩:=getSome (l:=g.infos.map Inf.actions) (k:=k) (by have:=lt_of_get hk; omega);exact⟨a,hrows k a l ha hk⟩
 obtain⟨m,rfl⟩:=ag2 (mr:=mr) (fun l hl=>by
  obtain⟨a,ha⟩:=hrow l hl;obtain⟨xs,hx,_⟩:=vT (xM ha).2.1;exact⟨xs,hx⟩)
 obtain⟨hne,_⟩:=gW hf;refine⟨m,rfl,⟨jE hf,hne,oz hf,by simpa using hlen,fun n hn hk=>?_⟩,fun l hl=>?_⟩
 ·rcases kinds hne hn with k1 | k1 | k1
  ·obtain⟨c1,c2,c3,c4⟩:=adf hne hn k1;have hs:=aga c4;unfold agO;rw[if_neg byOmega,List.length_map];refine⟨c1,fun x hx=>?_⟩;obtain⟨y,hy,rfl⟩:=List.mem_map.1 hx;exact ag4 (c4 y hy) byOmega
  ·obtain⟨inf,hi,ha,_⟩:=pF hf hn k1;obtain⟨l,hl⟩:=getSome (l:=m) (k:=n.info.toNat) (by have:=lt_of_get hi; simp at hlen; omega);have hr:=hrows n.info.toNat inf.actions (l.map aC) (by rw[List.getElem?_map,hi]; rfl) (by rw[List.getElem?_map,hl]; rfl);have hll:=(xM hr).1;rw[List.length_map] at hll;unfold agO;rw[if_pos k1,List.getD_eq_getElem?_getD,hl,Option.getD_some];refine⟨byOmega,fun x hx=>?_⟩;have:=hL (l.map aC) (List.mem_map_of_mem (List.mem_of_getElem? hl)) (aC x) (List.mem_map_of_mem hx);exact Nat.max_le.2 this
  ·exact absurd k1 hk
 ·obtain⟨a,ha⟩:=hrow (l.map aC) (List.mem_map_of_mem hl);obtain⟨_,h2,h3⟩:=xM ha;rw[aaI] at h3;refine⟨(qI _ _).1 h3,fun x hx=>?_⟩;have h4:=yE h2 (fJ (aC x)) (List.mem_map_of_mem (List.mem_map_of_mem hx));obtain⟨y,hy,_,hn⟩:=yF h4;rw[ab2 hy];exact hn
end Go.Proofs.YtnmeejofpkhlkaaGreatDoor
