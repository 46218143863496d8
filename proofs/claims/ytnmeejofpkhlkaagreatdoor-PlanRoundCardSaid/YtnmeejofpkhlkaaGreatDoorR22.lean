/- plan.Check; parlourref16.shape. -/
import Derived.Test.YtnmeejofpkhlkaaGreatDoorR19
import Derived.Test.YtnmeejofpkhlkaaGreatDoorR20
set_option linter.all false
set_option maxRecDepth 100000
set_option maxHeartbeats 12800000
namespace Go.Proofs.YtnmeejofpkhlkaaGreatDoor
open Lib renaming hid → Ag
open Go.RowKit
def dM (g:Gm) (m:List (List Raw)):Int:=if bP g≠0 then bP g else lD (g.infos.map Inf.actions) m
theorem RawRowsAt.below {w w':World} {F:Foot} {v:Value} {l:List (List Raw)} (h:RawRowsAt w F v l) (hb:Below w.heap.size w w'):RawRowsAt w' F v l:=h.on (Below.same' hb F)
theorem qw (w:World) (F:Foot) (vg vm:Value) (g:Gm) (m:List (List Raw)) (hg:AO w F vg g) (hsm:Small g) (hm:RawRowsAt w F vm m) (hT:Bz w) (hlm:m.length≤100000) (hb:BG m) :
  Calls Tryz.prog 61 #[vg,vm] w (Ret w fun v _=>v = .int .i64 (dM g m)):=by
 have HG:=Ag hg;have HM:=Ag hm;have HS:=Ag hsm;have HT:=Ag hT;have hli:=hsm.infos;have hact:bP g=0→∀ i∈g.infos,i.actions≤10:=qV;obtain⟨vn,vi,rfl,⟨A,c,rfl,hc,_⟩,⟨Ai,ci,rfl,hci,_⟩⟩:=hg;clear hm hsm hT;go_in;go_wp2_with fail
 refine Z8 ?_;intro W hW rx hB hz;clear hW hz;replace HG:=Ag (HG.out.on (Below.same' hB F));replace HM:=Ag (HM.out.below hB);replace HT:=Ag (HT.out.on hB);refine Zi ?_;intro x0 x1 x2;clear rx;go_wp2_with fail
 refine(um W F _ g HG.out HS.out).mono ?_;rintro e w1 ⟨_,rfl,hb1,rfl⟩;rw[qU];replace HG:=Ag (HG.out.on (Below.same' hb1 F));replace HM:=Ag (HM.out.below hb1);replace HT:=Ag (HT.out.on hb1);replace x0:=ak x0 hb1;replace x1:=ak x1 hb1;replace x2:=ak x2 hb1;have hB1:=hB.trans (hb1.mono hB.size);clear hb1;have HE:=Ag (show dM g m=if bP g≠0 then bP g else lD (g.infos.map Inf.actions) m from rfl);generalize bP g=fe at *;by_cases h0:fe=0
 ·have t1:(fe != 0)=false:=by rw[h0];rfl
  have HF:=Ag (HE.out.trans (if_neg (by simpa using h0)));have ha:=hact h0;clear h0 hact;dsimp only;go_wp2_with fail
  refine(aaC w1 F _ _ g m HG.out HM.out HT.out hlm byOmega hb ha).mono ?_;rintro e w2 ⟨_,rfl,hb2,rfl⟩;have hB2:=hB1.trans (hb2.mono hB1.size);rw[← HF.out];dsimp only;go_wp2
  go_ret;exact⟨_,rfl,hB2,rfl⟩
 ·have t1:(fe != 0)=true:=by simp[h0]
  have HF:=Ag (HE.out.trans (if_pos h0));clear h0 hact;dsimp only;go_wp2
  go_ret;exact⟨_,rfl,hB1,by rw[HF.out]; rfl⟩
theorem agx:∀ {mr:List (List Raw)},(∀ l∈mr,∃ xs:List Rat,l=xs.map aG)→∃ m:List (List Rat),mr=m.map (List.map aG)
 | [],_=>⟨[],rfl⟩
 | l :: mr,h=>by
  obtain⟨xs,hx⟩:=h l (List.mem_cons_self);obtain⟨m,hm⟩:=agx (mr:=mr) (fun l hl=>h l (List.mem_cons_of_mem _ hl));exact⟨xs :: m,by rw[hx,hm]; rfl⟩
theorem kP {g:Gm} {mr:List (List Raw)} (h:dM g mr=0):bP g=0:=by
 unfold dM at h;by_cases h1:bP g=0
 ·exact h1
 ·rw[if_pos h1] at h;exact h
theorem ng {g:Gm} {mr:List (List Raw)} (h:dM g mr=0):lD (g.infos.map Inf.actions) mr=0:=by
 have h1:=kP h;unfold dM at h;rwa [if_neg (by simpa using h1)] at h
theorem wS {a:Int} {l:List Raw} (h:nR a l=0):(l.length:Int)=a∧mJ l=0∧mQ (jD (l.map rY)) 1=0:=by
 unfold nR at h;split at h
 ·omega
 rename_i h1
 split at h
 ·omega
 rename_i h2
 split at h
 ·omega
 rename_i h3
 exact⟨byOmega,byOmega,byOmega⟩
theorem qW {acts:List Int} {mr:List (List Raw)} (h:lD acts mr=0):mr.length=acts.length∧∀ (k:Nat) (a:Int) (l:List Raw),acts[k]? = some a→mr[k]? = some l→nR a l=0:=by
 unfold lD at h;split at h
 ·omega
 rename_i h1
 exact⟨byOmega,fun k a l ha hl=>xO h _ (List.mem_of_getElem? (acM ha hl))⟩
theorem nT {g:Gm} (h:bP g=0):1≤g.aA∧g.aA≤4:=by
 unfold bP at h;split at h
 ·omega
 ·rename_i h1
  unfold jU at h1;omega
theorem agy:∀ (l:List Int) (a:Int) (k:Nat),(∀ x∈l,1≤x∧x≤1000)→a+l.length≤l.foldl (· + ·) a∧l.foldl (· + ·) a≤a+1000*l.length
 | [],a,k,_=>by simp
 | x :: l,a,k,h=>by
  have h1:=h x (List.mem_cons_self);have h2:=agy l (a+x) k (fun y hy=>h y (List.mem_cons_of_mem _ hy));rw[List.foldl_cons,List.length_cons];omega
theorem afH {l:List Int} (h:∀ x∈l,1≤x∧x≤1000):(l.length:Int)≤qo l∧qo l≤1000*l.length:=by
 have:=agy l 0 0 h;unfold qo;omega
theorem acP {aA:Int} {ni:Nat} {nodes:List Nd} (h:dG aA ni nodes=0) {n:Nd} (hn:n∈nodes) (hk:n.kind=1):n.weights.length=n.next.length∧1≤n.next.length∧n.next.length≤60∧∀ x∈n.weights,1≤x∧x≤1000:=by
 have h1:=jo h n hn;unfold eH at h1;rw[if_pos hk] at h1;unfold dI at h1;split at h1
 ·omega
 ·rename_i h2
  split at h1
  ·omega
  ·rename_i h3
   refine⟨byOmega,byOmega,byOmega,fun x hx=>?_⟩;have h4:outside 1 1000 n.weights=false:=by simpa using h3
   unfold outside at h4;have:=List.any_eq_false.1 h4 x hx;simp at this;omega
theorem qX {aA:Int} {ni:Nat} {nodes:List Nd} (h:dG aA ni nodes=0) {n:Nd} (hn:n∈nodes) (hk:n.kind=2):1≤n.next.length∧n.next.length≤10∧0≤n.aC∧n.aC < aA∧0≤n.info∧n.info < (ni:Int):=by
 have h1:=jo h n hn;unfold eH at h1;rw[if_neg byOmega,if_pos hk] at h1;unfold gW at h1;split at h1
 ·omega
 ·rename_i h2
  split at h1
  ·omega
  ·exact⟨byOmega,byOmega,byOmega,byOmega,byOmega,byOmega⟩
theorem kinds {aA:Int} {ni:Nat} {nodes:List Nd} (h:dG aA ni nodes=0) {n:Nd} (hn:n∈nodes):n.kind=1∨n.kind=2∨n.kind=3:=by
 have h1:=jo h n hn;unfold eH at h1;split at h1
 ·exact .inl ‹_›
 ·split at h1
  ·exact .inr (.inl ‹_›)
  ·split at h1
   ·exact .inr (.inr ‹_›)
   ·omega
theorem mg {g:Gm} (h:bP g=0) {n:Nd} (hn:n∈g.nodes) (hk:n.kind=2):∃ inf,g.infos[n.info.toNat]? = some inf∧inf.actions=n.next.length∧inf.aC=n.aC:=by
 obtain⟨h2,h5⟩:=iY h;have h6:=qX h2 hn hk;unfold nO at h5;split at h5
 ·omega
 rename_i ht
 obtain⟨inf,hi⟩:=getSome (l:=g.infos) (k:=n.info.toNat) byOmega;have e2:gB g.infos n=false:=by
  cases hb:gB g.infos n with
  | false=>rfl
  | true=>exact absurd (List.any_eq_true.2 ⟨n,hn,hb⟩) ht
 unfold gB at e2;rw[decide_eq_true hk,Bool.true_and,Bool.or_eq_false_iff,List.getD_eq_getElem?_getD,hi] at e2;have e3:=of_decide_eq_false e2.1;have e4:=of_decide_eq_false e2.2;simp only[Option.getD_some] at e3 e4;exact⟨inf,hi,byOmega,byOmega⟩
theorem agz {a b:Int} (ha:1≤a∧a≤1000) (hb:1≤b∧b≤60000):rl ((a:Rat) / (b:Rat))≤4:=by
 have h1:rl (a:Rat)≤1:=by
  rw[zZ];have:(dig a.natAbs).length≤1:=aS (by unfold LB; omega);omega
 have h2:rl (b:Rat)≤1:=by
  rw[zZ];have:(dig b.natAbs).length≤1:=aS (by unfold LB; omega);omega
 have hb0:(b:Rat)≠0:=fun e=>by
  have:b=0:=Rat.intCast_inj.1 e;omega
 rw[Rat.div_def];have h3:=qj (a:Rat) (b:Rat)⁻¹;rw[ae0 hb0] at h3;omega
def BO (mr:List (List Raw)):Prop:=∀ l∈mr,∀ r∈l,r.num.length≤4∧r.den.length≤4
theorem acQ {g:Gm} {mr:List (List Raw)} (h:dM g mr=0) (hL:BO mr):∃ m:List (List Rat),mr=m.map (List.map aG)∧Fit g m∧∀ l∈m,jD l=1∧∀ x∈l,dF x=false:=by
 have hf:=kP h;obtain⟨hlen,hrows⟩:=qW (ng h);have hrow:∀ l∈mr,∃ a:Int,nR a l=0:=by
  intro l hl;obtain⟨k,hk⟩:=List.getElem?_of_mem hl;obtain⟨a,ha⟩:=getSome (l:=g.infos.map Inf.actions) (k:=k) (by have:=lt_of_get hk; omega);exact⟨a,hrows k a l ha hk⟩
 obtain⟨m,rfl⟩:=agx (mr:=mr) (fun l hl=>by
  obtain⟨a,ha⟩:=hrow l hl;obtain⟨xs,hx,_⟩:=uV (wS ha).2.1;exact⟨xs,hx⟩)
 obtain⟨hne,_⟩:=iY hf;refine⟨m,rfl,⟨kX hf,hne,nT hf,by simpa using hlen,fun n hn hk=>?_⟩,fun l hl=>?_⟩
 ·rcases kinds hne hn with k1 | k1 | k1
  ·obtain⟨c1,c2,c3,c4⟩:=acP hne hn k1;have hs:=afH c4;unfold agk;rw[if_neg byOmega,List.length_map];refine⟨c1,fun x hx=>?_⟩;obtain⟨y,hy,rfl⟩:=List.mem_map.1 hx;exact agz (c4 y hy) byOmega
  ·obtain⟨inf,hi,ha,_⟩:=mg hf hn k1;obtain⟨l,hl⟩:=getSome (l:=m) (k:=n.info.toNat) (by have:=lt_of_get hi; simp at hlen; omega);have hr:=hrows n.info.toNat inf.actions (l.map aG) (by rw[List.getElem?_map,hi]; rfl) (by rw[List.getElem?_map,hl]; rfl);have hll:=(wS hr).1;rw[List.length_map] at hll;unfold agk;rw[if_pos k1,List.getD_eq_getElem?_getD,hl,Option.getD_some];refine⟨byOmega,fun x hx=>?_⟩;have:=hL (l.map aG) (List.mem_map_of_mem (List.mem_of_getElem? hl)) (aG x) (List.mem_map_of_mem hx);exact Nat.max_le.2 this
  ·exact absurd k1 hk
 ·obtain⟨a,ha⟩:=hrow (l.map aG) (List.mem_map_of_mem hl);obtain⟨_,h2,h3⟩:=wS ha;rw[aam] at h3;refine⟨(qm _ _).1 h3,fun x hx=>?_⟩;have h4:=xO h2 (fG (aG x)) (List.mem_map_of_mem (List.mem_map_of_mem hx));obtain⟨y,hy,_,hn⟩:=xP h4;rw[abD hy];exact hn
end Go.Proofs.YtnmeejofpkhlkaaGreatDoor
