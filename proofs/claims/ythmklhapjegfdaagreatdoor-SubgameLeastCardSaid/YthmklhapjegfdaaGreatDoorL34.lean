/- plan.Check; parlourref16.shape. -/
import Derived.Test.YthmklhapjegfdaaGreatDoorL31
import Derived.Test.YthmklhapjegfdaaGreatDoorL33
set_option linter.all false
set_option maxRecDepth 100000
set_option maxHeartbeats 12800000
namespace Go.Proofs.YthmklhapjegfdaaGreatDoor
open Lib renaming hid → Aa
open Go.RowKit
def fF (g:Gm) (m:List (List Raw)):Int:=if bg g≠0 then bg g else oU (g.infos.map Inf.actions) m
theorem Af.below {w w':World} {F:Ac} {v:Value} {l:List (List Raw)} (h:Af w F v l) (hb:Below w.heap.size w w'):Af w' F v l:=h.on (Below.same' hb F)
theorem ug (w:World) (F:Ac) (vg vm:Value) (g:Gm) (m:List (List Raw)) (hg:Az w F vg g) (hsm:Small g) (hm:Af w F vm m) (hT:Bq w) (hlm:m.length≤100000) (hb:BJ m) :
  Calls Tryz.prog 28 #[vg,vm] w (Ret w fun v _=>v = .int .i64 (fF g m)):=by
 have HG:=Aa hg; have HM:=Aa hm; have HS:=Aa hsm; have HT:=Aa hT;have hli:=hsm.infos;have hact:bg g=0→∀ i∈g.infos,i.actions≤10:=aaC;obtain⟨vn,vi,rfl,⟨A,c,rfl,hc,_⟩,⟨Ai,ci,rfl,hci,_⟩⟩:=hg;clear hm hsm hT;go_enter Tryz.func28,Tryz.ntmps28;go_wp2_with fail
 obtain⟨W,hW,rx,hB,hz⟩:=aJ w 25 #[.int .i64 g.aj,.slice A g.nodes.length c,.slice Ai g.infos.length ci];rw[← hW];clear hW hz;replace HG:=Aa (HG.out.on (Below.same' hB F)); replace HM:=Aa (HM.out.below hB); replace HT:=Aa (HT.out.on hB);have x0:=rx.cell (i:=0) rfl; have x1:=rx.cell (i:=1) rfl; have x2:=rx.cell (i:=2) rfl;clear rx;go_wp2_with fail
 refine(abM W F _ g HG.out HS.out).mono ?_;rintro e w1 ⟨_,rfl,hb1,rfl⟩;rw[afU];replace HG:=Aa (HG.out.on (Below.same' hb1 F)); replace HM:=Aa (HM.out.below hb1); replace HT:=Aa (HT.out.on hb1);replace x0:=ah x0 hb1; replace x1:=ah x1 hb1; replace x2:=ah x2 hb1;have hB1:=hB.trans (hb1.mono hB.size);clear hb1;have HE:=Aa (show fF g m=if bg g≠0 then bg g else oU (g.infos.map Inf.actions) m from rfl);generalize bg g=fe at *;by_cases h0:fe=0
 ·have t1:(fe != 0)=false:=by rw[h0]; rfl
  have HF:=Aa (HE.out.trans (if_neg (by simpa using h0)));have ha:=hact h0;clear h0 hact;dsimp only;go_wp2_with fail
  refine(aeX w1 F _ _ g m HG.out HM.out HT.out hlm (by omega) hb ha).mono ?_;rintro e w2 ⟨_,rfl,hb2,rfl⟩;have hB2:=hB1.trans (hb2.mono hB1.size);rw[← HF.out];dsimp only;go_wp2
  go_ret;exact⟨_,rfl,hB2,rfl⟩
 ·have t1:(fe != 0)=true:=by simp[h0]
  have HF:=Aa (HE.out.trans (if_pos h0));clear h0 hact;dsimp only;go_wp2
  go_ret;exact⟨_,rfl,hB1,by rw[HF.out]; rfl⟩
theorem afV:∀ {mr:List (List Raw)},(∀ l∈mr,∃ xs:List Rat,l=xs.map aK)→∃ m:List (List Rat),mr=m.map (List.map aK)
 | [],_=>⟨[],rfl⟩
 | l :: mr,h=>by
  obtain⟨xs,hx⟩:=h l (List.mem_cons_self);obtain⟨m,hm⟩:=afV (mr:=mr) (fun l hl=>h l (List.mem_cons_of_mem _ hl));exact⟨xs :: m,by rw[hx,hm]; rfl⟩
theorem yE {g:Gm} {mr:List (List Raw)} (h:fF g mr=0):bg g=0:=by
 unfold fF at h;by_cases h1:bg g=0
 ·exact h1
 ·rw[if_pos h1] at h; exact h
theorem yF {g:Gm} {mr:List (List Raw)} (h:fF g mr=0):oU (g.infos.map Inf.actions) mr=0:=by
 have h1:=yE h;unfold fF at h;rwa [if_neg (by simpa using h1)] at h
theorem acI {a:Int} {l:List Raw} (h:mg a l=0):(l.length:Int)=a∧lH l=0∧lZ (qP (l.map adb)) 1=0:=by
 unfold mg at h;split at h
 ·omega
 rename_i h1
 split at h
 ·omega
 rename_i h2
 split at h
 ·omega
 rename_i h3
 exact⟨by omega,by omega,by omega⟩
theorem aaE {acts:List Int} {mr:List (List Raw)} (h:oU acts mr=0):mr.length=acts.length∧∀ (k:Nat) (a:Int) (l:List Raw),acts[k]? = some a→mr[k]? = some l→mg a l=0:=by
 unfold oU at h;split at h
 ·omega
 rename_i h1
 exact⟨by omega,fun k a l ha hl=>wM h _ (List.mem_of_getElem? (acE ha hl))⟩
theorem acJ {g:Gm} (h:bg g=0):1≤g.aj∧g.aj≤4:=by
 unfold bg at h;split at h
 ·omega
 ·rename_i h1
  unfold jR at h1; omega
theorem afW:∀ (l:List Int) (a:Int) (k:Nat),(∀ x∈l,1≤x∧x≤1000)→a+l.length≤l.foldl (· + ·) a∧l.foldl (· + ·) a≤a+1000*l.length
 | [],a,k,_=>by simp
 | x :: l,a,k,h=>by
  have h1:=h x (List.mem_cons_self);have h2:=afW l (a+x) k (fun y hy=>h y (List.mem_cons_of_mem _ hy));rw[List.foldl_cons,List.length_cons];omega
theorem ae8 {l:List Int} (h:∀ x∈l,1≤x∧x≤1000):(l.length:Int)≤aiW l∧aiW l≤1000*l.length:=by
 have:=afW l 0 0 h;unfold aiW; omega
theorem acK {aj:Int} {ni:Nat} {nodes:List Nd} (h:bV aj ni nodes=0) {n:Nd} (hn:n∈nodes) (hk:n.kind=1):n.weights.length=n.next.length∧1≤n.next.length∧n.next.length≤60∧∀ x∈n.weights,1≤x∧x≤1000:=by
 have h1:=iC h n hn;unfold dK at h1;rw[if_pos hk] at h1;unfold dw at h1;split at h1
 ·omega
 ·rename_i h2
  split at h1
  ·omega
  ·rename_i h3
   refine⟨by omega,by omega,by omega,fun x hx=>?_⟩;have h4:outside 1 1000 n.weights=false:=by simpa using h3
   unfold outside at h4;have:=List.any_eq_false.1 h4 x hx;simp at this;omega
theorem ae9 {aj:Int} {ni:Nat} {nodes:List Nd} (h:bV aj ni nodes=0) {n:Nd} (hn:n∈nodes) (hk:n.kind=2):1≤n.next.length∧n.next.length≤10∧0≤n.ak∧n.ak < aj∧0≤n.info∧n.info < (ni:Int):=by
 have h1:=iC h n hn;unfold dK at h1;rw[if_neg (by omega),if_pos hk] at h1;unfold fM at h1;split at h1
 ·omega
 ·rename_i h2
  split at h1
  ·omega
  ·exact⟨by omega,by omega,by omega,by omega,by omega,by omega⟩
theorem kinds {aj:Int} {ni:Nat} {nodes:List Nd} (h:bV aj ni nodes=0) {n:Nd} (hn:n∈nodes):n.kind=1∨n.kind=2∨n.kind=3:=by
 have h1:=iC h n hn;unfold dK at h1;split at h1
 ·exact .inl ‹_›
 ·split at h1
  ·exact .inr (.inl ‹_›)
  ·split at h1
   ·exact .inr (.inr ‹_›)
   ·omega
theorem afa {g:Gm} (h:bg g=0) {n:Nd} (hn:n∈g.nodes) (hk:n.kind=2):∃ inf,g.infos[n.info.toNat]? = some inf∧inf.actions=n.next.length∧inf.ak=n.ak:=by
 obtain⟨h2,h5⟩:=oL h;have h6:=ae9 h2 hn hk;unfold oH at h5;split at h5
 ·omega
 rename_i ht
 obtain⟨inf,hi⟩:=au (l:=g.infos) (k:=n.info.toNat) (by omega);have e2:fA g.infos n=false:=by
  cases hb:fA g.infos n with
  | false=>rfl
  | true=>exact absurd (List.any_eq_true.2 ⟨n,hn,hb⟩) ht
 unfold fA at e2;rw[decide_eq_true hk,Bool.true_and,Bool.or_eq_false_iff,List.getD_eq_getElem?_getD,hi] at e2;have e3:=of_decide_eq_false e2.1;have e4:=of_decide_eq_false e2.2;simp only[Option.getD_some] at e3 e4;exact⟨inf,hi,by omega,by omega⟩
theorem ai3 {a b:Int} (ha:1≤a∧a≤1000) (hb:1≤b∧b≤60000):rl ((a:Rat) / (b:Rat))≤4:=by
 have h1:rl (a:Rat)≤1:=by
  rw[aep];have:(dig a.natAbs).length≤1:=dH (by unfold LB; omega);omega
 have h2:rl (b:Rat)≤1:=by
  rw[aep];have:(dig b.natAbs).length≤1:=dH (by unfold LB; omega);omega
 have hb0:(b:Rat)≠0:=fun e=>by
  have:b=0:=Rat.intCast_inj.1 e;omega
 rw[Rat.div_def];have h3:=ahi (a:Rat) (b:Rat)⁻¹;rw[ajC hb0] at h3;omega
def CB (mr:List (List Raw)):Prop:=∀ l∈mr,∀ r∈l,r.num.length≤4∧r.den.length≤4
theorem afb {g:Gm} {mr:List (List Raw)} (h:fF g mr=0) (hL:CB mr):∃ m:List (List Rat),mr=m.map (List.map aK)∧Fit g m∧∀ l∈m,qP l=1∧∀ x∈l,dY x=false:=by
 have hf:=yE h;obtain⟨hlen,hrows⟩:=aaE (yF h);have hrow:∀ l∈mr,∃ a:Int,mg a l=0:=by
  intro l hl;obtain⟨k,hk⟩:=List.getElem?_of_mem hl;obtain⟨a,ha⟩:=au (l:=g.infos.map Inf.actions) (k:=k) (by have:=aB hk; omega);exact⟨a,hrows k a l ha hk⟩
 obtain⟨m,rfl⟩:=afV (mr:=mr) (fun l hl=>by
  obtain⟨a,ha⟩:=hrow l hl;obtain⟨xs,hx,_⟩:=uz (acI ha).2.1;exact⟨xs,hx⟩)
 obtain⟨hne,_⟩:=oL hf;refine⟨m,rfl,⟨dZ hf,hne,acJ hf,by simpa using hlen,fun n hn hk=>?_⟩,fun l hl=>?_⟩
 ·rcases kinds hne hn with k1 | k1 | k1
  ·obtain⟨c1,c2,c3,c4⟩:=acK hne hn k1;have hs:=ae8 c4;unfold oZ;rw[if_neg (by omega),List.length_map];refine⟨c1,fun x hx=>?_⟩;obtain⟨y,hy,rfl⟩:=List.mem_map.1 hx;exact ai3 (c4 y hy) (by omega)
  ·obtain⟨inf,hi,ha,_⟩:=afa hf hn k1;obtain⟨l,hl⟩:=au (l:=m) (k:=n.info.toNat) (by have:=aB hi; simp at hlen; omega);have hr:=hrows n.info.toNat inf.actions (l.map aK) (by rw[List.getElem?_map,hi]; rfl) (by rw[List.getElem?_map,hl]; rfl);have hll:=(acI hr).1;rw[List.length_map] at hll;unfold oZ;rw[if_pos k1,List.getD_eq_getElem?_getD,hl,Option.getD_some];refine⟨by omega,fun x hx=>?_⟩;have:=hL (l.map aK) (List.mem_map_of_mem (List.mem_of_getElem? hl)) (aK x) (List.mem_map_of_mem hx);exact Nat.max_le.2 this
  ·exact absurd k1 hk
 ·obtain⟨a,ha⟩:=hrow (l.map aK) (List.mem_map_of_mem hl);obtain⟨_,h2,h3⟩:=acI ha;rw[zT] at h3;refine⟨(tu _ _).1 h3,fun x hx=>?_⟩;have h4:=wM h2 (iw (aK x)) (List.mem_map_of_mem (List.mem_map_of_mem hx));obtain⟨y,hy,_,hn⟩:=abC h4;rw[abx hy]; exact hn
def BL (F:Ac) (e:Int) (l:List (List Raw)) (v:Value) (w':World):Prop:=∃ vx,v = .tuple #[vx,.int .i64 e]∧Af w' F vx l
def qN (g:Gm) (roots:List Int) (m o:List (List Raw)):Int :=
 if aZ g roots≠0 then aZ g roots else if jF (insL g.nodes.length (aF g.nodes).2 roots) (aN g)=false then 13 else if fF g m≠0 then fF g m else fF g o
def ahX (inn:List Bool) (l:List Int):Bool:=jh inn (l.getD 0 0)
def sS {α:Type} (inn:List Bool) (sets:List (List Int)) (m o:List (List α)) (i:Nat):List α:=(if ahX inn (sets.getD i []) then o else m).getD i []
def ahY {α:Type} (inn:List Bool) (sets:List (List Int)) (m o:List (List α)) (k:Nat):List (List α):=(List.range k).map (sS inn sets m o)
def sU (g:Gm) (roots:List Int) (m o:List (List Raw)):List (List Raw) :=
 if qN g roots m o=0 then ahY (insL g.nodes.length (aF g.nodes).2 roots) (aN g) m o m.length else []
theorem agN {g:Gm} (h:bg g=0):∀ l∈aN g,l≠[]:=by
 obtain⟨_,h2⟩:=oL h;unfold oH at h2;intro l hl e;subst e;have:mF (aN g)=true:=by unfold mF; exact List.any_eq_true.2 ⟨_,hl,rfl⟩
 rw[this] at h2;split at h2
 ·omega
 ·simp at h2
theorem abO {g:Gm} {m:List (List Raw)} (h:fF g m=0):m.length=(aN g).length:=by
 have:=(aaE (yF h)).1;rw[List.length_map] at this;rw[this]; exact(bF _ _ _).symm
structure IntsIn (w:World) (F:Ac) (v:Value) (l:List Int) (N:Nat):Prop where
 at_:Ae w F v l
 len:l.length=N
structure Layout (g:Gm) (up place:List Int):Prop where
 ahZ:up.length=g.nodes.length
 ah0:place.length=g.nodes.length
 root:up[0]? = some (-1)
 kid:∀ i k c,Kid g.nodes i k c→up[c]? = some (i:Int)∧place[c]? = some (k:Int)
structure Counts (w:World) (F:Ac) (fid:FuncId) (caps:Array Value) (nodes:List Nd) (cnt:Nd→Bool):Prop where
 enters:∀ (args:Array Value) (w':World),(callFunc fid args).run Tryz.prog w' = .ok (.enter fid args) w'
 calls:∀ (W:World) (n:Nd) (v:Value),n∈nodes→Bf W F v n→Below w.heap.size w W→Calls Tryz.prog fid (#[v]++caps) W (Ret W fun u _=>u = .bool (cnt n))
theorem Bf.cells {w:World} {F:Ac} {v:Value} {n:Nd} (h:Bf w F v n):∃ A3 c3 A4 c4 A5 c5,v = .agg #[.int .i64 n.kind,.int .i64 n.ak,.int .i64 n.info,.slice A3 n.next.length c3,.slice A4 n.weights.length c4,.slice A5 n.pay.length c5]:=by
 obtain⟨v3,v4,v5,rfl,⟨A3,c3,rfl,_⟩,⟨A4,c4,rfl,_⟩,⟨A5,c5,rfl,_⟩⟩:=h;exact⟨A3,c3,A4,c4,A5,c5,rfl⟩
structure Laid (g:Gm) (U P:List Int) (i k:Nat):Prop where
 ahZ:U.length=g.nodes.length
 ah0:P.length=g.nodes.length
 root:U[0]? = some (-1)
 kid:∀ i' k' c,Kid g.nodes i' k' c→(i' < i∨(i'=i∧k' < k))→U[c]? = some (i':Int)∧P[c]? = some (k':Int)
theorem Laid.start {g:Gm} (h0:0 < g.nodes.length):Laid g ((List.replicate g.nodes.length 0).set 0 (-1)) (List.replicate g.nodes.length 0) 0 0 :=
 ⟨by simp,by simp,by simp[h0],fun i' k' c _ h=>by omega⟩
theorem Laid.step {g:Gm} (hg:Good g) {U P:List Int} {i k c:Nat} (h:Laid g U P i k) (hk:Kid g.nodes i k c):Laid g (U.set c (i:Int)) (P.set c (k:Int)) i (k+1):=by
 have hl:=hg.acA hk;refine⟨by rw[List.length_set]; exact h.ahZ,by rw[List.length_set]; exact h.ah0,by rw[List.getElem?_set_ne (by omega)]; exact h.root,fun i' k' c' hk' hlt=>?_⟩;by_cases e:c'=c
 ·subst e;obtain⟨rfl,rfl⟩:=hg.aiV hk' hk;rw[List.getElem?_set_self (by rw[h.ahZ]; omega),List.getElem?_set_self (by rw[h.ah0]; omega)];exact⟨rfl,rfl⟩
 ·rw[List.getElem?_set_ne (fun h=>e h.symm),List.getElem?_set_ne (fun h=>e h.symm)];refine h.kid i' k' c' hk' ?_;rcases hlt with h1 | ⟨h1,h2⟩
  ·exact .inl h1
  ·by_cases e2:k'=k
   ·subst e2; subst h1;obtain⟨n,hn,hc⟩:=hk;obtain⟨n',hn',hc'⟩:=hk';rw[hn] at hn'; cases hn';rw[hc] at hc'; injection hc' with e3
    exact absurd (Int.ofNat_inj.1 e3).symm e
   ·exact .inr ⟨h1,by omega⟩
theorem Laid.next {g:Gm} {U P:List Int} {i k:Nat} {n:Nd} (h:Laid g U P i k) (hn:g.nodes[i]? = some n) (hk:n.next.length≤k):Laid g U P (i+1) 0 :=
 ⟨h.ahZ,h.ah0,h.root,fun i' k' c hk' hlt=>h.kid i' k' c hk' (by
  rcases hlt with h1 | ⟨_,h2⟩
  ·by_cases e:i'=i
   ·subst e;obtain⟨n',hn',hc⟩:=hk';rw[hn] at hn'; cases hn';have:=aB hc;exact .inr ⟨rfl,by omega⟩
   ·exact .inl (by omega)
  ·omega)⟩
theorem Laid.done {g:Gm} {U P:List Int} {i k:Nat} (h:Laid g U P i k) (hi:g.nodes.length≤i):Layout g U P :=
 ⟨h.ahZ,h.ah0,h.root,fun i' k' c hk'=>h.kid i' k' c hk' (.inl (by
  obtain⟨n,hn,_⟩:=hk';have:=aB hn;omega))⟩
structure VAp (B bp bu bl:Nat):Prop where
 p:B < bp
 u:B < bu
 l:B < bl
 pu:bp≠bu
 pl:bp≠bl
 ul:bu≠bl
section
variable {w:World} {g:Gm} {A:Option Addr} {c:Nat} {Ai:Option Addr} {ci:Nat} {vm:Value} {bp bu bl:Nat} {U P:List Int} {wr wr':World}
end
end Go.Proofs.YthmklhapjegfdaaGreatDoor
