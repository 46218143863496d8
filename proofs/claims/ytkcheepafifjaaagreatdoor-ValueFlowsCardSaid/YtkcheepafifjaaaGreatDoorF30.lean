/- plan.Check; parlourref16.shape. -/
import Derived.Test.YtkcheepafifjaaaGreatDoorF27
import Derived.Test.YtkcheepafifjaaaGreatDoorF29
set_option linter.all false
set_option maxRecDepth 100000
set_option maxHeartbeats 12800000
namespace Go.Proofs.YtkcheepafifjaaaGreatDoor
open Lib renaming hid → Ac
open Go.RowKit
def jl (g:Gm) (m:List (List Raw)):Int:=if jG g≠0 then jG g else qy (g.infos.map Inf.actions) m
theorem Az.below {w w':World} {F:Ag} {v:Value} {l:List (List Raw)} (h:Az w F v l) (hb:Below w.heap.size w w'):Az w' F v l:=h.on (Below.same' hb F)
theorem aa5 (w:World) (F:Ag) (vg vm:Value) (g:Gm) (m:List (List Raw)) (hg:AX w F vg g) (hsm:Small g) (hm:Az w F vm m) (hT:AZ w) (hlm:m.length≤100000) (hb:Bd m) :
  Calls Tryz.prog 84 #[vg,vm] w (Ret w fun v _=>v = .int .i64 (jl g m)):=by
 have HG:=Ac hg; have HM:=Ac hm; have HS:=Ac hsm; have HT:=Ac hT;have hli:=hsm.infos;have hact:jG g=0→∀ i∈g.infos,i.actions≤10:=aaw;obtain⟨vn,vi,rfl,⟨A,c,rfl,hc,_⟩,⟨Ai,ci,rfl,hci,_⟩⟩:=hg;clear hm hsm hT;go_enter Tryz.func84,Tryz.ntmps84;go_wp2_with fail
 obtain⟨W,hW,rx,hB,hz⟩:=aH w 25 #[.int .i64 g.au,.slice A g.nodes.length c,.slice Ai g.infos.length ci];rw[← hW];clear hW hz;replace HG:=Ac (HG.out.on (Below.same' hB F)); replace HM:=Ac (HM.out.below hB); replace HT:=Ac (HT.out.on hB);have x0:=rx.cell (i:=0) rfl; have x1:=rx.cell (i:=1) rfl; have x2:=rx.cell (i:=2) rfl;clear rx;go_wp2_with fail
 refine(agB W F _ g HG.out HS.out).mono ?_;rintro e w1 ⟨_,rfl,hb1,rfl⟩;rw[aiR];replace HG:=Ac (HG.out.on (Below.same' hb1 F)); replace HM:=Ac (HM.out.below hb1); replace HT:=Ac (HT.out.on hb1);replace x0:=ah x0 hb1; replace x1:=ah x1 hb1; replace x2:=ah x2 hb1;have hB1:=hB.trans (hb1.mono hB.size);clear hb1;have HE:=Ac (show jl g m=if jG g≠0 then jG g else qy (g.infos.map Inf.actions) m from rfl);generalize jG g=fe at *;by_cases h0:fe=0
 ·have t1:(fe != 0)=false:=by rw[h0]; rfl
  have HF:=Ac (HE.out.trans (if_neg (by simpa using h0)));have ha:=hact h0;clear h0 hact;dsimp only;go_wp2_with fail
  refine(aeU w1 F _ _ g m HG.out HM.out HT.out hlm (by omega) hb ha).mono ?_;rintro e w2 ⟨_,rfl,hb2,rfl⟩;have hB2:=hB1.trans (hb2.mono hB1.size);rw[← HF.out];dsimp only;go_wp2
  go_ret;exact⟨_,rfl,hB2,rfl⟩
 ·have t1:(fe != 0)=true:=by simp[h0]
  have HF:=Ac (HE.out.trans (if_pos h0));clear h0 hact;dsimp only;go_wp2
  go_ret;exact⟨_,rfl,hB1,by rw[HF.out]; rfl⟩
structure IntsIn (w:World) (F:Ag) (v:Value) (l:List Int) (N:Nat):Prop where
 at_:AA w F v l
 len:l.length=N
structure Layout (g:Gm) (up place:List Int):Prop where
 acs:up.length=g.nodes.length
 acu:place.length=g.nodes.length
 root:up[0]? = some (-1)
 kid:∀ i k c,Kid g.nodes i k c→up[c]? = some (i:Int)∧place[c]? = some (k:Int)
structure BD (w:World) (F:Ag) (bp:Nat) (g:Gm) (m:List (List Rat)) (up place:List Int) (vn vi vu vp vm:Value):Prop where
 inF:F bp
 row:Row w bp 133 [.int .i64 g.au,vn,vi,vu,vp,vm]
 nodes:Bj w F vn g.nodes
 infos:Bv w F vi g.infos
 ups:AA w F vu up
 places:AA w F vp place
 mixed:AV w F vm m
theorem BD.on {w w':World} {F:Ag} {bp:Nat} {g:Gm} {m:List (List Rat)} {up place:List Int} {vn vi vu vp vm:Value} (h:BD w F bp g m up place vn vi vu vp vm) (hs:Same F w w'):BD w' F bp g m up place vn vi vu vp vm :=
 ⟨h.inF,h.row.of_block (hs.block bp h.inF h.row.lt),h.nodes.on hs,h.infos.on hs,h.ups.on hs,h.places.on hs,h.mixed.on hs⟩
theorem BD.below {w w':World} {F:Ag} {bp:Nat} {g:Gm} {m:List (List Rat)} {up place:List Int} {vn vi vu vp vm:Value} (h:BD w F bp g m up place vn vi vu vp vm) (hb:Below w.heap.size w w'):BD w' F bp g m up place vn vi vu vp vm:=h.on (Below.same' hb F)
theorem BD.old {w:World} {F:Ag} {bp:Nat} {g:Gm} {m:List (List Rat)} {up place:List Int} {vn vi vu vp vm:Value} (h:BD w F bp g m up place vn vi vu vp vm):BD w (Old F w.heap.size) bp g m up place vn vi vu vp vm :=
 ⟨⟨h.inF,h.row.lt⟩,h.row,h.nodes.keep (fun _ hb hl=>⟨hb,hl⟩) (Same.refl _ _),h.infos.keep (fun _ hb hl=>⟨hb,hl⟩) (Same.refl _ _),h.ups.keep (fun _ hb hl=>⟨hb,hl⟩) (Same.refl _ _),h.places.keep (fun _ hb hl=>⟨hb,hl⟩) (Same.refl _ _),Az.keep h.mixed (fun _ hb hl=>⟨hb,hl⟩) (Same.refl _ _)⟩
structure Counts (w:World) (F:Ag) (fid:FuncId) (caps:Array Value) (nodes:List Nd) (cnt:Nd→Bool):Prop where
 enters:∀ (args:Array Value) (w':World),(callFunc fid args).run Tryz.prog w' = .ok (.enter fid args) w'
 calls:∀ (W:World) (n:Nd) (v:Value),n∈nodes→Bf W F v n→Below w.heap.size w W→Calls Tryz.prog fid (#[v]++caps) W (Ret W fun u _=>u = .bool (cnt n))
def aX (n:Nd):Bool:=n.kind != 3
def ownB (p:Int) (n:Nd):Bool:=n.kind==2&&n.aA==p
def fD (p:Int) (n:Nd):Bool:=n.kind != 3&&(n.kind != 2||n.aA != p)
theorem Bf.cells {w:World} {F:Ag} {v:Value} {n:Nd} (h:Bf w F v n):∃ A3 c3 A4 c4 A5 c5,v = .agg #[.int .i64 n.kind,.int .i64 n.aA,.int .i64 n.info,.slice A3 n.next.length c3,.slice A4 n.weights.length c4,.slice A5 n.pay.length c5]:=by
 obtain⟨v3,v4,v5,rfl,⟨A3,c3,rfl,_⟩,⟨A4,c4,rfl,_⟩,⟨A5,c5,rfl,_⟩⟩:=h;exact⟨A3,c3,A4,c4,A5,c5,rfl⟩
theorem qG (w:World) (F:Ag) (v:Value) (n:Nd) (hv:Bf w F v n):Calls Tryz.prog 49 #[v] w (Ret w fun u _=>u = .bool (aX n)):=by
 obtain⟨A3,c3,A4,c4,A5,c5,rfl⟩:=hv.cells;clear hv;obtain⟨b,hb⟩:∃ b,b=aX n:=⟨_,rfl⟩;rw[← hb];have HB:=Ac hb;unfold aX at hb;cases b
 all_goals
  have t1:=hb.symm;clear hb;go_enter Tryz.func49,Tryz.ntmps49;go_wp2
  go_ret;exact⟨_,rfl,(Below.refl _ _).alloc (Nat.le_refl _) _,rfl⟩
theorem aiT (w:World) (F:Ag) (v:Value) (n:Nd) (pb:Nat) (p:Int) (hp:w.cell? ⟨pb,0,none⟩=some (.int .i64 p)) (hv:Bf w F v n):Calls Tryz.prog 53 #[v,.pointer (some ⟨pb,0,none⟩)] w (Ret w fun u _=>u = .bool (ownB p n)):=by
 obtain⟨A3,c3,A4,c4,A5,c5,rfl⟩:=hv.cells;clear hv;have hpl:=World.block_lt_of_cell? w _ hp;simp only at hpl;have HB:=Ac (show ownB p n=(n.kind==2&&n.aA==p) from rfl);by_cases hk:n.kind=2
 ·have t1:(n.kind==2)=true:=by simp[hk]
  by_cases hq:n.aA=p
  ·have t2:(n.aA==p)=true:=by simp[hq]
   have HF:=Ac (show ownB p n=true by rw[HB.out,t1,t2]; rfl);clear hk hq;go_enter Tryz.func53,Tryz.ntmps53;go_wp2
   go_ret;exact⟨_,rfl,(Below.refl _ _).alloc (Nat.le_refl _) _,by rw[HF.out]; rfl⟩
  ·have t2:(n.aA==p)=false:=by simpa using hq
   have HF:=Ac (show ownB p n=false by rw[HB.out,t1,t2]; rfl);clear hk hq;go_enter Tryz.func53,Tryz.ntmps53;go_wp2
   go_ret;exact⟨_,rfl,(Below.refl _ _).alloc (Nat.le_refl _) _,by rw[HF.out]; rfl⟩
 ·have t1:(n.kind==2)=false:=by simpa using hk
  have HF:=Ac (show ownB p n=false by rw[HB.out,t1]; rfl);clear hk;go_enter Tryz.func53,Tryz.ntmps53;go_wp2
  go_ret;exact⟨_,rfl,(Below.refl _ _).alloc (Nat.le_refl _) _,by rw[HF.out]; rfl⟩
theorem ae0 (w:World) (F:Ag) (v:Value) (n:Nd) (pb:Nat) (p:Int) (hp:w.cell? ⟨pb,0,none⟩=some (.int .i64 p)) (hv:Bf w F v n):Calls Tryz.prog 55 #[v,.pointer (some ⟨pb,0,none⟩)] w (Ret w fun u _=>u = .bool (fD p n)):=by
 have HV:=Ac hv;obtain⟨A3,c3,A4,c4,A5,c5,rfl⟩:=hv.cells;clear hv;have HB:=Ac (show fD p n=(aX n&&(n.kind != 2||n.aA != p)) from rfl);go_enter Tryz.func55,Tryz.ntmps55;go_wp2_with fail
 obtain⟨W,hW,rx,hB,hz⟩:=aH w 67 #[.int .i64 n.kind,.int .i64 n.aA,.int .i64 n.info,.slice A3 n.next.length c3,.slice A4 n.weights.length c4,.slice A5 n.pay.length c5];rw[← hW];clear hW hz;replace HV:=Ac (HV.out.on (Below.same' hB F));replace hp:=ah hp hB;have x0:=rx.cell (i:=0) rfl;have x1:=rx.cell (i:=1) rfl;have x2:=rx.cell (i:=2) rfl;have x3:=rx.cell (i:=3) rfl;have x4:=rx.cell (i:=4) rfl;have x5:=rx.cell (i:=5) rfl;clear rx;go_wp2_with fail
 refine(qG W F _ n HV.out).mono ?_;rintro e wn ⟨u,rfl,hb,rfl⟩;replace x0:=ah x0 hb;replace x1:=ah x1 hb;replace x2:=ah x2 hb;replace x3:=ah x3 hb;replace x4:=ah x4 hb;replace x5:=ah x5 hb;replace hp:=ah hp hb;replace hB:=hB.trans (hb.mono hB.size);clear hb;cases hi:aX n
 ·have HF:=Ac (show fD p n=false by rw[HB.out,hi]; rfl);clear hi;dsimp only;go_wp2
  go_ret;exact⟨_,rfl,hB,by rw[HF.out]; rfl⟩
 ·by_cases hk:n.kind=2
  ·have t1:(n.kind != 2)=false:=by simp[hk]
   by_cases hq:n.aA=p
   ·have t2:(n.aA != p)=false:=by simp[hq]
    have HF:=Ac (show fD p n=false by rw[HB.out,hi,t1,t2]; rfl);clear hk hq hi;dsimp only;go_wp2
    go_ret;exact⟨_,rfl,hB,by rw[HF.out]; rfl⟩
   ·have t2:(n.aA != p)=true:=by simpa using hq
    have HF:=Ac (show fD p n=true by rw[HB.out,hi,t1,t2]; rfl);clear hk hq hi;dsimp only;go_wp2
    go_ret;exact⟨_,rfl,hB,by rw[HF.out]; rfl⟩
  ·have t1:(n.kind != 2)=true:=by simpa using hk
   have HF:=Ac (show fD p n=true by rw[HB.out,hi,t1]; rfl);clear hk hi;dsimp only;go_wp2
   go_ret;exact⟨_,rfl,hB,by rw[HF.out]; rfl⟩
theorem afL:∀ {mr:List (List Raw)},(∀ l∈mr,∃ xs:List Rat,l=xs.map ay)→∃ m:List (List Rat),mr=m.map (List.map ay)
 | [],_=>⟨[],rfl⟩
 | l :: mr,h=>by
  obtain⟨xs,hx⟩:=h l (List.mem_cons_self);obtain⟨m,hm⟩:=afL (mr:=mr) (fun l hl=>h l (List.mem_cons_of_mem _ hl));exact⟨xs :: m,by rw[hx,hm]; rfl⟩
theorem pR {g:Gm} {mr:List (List Raw)} (h:jl g mr=0):jG g=0:=by
 unfold jl at h;by_cases h1:jG g=0
 ·exact h1
 ·rw[if_pos h1] at h; exact h
theorem adO {g:Gm} {mr:List (List Raw)} (h:jl g mr=0):qy (g.infos.map Inf.actions) mr=0:=by
 have h1:=pR h;unfold jl at h;rwa [if_neg (by simpa using h1)] at h
theorem acv {a:Int} {l:List Raw} (h:nV a l=0):(l.length:Int)=a∧mX l=0∧nJ (jY (l.map adf)) 1=0:=by
 unfold nV at h;split at h
 ·omega
 rename_i h1
 split at h
 ·omega
 rename_i h2
 split at h
 ·omega
 rename_i h3
 exact⟨by omega,by omega,by omega⟩
theorem ae1 {acts:List Int} {mr:List (List Raw)} (h:qy acts mr=0):mr.length=acts.length∧∀ (k:Nat) (a:Int) (l:List Raw),acts[k]? = some a→mr[k]? = some l→nV a l=0:=by
 unfold qy at h;split at h
 ·omega
 rename_i h1
 exact⟨by omega,fun k a l ha hl=>xw h _ (List.mem_of_getElem? (acr ha hl))⟩
theorem acw {g:Gm} (h:jG g=0):1≤g.au∧g.au≤4:=by
 unfold jG at h;split at h
 ·omega
 ·rename_i h1
  unfold kQ at h1; omega
theorem afM:∀ (l:List Int) (a:Int) (k:Nat),(∀ x∈l,1≤x∧x≤1000)→a+l.length≤l.foldl (· + ·) a∧l.foldl (· + ·) a≤a+1000*l.length
 | [],a,k,_=>by simp
 | x :: l,a,k,h=>by
  have h1:=h x (List.mem_cons_self);have h2:=afM l (a+x) k (fun y hy=>h y (List.mem_cons_of_mem _ hy));rw[List.foldl_cons,List.length_cons];omega
theorem rE {l:List Int} (h:∀ x∈l,1≤x∧x≤1000):(l.length:Int)≤lK l∧lK l≤1000*l.length:=by
 have:=afM l 0 0 h;unfold lK; omega
theorem nZ {au:Int} {ni:Nat} {nodes:List Nd} (h:cZ au ni nodes=0) {n:Nd} (hn:n∈nodes) (hk:n.kind=1):n.weights.length=n.next.length∧1≤n.next.length∧n.next.length≤60∧∀ x∈n.weights,1≤x∧x≤1000:=by
 have h1:=iQ h n hn;unfold dU at h1;rw[if_pos hk] at h1;unfold dJ at h1;split at h1
 ·omega
 ·rename_i h2
  split at h1
  ·omega
  ·rename_i h3
   refine⟨by omega,by omega,by omega,fun x hx=>?_⟩;have h4:outside 1 1000 n.weights=false:=by simpa using h3
   unfold outside at h4;have:=List.any_eq_false.1 h4 x hx;simp at this;omega
theorem vH {au:Int} {ni:Nat} {nodes:List Nd} (h:cZ au ni nodes=0) {n:Nd} (hn:n∈nodes) (hk:n.kind=2):1≤n.next.length∧n.next.length≤10∧0≤n.aA∧n.aA < au∧0≤n.info∧n.info < (ni:Int):=by
 have h1:=iQ h n hn;unfold dU at h1;rw[if_neg (by omega),if_pos hk] at h1;unfold gG at h1;split at h1
 ·omega
 ·rename_i h2
  split at h1
  ·omega
  ·exact⟨by omega,by omega,by omega,by omega,by omega,by omega⟩
theorem kinds {au:Int} {ni:Nat} {nodes:List Nd} (h:cZ au ni nodes=0) {n:Nd} (hn:n∈nodes):n.kind=1∨n.kind=2∨n.kind=3:=by
 have h1:=iQ h n hn;unfold dU at h1;split at h1
 ·exact .inl ‹_›
 ·split at h1
  ·exact .inr (.inl ‹_›)
  ·split at h1
   ·exact .inr (.inr ‹_›)
   ·omega
theorem aax {g:Gm} (h:jG g=0) {n:Nd} (hn:n∈g.nodes) (hk:n.kind=2):∃ inf,g.infos[n.info.toNat]? = some inf∧inf.actions=n.next.length∧inf.aA=n.aA:=by
 obtain⟨h2,h5⟩:=pO h;have h6:=vH h2 hn hk;unfold qY at h5;split at h5
 ·omega
 rename_i ht
 obtain⟨inf,hi⟩:=aB (l:=g.infos) (k:=n.info.toNat) (by omega);have e2:fU g.infos n=false:=by
  cases hb:fU g.infos n with
  | false=>rfl
  | true=>exact absurd (List.any_eq_true.2 ⟨n,hn,hb⟩) ht
 unfold fU at e2;rw[decide_eq_true hk,Bool.true_and,Bool.or_eq_false_iff,List.getD_eq_getElem?_getD,hi] at e2;have e3:=of_decide_eq_false e2.1;have e4:=of_decide_eq_false e2.2;simp only[Option.getD_some] at e3 e4;exact⟨inf,hi,by omega,by omega⟩
theorem aiU {a b:Int} (ha:1≤a∧a≤1000) (hb:1≤b∧b≤60000):rl ((a:Rat) / (b:Rat))≤4:=by
 have h1:rl (a:Rat)≤1:=by
  rw[zI];have:(dig a.natAbs).length≤1:=aS (by unfold LB; omega);omega
 have h2:rl (b:Rat)≤1:=by
  rw[zI];have:(dig b.natAbs).length≤1:=aS (by unfold LB; omega);omega
 have hb0:(b:Rat)≠0:=fun e=>by
  have:b=0:=Rat.intCast_inj.1 e;omega
 rw[Rat.div_def];have h3:=rQ (a:Rat) (b:Rat)⁻¹;rw[ahd hb0] at h3;omega
def Dk (mr:List (List Raw)):Prop:=∀ l∈mr,∀ r∈l,r.num.length≤4∧r.den.length≤4
theorem ae2 {g:Gm} {mr:List (List Raw)} (h:jl g mr=0) (hL:Dk mr):∃ m:List (List Rat),mr=m.map (List.map ay)∧Fit g m∧∀ l∈m,jY l=1∧∀ x∈l,dI x=false:=by
 have hf:=pR h;obtain⟨hlen,hrows⟩:=ae1 (adO h);have hrow:∀ l∈mr,∃ a:Int,nV a l=0:=by
  intro l hl;obtain⟨k,hk⟩:=List.getElem?_of_mem hl;obtain⟨a,ha⟩:=aB (l:=g.infos.map Inf.actions) (k:=k) (by have:=aF hk; omega);exact⟨a,hrows k a l ha hk⟩
 obtain⟨m,rfl⟩:=afL (mr:=mr) (fun l hl=>by
  obtain⟨a,ha⟩:=hrow l hl;obtain⟨xs,hx,_⟩:=uV (acv ha).2.1;exact⟨xs,hx⟩)
 obtain⟨hne,_⟩:=pO hf;refine⟨m,rfl,⟨aci hf,hne,acw hf,by simpa using hlen,fun n hn hk=>?_⟩,fun l hl=>?_⟩
 ·rcases kinds hne hn with k1 | k1 | k1
  ·obtain⟨c1,c2,c3,c4⟩:=nZ hne hn k1;have hs:=rE c4;unfold bU;rw[if_neg (by omega),List.length_map];refine⟨c1,fun x hx=>?_⟩;obtain⟨y,hy,rfl⟩:=List.mem_map.1 hx;exact aiU (c4 y hy) (by omega)
  ·obtain⟨inf,hi,ha,_⟩:=aax hf hn k1;obtain⟨l,hl⟩:=aB (l:=m) (k:=n.info.toNat) (by have:=aF hi; simp at hlen; omega);have hr:=hrows n.info.toNat inf.actions (l.map ay) (by rw[List.getElem?_map,hi]; rfl) (by rw[List.getElem?_map,hl]; rfl);have hll:=(acv hr).1;rw[List.length_map] at hll;unfold bU;rw[if_pos k1,List.getD_eq_getElem?_getD,hl,Option.getD_some];refine⟨by omega,fun x hx=>?_⟩;have:=hL (l.map ay) (List.mem_map_of_mem (List.mem_of_getElem? hl)) (ay x) (List.mem_map_of_mem hx);exact Nat.max_le.2 this
  ·exact absurd k1 hk
 ·obtain⟨a,ha⟩:=hrow (l.map ay) (List.mem_map_of_mem hl);obtain⟨_,h2,h3⟩:=acv ha;rw[zU] at h3;refine⟨(uq _ _).1 h3,fun x hx=>?_⟩;have h4:=xw h2 (iO (ay x)) (List.mem_map_of_mem (List.mem_map_of_mem hx));obtain⟨y,hy,_,hn⟩:=abm h4;rw[abk hy]; exact hn
open List renaming getElem_toArray → lq1, getElem_cons_zero → lq2, getElem_cons_succ → lq3, setIfInBounds_toArray → lq4, set_cons_zero → lq5, set_cons_succ → lq6
theorem acy (w:World) (x tot:Int) (tb:Nat) (hx1:-1000000000000≤x) (hx2:x≤1000000000000) (ht1:-1000000000000≤tot) (ht2:tot≤1000000000000) (ht0:tot≠0) (hc:w.cell? ⟨tb,0,none⟩=some (.int .i64 tot)) :
  Calls Tryz.prog 120 #[.int .i64 x,.pointer (some ⟨tb,0,none⟩)] w (Ret w fun u w'=>NmV w' (fun b=>w.heap.size≤b) u ((x:Rat) / (tot:Rat))):=by
 obtain⟨q,hq⟩:∃ q:Rat,q=(x:Rat) / (tot:Rat):=⟨_,rfl⟩;have HC:=Ac (fun W=>agp W x tot hx1 hx2 ht1 ht2 ht0);rw[← hq] at HC ⊢;clear hq;have htl:=World.block_lt_of_cell? w _ hc;simp only at htl;go_enter Tryz.func120,Tryz.ntmps120;go_wp2_with fail
 obtain⟨W,hW,rz,hB,hz⟩:=aH w 97 #[.bool false,.slice none 0 0,.slice none 0 0];rw[← hW];clear hW;have hzz:=hB.size;replace hc:=ah hc hB;go_wp2_with fail
 refine(HC.out W).mono ?_;rintro e wn ⟨u,rfl,hb,hu⟩;have HU:=Ac (hu.mono (G:=fun b=>w.heap.size+1≤b) (fun b hb _=>by omega));obtain⟨Am,cm,Bm,dm,rfl,hn,hd⟩:=hu.open;have hB2:=hB.trans (hb.mono hzz);replace rz:=rz.below hb rz.lt;clear hu hn hd hb hc;dsimp only;have q0:=rz.cell (i:=0) rfl;have y0:=rz.frozen 0;have q1:=rz.cell (i:=1) rfl;have y1:=rz.frozen 1;have q2:=rz.cell (i:=2) rfl;have y2:=rz.frozen 2;go_wp2
 obtain⟨Wz,hWz,hrz,hwz,hkz⟩:=aV rz (.bool (ak q).neg) (.slice Am (ak q).num.length cm) (.slice Bm (ak q).den.length dm);rw[← hWz];clear hWz q0 q1 q2 y0 y1 y2;have t0:=hrz.cell (i:=0) rfl;have t1:=hrz.cell (i:=1) rfl;have t2:=hrz.cell (i:=2) rfl;refine bodyPost_ret (v:=.agg #[.bool (ak q).neg,.slice Am (ak q).num.length cm,.slice Bm (ak q).den.length dm]) (by simp[results,Tryz.results120,go_sem,t0,t1,t2]) rfl ?_;exact⟨_,rfl,hwz _ _ (Nat.le_refl _) hB2,HU.out.keep (fun b hb _=>by omega) (hkz _ (by omega))⟩
theorem ae3 {m:List (List Rat)} {n:Nd} (hk:n.kind=2):bU m n=m.getD n.info.toNat []:=by unfold bU; rw[if_pos hk]
theorem acz {m:List (List Rat)} {n:Nd} (hk:n.kind≠2):bU m n=n.weights.map fun x:Int=>(x:Rat) / ((lK n.weights:Int):Rat):=by unfold bU; rw[if_neg hk]
def CO (F:Ag) (B:Nat) (m:List (List Rat)) (n:Nd) (u:Value) (w':World):Prop:=(∃ b c,u = .slice (some ⟨b,0,none⟩) (bU m n).length c)∧Bz w' (Ext F B) u (bU m n)
theorem acA (w:World) (F:Ag) (bp:Nat) (g:Gm) (m:List (List Rat)) (up place:List Int) (vn vi vu vp vm v:Value) (n:Nd) (hp:BD w F bp g m up place vn vi vu vp vm) (hv:Bf w F v n) (hf:Fit g m) (hn:n∈g.nodes) (hk:n.kind=2) (hml:m.length≤100000) :
  Calls Tryz.prog 88 #[.pointer (some ⟨bp,0,none⟩),v] w (Ret w (CO F w.heap.size m n)):=by
 obtain⟨A3,c3,A4,c4,A5,c5,rfl⟩:=hv.cells;clear hv;have hmv:=vH hf.nodes hn hk;have hch:=hf.chan n hn (by omega);obtain⟨ik,hik⟩:∃ ik:Nat,n.info=(ik:Int):=⟨n.info.toNat,by omega⟩;have hil:ik < m.length:=by rw[hf.rows]; omega
 obtain⟨l,hl⟩:=aB hil;have hcl:bU m n=l:=by rw[ae3 hk,hik,Int.toNat_natCast,List.getD_eq_getElem?_getD,hl]; rfl
 unfold CO;rw[hcl] at hch ⊢;have HRL:=Ac hch.2;have hnl:=hch.1;have hl10:l.length≤10:=by omega
 have t1:(n.kind==2)=true:=by simp[hk]
 have hmx:=hp.mixed;have hmc:=hp.row.cell (i:=5) rfl;obtain⟨Am,cm,rfl,hcm,hM⟩:=hmx;rw[List.length_map] at hcm hM;obtain⟨bm,om,rfl,hFm,hbm,hx⟩:=hM (by omega);obtain⟨ur,eu,hrow⟩:=hx ik (l.map ay) (by rw[List.getElem?_map,hl]; rfl);rw[Nat.mul_one] at eu;rw[List.length_map] at hmc;have HRW:=Ac (show BF w F ur l from hrow);obtain⟨Ar,cr,rfl,hcr,_⟩:=hrow;rw[List.length_map] at eu HRW hcr;rw[hik];clear hx hM hmv hch hl hcl hik hk hf hn hp hnl;go_enter Tryz.func88,Tryz.ntmps88;go_wp2_with fail
 obtain⟨W,hW,rx,hB,hz⟩:=aH w 67 #[.int .i64 n.kind,.int .i64 n.aA,.int .i64 (ik:Int),.slice A3 n.next.length c3,.slice A4 n.weights.length c4,.slice A5 n.pay.length c5];rw[← hW];clear hW;have hzz:=hB.size;replace hmc:=ah hmc hB;replace eu:=ah eu hB;replace HRW:=Ac (HRW.out.below hB);have x0:=rx.cell (i:=0) rfl; have x2:=rx.cell (i:=2) rfl;clear rx hz;go_wp2_with fail
 refine wp_region_held_drew (S:=fun w'=>w'.cell? ⟨bp,5,none⟩=some (.slice (some ⟨bm,om,none⟩) m.length cm)∧w'.cell? ⟨bm,om+ik,none⟩=some (.slice Ar l.length cr)∧w'.cell? ⟨w.heap.size,2,none⟩=some (.int .i64 (ik:Int))) (by kernel_rfl) ⟨hmc,eu,x2⟩ (fun hHeld=>?_);have hb:Below W.heap.size W W.drew:=aG (Below.refl _ W) 1;replace hmc:=ah hmc hb;replace eu:=ah eu hb;replace x2:=ah x2 hb;replace HRW:=Ac (HRW.out.below hb);replace hzz:=Nat.le_trans hzz hb.size;replace hB:=hB.trans (hb.mono hB.size);clear hb;generalize W.drew=wn at *;refine tk0 [0,1,2,3,4,5,6,7] ?_;iterate 8 (refine tk (v:=?_) rfl (by kernel_rfl) (by kernel_rfl) (by kernel_rfl) (fun _ _ _ h=>h) (Or.inl ⟨by rfl,?_⟩) hHeld ?_;rotate_left;(focus intro wx hSx;(try dsimp only at hSx);go_split_ands;go_simp;try with_reducible rfl);try simp only[Act.put,lq1,lq2,lq3,lq4,lq5,lq6])
 refine tk1 ?_;refine tk2 8 (by kernel_rfl) rfl fun K hK=>?_
 go_simp;refine(ady wn F _ l HRW.out (by omega) (fun x hx=>by have:=HRL.out x hx; omega)).mono ?_;rintro e wn ⟨u,rfl,hb,hu1,hu2⟩;obtain⟨bb,rfl⟩:∃ bb,u = .slice (some ⟨bb,0,none⟩) l.length l.length:=⟨_,hu1⟩;clear hu1;have HU:=Ac (Ah.keep (G:=Ext F w.heap.size) hu2 (fun b hb _=>hb.elim .inl fun h=>.inr (by omega)) (Same.refl _ _));clear hu2;replace hmc:=ah hmc hb;replace eu:=ah eu hb;replace x2:=ah x2 hb;replace HRW:=Ac (HRW.out.below hb);replace hzz:=Nat.le_trans hzz hb.size;replace hB:=hB.trans (hb.mono hB.size);clear hb;dsimp only;clear hHeld;refine hK.out _ _ ⟨hmc,eu,x2⟩ (fun hHeld=>?_);clear hK K;try simp only[Act.put,lq1,lq2,lq3,lq4,lq5,lq6]
 refine tk0 [9] ?_;(refine tk (v:=?_) rfl (by kernel_rfl) (by kernel_rfl) (by kernel_rfl) (fun _ _ _ h=>h) (Or.inl ⟨by rfl,?_⟩) hHeld ?_;rotate_left;(focus intro wx hSx;(try dsimp only at hSx);go_split_ands;go_simp;try with_reducible rfl);try simp only[Act.put,lq1,lq2,lq3,lq4,lq5,lq6])
 refine tk1 ?_;refine wpAnyH_done (by kernel_rfl) ?_ _;clear hHeld;show Exit.then _ _ .normal _ _;go_wp2
 go_ret;exact⟨_,rfl,hB,⟨_,_,rfl⟩,HU.out⟩
theorem aay (w:World) (F:Ag) (bp:Nat) (g:Gm) (m:List (List Rat)) (v:Value) (n:Nd) (hv:Bf w F v n) (hne:cZ g.au g.infos.length g.nodes=0) (hn:n∈g.nodes) (hk:n.kind=1) :
  Calls Tryz.prog 88 #[.pointer (some ⟨bp,0,none⟩),v] w (Ret w (CO F w.heap.size m n)):=by
 obtain⟨c1,c2,c3',c4'⟩:=nZ hne hn hk;have hsr:=rE c4';unfold CO;rw[acz (by omega),List.length_map];have hwl:n.weights.length≤60:=by omega
 have hwl1:1≤n.weights.length:=by omega
 have HW4:=Ac c4';have hpart:∀ k,k≤n.weights.length→0≤lK (n.weights.take k)∧lK (n.weights.take k)≤1000*k:=fun k hk=>by
  have h1:=rE (l:=n.weights.take k) (fun x hx=>c4' x (List.mem_of_mem_take hx));have h2:(n.weights.take k).length≤k:=by simp; omega
  omega
 have HPT:=Ac hpart;obtain⟨tot,htot⟩:∃ tot,tot=lK n.weights:=⟨_,rfl⟩;rw[← htot] at hsr ⊢;have htb1:1≤tot:=by omega
 have htb2:tot≤60000:=by omega
 have HT:=Ac htot;have t1:(n.kind==2)=false:=by simp; omega
 clear hpart c1 c2 c3' c4' hsr htot hk hne hn;have HWV:=Ac (show ∃ v3 v4 v5,v = .agg #[.int .i64 n.kind,.int .i64 n.aA,.int .i64 n.info,v3,v4,v5]∧AA w F v4 n.weights from by obtain⟨v3,v4,v5,h,_,h4,_⟩:=hv; exact⟨v3,v4,v5,h,h4⟩);obtain⟨v3,v4,v5,rfl,⟨A3,c3,rfl,_⟩,h4,⟨A5,c5,rfl,_⟩⟩:=hv;have H4:=Ac h4;obtain⟨A4,c4,rfl,hc4,hx4⟩:=h4;have HX:=Ac hx4;clear hx4 HWV;go_enter Tryz.func88,Tryz.ntmps88;go_wp2_with fail
 obtain⟨W,hW,rx,rt,hB,hz⟩:=alloc2 w 67 #[.int .i64 n.kind,.int .i64 n.aA,.int .i64 n.info,.slice A3 n.next.length c3,.slice A4 n.weights.length c4,.slice A5 n.pay.length c5] 3 #[.int .i64 0];rw[← hW];clear hW;have hzz:=hB.size;have x4:=rx.cell (i:=4) rfl;have hz:w.heap.size+2≤W.heap.size:=hz;go_loopw [23] (fun i wr=>∃ k:Nat,k≤n.weights.length∧i = .int .i64 (k:Int)∧Row wr w.heap.size 67 [.int .i64 n.kind,.int .i64 n.aA,.int .i64 n.info,.slice A3 n.next.length c3,.slice A4 n.weights.length c4,.slice A5 n.pay.length c5]∧Row wr (w.heap.size+1) 3 [.int .i64 (lK (n.weights.take k))]∧Below w.heap.size w wr) (fun i _=>n.weights.length - (intOf i).toNat)
 case atStart=>exact⟨0,by omega,rfl,rx,rt,hB⟩
 case round =>
  clear rx rt hB hzz hz x4;obtain⟨k,hk,rfl,rx,rt,hB⟩:=hrel;obtain⟨sk,hsk⟩:∃ sk,sk=lK (n.weights.take k):=⟨_,rfl⟩;have hpt:=HPT.out k hk;rw[← hsk] at rt hpt;have HSK:=Ac hsk; clear hsk;by_cases hlt:k < n.weights.length
  ·obtain⟨b,o,rfl,hF,hb,hx⟩:=HX.out (by omega);obtain⟨x,hx'⟩:=aB hlt;have ex:=hx k x hx';unfold lY at ex;rw[Nat.mul_one] at ex;replace ex:=ah ex (hB.mono (Nat.le_refl _));have hxb:=HW4.out x (List.mem_of_getElem? hx');have HXX:=Ac hx';have y0:=rt.cell (i:=0) rfl; have y1:=rt.frozen 0;clear hx hx';go_wp2
   have rt2:=rt.set 0 (.int .i64 (sk+x));have rx2:=rx.other (a:=⟨w.heap.size+1,0,none⟩) (by simp) (.int .i64 (sk+x));have hB2:=hB.setCell (p:=⟨w.heap.size+1,0,none⟩) (by simp) (.int .i64 (sk+x));go_roundw
   case rel=>exact⟨k+1,by omega,by go_num,rx2,by rw[take_snoc HXX.out,abx,← HSK.out]; exact rt2,hB2⟩
   case measure=>simp[intOf]; omega
  ·have hst:sk=tot:=by rw[HSK.out,HT.out,List.take_of_length_le (by omega)]
   subst hst;have x4:=rx.cell (i:=4) rfl;have tc:=rt.cell (i:=0) rfl;have hNF:Eb wr 120 #[.pointer (some ⟨w.heap.size+1,0,none⟩)] n.weights (fun x=>(x:Rat) / (sk:Rat)) :=
    ⟨enters' Tryz.func120 (by kernel_rfl) (by kernel_rfl),fun W' x hx hb=>acy W' x sk (w.heap.size+1) (by have:=HW4.out x hx; omega) (by have:=HW4.out x hx; omega) (by omega) (by omega) (by omega) (ah tc hb)⟩
   have H4':=Ac (H4.out.on (Below.same' hB F));have HN:=Ac hNF;clear hNF;go_wp2_with fail
   refine(yO wr F _ n.weights _ _ _ H4'.out (by omega) HN.out).mono ?_;rintro e wn ⟨u,rfl,hb,hu1,hu2⟩;obtain⟨bb,rfl⟩:∃ bb,u = .slice (some ⟨bb,0,none⟩) n.weights.length n.weights.length:=⟨_,hu1⟩;have hzz:=hB.size;have HU:=Ac (Ah.keep (G:=Ext F w.heap.size) hu2 (fun b hb _=>.inr (by omega)) (Same.refl _ _));have hB2:=hB.trans (hb.mono hB.size);clear hu1 hu2 hb tc x4 HN;dsimp only;go_wp2
   go_ret;exact⟨_,rfl,hB2,⟨_,_,rfl⟩,HU.out⟩
theorem yS (w:World) (F:Ag) (bp:Nat) (g:Gm) (m:List (List Rat)) (up place:List Int) (vn vi vu vp vm v:Value) (n:Nd) (hp:BD w F bp g m up place vn vi vu vp vm) (hv:Bf w F v n) (hf:Fit g m) (hn:n∈g.nodes) (hk:n.kind≠3) (hml:m.length≤100000) :
  Calls Tryz.prog 88 #[.pointer (some ⟨bp,0,none⟩),v] w (Ret w (CO F w.heap.size m n)):=by
 rcases kinds hf.nodes hn with k1 | k1 | k1
 ·exact aay w F bp g m v n hv hf.nodes hn k1
 ·exact acA w F bp g m up place vn vi vu vp vm v n hp hv hf hn k1 hml
 ·exact absurd k1 hk
structure Laid (g:Gm) (U P:List Int) (i k:Nat):Prop where
 acs:U.length=g.nodes.length
 acu:P.length=g.nodes.length
 root:U[0]? = some (-1)
 kid:∀ i' k' c,Kid g.nodes i' k' c→(i' < i∨(i'=i∧k' < k))→U[c]? = some (i':Int)∧P[c]? = some (k':Int)
theorem Laid.start {g:Gm} (h0:0 < g.nodes.length):Laid g ((List.replicate g.nodes.length 0).set 0 (-1)) (List.replicate g.nodes.length 0) 0 0 :=
 ⟨by simp,by simp,by simp[h0],fun i' k' c _ h=>by omega⟩
theorem Laid.step {g:Gm} (hg:Good g) {U P:List Int} {i k c:Nat} (h:Laid g U P i k) (hk:Kid g.nodes i k c):Laid g (U.set c (i:Int)) (P.set c (k:Int)) i (k+1):=by
 have hl:=hg.sK hk;refine⟨by rw[List.length_set]; exact h.acs,by rw[List.length_set]; exact h.acu,by rw[List.getElem?_set_ne (by omega)]; exact h.root,fun i' k' c' hk' hlt=>?_⟩;by_cases e:c'=c
 ·subst e;obtain⟨rfl,rfl⟩:=hg.acj hk' hk;rw[List.getElem?_set_self (by rw[h.acs]; omega),List.getElem?_set_self (by rw[h.acu]; omega)];exact⟨rfl,rfl⟩
 ·rw[List.getElem?_set_ne (fun h=>e h.symm),List.getElem?_set_ne (fun h=>e h.symm)];refine h.kid i' k' c' hk' ?_;rcases hlt with h1 | ⟨h1,h2⟩
  ·exact .inl h1
  ·by_cases e2:k'=k
   ·subst e2; subst h1;obtain⟨n,hn,hc⟩:=hk;obtain⟨n',hn',hc'⟩:=hk';rw[hn] at hn'; cases hn';rw[hc] at hc'; injection hc' with e3
    exact absurd (Int.ofNat_inj.1 e3).symm e
   ·exact .inr ⟨h1,by omega⟩
theorem Laid.next {g:Gm} {U P:List Int} {i k:Nat} {n:Nd} (h:Laid g U P i k) (hn:g.nodes[i]? = some n) (hk:n.next.length≤k):Laid g U P (i+1) 0 :=
 ⟨h.acs,h.acu,h.root,fun i' k' c hk' hlt=>h.kid i' k' c hk' (by
  rcases hlt with h1 | ⟨_,h2⟩
  ·by_cases e:i'=i
   ·subst e;obtain⟨n',hn',hc⟩:=hk';rw[hn] at hn'; cases hn';have:=aF hc;exact .inr ⟨rfl,by omega⟩
   ·exact .inl (by omega)
  ·omega)⟩
theorem Laid.done {g:Gm} {U P:List Int} {i k:Nat} (h:Laid g U P i k) (hi:g.nodes.length≤i):Layout g U P :=
 ⟨h.acs,h.acu,h.root,fun i' k' c hk'=>h.kid i' k' c hk' (.inl (by
  obtain⟨n,hn,_⟩:=hk';have:=aF hn;omega))⟩
structure VSt (w:World) (g:Gm) (A:Option Addr) (c:Nat) (Ai:Option Addr) (ci:Nat) (vm:Value) (bp bu bl:Nat) (U P:List Int) (wr:World):Prop where
 box:Row wr w.heap.size 25 [.int .i64 g.au,.slice A g.nodes.length c,.slice Ai g.infos.length ci]
 play:Row wr bp 133 [.int .i64 g.au,.slice A g.nodes.length c,.slice Ai g.infos.length ci,.slice (some ⟨bu,0,none⟩) g.nodes.length g.nodes.length,.slice (some ⟨bl,0,none⟩) g.nodes.length g.nodes.length,vm]
 ru:Row wr bu 3 (bg U)
 rl:Row wr bl 3 (bg P)
 bel:Below w.heap.size w wr
structure VAp (B bp bu bl:Nat):Prop where
 p:B < bp
 u:B < bu
 l:B < bl
 pu:bp≠bu
 pl:bp≠bl
 ul:bu≠bl
section
variable {w:World} {g:Gm} {A:Option Addr} {c:Nat} {Ai:Option Addr} {ci:Nat} {vm:Value} {bp bu bl:Nat} {U P:List Int} {wr wr':World}
theorem VSt.below (h:VSt w g A c Ai ci vm bp bu bl U P wr) (k:Below wr.heap.size wr wr'):VSt w g A c Ai ci vm bp bu bl U P wr' :=
 ⟨h.box.below k h.box.lt,h.play.below k h.play.lt,h.ru.below k h.ru.lt,h.rl.below k h.rl.lt,h.bel.trans (k.mono h.bel.size)⟩
theorem VSt.drew (h:VSt w g A c Ai ci vm bp bu bl U P wr):VSt w g A c Ai ci vm bp bu bl U P wr.drew:=⟨h.box,h.play,h.ru,h.rl,h.bel.drew⟩
theorem VSt.setU (h:VSt w g A c Ai ci vm bp bu bl U P wr) (ap:VAp w.heap.size bp bu bl) (i:Nat) (x:Int):VSt w g A c Ai ci vm bp bu bl (U.set i x) P (wr.setCell ⟨bu,i,none⟩ (.int .i64 x)) :=
 ⟨h.box.other (by have:=ap.u; simp; omega) _,h.play.other ap.pu _,by simpa [bg,List.map_set] using h.ru.set i (.int .i64 x),h.rl.other ap.ul.symm _,h.bel.setCell (by have:=ap.u; simp; omega) _⟩
theorem VSt.setP (h:VSt w g A c Ai ci vm bp bu bl U P wr) (ap:VAp w.heap.size bp bu bl) (i:Nat) (x:Int):VSt w g A c Ai ci vm bp bu bl U (P.set i x) (wr.setCell ⟨bl,i,none⟩ (.int .i64 x)) :=
 ⟨h.box.other (by have:=ap.l; simp; omega) _,h.play.other ap.pl _,h.ru.other ap.ul _,by simpa [bg,List.map_set] using h.rl.set i (.int .i64 x),h.bel.setCell (by have:=ap.l; simp; omega) _⟩
end
theorem qH (w:World) (F:Ag) (vg vm:Value) (g:Gm) (m:List (List Rat)) (hg:AX w F vg g) (hsm:Small g) (hm:AV w F vm m) (hT:AZ w) (hlm:m.length≤100000) (hb:Bd (m.map (List.map ay))) (h0:jl g (m.map (List.map ay))=0) :
  Calls Tryz.prog 46 #[vg,vm] w (Ret w fun u w'=>∃ bp up place vn vi vu vp,u = .tuple #[.pointer (some ⟨bp,0,none⟩),.int .i64 0]∧BD w' (Ext F w.heap.size) bp g m up place vn vi vu vp vm∧Layout g up place):=by
 have HG:=Ac hg; have HM:=Ac hm; have HS:=Ac hsm; have HT:=Ac hT; have HBB:=Ac hb; have HE0:=Ac h0;have HGD:=Ac (aci (pR h0));have hml:(m.map (List.map ay)).length≤100000:=by rw[List.length_map]; exact hlm
 have hpos:=HGD.out.pos;have hn:=hsm.nodes;obtain⟨vn,vi,rfl,⟨A,c,rfl,hc,hN⟩,⟨Ai,ci,rfl,hci,hI⟩⟩:=hg;have HN:=Ac hN;obtain⟨Am,cm,rfl,hcm,_⟩:=hm;clear hN hI hsm hT hb h0;rw[List.length_map] at hcm HM;rw[List.length_map];obtain⟨b,o,rfl,hbF,hbl,hcell⟩:=HN.out hpos;have HC:=Ac hcell; clear hcell;go_enter Tryz.func46,Tryz.ntmps46;go_wp2_with fail
 obtain⟨W,hW,rx,hB,hz⟩:=aH w 25 #[.int .i64 g.au,.slice (some ⟨b,o,none⟩) g.nodes.length c,.slice Ai g.infos.length ci];rw[← hW];clear hW hz;have HG':=Ac (HG.out.on (Below.same' hB F)); have HM':=Ac (Az.below HM.out hB); replace HT:=Ac (HT.out.on hB);have x0:=rx.cell (i:=0) rfl; have x1:=rx.cell (i:=1) rfl; have x2:=rx.cell (i:=2) rfl;go_wp2_with fail
 refine(aa5 W F _ _ g _ HG'.out HS.out HM'.out HT.out hml HBB.out).mono ?_;rintro e w1 ⟨_,rfl,hb1,rfl⟩;rw[HE0.out];have hbx:=rx.below hb1 rx.lt;have hB1:=hB.trans (hb1.mono hB.size);clear rx hB hb1 x0 x1 x2 HG' HM' HT;dsimp only;have x1:=hbx.cell (i:=1) rfl;go_upto_region 5 with(fail)
 go_cut [8] from 22 to 31 (fun v8 wx=>∃ bp bu bl,v8 = .pointer (some ⟨bp,0,none⟩)∧VSt w g (some ⟨b,o,none⟩) c Ai ci (.slice Am m.length cm) bp bu bl (List.replicate g.nodes.length 0) (List.replicate g.nodes.length 0) wx∧VAp w.heap.size bp bu bl)
 case first =>
  clear x1;obtain⟨w0,hw0⟩:∃ W,W=w1.drew:=⟨_,rfl⟩;refine aT (fun w'=>w'.cell? ⟨w.heap.size,0,none⟩=some (.int .i64 g.au)∧w'.cell? ⟨w.heap.size,1,none⟩=some (.slice (some ⟨b,o,none⟩) g.nodes.length c)∧w'.cell? ⟨w.heap.size,2,none⟩=some (.slice Ai g.infos.length ci)) 7 3 (by kernel_rfl) rfl (by kernel_rfl) ?_;have hHeld:(fun w':World=>w'.cell? ⟨w.heap.size,0,none⟩=some (.int .i64 g.au)∧w'.cell? ⟨w.heap.size,1,none⟩=some (.slice (some ⟨b,o,none⟩) g.nodes.length c)∧w'.cell? ⟨w.heap.size,2,none⟩=some (.slice Ai g.infos.length ci)) w1.drew:=⟨hbx.cell rfl,hbx.cell rfl,hbx.cell rfl⟩;simp only[List.take_succ_cons,List.take_zero];refine tk0 [0,1,3,6] ?_;iterate 4 (refine tk (v:=?_) rfl (by kernel_rfl) (by kernel_rfl) (by kernel_rfl) (fun _ _ _ h=>h) (Or.inl ⟨by rfl,?_⟩) hHeld ?_;rotate_left;(focus intro wx hSx;(try dsimp only at hSx);go_split_ands;go_simp;try with_reducible rfl);try simp only[Act.put,lq1,lq2,lq3,lq4,lq5,lq6])
  refine tk1 ?_;have hbx0:Row w0 _ _ _:=hw0▸hbx.drew;have hB0:Below w.heap.size w w0:=hw0▸hB1.drew;rw[← hw0] at hHeld ⊢;clear hw0 hbx hB1;refine wpAnyH_ready (rs:=[2,4]) (by decide +kernel) (by simp) ?_;refine(AllReadyH.cons (o:=_) rfl (fun K hK=>?_) (AllReadyH.cons (o:=_) rfl (fun K hK=>?_) AllReadyH.nil))
  ·refine ifT rfl ?_;refine aW _ _ _ 57 rfl 3 (.int .i64 0) 8 Tryz.underlying57 Tryz.infoInt rfl g.nodes.length rfl rfl (by omega) (by omega) ?_;intro w1 hb hz ahP;clear hz;have g2:=hbx0.lt;have sz1:=hb.size;have dV:=hbx0.below hb hbx0.lt;have hB1:=hB0.trans (hb.mono hB0.size);clear hb;refine hK.out _ _ ⟨dV.cell rfl,dV.cell rfl,dV.cell rfl⟩ (fun hHeld=>?_);clear hK K;try simp only[Act.put,lq1,lq2,lq3,lq4,lq5,lq6]
   refine wpAnyH_ready (rs:=[4]) (by decide +kernel) (by simp) ?_;refine(AllReadyH.cons (o:=_) rfl (fun K hK=>?_) AllReadyH.nil)
   ·refine ifT rfl ?_;refine aW _ _ _ 57 rfl 3 (.int .i64 0) 8 Tryz.underlying57 Tryz.infoInt rfl g.nodes.length rfl rfl (by omega) (by omega) ?_;intro w2 hb hz adP;clear hz;have g4:=dV.lt;have l2_4:=ahP.lt;have adQ:=ahP.below hb ahP.lt;have sz2:=hb.size;have hbx2:=dV.below hb dV.lt;have hB2:=hB1.trans (hb.mono hB1.size);clear hb;refine hK.out _ _ ⟨hbx2.cell rfl,hbx2.cell rfl,hbx2.cell rfl⟩ (fun hHeld=>?_);clear hK K;try simp only[Act.put,lq1,lq2,lq3,lq4,lq5,lq6]
    refine tk0 [5] ?_;(refine tk (v:=?_) rfl (by kernel_rfl) (by kernel_rfl) (by kernel_rfl) (fun _ _ _ h=>h) (Or.inl ⟨by rfl,?_⟩) hHeld ?_;rotate_left;(focus intro wx hSx;(try dsimp only at hSx);go_split_ands;go_simp;try with_reducible rfl);try simp only[Act.put,lq1,lq2,lq3,lq4,lq5,lq6])
    refine tk1 ?_;refine wpAnyH_done (by kernel_rfl) ?_ _;clear hHeld;show wpList _ _ _ _ _ _;go_wp2_with fail
    show wpList _ _ _ _ _ _;go_wp2_with fail
    obtain⟨W,hW,rp,hbw,hzw⟩:=aH w2 133 #[.int .i64 g.au,.slice (some ⟨b,o,none⟩) g.nodes.length c,.slice Ai g.infos.length ci,.slice (some ⟨w0.heap.size,0,none⟩) g.nodes.length g.nodes.length,.slice (some ⟨w1.heap.size,0,none⟩) g.nodes.length g.nodes.length,.slice Am m.length cm];rw[← hW];clear hW hzw;have q2:=adQ.lt; have q4:=adP.lt; have qb:=hbx2.lt;show wpList _ _ _ _ _ _;go_wp2_with fail
    show Exit.then _ _ .normal _ _;go_wp2_with fail
    go_meet
    exact⟨w2.heap.size,w0.heap.size,w1.heap.size,rfl,⟨hbx2.below hbw qb,rp,by simpa [bg] using adQ.below hbw q2,by simpa [bg] using adP.below hbw q4,hB2.trans (hbw.mono hB2.size)⟩,⟨by omega,by omega,by omega,by omega,by omega,by omega⟩⟩
  ·refine ifT rfl ?_;refine aW _ _ _ 57 rfl 3 (.int .i64 0) 8 Tryz.underlying57 Tryz.infoInt rfl g.nodes.length rfl rfl (by omega) (by omega) ?_;intro w1 hb hz ahQ;clear hz;have g4:=hbx0.lt;have sz1:=hb.size;have dV:=hbx0.below hb hbx0.lt;have hB1:=hB0.trans (hb.mono hB0.size);clear hb;refine hK.out _ _ ⟨dV.cell rfl,dV.cell rfl,dV.cell rfl⟩ (fun hHeld=>?_);clear hK K;try simp only[Act.put,lq1,lq2,lq3,lq4,lq5,lq6]
   refine wpAnyH_ready (rs:=[2]) (by decide +kernel) (by simp) ?_;refine(AllReadyH.cons (o:=_) rfl (fun K hK=>?_) AllReadyH.nil)
   ·refine ifT rfl ?_;refine aW _ _ _ 57 rfl 3 (.int .i64 0) 8 Tryz.underlying57 Tryz.infoInt rfl g.nodes.length rfl rfl (by omega) (by omega) ?_;intro w2 hb hz adQ;clear hz;have g2:=dV.lt;have l4_2:=ahQ.lt;have adP:=ahQ.below hb ahQ.lt;have sz2:=hb.size;have hbx2:=dV.below hb dV.lt;have hB2:=hB1.trans (hb.mono hB1.size);clear hb;refine hK.out _ _ ⟨hbx2.cell rfl,hbx2.cell rfl,hbx2.cell rfl⟩ (fun hHeld=>?_);clear hK K;try simp only[Act.put,lq1,lq2,lq3,lq4,lq5,lq6]
    refine tk0 [5] ?_;(refine tk (v:=?_) rfl (by kernel_rfl) (by kernel_rfl) (by kernel_rfl) (fun _ _ _ h=>h) (Or.inl ⟨by rfl,?_⟩) hHeld ?_;rotate_left;(focus intro wx hSx;(try dsimp only at hSx);go_split_ands;go_simp;try with_reducible rfl);try simp only[Act.put,lq1,lq2,lq3,lq4,lq5,lq6])
    refine tk1 ?_;refine wpAnyH_done (by kernel_rfl) ?_ _;clear hHeld;show wpList _ _ _ _ _ _;go_wp2_with fail
    show wpList _ _ _ _ _ _;go_wp2_with fail
    obtain⟨W,hW,rp,hbw,hzw⟩:=aH w2 133 #[.int .i64 g.au,.slice (some ⟨b,o,none⟩) g.nodes.length c,.slice Ai g.infos.length ci,.slice (some ⟨w1.heap.size,0,none⟩) g.nodes.length g.nodes.length,.slice (some ⟨w0.heap.size,0,none⟩) g.nodes.length g.nodes.length,.slice Am m.length cm];rw[← hW];clear hW hzw;have q2:=adQ.lt; have q4:=adP.lt; have qb:=hbx2.lt;show wpList _ _ _ _ _ _;go_wp2_with fail
    show Exit.then _ _ .normal _ _;go_wp2_with fail
    go_meet
    exact⟨w2.heap.size,w1.heap.size,w0.heap.size,rfl,⟨hbx2.below hbw qb,rp,by simpa [bg] using adQ.below hbw q2,by simpa [bg] using adP.below hbw q4,hB2.trans (hbw.mono hB2.size)⟩,⟨by omega,by omega,by omega,by omega,by omega,by omega⟩⟩
 case rest =>
  obtain⟨bp,bu,bl,rfl,hst,hap⟩:=hcut;clear hbx hB1 x1;have y3:=hst.play.cell (i:=3) rfl;have eu:=hst.ru.cell (i:=0) (v:=.int .i64 0) (by simp[bg,hpos]);have fu:=hst.ru.frozen 0;have x1:=hst.box.cell (i:=1) rfl;have zu:w.heap.size≠bu:=by have:=hap.u; omega
  have HST:=Ac hst; clear hst;have HLD:=Ac (Laid.start (g:=g) hpos);go_wp2
  go_loopw [40] (fun i wr=>∃ (k:Nat) (U P:List Int),k≤g.nodes.length∧i = .int .i64 (k:Int)∧Laid g U P k 0∧VSt w g (some ⟨b,o,none⟩) c Ai ci (.slice Am m.length cm) bp bu bl U P wr) (fun i _=>g.nodes.length - (intOf i).toNat)
  case atStart=>exact⟨0,_,_,by omega,rfl,HLD.out,HST.out.setU hap 0 (-1)⟩
  case round =>
   clear y3 eu fu x1 HST HLD;obtain⟨k,U,P,hk,rfl,hld,hst⟩:=hrel;have HST:=Ac hst; have HLD:=Ac hld; clear hst hld;by_cases hlt:k < g.nodes.length
   ·obtain⟨n,hn'⟩:=aB (l:=g.nodes) (k:=k) hlt;have hne:=HC.out k n hn';have n0:=hne.c0; have n1:=hne.c1; have n2:=hne.c2;obtain⟨v3,n3,A3,c3,rfl,hc3,i3⟩:=hne.c3;obtain⟨v4,n4,A4,c4,rfl,_,_⟩:=hne.c4;obtain⟨v5,n5,A5,c5,rfl,_,_⟩:=hne.c5;have hl3:=HS.out.next n (List.mem_of_getElem? hn');have HN3:=Ac i3; clear i3 hne;have HX:=Ac hn'; clear hn';have hbel:=HST.out.bel;replace n0:=ah n0 hbel;replace n1:=ah n1 hbel;replace n2:=ah n2 hbel;replace n3:=ah n3 hbel;replace n4:=ah n4 hbel;replace n5:=ah n5 hbel;clear hbel;go_wp2_with fail
    obtain⟨W2,hW2,rn,hB2,hzz⟩:=aH wr 67 #[.int .i64 n.kind,.int .i64 n.aA,.int .i64 n.info,.slice A3 n.next.length c3,.slice A4 n.weights.length c4,.slice A5 n.pay.length c5];rw[← hW2];replace HST:=Ac (HST.out.below hB2);have m3:=rn.cell (i:=3) rfl;clear hW2 hzz hB2 rn n0 n1 n2 n3 n4 n5;go_loopw [48] (fun i wi=>∃ (j:Nat) (U P:List Int),j≤n.next.length∧i = .int .i64 (j:Int)∧Laid g U P k j∧VSt w g (some ⟨b,o,none⟩) c Ai ci (.slice Am m.length cm) bp bu bl U P wi) (fun i _=>n.next.length - (intOf i).toNat)
    case atStart=>exact⟨0,U,P,by omega,rfl,HLD.out,HST.out⟩
    case round =>
     clear m3 HST HLD U P;obtain⟨j,U,P,hj,rfl,hld,hst⟩:=hrel;have HST:=Ac hst; have HLD:=Ac hld; clear hst hld;by_cases hjt:j < n.next.length
     ·obtain⟨ch,hch⟩:=aB hjt;have hkk:=HGD.out.span.kids k n (Nat.zero_le _) hlt HX.out ch (List.mem_of_getElem? hch);obtain⟨cn,rfl⟩:∃ cn:Nat,ch=(cn:Int):=⟨ch.toNat,by omega⟩;have hcl:cn < g.nodes.length:=by omega
      obtain⟨b3,o3,rfl,hb3,hb3B,hx3⟩:=HN3.out (by omega);have ec:=hx3 j _ hch;unfold lY at ec;rw[Nat.mul_one] at ec;replace ec:=ah ec HST.out.bel;have HKD:=Ac (show Kid g.nodes k j cn from⟨n,HX.out,hch⟩);have hul:=HLD.out.acs; have hpl:=HLD.out.acu;obtain⟨yu,hyu⟩:=aB (l:=U) (k:=cn) (by omega);obtain⟨yp,hyp⟩:=aB (l:=P) (k:=cn) (by omega);have eu:=HST.out.ru.cell (i:=cn) (v:=.int .i64 yu) (by simp[bg,hyu]);have ep:=HST.out.rl.cell (i:=cn) (v:=.int .i64 yp) (by simp[bg,hyp]);have fu:=HST.out.ru.frozen cn; have fp:=HST.out.rl.frozen cn;have y3:=HST.out.play.cell (i:=3) rfl; have y4:=HST.out.play.cell (i:=4) rfl;clear hyu hyp hx3 hch hul hpl hkk;go_wp2_with fail
      refine wp_region_held_drew (S:=fun w'=>w'.cell? ⟨bp,3,none⟩=some (.slice (some ⟨bu,0,none⟩) g.nodes.length g.nodes.length)∧w'.cell? ⟨bp,4,none⟩=some (.slice (some ⟨bl,0,none⟩) g.nodes.length g.nodes.length)) (by kernel_rfl) ⟨y3,y4⟩ (fun hHeld=>?_);refine tk0 [0,1,2,3,4,5,6,7,8,9,10,11,12,13,14] ?_;iterate 15 (refine tk (v:=?_) rfl (by kernel_rfl) (by kernel_rfl) (by kernel_rfl) (fun _ _ _ h=>h) (Or.inl ⟨by rfl,?_⟩) hHeld ?_;rotate_left;(focus intro wx hSx;(try dsimp only at hSx);go_split_ands;go_simp;try with_reducible rfl);try simp only[Act.put,lq1,lq2,lq3,lq4,lq5,lq6])
      refine tk1 ?_;have Dw:=Ac (VSt.drew (HST.out.setU hap cn (k:Int)));have HLD2:=Ac (HLD.out.step HGD.out HKD.out);refine tk2 15 (by kernel_rfl) rfl fun K hK=>?_
      go_simp;obtain⟨W,hW⟩:∃ W:World,W=(wr.setCell ⟨bu,cn,none⟩ (.int .i64 (k:Int))).drew:=⟨_,rfl⟩;rw[← hW] at Dw ⊢;clear hW y3 y4 eu ep fu fp ec hHeld HST HLD;have y3:=Dw.out.play.cell (i:=3) rfl; have y4:=Dw.out.play.cell (i:=4) rfl;have hpl:=HLD2.out.acu;rw[List.length_set] at hpl;obtain⟨yp,hyp⟩:=aB (l:=P) (k:=cn) (by omega);have ep:=Dw.out.rl.cell (i:=cn) (v:=.int .i64 yp) (by simp[bg,hyp]); have fp:=Dw.out.rl.frozen cn;clear hyp hpl;refine hK.out _ _ ⟨y3,y4⟩ (fun hHeld=>?_);clear hK K;try simp only[Act.put,lq1,lq2,lq3,lq4,lq5,lq6]
      refine tk0 [16] ?_;(refine tk (v:=?_) rfl (by kernel_rfl) (by kernel_rfl) (by kernel_rfl) (fun _ _ _ h=>h) (Or.inl ⟨by rfl,?_⟩) hHeld ?_;rotate_left;(focus intro wx hSx;(try dsimp only at hSx);go_split_ands;go_simp;try with_reducible rfl);try simp only[Act.put,lq1,lq2,lq3,lq4,lq5,lq6])
      refine tk1 ?_;have D6:=Ac (Dw.out.setP hap cn (j:Int));refine tk2 17 (by kernel_rfl) rfl fun K hK=>?_
      go_simp;obtain⟨W3,hW3⟩:∃ W3:World,W3=W.setCell ⟨bl,cn,none⟩ (.int .i64 (j:Int)):=⟨_,rfl⟩;rw[← hW3] at D6 ⊢;clear hW3 y3 y4 ep fp hHeld Dw;refine hK.out _ _ ⟨D6.out.play.cell rfl,D6.out.play.cell rfl⟩ (fun hHeld=>?_);clear hK K;try simp only[Act.put,lq1,lq2,lq3,lq4,lq5,lq6]
      refine wpAnyH_done (by kernel_rfl) ?_ _;clear hHeld;show Exit.inBlock _ _ .normal _ _;go_wp2
      go_roundw
      case rel=>exact⟨j+1,_,_,by omega,by go_num,HLD2.out,D6.out⟩
      case measure=>simp[intOf]; omega
     ·go_wp2
      go_roundw
      case rel=>exact⟨k+1,U,P,by omega,by go_num,HLD.out.next HX.out (by omega),HST.out⟩
      case measure=>simp[intOf]; omega
   ·have HPL:=Ac hap;go_wp2
    go_ret2;refine⟨_,rfl,HST.out.bel,?_⟩;have hst:=HST.out;have hS:=Below.same' hst.bel F;have hld:=HLD.out.done (by omega);have hus:g.nodes.length=U.length:=hld.acs.symm;have hps:g.nodes.length=P.length:=hld.acu.symm;refine⟨bp,U,P,_,_,_,_,rfl,⟨.inr (by have:=hap.p; omega),hst.play,?_,?_,?_,?_,?_⟩,hld⟩
    ·obtain⟨vn',vi',hh,h1,h2⟩:=HG.out;simp only[Value.agg.injEq,Array.mk.injEq,List.cons.injEq] at hh;obtain⟨_,rfl,rfl,_⟩:=hh;exact h1.keep (fun b hb _=>.inl hb) hS
    ·obtain⟨vn',vi',hh,h1,h2⟩:=HG.out;simp only[Value.agg.injEq,Array.mk.injEq,List.cons.injEq] at hh;obtain⟨_,rfl,rfl,_⟩:=hh;exact h2.keep (fun b hb _=>.inl hb) hS
    ·have:=hst.ru.ints (F:=Ext F w.heap.size) (.inr (by have:=hap.u; omega)) (c:=U.length) (Nat.le_refl _);rw[← hus] at this; exact this
    ·have:=hst.rl.ints (F:=Ext F w.heap.size) (.inr (by have:=hap.l; omega)) (c:=P.length) (Nat.le_refl _);rw[← hps] at this; exact this
    ·exact Az.keep HM.out (fun b hb _=>.inl hb) hS
end Go.Proofs.YtkcheepafifjaaaGreatDoor
