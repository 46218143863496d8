/- plan.Check; parlourref16.shape. -/
import Derived.Test.YtkcheepafifjaaaGreatDoorU30
import Derived.Test.YtkcheepafifjaaaGreatDoorU32
import Derived.Test.YtkcheepafifjaaaGreatDoorU29
set_option linter.all false
set_option maxRecDepth 100000
set_option maxHeartbeats 12800000
namespace Go.Proofs.YtkcheepafifjaaaGreatDoor
open Lib renaming hid → Ac
open Go.RowKit
def bF (g:Gm) (m:List (List Raw)):Int:=if dP g≠0 then dP g else lS (g.infos.map Inf.actions) m
theorem Ae.below {w w':World} {F:Ag} {v:Value} {l:List (List Raw)} (h:Ae w F v l) (hb:Below w.heap.size w w'):Ae w' F v l:=h.on (Below.same' hb F)
theorem sS (w:World) (F:Ag) (vg vm:Value) (g:Gm) (m:List (List Raw)) (hg:AA w F vg g) (hsm:Small g) (hm:Ae w F vm m) (hT:AZ w) (hlm:m.length≤100000) (hb:AO m) :
  Calls Tryz.prog 84 #[vg,vm] w (Ret w fun v _=>v = .int .i64 (bF g m)):=by
 have HG:=Ac hg; have HM:=Ac hm; have HS:=Ac hsm; have HT:=Ac hT;have hli:=hsm.infos;have hact:dP g=0→∀ i∈g.infos,i.actions≤10:=zi;obtain⟨vn,vi,rfl,⟨A,c,rfl,hc,_⟩,⟨Ai,ci,rfl,hci,_⟩⟩:=hg;clear hm hsm hT;go_enter Tryz.func84,Tryz.ntmps84;go_wp2_with fail
 obtain⟨W,hW,rx,hB,hz⟩:=aB w 25 #[.int .i64 g.ak,.slice A g.nodes.length c,.slice Ai g.infos.length ci];rw[← hW];clear hW hz;replace HG:=Ac (HG.out.on (Below.same' hB F)); replace HM:=Ac (HM.out.below hB); replace HT:=Ac (HT.out.on hB);have x0:=rx.cell (i:=0) rfl; have x1:=rx.cell (i:=1) rfl; have x2:=rx.cell (i:=2) rfl;clear rx;go_wp2_with fail
 refine(afv W F _ g HG.out HS.out).mono ?_;rintro e w1 ⟨_,rfl,hb1,rfl⟩;rw[ahH];replace HG:=Ac (HG.out.on (Below.same' hb1 F)); replace HM:=Ac (HM.out.below hb1); replace HT:=Ac (HT.out.on hb1);replace x0:=ah x0 hb1; replace x1:=ah x1 hb1; replace x2:=ah x2 hb1;have hB1:=hB.trans (hb1.mono hB.size);clear hb1;have HE:=Ac (show bF g m=if dP g≠0 then dP g else lS (g.infos.map Inf.actions) m from rfl);generalize dP g=fe at *;by_cases h0:fe=0
 ·have t1:(fe != 0)=false:=by rw[h0]; rfl
  have HF:=Ac (HE.out.trans (if_neg (by simpa using h0)));have ha:=hact h0;clear h0 hact;dsimp only;go_wp2_with fail
  refine(adM w1 F _ _ g m HG.out HM.out HT.out hlm (by omega) hb ha).mono ?_;rintro e w2 ⟨_,rfl,hb2,rfl⟩;have hB2:=hB1.trans (hb2.mono hB1.size);rw[← HF.out];dsimp only;go_wp2
  go_ret;exact⟨_,rfl,hB2,rfl⟩
 ·have t1:(fe != 0)=true:=by simp[h0]
  have HF:=Ac (HE.out.trans (if_pos h0));clear h0 hact;dsimp only;go_wp2
  go_ret;exact⟨_,rfl,hB1,by rw[HF.out]; rfl⟩
theorem adV (w:World) (F:Ag) (vg vm:Value) (g:Gm) (m:List (List Raw)) (hg:AA w F vg g) (hm:Ae w F vm m) (hlm:m.length≤100000) (hli:g.infos.length≤100000) :
  Calls Tryz.prog 83 #[vg,vm] w (Ret w fun v _=>v = .int .i64 (if m.length≠g.infos.length then 3 else 0)):=by
 obtain⟨vn,vi,rfl,⟨A,c,rfl,hc,_⟩,⟨Ai,ci,rfl,hci,_⟩⟩:=hg;obtain⟨Am,cm,rfl,hcm,_⟩:=hm;obtain⟨er,her⟩:∃ er:Int,er=if m.length≠g.infos.length then 3 else 0:=⟨_,rfl⟩
 rw[← her];by_cases hlen:m.length=g.infos.length
 ·have d1:((m.length:Int) != (g.infos.length:Int))=false:=by simp; omega
  have HE:=Ac (her.trans (if_neg (by simpa using hlen)));clear hlen her;go_enter Tryz.func83,Tryz.ntmps83;go_wp2
  go_ret;exact⟨_,rfl,(Below.refl _ _).alloc (Nat.le_refl _) _,by rw[HE.out]; rfl⟩
 ·have d1:((m.length:Int) != (g.infos.length:Int))=true:=by simp; omega
  have HE:=Ac (her.trans (if_pos hlen));clear hlen her;go_enter Tryz.func83,Tryz.ntmps83;go_wp2
  go_ret;exact⟨_,rfl,(Below.refl _ _).alloc (Nat.le_refl _) _,by rw[HE.out]; rfl⟩
structure IntsIn (w:World) (F:Ag) (v:Value) (l:List Int) (N:Nat):Prop where
 at_:Aw w F v l
 len:l.length=N
structure Layout (g:Gm) (up place:List Int):Prop where
 abt:up.length=g.nodes.length
 abu:place.length=g.nodes.length
 root:up[0]? = some (-1)
 kid:∀ i k c,Kid g.nodes i k c→up[c]? = some (i:Int)∧place[c]? = some (k:Int)
structure Bh (w:World) (F:Ag) (bp:Nat) (g:Gm) (m:List (List Rat)) (up place:List Int) (vn vi vu vp vm:Value):Prop where
 inF:F bp
 row:Row w bp 133 [.int .i64 g.ak,vn,vi,vu,vp,vm]
 nodes:Bd w F vn g.nodes
 infos:AQ w F vi g.infos
 ups:Aw w F vu up
 places:Aw w F vp place
 mixed:AP w F vm m
theorem Bh.on {w w':World} {F:Ag} {bp:Nat} {g:Gm} {m:List (List Rat)} {up place:List Int} {vn vi vu vp vm:Value} (h:Bh w F bp g m up place vn vi vu vp vm) (hs:Same F w w'):Bh w' F bp g m up place vn vi vu vp vm :=
 ⟨h.inF,h.row.of_block (hs.block bp h.inF h.row.lt),h.nodes.on hs,h.infos.on hs,h.ups.on hs,h.places.on hs,h.mixed.on hs⟩
theorem Bh.below {w w':World} {F:Ag} {bp:Nat} {g:Gm} {m:List (List Rat)} {up place:List Int} {vn vi vu vp vm:Value} (h:Bh w F bp g m up place vn vi vu vp vm) (hb:Below w.heap.size w w'):Bh w' F bp g m up place vn vi vu vp vm:=h.on (Below.same' hb F)
theorem Bh.old {w:World} {F:Ag} {bp:Nat} {g:Gm} {m:List (List Rat)} {up place:List Int} {vn vi vu vp vm:Value} (h:Bh w F bp g m up place vn vi vu vp vm):Bh w (Old F w.heap.size) bp g m up place vn vi vu vp vm :=
 ⟨⟨h.inF,h.row.lt⟩,h.row,h.nodes.keep (fun _ hb hl=>⟨hb,hl⟩) (Same.refl _ _),h.infos.keep (fun _ hb hl=>⟨hb,hl⟩) (Same.refl _ _),h.ups.keep (fun _ hb hl=>⟨hb,hl⟩) (Same.refl _ _),h.places.keep (fun _ hb hl=>⟨hb,hl⟩) (Same.refl _ _),Ae.keep h.mixed (fun _ hb hl=>⟨hb,hl⟩) (Same.refl _ _)⟩
structure Counts (w:World) (F:Ag) (fid:FuncId) (caps:Array Value) (nodes:List Nd) (cnt:Nd→Bool):Prop where
 enters:∀ (args:Array Value) (w':World),(callFunc fid args).run Tryz.prog w' = .ok (.enter fid args) w'
 calls:∀ (W:World) (n:Nd) (v:Value),n∈nodes→AX W F v n→Below w.heap.size w W→Calls Tryz.prog fid (#[v]++caps) W (Ret W fun u _=>u = .bool (cnt n))
def dB (n:Nd):Bool:=n.kind != 3
def ownB (p:Int) (n:Nd):Bool:=n.kind==2&&n.aH==p
def nY (p:Int) (n:Nd):Bool:=n.kind != 3&&(n.kind != 2||n.aH != p)
theorem AX.cells {w:World} {F:Ag} {v:Value} {n:Nd} (h:AX w F v n):∃ A3 c3 A4 c4 A5 c5,v = .agg #[.int .i64 n.kind,.int .i64 n.aH,.int .i64 n.info,.slice A3 n.next.length c3,.slice A4 n.weights.length c4,.slice A5 n.pay.length c5]:=by
 obtain⟨v3,v4,v5,rfl,⟨A3,c3,rfl,_⟩,⟨A4,c4,rfl,_⟩,⟨A5,c5,rfl,_⟩⟩:=h;exact⟨A3,c3,A4,c4,A5,c5,rfl⟩
theorem oL (w:World) (F:Ag) (v:Value) (n:Nd) (hv:AX w F v n):Calls Tryz.prog 49 #[v] w (Ret w fun u _=>u = .bool (dB n)):=by
 obtain⟨A3,c3,A4,c4,A5,c5,rfl⟩:=hv.cells;clear hv;obtain⟨b,hb⟩:∃ b,b=dB n:=⟨_,rfl⟩;rw[← hb];have HB:=Ac hb;unfold dB at hb;cases b
 all_goals
  have t1:=hb.symm;clear hb;go_enter Tryz.func49,Tryz.ntmps49;go_wp2
  go_ret;exact⟨_,rfl,(Below.refl _ _).alloc (Nat.le_refl _) _,rfl⟩
theorem ai8 (w:World) (F:Ag) (v:Value) (n:Nd) (pb:Nat) (p:Int) (hp:w.cell? ⟨pb,0,none⟩=some (.int .i64 p)) (hv:AX w F v n):Calls Tryz.prog 53 #[v,.pointer (some ⟨pb,0,none⟩)] w (Ret w fun u _=>u = .bool (ownB p n)):=by
 obtain⟨A3,c3,A4,c4,A5,c5,rfl⟩:=hv.cells;clear hv;have hpl:=World.block_lt_of_cell? w _ hp;simp only at hpl;have HB:=Ac (show ownB p n=(n.kind==2&&n.aH==p) from rfl);by_cases hk:n.kind=2
 ·have t1:(n.kind==2)=true:=by simp[hk]
  by_cases hq:n.aH=p
  ·have t2:(n.aH==p)=true:=by simp[hq]
   have HF:=Ac (show ownB p n=true by rw[HB.out,t1,t2]; rfl);clear hk hq;go_enter Tryz.func53,Tryz.ntmps53;go_wp2
   go_ret;exact⟨_,rfl,(Below.refl _ _).alloc (Nat.le_refl _) _,by rw[HF.out]; rfl⟩
  ·have t2:(n.aH==p)=false:=by simpa using hq
   have HF:=Ac (show ownB p n=false by rw[HB.out,t1,t2]; rfl);clear hk hq;go_enter Tryz.func53,Tryz.ntmps53;go_wp2
   go_ret;exact⟨_,rfl,(Below.refl _ _).alloc (Nat.le_refl _) _,by rw[HF.out]; rfl⟩
 ·have t1:(n.kind==2)=false:=by simpa using hk
  have HF:=Ac (show ownB p n=false by rw[HB.out,t1]; rfl);clear hk;go_enter Tryz.func53,Tryz.ntmps53;go_wp2
  go_ret;exact⟨_,rfl,(Below.refl _ _).alloc (Nat.le_refl _) _,by rw[HF.out]; rfl⟩
theorem aiu (w:World) (F:Ag) (v:Value) (n:Nd) (pb:Nat) (p:Int) (hp:w.cell? ⟨pb,0,none⟩=some (.int .i64 p)) (hv:AX w F v n):Calls Tryz.prog 55 #[v,.pointer (some ⟨pb,0,none⟩)] w (Ret w fun u _=>u = .bool (nY p n)):=by
 have HV:=Ac hv;obtain⟨A3,c3,A4,c4,A5,c5,rfl⟩:=hv.cells;clear hv;have HB:=Ac (show nY p n=(dB n&&(n.kind != 2||n.aH != p)) from rfl);go_enter Tryz.func55,Tryz.ntmps55;go_wp2_with fail
 obtain⟨W,hW,rx,hB,hz⟩:=aB w 67 #[.int .i64 n.kind,.int .i64 n.aH,.int .i64 n.info,.slice A3 n.next.length c3,.slice A4 n.weights.length c4,.slice A5 n.pay.length c5];rw[← hW];clear hW hz;replace HV:=Ac (HV.out.on (Below.same' hB F));replace hp:=ah hp hB;have x0:=rx.cell (i:=0) rfl;have x1:=rx.cell (i:=1) rfl;have x2:=rx.cell (i:=2) rfl;have x3:=rx.cell (i:=3) rfl;have x4:=rx.cell (i:=4) rfl;have x5:=rx.cell (i:=5) rfl;clear rx;go_wp2_with fail
 refine(oL W F _ n HV.out).mono ?_;rintro e wn ⟨u,rfl,hb,rfl⟩;replace x0:=ah x0 hb;replace x1:=ah x1 hb;replace x2:=ah x2 hb;replace x3:=ah x3 hb;replace x4:=ah x4 hb;replace x5:=ah x5 hb;replace hp:=ah hp hb;replace hB:=hB.trans (hb.mono hB.size);clear hb;cases hi:dB n
 ·have HF:=Ac (show nY p n=false by rw[HB.out,hi]; rfl);clear hi;dsimp only;go_wp2
  go_ret;exact⟨_,rfl,hB,by rw[HF.out]; rfl⟩
 ·by_cases hk:n.kind=2
  ·have t1:(n.kind != 2)=false:=by simp[hk]
   by_cases hq:n.aH=p
   ·have t2:(n.aH != p)=false:=by simp[hq]
    have HF:=Ac (show nY p n=false by rw[HB.out,hi,t1,t2]; rfl);clear hk hq hi;dsimp only;go_wp2
    go_ret;exact⟨_,rfl,hB,by rw[HF.out]; rfl⟩
   ·have t2:(n.aH != p)=true:=by simpa using hq
    have HF:=Ac (show nY p n=true by rw[HB.out,hi,t1,t2]; rfl);clear hk hq hi;dsimp only;go_wp2
    go_ret;exact⟨_,rfl,hB,by rw[HF.out]; rfl⟩
  ·have t1:(n.kind != 2)=true:=by simpa using hk
   have HF:=Ac (show nY p n=true by rw[HB.out,hi,t1]; rfl);clear hk hi;dsimp only;go_wp2
   go_ret;exact⟨_,rfl,hB,by rw[HF.out]; rfl⟩
theorem aeA:∀ {mr:List (List Raw)},(∀ l∈mr,∃ xs:List Rat,l=xs.map au)→∃ m:List (List Rat),mr=m.map (List.map au)
 | [],_=>⟨[],rfl⟩
 | l :: mr,h=>by
  obtain⟨xs,hx⟩:=h l (List.mem_cons_self);obtain⟨m,hm⟩:=aeA (mr:=mr) (fun l hl=>h l (List.mem_cons_of_mem _ hl));exact⟨xs :: m,by rw[hx,hm]; rfl⟩
theorem qQ {g:Gm} {mr:List (List Raw)} (h:bF g mr=0):dP g=0:=by
 unfold bF at h;by_cases h1:dP g=0
 ·exact h1
 ·rw[if_pos h1] at h; exact h
theorem acN {g:Gm} {mr:List (List Raw)} (h:bF g mr=0):lS (g.infos.map Inf.actions) mr=0:=by
 have h1:=qQ h;unfold bF at h;rwa [if_neg (by simpa using h1)] at h
theorem abv {a:Int} {l:List Raw} (h:kN a l=0):(l.length:Int)=a∧lW l=0∧iH (pq (l.map vT)) 1=0:=by
 unfold kN at h;split at h
 ·omega
 rename_i h1
 split at h
 ·omega
 rename_i h2
 split at h
 ·omega
 rename_i h3
 exact⟨by omega,by omega,by omega⟩
theorem adW {acts:List Int} {mr:List (List Raw)} (h:lS acts mr=0):mr.length=acts.length∧∀ (k:Nat) (a:Int) (l:List Raw),acts[k]? = some a→mr[k]? = some l→kN a l=0:=by
 unfold lS at h;split at h
 ·omega
 rename_i h1
 exact⟨by omega,fun k a l ha hl=>vS h _ (List.mem_of_getElem? (xX ha hl))⟩
theorem abw {g:Gm} (h:dP g=0):1≤g.ak∧g.ak≤4:=by
 unfold dP at h;split at h
 ·omega
 ·rename_i h1
  unfold iL at h1; omega
theorem aeB:∀ (l:List Int) (a:Int) (k:Nat),(∀ x∈l,1≤x∧x≤1000)→a+l.length≤l.foldl (· + ·) a∧l.foldl (· + ·) a≤a+1000*l.length
 | [],a,k,_=>by simp
 | x :: l,a,k,h=>by
  have h1:=h x (List.mem_cons_self);have h2:=aeB l (a+x) k (fun y hy=>h y (List.mem_cons_of_mem _ hy));rw[List.foldl_cons,List.length_cons];omega
theorem nD {l:List Int} (h:∀ x∈l,1≤x∧x≤1000):(l.length:Int)≤oJ l∧oJ l≤1000*l.length:=by
 have:=aeB l 0 0 h;unfold oJ; omega
theorem jB {ak:Int} {ni:Nat} {nodes:List Nd} (h:cZ ak ni nodes=0) {n:Nd} (hn:n∈nodes) (hk:n.kind=1):n.weights.length=n.next.length∧1≤n.next.length∧n.next.length≤60∧∀ x∈n.weights,1≤x∧x≤1000:=by
 have h1:=iC h n hn;unfold aN at h1;rw[if_pos hk] at h1;unfold bQ at h1;split at h1
 ·omega
 ·rename_i h2
  split at h1
  ·omega
  ·rename_i h3
   refine⟨by omega,by omega,by omega,fun x hx=>?_⟩;have h4:outside 1 1000 n.weights=false:=by simpa using h3
   unfold outside at h4;have:=List.any_eq_false.1 h4 x hx;simp at this;omega
theorem kX {ak:Int} {ni:Nat} {nodes:List Nd} (h:cZ ak ni nodes=0) {n:Nd} (hn:n∈nodes) (hk:n.kind=2):1≤n.next.length∧n.next.length≤10∧0≤n.aH∧n.aH < ak∧0≤n.info∧n.info < (ni:Int):=by
 have h1:=iC h n hn;unfold aN at h1;rw[if_neg (by omega),if_pos hk] at h1;unfold dK at h1;split at h1
 ·omega
 ·rename_i h2
  split at h1
  ·omega
  ·exact⟨by omega,by omega,by omega,by omega,by omega,by omega⟩
theorem kinds {ak:Int} {ni:Nat} {nodes:List Nd} (h:cZ ak ni nodes=0) {n:Nd} (hn:n∈nodes):n.kind=1∨n.kind=2∨n.kind=3:=by
 have h1:=iC h n hn;unfold aN at h1;split at h1
 ·exact .inl ‹_›
 ·split at h1
  ·exact .inr (.inl ‹_›)
  ·split at h1
   ·exact .inr (.inr ‹_›)
   ·omega
theorem adX {g:Gm} (h:dP g=0) {n:Nd} (hn:n∈g.nodes) (hk:n.kind=2):∃ inf,g.infos[n.info.toNat]? = some inf∧inf.actions=n.next.length∧inf.aH=n.aH:=by
 obtain⟨h2,h5⟩:=qP h;have h6:=kX h2 hn hk;unfold kH at h5;split at h5
 ·omega
 rename_i ht
 obtain⟨inf,hi⟩:=ay (l:=g.infos) (k:=n.info.toNat) (by omega);have e2:dF g.infos n=false:=by
  cases hb:dF g.infos n with
  | false=>rfl
  | true=>exact absurd (List.any_eq_true.2 ⟨n,hn,hb⟩) ht
 unfold dF at e2;rw[decide_eq_true hk,Bool.true_and,Bool.or_eq_false_iff,List.getD_eq_getElem?_getD,hi] at e2;have e3:=of_decide_eq_false e2.1;have e4:=of_decide_eq_false e2.2;simp only[Option.getD_some] at e3 e4;exact⟨inf,hi,by omega,by omega⟩
theorem ahJ {a b:Int} (ha:1≤a∧a≤1000) (hb:1≤b∧b≤60000):rl ((a:Rat) / (b:Rat))≤4:=by
 have h1:rl (a:Rat)≤1:=by
  rw[yj];have:(dig a.natAbs).length≤1:=aQ (by unfold LB; omega);omega
 have h2:rl (b:Rat)≤1:=by
  rw[yj];have:(dig b.natAbs).length≤1:=aQ (by unfold LB; omega);omega
 have hb0:(b:Rat)≠0:=fun e=>by
  have:b=0:=Rat.intCast_inj.1 e;omega
 rw[Rat.div_def];have h3:=tq (a:Rat) (b:Rat)⁻¹;rw[af2 hb0] at h3;omega
def CO (mr:List (List Raw)):Prop:=∀ l∈mr,∀ r∈l,r.num.length≤4∧r.den.length≤4
theorem agV {g:Gm} {mr:List (List Raw)} (h:bF g mr=0) (hL:CO mr):∃ m:List (List Rat),mr=m.map (List.map au)∧Fit g m∧∀ l∈m,pq l=1∧∀ x∈l,dh x=false:=by
 have hf:=qQ h;obtain⟨hlen,hrows⟩:=adW (acN h);have hrow:∀ l∈mr,∃ a:Int,kN a l=0:=by
  intro l hl;obtain⟨k,hk⟩:=List.getElem?_of_mem hl;obtain⟨a,ha⟩:=ay (l:=g.infos.map Inf.actions) (k:=k) (by have:=aG hk; omega);exact⟨a,hrows k a l ha hk⟩
 obtain⟨m,rfl⟩:=aeA (mr:=mr) (fun l hl=>by
  obtain⟨a,ha⟩:=hrow l hl;obtain⟨xs,hx,_⟩:=tJ (abv ha).2.1;exact⟨xs,hx⟩)
 obtain⟨hne,_⟩:=qP hf;refine⟨m,rfl,⟨abm hf,hne,abw hf,by simpa using hlen,fun n hn hk=>?_⟩,fun l hl=>?_⟩
 ·rcases kinds hne hn with k1 | k1 | k1
  ·obtain⟨c1,c2,c3,c4⟩:=jB hne hn k1;have hs:=nD c4;unfold bJ;rw[if_neg (by omega),List.length_map];refine⟨c1,fun x hx=>?_⟩;obtain⟨y,hy,rfl⟩:=List.mem_map.1 hx;exact ahJ (c4 y hy) (by omega)
  ·obtain⟨inf,hi,ha,_⟩:=adX hf hn k1;obtain⟨l,hl⟩:=ay (l:=m) (k:=n.info.toNat) (by have:=aG hi; simp at hlen; omega);have hr:=hrows n.info.toNat inf.actions (l.map au) (by rw[List.getElem?_map,hi]; rfl) (by rw[List.getElem?_map,hl]; rfl);have hll:=(abv hr).1;rw[List.length_map] at hll;unfold bJ;rw[if_pos k1,List.getD_eq_getElem?_getD,hl,Option.getD_some];refine⟨by omega,fun x hx=>?_⟩;have:=hL (l.map au) (List.mem_map_of_mem (List.mem_of_getElem? hl)) (au x) (List.mem_map_of_mem hx);exact Nat.max_le.2 this
  ·exact absurd k1 hk
 ·obtain⟨a,ha⟩:=hrow (l.map au) (List.mem_map_of_mem hl);obtain⟨_,h2,h3⟩:=abv ha;rw[abV] at h3;refine⟨(zN _ _).1 h3,fun x hx=>?_⟩;have h4:=vS h2 (fD (au x)) (List.mem_map_of_mem (List.mem_map_of_mem hx));obtain⟨y,hy,_,hn⟩:=aau h4;rw[aat hy]; exact hn
open List renaming getElem_toArray → lq1, getElem_cons_zero → lq2, getElem_cons_succ → lq3, setIfInBounds_toArray → lq4, set_cons_zero → lq5, set_cons_succ → lq6
theorem abx (w:World) (x tot:Int) (tb:Nat) (hx1:-1000000000000≤x) (hx2:x≤1000000000000) (ht1:-1000000000000≤tot) (ht2:tot≤1000000000000) (ht0:tot≠0) (hc:w.cell? ⟨tb,0,none⟩=some (.int .i64 tot)) :
  Calls Tryz.prog 120 #[.int .i64 x,.pointer (some ⟨tb,0,none⟩)] w (Ret w fun u w'=>NmV w' (fun b=>w.heap.size≤b) u ((x:Rat) / (tot:Rat))):=by
 obtain⟨q,hq⟩:∃ q:Rat,q=(x:Rat) / (tot:Rat):=⟨_,rfl⟩;have HC:=Ac (fun W=>afj W x tot hx1 hx2 ht1 ht2 ht0);rw[← hq] at HC ⊢;clear hq;have htl:=World.block_lt_of_cell? w _ hc;simp only at htl;go_enter Tryz.func120,Tryz.ntmps120;go_wp2_with fail
 obtain⟨W,hW,rz,hB,hz⟩:=aB w 97 #[.bool false,.slice none 0 0,.slice none 0 0];rw[← hW];clear hW;have hzz:=hB.size;replace hc:=ah hc hB;go_wp2_with fail
 refine(HC.out W).mono ?_;rintro e wn ⟨u,rfl,hb,hu⟩;have HU:=Ac (hu.mono (G:=fun b=>w.heap.size+1≤b) (fun b hb _=>by omega));obtain⟨Am,cm,Bm,dm,rfl,hn,hd⟩:=hu.open;have hB2:=hB.trans (hb.mono hzz);replace rz:=rz.below hb rz.lt;clear hu hn hd hb hc;dsimp only;have q0:=rz.cell (i:=0) rfl;have y0:=rz.frozen 0;have q1:=rz.cell (i:=1) rfl;have y1:=rz.frozen 1;have q2:=rz.cell (i:=2) rfl;have y2:=rz.frozen 2;go_wp2
 obtain⟨Wz,hWz,hrz,hwz,hkz⟩:=aW rz (.bool (aj q).neg) (.slice Am (aj q).num.length cm) (.slice Bm (aj q).den.length dm);rw[← hWz];clear hWz q0 q1 q2 y0 y1 y2;have t0:=hrz.cell (i:=0) rfl;have t1:=hrz.cell (i:=1) rfl;have t2:=hrz.cell (i:=2) rfl;refine bodyPost_ret (v:=.agg #[.bool (aj q).neg,.slice Am (aj q).num.length cm,.slice Bm (aj q).den.length dm]) (by simp[results,Tryz.results120,go_sem,t0,t1,t2]) rfl ?_;exact⟨_,rfl,hwz _ _ (Nat.le_refl _) hB2,HU.out.keep (fun b hb _=>by omega) (hkz _ (by omega))⟩
theorem zk {m:List (List Rat)} {n:Nd} (hk:n.kind=2):bJ m n=m.getD n.info.toNat []:=by unfold bJ; rw[if_pos hk]
theorem uY {m:List (List Rat)} {n:Nd} (hk:n.kind≠2):bJ m n=n.weights.map fun x:Int=>(x:Rat) / ((oJ n.weights:Int):Rat):=by unfold bJ; rw[if_neg hk]
def BZ (F:Ag) (B:Nat) (m:List (List Rat)) (n:Nd) (u:Value) (w':World):Prop:=(∃ b c,u = .slice (some ⟨b,0,none⟩) (bJ m n).length c)∧Bg w' (Ext F B) u (bJ m n)
theorem aby (w:World) (F:Ag) (bp:Nat) (g:Gm) (m:List (List Rat)) (up place:List Int) (vn vi vu vp vm v:Value) (n:Nd) (hp:Bh w F bp g m up place vn vi vu vp vm) (hv:AX w F v n) (hf:Fit g m) (hn:n∈g.nodes) (hk:n.kind=2) (hml:m.length≤100000) :
  Calls Tryz.prog 88 #[.pointer (some ⟨bp,0,none⟩),v] w (Ret w (BZ F w.heap.size m n)):=by
 obtain⟨A3,c3,A4,c4,A5,c5,rfl⟩:=hv.cells;clear hv;have hmv:=kX hf.nodes hn hk;have hch:=hf.chan n hn (by omega);obtain⟨ik,hik⟩:∃ ik:Nat,n.info=(ik:Int):=⟨n.info.toNat,by omega⟩;have hil:ik < m.length:=by rw[hf.rows]; omega
 obtain⟨l,hl⟩:=ay hil;have hcl:bJ m n=l:=by rw[zk hk,hik,Int.toNat_natCast,List.getD_eq_getElem?_getD,hl]; rfl
 unfold BZ;rw[hcl] at hch ⊢;have HRL:=Ac hch.2;have hnl:=hch.1;have hl10:l.length≤10:=by omega
 have t1:(n.kind==2)=true:=by simp[hk]
 have hmx:=hp.mixed;have hmc:=hp.row.cell (i:=5) rfl;obtain⟨Am,cm,rfl,hcm,hM⟩:=hmx;rw[List.length_map] at hcm hM;obtain⟨bm,om,rfl,hFm,hbm,hx⟩:=hM (by omega);obtain⟨ur,eu,hrow⟩:=hx ik (l.map au) (by rw[List.getElem?_map,hl]; rfl);rw[Nat.mul_one] at eu;rw[List.length_map] at hmc;have HRW:=Ac (show BH w F ur l from hrow);obtain⟨Ar,cr,rfl,hcr,_⟩:=hrow;rw[List.length_map] at eu HRW hcr;rw[hik];clear hx hM hmv hch hl hcl hik hk hf hn hp hnl;go_enter Tryz.func88,Tryz.ntmps88;go_wp2_with fail
 obtain⟨W,hW,rx,hB,hz⟩:=aB w 67 #[.int .i64 n.kind,.int .i64 n.aH,.int .i64 (ik:Int),.slice A3 n.next.length c3,.slice A4 n.weights.length c4,.slice A5 n.pay.length c5];rw[← hW];clear hW;have hzz:=hB.size;replace hmc:=ah hmc hB;replace eu:=ah eu hB;replace HRW:=Ac (HRW.out.below hB);have x0:=rx.cell (i:=0) rfl; have x2:=rx.cell (i:=2) rfl;clear rx hz;go_wp2_with fail
 refine wp_region_held_drew (S:=fun w'=>w'.cell? ⟨bp,5,none⟩=some (.slice (some ⟨bm,om,none⟩) m.length cm)∧w'.cell? ⟨bm,om+ik,none⟩=some (.slice Ar l.length cr)∧w'.cell? ⟨w.heap.size,2,none⟩=some (.int .i64 (ik:Int))) (by kernel_rfl) ⟨hmc,eu,x2⟩ (fun hHeld=>?_);have hb:Below W.heap.size W W.drew:=aC (Below.refl _ W) 1;replace hmc:=ah hmc hb;replace eu:=ah eu hb;replace x2:=ah x2 hb;replace HRW:=Ac (HRW.out.below hb);replace hzz:=Nat.le_trans hzz hb.size;replace hB:=hB.trans (hb.mono hB.size);clear hb;generalize W.drew=wn at *;refine tk0 [0,1,2,3,4,5,6,7] ?_;iterate 8 (refine tk (v:=?_) rfl (by kernel_rfl) (by kernel_rfl) (by kernel_rfl) (fun _ _ _ h=>h) (Or.inl ⟨by rfl,?_⟩) hHeld ?_;rotate_left;(focus intro wx hSx;(try dsimp only at hSx);go_split_ands;go_simp;try with_reducible rfl);try simp only[Act.put,lq1,lq2,lq3,lq4,lq5,lq6])
 refine tk1 ?_;refine tk2 8 (by kernel_rfl) rfl fun K hK=>?_
 go_simp;refine(aci wn F _ l HRW.out (by omega) (fun x hx=>by have:=HRL.out x hx; omega)).mono ?_;rintro e wn ⟨u,rfl,hb,hu1,hu2⟩;obtain⟨bb,rfl⟩:∃ bb,u = .slice (some ⟨bb,0,none⟩) l.length l.length:=⟨_,hu1⟩;clear hu1;have HU:=Ac (Aj.keep (G:=Ext F w.heap.size) hu2 (fun b hb _=>hb.elim .inl fun h=>.inr (by omega)) (Same.refl _ _));clear hu2;replace hmc:=ah hmc hb;replace eu:=ah eu hb;replace x2:=ah x2 hb;replace HRW:=Ac (HRW.out.below hb);replace hzz:=Nat.le_trans hzz hb.size;replace hB:=hB.trans (hb.mono hB.size);clear hb;dsimp only;clear hHeld;refine hK.out _ _ ⟨hmc,eu,x2⟩ (fun hHeld=>?_);clear hK K;try simp only[Act.put,lq1,lq2,lq3,lq4,lq5,lq6]
 refine tk0 [9] ?_;(refine tk (v:=?_) rfl (by kernel_rfl) (by kernel_rfl) (by kernel_rfl) (fun _ _ _ h=>h) (Or.inl ⟨by rfl,?_⟩) hHeld ?_;rotate_left;(focus intro wx hSx;(try dsimp only at hSx);go_split_ands;go_simp;try with_reducible rfl);try simp only[Act.put,lq1,lq2,lq3,lq4,lq5,lq6])
 refine tk1 ?_;refine wpAnyH_done (by kernel_rfl) ?_ _;clear hHeld;show Exit.then _ _ .normal _ _;go_wp2
 go_ret;exact⟨_,rfl,hB,⟨_,_,rfl⟩,HU.out⟩
theorem zl (w:World) (F:Ag) (bp:Nat) (g:Gm) (m:List (List Rat)) (v:Value) (n:Nd) (hv:AX w F v n) (hne:cZ g.ak g.infos.length g.nodes=0) (hn:n∈g.nodes) (hk:n.kind=1) :
  Calls Tryz.prog 88 #[.pointer (some ⟨bp,0,none⟩),v] w (Ret w (BZ F w.heap.size m n)):=by
 obtain⟨c1,c2,c3',c4'⟩:=jB hne hn hk;have hsr:=nD c4';unfold BZ;rw[uY (by omega),List.length_map];have hwl:n.weights.length≤60:=by omega
 have hwl1:1≤n.weights.length:=by omega
 have HW4:=Ac c4';have hpart:∀ k,k≤n.weights.length→0≤oJ (n.weights.take k)∧oJ (n.weights.take k)≤1000*k:=fun k hk=>by
  have h1:=nD (l:=n.weights.take k) (fun x hx=>c4' x (List.mem_of_mem_take hx));have h2:(n.weights.take k).length≤k:=by simp; omega
  omega
 have HPT:=Ac hpart;obtain⟨tot,htot⟩:∃ tot,tot=oJ n.weights:=⟨_,rfl⟩;rw[← htot] at hsr ⊢;have htb1:1≤tot:=by omega
 have htb2:tot≤60000:=by omega
 have HT:=Ac htot;have t1:(n.kind==2)=false:=by simp; omega
 clear hpart c1 c2 c3' c4' hsr htot hk hne hn;have HWV:=Ac (show ∃ v3 v4 v5,v = .agg #[.int .i64 n.kind,.int .i64 n.aH,.int .i64 n.info,v3,v4,v5]∧Aw w F v4 n.weights from by obtain⟨v3,v4,v5,h,_,h4,_⟩:=hv; exact⟨v3,v4,v5,h,h4⟩);obtain⟨v3,v4,v5,rfl,⟨A3,c3,rfl,_⟩,h4,⟨A5,c5,rfl,_⟩⟩:=hv;have H4:=Ac h4;obtain⟨A4,c4,rfl,hc4,hx4⟩:=h4;have HX:=Ac hx4;clear hx4 HWV;go_enter Tryz.func88,Tryz.ntmps88;go_wp2_with fail
 obtain⟨W,hW,rx,rt,hB,hz⟩:=alloc2 w 67 #[.int .i64 n.kind,.int .i64 n.aH,.int .i64 n.info,.slice A3 n.next.length c3,.slice A4 n.weights.length c4,.slice A5 n.pay.length c5] 3 #[.int .i64 0];rw[← hW];clear hW;have hzz:=hB.size;have x4:=rx.cell (i:=4) rfl;have hz:w.heap.size+2≤W.heap.size:=hz;go_loopw [23] (fun i wr=>∃ k:Nat,k≤n.weights.length∧i = .int .i64 (k:Int)∧Row wr w.heap.size 67 [.int .i64 n.kind,.int .i64 n.aH,.int .i64 n.info,.slice A3 n.next.length c3,.slice A4 n.weights.length c4,.slice A5 n.pay.length c5]∧Row wr (w.heap.size+1) 3 [.int .i64 (oJ (n.weights.take k))]∧Below w.heap.size w wr) (fun i _=>n.weights.length - (intOf i).toNat)
 case atStart=>exact⟨0,by omega,rfl,rx,rt,hB⟩
 case round =>
  clear rx rt hB hzz hz x4;obtain⟨k,hk,rfl,rx,rt,hB⟩:=hrel;obtain⟨sk,hsk⟩:∃ sk,sk=oJ (n.weights.take k):=⟨_,rfl⟩;have hpt:=HPT.out k hk;rw[← hsk] at rt hpt;have HSK:=Ac hsk; clear hsk;by_cases hlt:k < n.weights.length
  ·obtain⟨b,o,rfl,hF,hb,hx⟩:=HX.out (by omega);obtain⟨x,hx'⟩:=ay hlt;have ex:=hx k x hx';unfold jv at ex;rw[Nat.mul_one] at ex;replace ex:=ah ex (hB.mono (Nat.le_refl _));have hxb:=HW4.out x (List.mem_of_getElem? hx');have HXX:=Ac hx';have y0:=rt.cell (i:=0) rfl; have y1:=rt.frozen 0;clear hx hx';go_wp2
   have rt2:=rt.set 0 (.int .i64 (sk+x));have rx2:=rx.other (a:=⟨w.heap.size+1,0,none⟩) (by simp) (.int .i64 (sk+x));have hB2:=hB.setCell (p:=⟨w.heap.size+1,0,none⟩) (by simp) (.int .i64 (sk+x));go_roundw
   case rel=>exact⟨k+1,by omega,by go_num,rx2,by rw[take_snoc HXX.out,aaD,← HSK.out]; exact rt2,hB2⟩
   case measure=>simp[intOf]; omega
  ·have hst:sk=tot:=by rw[HSK.out,HT.out,List.take_of_length_le (by omega)]
   subst hst;have x4:=rx.cell (i:=4) rfl;have tc:=rt.cell (i:=0) rfl;have hNF:DF wr 120 #[.pointer (some ⟨w.heap.size+1,0,none⟩)] n.weights (fun x=>(x:Rat) / (sk:Rat)) :=
    ⟨enters' Tryz.func120 (by kernel_rfl) (by kernel_rfl),fun W' x hx hb=>abx W' x sk (w.heap.size+1) (by have:=HW4.out x hx; omega) (by have:=HW4.out x hx; omega) (by omega) (by omega) (by omega) (ah tc hb)⟩
   have H4':=Ac (H4.out.on (Below.same' hB F));have HN:=Ac hNF;clear hNF;go_wp2_with fail
   refine(wV wr F _ n.weights _ _ _ H4'.out (by omega) HN.out).mono ?_;rintro e wn ⟨u,rfl,hb,hu1,hu2⟩;obtain⟨bb,rfl⟩:∃ bb,u = .slice (some ⟨bb,0,none⟩) n.weights.length n.weights.length:=⟨_,hu1⟩;have hzz:=hB.size;have HU:=Ac (Aj.keep (G:=Ext F w.heap.size) hu2 (fun b hb _=>.inr (by omega)) (Same.refl _ _));have hB2:=hB.trans (hb.mono hB.size);clear hu1 hu2 hb tc x4 HN;dsimp only;go_wp2
   go_ret;exact⟨_,rfl,hB2,⟨_,_,rfl⟩,HU.out⟩
theorem xk (w:World) (F:Ag) (bp:Nat) (g:Gm) (m:List (List Rat)) (up place:List Int) (vn vi vu vp vm v:Value) (n:Nd) (hp:Bh w F bp g m up place vn vi vu vp vm) (hv:AX w F v n) (hf:Fit g m) (hn:n∈g.nodes) (hk:n.kind≠3) (hml:m.length≤100000) :
  Calls Tryz.prog 88 #[.pointer (some ⟨bp,0,none⟩),v] w (Ret w (BZ F w.heap.size m n)):=by
 rcases kinds hf.nodes hn with k1 | k1 | k1
 ·exact zl w F bp g m v n hv hf.nodes hn k1
 ·exact aby w F bp g m up place vn vi vu vp vm v n hp hv hf hn k1 hml
 ·exact absurd k1 hk
structure Laid (g:Gm) (U P:List Int) (i k:Nat):Prop where
 abt:U.length=g.nodes.length
 abu:P.length=g.nodes.length
 root:U[0]? = some (-1)
 kid:∀ i' k' c,Kid g.nodes i' k' c→(i' < i∨(i'=i∧k' < k))→U[c]? = some (i':Int)∧P[c]? = some (k':Int)
theorem Laid.start {g:Gm} (h0:0 < g.nodes.length):Laid g ((List.replicate g.nodes.length 0).set 0 (-1)) (List.replicate g.nodes.length 0) 0 0 :=
 ⟨by simp,by simp,by simp[h0],fun i' k' c _ h=>by omega⟩
theorem Laid.step {g:Gm} (hg:Good g) {U P:List Int} {i k c:Nat} (h:Laid g U P i k) (hk:Kid g.nodes i k c):Laid g (U.set c (i:Int)) (P.set c (k:Int)) i (k+1):=by
 have hl:=hg.qM hk;refine⟨by rw[List.length_set]; exact h.abt,by rw[List.length_set]; exact h.abu,by rw[List.getElem?_set_ne (by omega)]; exact h.root,fun i' k' c' hk' hlt=>?_⟩;by_cases e:c'=c
 ·subst e;obtain⟨rfl,rfl⟩:=hg.abn hk' hk;rw[List.getElem?_set_self (by rw[h.abt]; omega),List.getElem?_set_self (by rw[h.abu]; omega)];exact⟨rfl,rfl⟩
 ·rw[List.getElem?_set_ne (fun h=>e h.symm),List.getElem?_set_ne (fun h=>e h.symm)];refine h.kid i' k' c' hk' ?_;rcases hlt with h1 | ⟨h1,h2⟩
  ·exact .inl h1
  ·by_cases e2:k'=k
   ·subst e2; subst h1;obtain⟨n,hn,hc⟩:=hk;obtain⟨n',hn',hc'⟩:=hk';rw[hn] at hn'; cases hn';rw[hc] at hc'; injection hc' with e3
    exact absurd (Int.ofNat_inj.1 e3).symm e
   ·exact .inr ⟨h1,by omega⟩
theorem Laid.next {g:Gm} {U P:List Int} {i k:Nat} {n:Nd} (h:Laid g U P i k) (hn:g.nodes[i]? = some n) (hk:n.next.length≤k):Laid g U P (i+1) 0 :=
 ⟨h.abt,h.abu,h.root,fun i' k' c hk' hlt=>h.kid i' k' c hk' (by
  rcases hlt with h1 | ⟨_,h2⟩
  ·by_cases e:i'=i
   ·subst e;obtain⟨n',hn',hc⟩:=hk';rw[hn] at hn'; cases hn';have:=aG hc;exact .inr ⟨rfl,by omega⟩
   ·exact .inl (by omega)
  ·omega)⟩
theorem Laid.done {g:Gm} {U P:List Int} {i k:Nat} (h:Laid g U P i k) (hi:g.nodes.length≤i):Layout g U P :=
 ⟨h.abt,h.abu,h.root,fun i' k' c hk'=>h.kid i' k' c hk' (.inl (by
  obtain⟨n,hn,_⟩:=hk';have:=aG hn;omega))⟩
structure VSt (w:World) (g:Gm) (A:Option Addr) (c:Nat) (Ai:Option Addr) (ci:Nat) (vm:Value) (bp bu bl:Nat) (U P:List Int) (wr:World):Prop where
 box:Row wr w.heap.size 25 [.int .i64 g.ak,.slice A g.nodes.length c,.slice Ai g.infos.length ci]
 play:Row wr bp 133 [.int .i64 g.ak,.slice A g.nodes.length c,.slice Ai g.infos.length ci,.slice (some ⟨bu,0,none⟩) g.nodes.length g.nodes.length,.slice (some ⟨bl,0,none⟩) g.nodes.length g.nodes.length,vm]
 ru:Row wr bu 3 (aY U)
 rl:Row wr bl 3 (aY P)
 bel:Below w.heap.size w wr
structure VAp (B bp bu bl:Nat):Prop where
 p:B < bp
 u:B < bu
 l:B < bl
 pu:bp≠bu
 pl:bp≠bl
 ul:bu≠bl
section
variable {w:World} {g:Gm} {A:Option Addr} {c:Nat} {Ai:Option Addr} {ci:Nat} {vm:Value} {bp bu bl:Nat} {U P:List Int} {wr wr':World}
theorem VSt.below (h:VSt w g A c Ai ci vm bp bu bl U P wr) (k:Below wr.heap.size wr wr'):VSt w g A c Ai ci vm bp bu bl U P wr' :=
 ⟨h.box.below k h.box.lt,h.play.below k h.play.lt,h.ru.below k h.ru.lt,h.rl.below k h.rl.lt,h.bel.trans (k.mono h.bel.size)⟩
theorem VSt.drew (h:VSt w g A c Ai ci vm bp bu bl U P wr):VSt w g A c Ai ci vm bp bu bl U P wr.drew:=⟨h.box,h.play,h.ru,h.rl,h.bel.drew⟩
theorem VSt.setU (h:VSt w g A c Ai ci vm bp bu bl U P wr) (ap:VAp w.heap.size bp bu bl) (i:Nat) (x:Int):VSt w g A c Ai ci vm bp bu bl (U.set i x) P (wr.setCell ⟨bu,i,none⟩ (.int .i64 x)) :=
 ⟨h.box.other (by have:=ap.u; simp; omega) _,h.play.other ap.pu _,by simpa [aY,List.map_set] using h.ru.set i (.int .i64 x),h.rl.other ap.ul.symm _,h.bel.setCell (by have:=ap.u; simp; omega) _⟩
theorem VSt.setP (h:VSt w g A c Ai ci vm bp bu bl U P wr) (ap:VAp w.heap.size bp bu bl) (i:Nat) (x:Int):VSt w g A c Ai ci vm bp bu bl U (P.set i x) (wr.setCell ⟨bl,i,none⟩ (.int .i64 x)) :=
 ⟨h.box.other (by have:=ap.l; simp; omega) _,h.play.other ap.pl _,h.ru.other ap.ul _,by simpa [aY,List.map_set] using h.rl.set i (.int .i64 x),h.bel.setCell (by have:=ap.l; simp; omega) _⟩
end
theorem uZ (w:World) (F:Ag) (vg vm:Value) (g:Gm) (m:List (List Rat)) (hg:AA w F vg g) (hsm:Small g) (hm:AP w F vm m) (hT:AZ w) (hlm:m.length≤100000) (hb:AO (m.map (List.map au))) (h0:bF g (m.map (List.map au))=0) :
  Calls Tryz.prog 46 #[vg,vm] w (Ret w fun u w'=>∃ bp up place vn vi vu vp,u = .tuple #[.pointer (some ⟨bp,0,none⟩),.int .i64 0]∧Bh w' (Ext F w.heap.size) bp g m up place vn vi vu vp vm∧Layout g up place):=by
 have HG:=Ac hg; have HM:=Ac hm; have HS:=Ac hsm; have HT:=Ac hT; have HBB:=Ac hb; have HE0:=Ac h0;have HGD:=Ac (abm (qQ h0));have hml:(m.map (List.map au)).length≤100000:=by rw[List.length_map]; exact hlm
 have hpos:=HGD.out.pos;have hn:=hsm.nodes;obtain⟨vn,vi,rfl,⟨A,c,rfl,hc,hN⟩,⟨Ai,ci,rfl,hci,hI⟩⟩:=hg;have HN:=Ac hN;obtain⟨Am,cm,rfl,hcm,_⟩:=hm;clear hN hI hsm hT hb h0;rw[List.length_map] at hcm HM;rw[List.length_map];obtain⟨b,o,rfl,hbF,hbl,hcell⟩:=HN.out hpos;have HC:=Ac hcell; clear hcell;go_enter Tryz.func46,Tryz.ntmps46;go_wp2_with fail
 obtain⟨W,hW,rx,hB,hz⟩:=aB w 25 #[.int .i64 g.ak,.slice (some ⟨b,o,none⟩) g.nodes.length c,.slice Ai g.infos.length ci];rw[← hW];clear hW hz;have HG':=Ac (HG.out.on (Below.same' hB F)); have HM':=Ac (Ae.below HM.out hB); replace HT:=Ac (HT.out.on hB);have x0:=rx.cell (i:=0) rfl; have x1:=rx.cell (i:=1) rfl; have x2:=rx.cell (i:=2) rfl;go_wp2_with fail
 refine(sS W F _ _ g _ HG'.out HS.out HM'.out HT.out hml HBB.out).mono ?_;rintro e w1 ⟨_,rfl,hb1,rfl⟩;rw[HE0.out];have hbx:=rx.below hb1 rx.lt;have hB1:=hB.trans (hb1.mono hB.size);clear rx hB hb1 x0 x1 x2 HG' HM' HT;dsimp only;have x1:=hbx.cell (i:=1) rfl;go_upto_region 5 with(fail)
 go_cut [8] from 22 to 31 (fun v8 wx=>∃ bp bu bl,v8 = .pointer (some ⟨bp,0,none⟩)∧VSt w g (some ⟨b,o,none⟩) c Ai ci (.slice Am m.length cm) bp bu bl (List.replicate g.nodes.length 0) (List.replicate g.nodes.length 0) wx∧VAp w.heap.size bp bu bl)
 case first =>
  clear x1;obtain⟨w0,hw0⟩:∃ W,W=w1.drew:=⟨_,rfl⟩;refine bC (fun w'=>w'.cell? ⟨w.heap.size,0,none⟩=some (.int .i64 g.ak)∧w'.cell? ⟨w.heap.size,1,none⟩=some (.slice (some ⟨b,o,none⟩) g.nodes.length c)∧w'.cell? ⟨w.heap.size,2,none⟩=some (.slice Ai g.infos.length ci)) 7 3 (by kernel_rfl) rfl (by kernel_rfl) ?_;have hHeld:(fun w':World=>w'.cell? ⟨w.heap.size,0,none⟩=some (.int .i64 g.ak)∧w'.cell? ⟨w.heap.size,1,none⟩=some (.slice (some ⟨b,o,none⟩) g.nodes.length c)∧w'.cell? ⟨w.heap.size,2,none⟩=some (.slice Ai g.infos.length ci)) w1.drew:=⟨hbx.cell rfl,hbx.cell rfl,hbx.cell rfl⟩;simp only[List.take_succ_cons,List.take_zero];refine tk0 [0,1,3,6] ?_;iterate 4 (refine tk (v:=?_) rfl (by kernel_rfl) (by kernel_rfl) (by kernel_rfl) (fun _ _ _ h=>h) (Or.inl ⟨by rfl,?_⟩) hHeld ?_;rotate_left;(focus intro wx hSx;(try dsimp only at hSx);go_split_ands;go_simp;try with_reducible rfl);try simp only[Act.put,lq1,lq2,lq3,lq4,lq5,lq6])
  refine tk1 ?_;have hbx0:Row w0 _ _ _:=hw0▸hbx.drew;have hB0:Below w.heap.size w w0:=hw0▸hB1.drew;rw[← hw0] at hHeld ⊢;clear hw0 hbx hB1;refine wpAnyH_ready (rs:=[2,4]) (by decide +kernel) (by simp) ?_;refine(AllReadyH.cons (o:=_) rfl (fun K hK=>?_) (AllReadyH.cons (o:=_) rfl (fun K hK=>?_) AllReadyH.nil))
  ·refine ifT rfl ?_;refine bg _ _ _ 57 rfl 3 (.int .i64 0) 8 Tryz.underlying57 Tryz.infoInt rfl g.nodes.length rfl rfl (by omega) (by omega) ?_;intro w1 hb hz sU;clear hz;have g2:=hbx0.lt;have sz1:=hb.size;have dw:=hbx0.below hb hbx0.lt;have hB1:=hB0.trans (hb.mono hB0.size);clear hb;refine hK.out _ _ ⟨dw.cell rfl,dw.cell rfl,dw.cell rfl⟩ (fun hHeld=>?_);clear hK K;try simp only[Act.put,lq1,lq2,lq3,lq4,lq5,lq6]
   refine wpAnyH_ready (rs:=[4]) (by decide +kernel) (by simp) ?_;refine(AllReadyH.cons (o:=_) rfl (fun K hK=>?_) AllReadyH.nil)
   ·refine ifT rfl ?_;refine bg _ _ _ 57 rfl 3 (.int .i64 0) 8 Tryz.underlying57 Tryz.infoInt rfl g.nodes.length rfl rfl (by omega) (by omega) ?_;intro w2 hb hz acO;clear hz;have g4:=dw.lt;have l2_4:=sU.lt;have lJ:=sU.below hb sU.lt;have sz2:=hb.size;have hbx2:=dw.below hb dw.lt;have hB2:=hB1.trans (hb.mono hB1.size);clear hb;refine hK.out _ _ ⟨hbx2.cell rfl,hbx2.cell rfl,hbx2.cell rfl⟩ (fun hHeld=>?_);clear hK K;try simp only[Act.put,lq1,lq2,lq3,lq4,lq5,lq6]
    refine tk0 [5] ?_;(refine tk (v:=?_) rfl (by kernel_rfl) (by kernel_rfl) (by kernel_rfl) (fun _ _ _ h=>h) (Or.inl ⟨by rfl,?_⟩) hHeld ?_;rotate_left;(focus intro wx hSx;(try dsimp only at hSx);go_split_ands;go_simp;try with_reducible rfl);try simp only[Act.put,lq1,lq2,lq3,lq4,lq5,lq6])
    refine tk1 ?_;refine wpAnyH_done (by kernel_rfl) ?_ _;clear hHeld;show wpList _ _ _ _ _ _;go_wp2_with fail
    show wpList _ _ _ _ _ _;go_wp2_with fail
    obtain⟨W,hW,rp,hbw,hzw⟩:=aB w2 133 #[.int .i64 g.ak,.slice (some ⟨b,o,none⟩) g.nodes.length c,.slice Ai g.infos.length ci,.slice (some ⟨w0.heap.size,0,none⟩) g.nodes.length g.nodes.length,.slice (some ⟨w1.heap.size,0,none⟩) g.nodes.length g.nodes.length,.slice Am m.length cm];rw[← hW];clear hW hzw;have q2:=lJ.lt; have q4:=acO.lt; have qb:=hbx2.lt;show wpList _ _ _ _ _ _;go_wp2_with fail
    show Exit.then _ _ .normal _ _;go_wp2_with fail
    go_meet
    exact⟨w2.heap.size,w0.heap.size,w1.heap.size,rfl,⟨hbx2.below hbw qb,rp,by simpa [aY] using lJ.below hbw q2,by simpa [aY] using acO.below hbw q4,hB2.trans (hbw.mono hB2.size)⟩,⟨by omega,by omega,by omega,by omega,by omega,by omega⟩⟩
  ·refine ifT rfl ?_;refine bg _ _ _ 57 rfl 3 (.int .i64 0) 8 Tryz.underlying57 Tryz.infoInt rfl g.nodes.length rfl rfl (by omega) (by omega) ?_;intro w1 hb hz agW;clear hz;have g4:=hbx0.lt;have sz1:=hb.size;have dw:=hbx0.below hb hbx0.lt;have hB1:=hB0.trans (hb.mono hB0.size);clear hb;refine hK.out _ _ ⟨dw.cell rfl,dw.cell rfl,dw.cell rfl⟩ (fun hHeld=>?_);clear hK K;try simp only[Act.put,lq1,lq2,lq3,lq4,lq5,lq6]
   refine wpAnyH_ready (rs:=[2]) (by decide +kernel) (by simp) ?_;refine(AllReadyH.cons (o:=_) rfl (fun K hK=>?_) AllReadyH.nil)
   ·refine ifT rfl ?_;refine bg _ _ _ 57 rfl 3 (.int .i64 0) 8 Tryz.underlying57 Tryz.infoInt rfl g.nodes.length rfl rfl (by omega) (by omega) ?_;intro w2 hb hz lJ;clear hz;have g2:=dw.lt;have l4_2:=agW.lt;have acO:=agW.below hb agW.lt;have sz2:=hb.size;have hbx2:=dw.below hb dw.lt;have hB2:=hB1.trans (hb.mono hB1.size);clear hb;refine hK.out _ _ ⟨hbx2.cell rfl,hbx2.cell rfl,hbx2.cell rfl⟩ (fun hHeld=>?_);clear hK K;try simp only[Act.put,lq1,lq2,lq3,lq4,lq5,lq6]
    refine tk0 [5] ?_;(refine tk (v:=?_) rfl (by kernel_rfl) (by kernel_rfl) (by kernel_rfl) (fun _ _ _ h=>h) (Or.inl ⟨by rfl,?_⟩) hHeld ?_;rotate_left;(focus intro wx hSx;(try dsimp only at hSx);go_split_ands;go_simp;try with_reducible rfl);try simp only[Act.put,lq1,lq2,lq3,lq4,lq5,lq6])
    refine tk1 ?_;refine wpAnyH_done (by kernel_rfl) ?_ _;clear hHeld;show wpList _ _ _ _ _ _;go_wp2_with fail
    show wpList _ _ _ _ _ _;go_wp2_with fail
    obtain⟨W,hW,rp,hbw,hzw⟩:=aB w2 133 #[.int .i64 g.ak,.slice (some ⟨b,o,none⟩) g.nodes.length c,.slice Ai g.infos.length ci,.slice (some ⟨w1.heap.size,0,none⟩) g.nodes.length g.nodes.length,.slice (some ⟨w0.heap.size,0,none⟩) g.nodes.length g.nodes.length,.slice Am m.length cm];rw[← hW];clear hW hzw;have q2:=lJ.lt; have q4:=acO.lt; have qb:=hbx2.lt;show wpList _ _ _ _ _ _;go_wp2_with fail
    show Exit.then _ _ .normal _ _;go_wp2_with fail
    go_meet
    exact⟨w2.heap.size,w1.heap.size,w0.heap.size,rfl,⟨hbx2.below hbw qb,rp,by simpa [aY] using lJ.below hbw q2,by simpa [aY] using acO.below hbw q4,hB2.trans (hbw.mono hB2.size)⟩,⟨by omega,by omega,by omega,by omega,by omega,by omega⟩⟩
 case rest =>
  obtain⟨bp,bu,bl,rfl,hst,hap⟩:=hcut;clear hbx hB1 x1;have y3:=hst.play.cell (i:=3) rfl;have eu:=hst.ru.cell (i:=0) (v:=.int .i64 0) (by simp[aY,hpos]);have fu:=hst.ru.frozen 0;have x1:=hst.box.cell (i:=1) rfl;have zu:w.heap.size≠bu:=by have:=hap.u; omega
  have HST:=Ac hst; clear hst;have HLD:=Ac (Laid.start (g:=g) hpos);go_wp2
  go_loopw [40] (fun i wr=>∃ (k:Nat) (U P:List Int),k≤g.nodes.length∧i = .int .i64 (k:Int)∧Laid g U P k 0∧VSt w g (some ⟨b,o,none⟩) c Ai ci (.slice Am m.length cm) bp bu bl U P wr) (fun i _=>g.nodes.length - (intOf i).toNat)
  case atStart=>exact⟨0,_,_,by omega,rfl,HLD.out,HST.out.setU hap 0 (-1)⟩
  case round =>
   clear y3 eu fu x1 HST HLD;obtain⟨k,U,P,hk,rfl,hld,hst⟩:=hrel;have HST:=Ac hst; have HLD:=Ac hld; clear hst hld;by_cases hlt:k < g.nodes.length
   ·obtain⟨n,hn'⟩:=ay (l:=g.nodes) (k:=k) hlt;have hne:=HC.out k n hn';have n0:=hne.c0; have n1:=hne.c1; have n2:=hne.c2;obtain⟨v3,n3,A3,c3,rfl,hc3,i3⟩:=hne.c3;obtain⟨v4,n4,A4,c4,rfl,_,_⟩:=hne.c4;obtain⟨v5,n5,A5,c5,rfl,_,_⟩:=hne.c5;have hl3:=HS.out.next n (List.mem_of_getElem? hn');have HN3:=Ac i3; clear i3 hne;have HX:=Ac hn'; clear hn';have hbel:=HST.out.bel;replace n0:=ah n0 hbel;replace n1:=ah n1 hbel;replace n2:=ah n2 hbel;replace n3:=ah n3 hbel;replace n4:=ah n4 hbel;replace n5:=ah n5 hbel;clear hbel;go_wp2_with fail
    obtain⟨W2,hW2,rn,hB2,hzz⟩:=aB wr 67 #[.int .i64 n.kind,.int .i64 n.aH,.int .i64 n.info,.slice A3 n.next.length c3,.slice A4 n.weights.length c4,.slice A5 n.pay.length c5];rw[← hW2];replace HST:=Ac (HST.out.below hB2);have m3:=rn.cell (i:=3) rfl;clear hW2 hzz hB2 rn n0 n1 n2 n3 n4 n5;go_loopw [48] (fun i wi=>∃ (j:Nat) (U P:List Int),j≤n.next.length∧i = .int .i64 (j:Int)∧Laid g U P k j∧VSt w g (some ⟨b,o,none⟩) c Ai ci (.slice Am m.length cm) bp bu bl U P wi) (fun i _=>n.next.length - (intOf i).toNat)
    case atStart=>exact⟨0,U,P,by omega,rfl,HLD.out,HST.out⟩
    case round =>
     clear m3 HST HLD U P;obtain⟨j,U,P,hj,rfl,hld,hst⟩:=hrel;have HST:=Ac hst; have HLD:=Ac hld; clear hst hld;by_cases hjt:j < n.next.length
     ·obtain⟨ch,hch⟩:=ay hjt;have hkk:=HGD.out.span.kids k n (Nat.zero_le _) hlt HX.out ch (List.mem_of_getElem? hch);obtain⟨cn,rfl⟩:∃ cn:Nat,ch=(cn:Int):=⟨ch.toNat,by omega⟩;have hcl:cn < g.nodes.length:=by omega
      obtain⟨b3,o3,rfl,hb3,hb3B,hx3⟩:=HN3.out (by omega);have ec:=hx3 j _ hch;unfold jv at ec;rw[Nat.mul_one] at ec;replace ec:=ah ec HST.out.bel;have HKD:=Ac (show Kid g.nodes k j cn from⟨n,HX.out,hch⟩);have hul:=HLD.out.abt; have hpl:=HLD.out.abu;obtain⟨yu,hyu⟩:=ay (l:=U) (k:=cn) (by omega);obtain⟨yp,hyp⟩:=ay (l:=P) (k:=cn) (by omega);have eu:=HST.out.ru.cell (i:=cn) (v:=.int .i64 yu) (by simp[aY,hyu]);have ep:=HST.out.rl.cell (i:=cn) (v:=.int .i64 yp) (by simp[aY,hyp]);have fu:=HST.out.ru.frozen cn; have fp:=HST.out.rl.frozen cn;have y3:=HST.out.play.cell (i:=3) rfl; have y4:=HST.out.play.cell (i:=4) rfl;clear hyu hyp hx3 hch hul hpl hkk;go_wp2_with fail
      refine wp_region_held_drew (S:=fun w'=>w'.cell? ⟨bp,3,none⟩=some (.slice (some ⟨bu,0,none⟩) g.nodes.length g.nodes.length)∧w'.cell? ⟨bp,4,none⟩=some (.slice (some ⟨bl,0,none⟩) g.nodes.length g.nodes.length)) (by kernel_rfl) ⟨y3,y4⟩ (fun hHeld=>?_);refine tk0 [0,1,2,3,4,5,6,7,8,9,10,11,12,13,14] ?_;iterate 15 (refine tk (v:=?_) rfl (by kernel_rfl) (by kernel_rfl) (by kernel_rfl) (fun _ _ _ h=>h) (Or.inl ⟨by rfl,?_⟩) hHeld ?_;rotate_left;(focus intro wx hSx;(try dsimp only at hSx);go_split_ands;go_simp;try with_reducible rfl);try simp only[Act.put,lq1,lq2,lq3,lq4,lq5,lq6])
      refine tk1 ?_;have Ci:=Ac (VSt.drew (HST.out.setU hap cn (k:Int)));have HLD2:=Ac (HLD.out.step HGD.out HKD.out);refine tk2 15 (by kernel_rfl) rfl fun K hK=>?_
      go_simp;obtain⟨W,hW⟩:∃ W:World,W=(wr.setCell ⟨bu,cn,none⟩ (.int .i64 (k:Int))).drew:=⟨_,rfl⟩;rw[← hW] at Ci ⊢;clear hW y3 y4 eu ep fu fp ec hHeld HST HLD;have y3:=Ci.out.play.cell (i:=3) rfl; have y4:=Ci.out.play.cell (i:=4) rfl;have hpl:=HLD2.out.abu;rw[List.length_set] at hpl;obtain⟨yp,hyp⟩:=ay (l:=P) (k:=cn) (by omega);have ep:=Ci.out.rl.cell (i:=cn) (v:=.int .i64 yp) (by simp[aY,hyp]); have fp:=Ci.out.rl.frozen cn;clear hyp hpl;refine hK.out _ _ ⟨y3,y4⟩ (fun hHeld=>?_);clear hK K;try simp only[Act.put,lq1,lq2,lq3,lq4,lq5,lq6]
      refine tk0 [16] ?_;(refine tk (v:=?_) rfl (by kernel_rfl) (by kernel_rfl) (by kernel_rfl) (fun _ _ _ h=>h) (Or.inl ⟨by rfl,?_⟩) hHeld ?_;rotate_left;(focus intro wx hSx;(try dsimp only at hSx);go_split_ands;go_simp;try with_reducible rfl);try simp only[Act.put,lq1,lq2,lq3,lq4,lq5,lq6])
      refine tk1 ?_;have DC:=Ac (Ci.out.setP hap cn (j:Int));refine tk2 17 (by kernel_rfl) rfl fun K hK=>?_
      go_simp;obtain⟨W3,hW3⟩:∃ W3:World,W3=W.setCell ⟨bl,cn,none⟩ (.int .i64 (j:Int)):=⟨_,rfl⟩;rw[← hW3] at DC ⊢;clear hW3 y3 y4 ep fp hHeld Ci;refine hK.out _ _ ⟨DC.out.play.cell rfl,DC.out.play.cell rfl⟩ (fun hHeld=>?_);clear hK K;try simp only[Act.put,lq1,lq2,lq3,lq4,lq5,lq6]
      refine wpAnyH_done (by kernel_rfl) ?_ _;clear hHeld;show Exit.inBlock _ _ .normal _ _;go_wp2
      go_roundw
      case rel=>exact⟨j+1,_,_,by omega,by go_num,HLD2.out,DC.out⟩
      case measure=>simp[intOf]; omega
     ·go_wp2
      go_roundw
      case rel=>exact⟨k+1,U,P,by omega,by go_num,HLD.out.next HX.out (by omega),HST.out⟩
      case measure=>simp[intOf]; omega
   ·have HPL:=Ac hap;go_wp2
    go_ret2;refine⟨_,rfl,HST.out.bel,?_⟩;have hst:=HST.out;have hS:=Below.same' hst.bel F;have hld:=HLD.out.done (by omega);have hus:g.nodes.length=U.length:=hld.abt.symm;have hps:g.nodes.length=P.length:=hld.abu.symm;refine⟨bp,U,P,_,_,_,_,rfl,⟨.inr (by have:=hap.p; omega),hst.play,?_,?_,?_,?_,?_⟩,hld⟩
    ·obtain⟨vn',vi',hh,h1,h2⟩:=HG.out;simp only[Value.agg.injEq,Array.mk.injEq,List.cons.injEq] at hh;obtain⟨_,rfl,rfl,_⟩:=hh;exact h1.keep (fun b hb _=>.inl hb) hS
    ·obtain⟨vn',vi',hh,h1,h2⟩:=HG.out;simp only[Value.agg.injEq,Array.mk.injEq,List.cons.injEq] at hh;obtain⟨_,rfl,rfl,_⟩:=hh;exact h2.keep (fun b hb _=>.inl hb) hS
    ·have:=hst.ru.ints (F:=Ext F w.heap.size) (.inr (by have:=hap.u; omega)) (c:=U.length) (Nat.le_refl _);rw[← hus] at this; exact this
    ·have:=hst.rl.ints (F:=Ext F w.heap.size) (.inr (by have:=hap.l; omega)) (c:=P.length) (Nat.le_refl _);rw[← hps] at this; exact this
    ·exact Ae.keep HM.out (fun b hb _=>.inl hb) hS
theorem rO (w:World) (F:Ag) (vg vm:Value) (g:Gm) (m:List (List Raw)) (hg:AA w F vg g) (hsm:Small g) (hm:Ae w F vm m) (hT:AZ w) (hlm:m.length≤100000) (hb:AO m) (h0:bF g m≠0) :
  Calls Tryz.prog 46 #[vg,vm] w (Ret w fun u _=>u = .tuple #[.pointer none,.int .i64 (bF g m)]):=by
 have HG:=Ac hg; have HM:=Ac hm; have HS:=Ac hsm; have HT:=Ac hT; have HBB:=Ac hb;obtain⟨vn,vi,rfl,⟨A,c,rfl,hc,hN⟩,⟨Ai,ci,rfl,hci,hI⟩⟩:=hg;obtain⟨Am,cm,rfl,hcm,hMM⟩:=hm;obtain⟨fe,hfe⟩:∃ fe,fe=bF g m:=⟨_,rfl⟩;rw[← hfe] at h0 ⊢;have t1:(fe != 0)=true:=by simp[h0]
 have HFE:=Ac hfe;clear hN hI hsm hT hb h0 hMM hfe;go_enter Tryz.func46,Tryz.ntmps46;go_wp2_with fail
 obtain⟨W,hW,rx,hB,hz⟩:=aB w 25 #[.int .i64 g.ak,.slice A g.nodes.length c,.slice Ai g.infos.length ci];rw[← hW];clear hW hz;replace HG:=Ac (HG.out.on (Below.same' hB F)); replace HM:=Ac (Ae.below HM.out hB); replace HT:=Ac (HT.out.on hB);have x0:=rx.cell (i:=0) rfl; have x1:=rx.cell (i:=1) rfl; have x2:=rx.cell (i:=2) rfl;go_wp2_with fail
 refine(sS W F _ _ g _ HG.out HS.out HM.out HT.out hlm HBB.out).mono ?_;rintro e w1 ⟨_,rfl,hb1,rfl⟩;rw[← HFE.out];have hB1:=hB.trans (hb1.mono hB.size);clear x0 x1 x2 rx hb1 hB;dsimp only;go_wp2
 go_ret2;exact⟨_,rfl,hB1,rfl⟩
theorem afx (w:World) (F:Ag) (v:Value) (l:List Int) (hv:Aw w F v l) (hl:l.length≤100) (hx:∀ x∈l,1≤x∧x≤1000) :
  Calls Tryz.prog 131 #[v] w fun e w'=>e = .returned (.int .i64 (oJ l))∧w=w':=by
 obtain⟨A,c,rfl,hc,hr⟩:=hv;have HR:=Ac hr; have HX:=Ac hx;have HB:=Ac (fun k=>show oJ (l.take k)≤100000∧0≤oJ (l.take k) from by
  have h1:=nD (l:=l.take k) (fun x hx'=>hx x (List.mem_of_mem_take hx'));have h2:(l.take k).length≤l.length:=by simp; omega
  omega)
 clear hr hx;go_enter Tryz.func131,Tryz.ntmps131;go_wp2
 go_loop [3,4] (fun s i=>∃ k:Nat,k≤l.length∧i = .int .i64 (k:Int)∧s = .int .i64 (oJ (l.take k))) (fun _ i=>l.length - (intOf i).toNat)
 case atStart=>exact⟨0,by omega,rfl,rfl⟩
 case round =>
  obtain⟨k,hk,rfl,rfl⟩:=hrel;obtain⟨s,hs⟩:∃ s,s=oJ (l.take k):=⟨_,rfl⟩;have hb:=HB.out k;rw[← hs] at hb ⊢;have HS:=Ac hs; clear hs;by_cases hlt:k < l.length
  ·obtain⟨b,o,rfl,_,hb',hcell⟩:=HR.out (by omega);obtain⟨x,hxk⟩:=ay hlt;have e1:=hcell k x hxk;unfold jv at e1;rw[Nat.mul_one] at e1;have hxb:=HX.out x (List.mem_of_getElem? hxk);have HXK:=Ac hxk;clear hcell hxk;go_wp2
   go_round
   case rel=>exact⟨k+1,by omega,by go_num,by rw[take_snoc HXK.out,aaD,← HS.out]⟩
   case measure=>simp[intOf]; omega
  ·go_wp2
   go_ret;exact⟨by rw[HS.out,List.take_of_length_le (by omega)]; rfl,rfl⟩
theorem uo (w:World) (F:Ag) (v:Value) (xs:List Rat) (hv:BH w F v xs) (hl:xs.length≤100000) (hf:∀ x∈xs,rl x≤1000000) :
  Calls Tryz.prog 51 #[v] w (Ret w fun u w'=>∃ t,u = .tuple #[t,.int .i64 (jR xs)]∧Aj w' F t (fitsV xs)):=by
 have HV:=Ac hv;obtain⟨A,c,rfl,hc,hN⟩:=hv;rw[List.length_map] at hc hN HV;have HN:=Ac hN; have HF:=Ac hf;show Calls _ _ #[.slice A (xs.map au).length c] _ _;rw[List.length_map];clear hN hf;go_enter Tryz.func51,Tryz.ntmps51;go_wp2
 go_loopw [4] (fun i wr=>∃ k:Nat,k≤xs.length∧i = .int .i64 (k:Int)∧(xs.take k).any (fun x=>decide (1024 < rl x))=false∧Below w.heap.size w wr) (fun i _=>xs.length - (intOf i).toNat)
 case atStart=>exact⟨0,by omega,rfl,rfl,Below.refl _ _⟩
 case round =>
  obtain⟨k,hk,rfl,hpre,hbel⟩:=hrel;have HP:=Ac hpre; clear hpre;by_cases hlt:k < xs.length
  ·obtain⟨b,o,rfl,hF,hb,hx⟩:=HN.out (by omega);obtain⟨x,hx'⟩:=ay hlt;obtain⟨ex0,⟨vn,ex1,hn⟩,⟨vd,ex2,hd⟩⟩:=hx k (au x) (by rw[List.getElem?_map,hx']; rfl);have HX:=Ac hx';have hrl:=HF.out x (List.mem_of_getElem? hx');have HR:=Ac (Az.below (Az.make (r:=au x) rfl hn hd) hbel);obtain⟨A1',c1',rfl,_,_⟩:=hn;obtain⟨A2',c2',rfl,_,_⟩:=hd;replace ex0:=ah ex0 hbel; replace ex1:=ah ex1 hbel; replace ex2:=ah ex2 hbel;clear hx hx';obtain⟨oe,hoe⟩:∃ oe,oe=eU x:=⟨_,rfl⟩;have hcs:oe=0∨oe=5:=by rw[hoe]; exact xW
   have HO:=Ac hoe;clear hoe;go_wp2_with fail
   refine(uU wr F _ x HR.out hrl).mono ?_;rintro e wn ⟨u,rfl,hb2,t,rfl,hu⟩;rw[← HO.out];obtain⟨A3,c3,B3,d3,rfl,bV⟩:=hu.opened;replace hbel:=hbel.trans (hb2.mono hbel.size);clear hu bV hb2 ex0 ex1 ex2;dsimp only;go_upto_region 5 with(fail)
   obtain⟨W2,hW2,rz,hB2,hzz⟩:=aB wn 53 #[.bool (bD x).neg,.slice A3 (bD x).num.length c3,.slice B3 (bD x).den.length d3];rw[← hW2];replace hbel:=hbel.trans (hB2.mono hbel.size);clear hW2 hzz rz hB2;rcases hcs with rfl | rfl
   ·have hno:decide (1024 < rl x)=false:=by
     have:=HO.out;unfold eU at this;split at this
     ·omega
     ·simpa using ‹¬ 1024 < rl x›
    have HNO:=Ac hno;clear hno;go_wp2
    go_roundw
    case rel=>exact⟨k+1,by omega,by go_num,iO HX.out HP.out HNO.out,hbel⟩
    case measure=>simp[intOf]; omega
   ·have hyes:1024 < rl x:=by
     have:=HO.out;unfold eU at this;split at this
     ·assumption
     ·omega
    have hev:jR xs=5:=by
     unfold jR;rw[if_pos (List.any_eq_true.2 ⟨x,List.mem_of_getElem? HX.out,decide_eq_true hyes⟩)]
    have HEV:=Ac hev;clear hyes hev;go_wp2
    go_ret2;refine⟨_,rfl,hbel,_,by rw[HEV.out]; rfl,?_⟩;unfold fitsV;rw[HEV.out,if_pos (by decide)];exact Aj.nil _ _
  ·have hev:jR xs=0:=by
    unfold jR;have:=HP.out;rw[List.take_of_length_le (by omega)] at this;rw[this]; rfl
   have HEV:=Ac hev;clear hev;go_wp2
   go_ret2;refine⟨_,rfl,hbel,_,by rw[HEV.out]; rfl,?_⟩;unfold fitsV;rw[HEV.out,if_neg (by decide)];exact Aj.on HV.out (Below.same' hbel F)
theorem afy (w:World) (F:Ag) (v:Value) (l:List Int) (hv:Aw w F v l) (hl:l.length≤100) (hx:∀ x∈l,1≤x∧x≤1000) :
  Calls Tryz.prog 131 #[v] w (Ret w fun u _=>u = .int .i64 (oJ l)):=by
 refine(afx w F v l hv hl hx).mono ?_;rintro e w' ⟨rfl,rfl⟩;exact⟨_,rfl,Below.refl _ _,rfl⟩
theorem zn (w:World) (F:Ag) (vg vm:Value) (g:Gm) (m:List (List Rat)) (i k:Nat) (n:Nd) (hg:AA w F vg g) (hm:AP w F vm m) (hf:Fit g m) (hn:g.nodes.length≤100) (hml:m.length≤100000) (hni:g.nodes[i]? = some n) (hk3:n.kind≠3) (hkn:k < n.next.length) :
  Calls Tryz.prog 92 #[vg,vm,.int .i64 (i:Int),.int .i64 (k:Int)] w (Ret w fun u w'=>RtV w' (Ext F w.heap.size) u ((bJ m n).getD k 0)):=by
 have hmem:=List.mem_of_getElem? hni;have hin:=aG hni;have hch:=hf.chan n hmem hk3;obtain⟨z,hz⟩:=ay (l:=bJ m n) (k:=k) (by rw[hch.1]; exact hkn);have hzr:=hch.2 z (List.mem_of_getElem? hz);have hzd:(bJ m n).getD k 0=z:=by rw[List.getD_eq_getElem?_getD,hz]; rfl
 rw[hzd];have hmv:=fun h=>kX hf.nodes hmem h
 have hcp:=fun h=>jB hf.nodes hmem h
 have adY:=kinds hf.nodes hmem;have hrows:=hf.rows;obtain⟨vn,vi,rfl,⟨A,c,rfl,hc,hN⟩,⟨Ai,ci,rfl,hci,hI⟩⟩:=hg;obtain⟨b,q,rfl,hFb,hbl,hcell⟩:=hN (by omega);have hne:=hcell i n hni;have n0:=hne.c0; have n1:=hne.c1; have n2:=hne.c2;obtain⟨v3,n3,h3⟩:=hne.c3;obtain⟨v4,n4,h4⟩:=hne.c4;obtain⟨v5,n5,h5⟩:=hne.c5;have H4:=Ac h4;obtain⟨A3,c3,rfl,_,_⟩:=h3;obtain⟨A4,c4,rfl,_,hx4⟩:=h4;obtain⟨A5,c5,rfl,_,_⟩:=h5;obtain⟨Am,cm,rfl,hcm,hM⟩:=hm;rw[List.length_map] at hcm hM;rw[List.length_map];clear hcell hne hN hI hni hmem hzd hch;rcases (adY.imp id fun h=>h.resolve_right hk3:n.kind=1∨n.kind=2) with hk | hk
 ·have t1:(n.kind==1)=true:=by simp[hk]
  obtain⟨c1',c2',c3',c4'⟩:=hcp hk;have hw100:n.weights.length≤100:=by omega
  have hkw:k < n.weights.length:=by omega
  obtain⟨x,hx⟩:=ay hkw;have hxb:=c4' x (List.mem_of_getElem? hx);have hsr:=nD c4';obtain⟨sw,hsw⟩:∃ sw,sw=oJ n.weights:=⟨_,rfl⟩;have hzx:z=(x:Rat) / (sw:Rat):=by
   rw[uY (by omega),List.getElem?_map,hx,Option.map_some,Option.some.injEq] at hz;rw[← hz,hsw]
  rw[← hsw] at hsr;have HSW:=Ac hsw; have HZX:=Ac hzx; have HC4:=Ac c4';obtain⟨b4,o4,rfl,hF4,hb4,agX⟩:=hx4 (by omega);have ew:=agX k x hx;unfold jv at ew;rw[Nat.mul_one] at ew;have hs1:1≤sw:=by omega
  have hs2:sw≤100000:=by omega
  clear hz hsw hzx c1' c2' c3' c4' hsr hk hmv hcp adY hrows agX hx4 hM hx;go_enter Tryz.func92,Tryz.ntmps92;go_upto_region 2 with(fail)
  obtain⟨W,hW,rx,rz,rn,hB,agY⟩:=lQ w 25 #[.int .i64 g.ak,.slice (some ⟨b,q,none⟩) g.nodes.length c,.slice Ai g.infos.length ci] 53 #[.bool false,.slice none 0 0,.slice none 0 0] 67 #[.int .i64 n.kind,.int .i64 n.aH,.int .i64 n.info,.slice A3 n.next.length c3,.slice (some ⟨b4,o4,none⟩) n.weights.length c4,.slice A5 n.pay.length c5];rw[← hW];have hzz:w.heap.size+3≤W.heap.size:=agY;clear hW agY;have x0:=rn.cell (i:=0) rfl; have x4:=rn.cell (i:=4) rfl;replace ew:=ah ew hB;replace H4:=Ac (H4.out.on (Below.same' hB F));clear rx rn n0 n1 n2 n3 n4 n5;go_wp2_with fail
  refine bC (fun w'=>w'.cell? ⟨w.heap.size+2,4,none⟩=some (.slice (some ⟨b4,o4,none⟩) n.weights.length c4)∧w'.cell? ⟨b4,o4+k,none⟩=some (.int .i64 x)) 9 1 (by kernel_rfl) rfl (by kernel_rfl) ?_;have hHeld:(fun w':World=>w'.cell? ⟨w.heap.size+2,4,none⟩=some (.slice (some ⟨b4,o4,none⟩) n.weights.length c4)∧w'.cell? ⟨b4,o4+k,none⟩=some (.int .i64 x)) W.drew:=⟨x4,ew⟩;simp only[List.take_succ_cons,List.take_zero];have hb:Below W.heap.size W W.drew:=aC (Below.refl _ W) 1;replace x4:=ah x4 hb;replace ew:=ah ew hb;replace H4:=Ac (H4.out.on (Below.same' hb F));replace rz:=rz.below hb rz.lt;replace hzz:=Nat.le_trans hzz hb.size;replace hB:=hB.trans (hb.mono hB.size);clear hb;generalize W.drew=wn at *;refine tk0 [0,1,2,3,4,5,6] ?_;iterate 7 (refine tk (v:=?_) rfl (by kernel_rfl) (by kernel_rfl) (by kernel_rfl) (fun _ _ _ h=>h) (Or.inl ⟨by rfl,?_⟩) hHeld ?_;rotate_left;(focus intro wx hSx;(try dsimp only at hSx);go_split_ands;go_simp;try with_reducible rfl);try simp only[Act.put,lq1,lq2,lq3,lq4,lq5,lq6])
  refine tk1 ?_;refine tk2 7 (by kernel_rfl) rfl fun K hK=>?_
  go_simp;refine(afy wn F _ n.weights H4.out hw100 HC4.out).mono ?_;rintro e wn ⟨u,rfl,hb,rfl⟩;rw[← HSW.out];replace x4:=ah x4 hb;replace ew:=ah ew hb;replace H4:=Ac (H4.out.on (Below.same' hb F));replace rz:=rz.below hb rz.lt;replace hzz:=Nat.le_trans hzz hb.size;replace hB:=hB.trans (hb.mono hB.size);clear hb;dsimp only;clear hHeld;refine hK.out _ _ ⟨x4,ew⟩ (fun hHeld=>?_);clear hK K;try simp only[Act.put,lq1,lq2,lq3,lq4,lq5,lq6]
  refine tk2 8 (by kernel_rfl) rfl fun K hK=>?_
  go_simp;refine(adB wn x sw (by omega) (by omega) (by omega) (by omega) (by omega)).mono ?_;rintro e wn ⟨u,rfl,hb,hu⟩;rw[← HZX.out] at hu;have hu2:=hu.mono (G:=fun b=>w.heap.size+3≤b) (fun b hb _=>by omega);have HU:=Ac hu2;obtain⟨Am',cm',Bm,dm,rfl,hn',hd'⟩:=hu2.open;clear hn' hd' hu hu2;replace x4:=ah x4 hb;replace ew:=ah ew hb;replace H4:=Ac (H4.out.on (Below.same' hb F));replace rz:=rz.below hb rz.lt;replace hzz:=Nat.le_trans hzz hb.size;replace hB:=hB.trans (hb.mono hB.size);clear hb;dsimp only;clear hHeld;refine hK.out _ _ ⟨x4,ew⟩ (fun hHeld=>?_);clear hK K;try simp only[Act.put,lq1,lq2,lq3,lq4,lq5,lq6]
  refine wpAnyH_done (by kernel_rfl) ?_ _;clear hHeld;show wpList _ _ _ _ _ _;clear x4 ew;have q0:=rz.cell (i:=0) rfl;have y0:=rz.frozen 0;have q1:=rz.cell (i:=1) rfl;have y1:=rz.frozen 1;have q2:=rz.cell (i:=2) rfl;have y2:=rz.frozen 2;go_wp2
  show Exit.then _ _ .normal _ _;go_wp2
  obtain⟨Wz,hWz,hrz,hwz,hkz⟩:=aW rz (.bool (au z).neg) (.slice Am' (au z).num.length cm') (.slice Bm (au z).den.length dm);rw[← hWz];clear hWz q0 q1 q2 y0 y1 y2;have t0:=hrz.cell (i:=0) rfl;have t1:=hrz.cell (i:=1) rfl;have t2:=hrz.cell (i:=2) rfl;refine bodyPost_ret (v:=.agg #[.bool (au z).neg,.slice Am' (au z).num.length cm',.slice Bm (au z).den.length dm]) (by simp[results,Tryz.results92,go_sem,t0,t1,t2]) rfl ?_;exact⟨_,rfl,hwz _ _ (by omega) hB,HU.out.keep (fun b hb _=>.inr (by omega)) (hkz (fun b=>w.heap.size+3≤b) (by omega))⟩
 ·have t1:(n.kind==1)=false:=by simp[hk]
  obtain⟨m1,m2,m3,m4,m5,m6⟩:=hmv hk;obtain⟨ik,hik⟩:∃ ik:Nat,n.info=(ik:Int):=⟨n.info.toNat,by omega⟩;have hil:ik < m.length:=by rw[hrows]; omega
  obtain⟨l,hl⟩:=ay hil;have hcl:bJ m n=l:=by rw[zk hk,hik,Int.toNat_natCast,List.getD_eq_getElem?_getD,hl]; rfl
  rw[hcl] at hz;obtain⟨bm,om,rfl,hFm,hbm,hx⟩:=hM (by omega);obtain⟨ur,eu,hrow⟩:=hx ik (l.map au) (by rw[List.getElem?_map,hl]; rfl);rw[Nat.mul_one] at eu;obtain⟨Ar,cr,rfl,hcr,hR⟩:=hrow;rw[List.length_map] at eu hcr hR;have hkl:k < l.length:=aG hz;obtain⟨br,orr,rfl,hFr,hbr,hxr⟩:=hR (by omega);obtain⟨ex0,⟨vn,ex1,hn'⟩,⟨vd,ex2,hd'⟩⟩:=hxr k (au z) (by rw[List.getElem?_map,hz]; rfl);have HR:=Ac (Az.old (Az.make (r:=au z) rfl hn' hd'));obtain⟨A1',c1',rfl,_,_⟩:=hn';obtain⟨A2',c2',rfl,_,_⟩:=hd';rw[hik] at n2;clear hz hmv hcp adY hrows hx4 hM hx hxr hR hl hcl hik hk m1 m2 m3 m4 m5 m6;go_enter Tryz.func92,Tryz.ntmps92;go_upto_region 2 with(fail)
  obtain⟨W,hW,rx,rz,rn,hB,agY⟩:=lQ w 25 #[.int .i64 g.ak,.slice (some ⟨b,q,none⟩) g.nodes.length c,.slice Ai g.infos.length ci] 53 #[.bool false,.slice none 0 0,.slice none 0 0] 67 #[.int .i64 n.kind,.int .i64 n.aH,.int .i64 (ik:Int),.slice A3 n.next.length c3,.slice A4 n.weights.length c4,.slice A5 n.pay.length c5];rw[← hW];have hzz:w.heap.size+3≤W.heap.size:=agY;clear hW agY;have x0:=rn.cell (i:=0) rfl; have x2:=rn.cell (i:=2) rfl;replace eu:=ah eu hB; replace ex0:=ah ex0 hB; replace ex1:=ah ex1 hB; replace ex2:=ah ex2 hB;replace HR:=Ac (HR.out.below hB);clear rx rn n0 n1 n2 n3 n4 n5;have q0:=rz.cell (i:=0) rfl; have f0:=rz.frozen 0;have q1:=rz.cell (i:=1) rfl; have f1:=rz.frozen 1;have q2:=rz.cell (i:=2) rfl; have f2:=rz.frozen 2;go_wp2
  obtain⟨Wz,hWz,hrz,hwz,hkz⟩:=aW rz (.bool (au z).neg) (.slice A1' (au z).num.length c1') (.slice A2' (au z).den.length c2');rw[← hWz];clear hWz q0 q1 q2 f0 f1 f2;have u0:=hrz.cell (i:=0) rfl; have u1:=hrz.cell (i:=1) rfl; have u2:=hrz.cell (i:=2) rfl;refine bodyPost_ret (v:=.agg #[.bool (au z).neg,.slice A1' (au z).num.length c1',.slice A2' (au z).den.length c2']) (by simp[results,Tryz.results92,go_sem,u0,u1,u2]) rfl ?_;exact⟨_,rfl,hwz _ _ (by omega) hB,HR.out.keep (fun b hb _=>.inl hb.1) (hkz (Old F w.heap.size) (fun h=>by have:=h.2; omega))⟩
theorem afz {l:List Raw} {j:Nat} {r:Raw} (h:l[j]? = some r):(l.take (j+1)).map vT=(l.take j).map vT ++ [vT r]:=by rw[take_snoc h,List.map_append]; rfl
theorem afA (w:World) (F:Ag) (vg vm:Value) (g:Gm) (m:List (List Raw)) (hg:AA w F vg g) (hm:Ae w F vm m) (hlm:m.length≤100000) (hli:g.infos.length≤100000) (hb:AO m) (hact:∀ i∈g.infos,i.actions≤10) :
  Calls Tryz.prog 74 #[vg,vm] w (Ret w fun v _=>v = .int .i64 (lS (g.infos.map Inf.actions) m)):=by
 have HG:=Ac hg; have HM:=Ac hm;obtain⟨vn,vi,rfl,⟨A,c,rfl,hc,hN⟩,⟨Ai,ci,rfl,hci,hI⟩⟩:=hg;obtain⟨Am,cm,rfl,hcm,hMM⟩:=hm;have HBB:=Ac hb; have HA:=Ac hact; have HI:=Ac hI;clear hN hI hMM hb hact;obtain⟨acts,uT⟩:∃ a,a=g.infos.map Inf.actions:=⟨_,rfl⟩;rw[← uT];have hal:acts.length=g.infos.length:=by rw[uT,List.length_map]
 have HAC:=Ac uT; clear uT;obtain⟨es,hes⟩:∃ es:Int,es=if m.length≠g.infos.length then 3 else 0:=⟨_,rfl⟩
 have HES:=Ac hes; clear hes;go_enter Tryz.func74,Tryz.ntmps74;go_wp2_with fail
 obtain⟨W,hW,rx,hB,hz⟩:=aB w 25 #[.int .i64 g.ak,.slice A g.nodes.length c,.slice Ai g.infos.length ci];rw[← hW];clear hW;replace HG:=Ac (HG.out.on (Below.same' hB F)); replace HM:=Ac (HM.out.below hB);have x0:=rx.cell (i:=0) rfl; have x1:=rx.cell (i:=1) rfl; have x2:=rx.cell (i:=2) rfl;clear rx;have hz:w.heap.size+1≤W.heap.size:=by omega
 go_wp2_with fail
 refine(adV W F _ _ g m HG.out HM.out hlm hli).mono ?_;rintro e wn ⟨_,rfl,hb,rfl⟩;replace x0:=ah x0 hb;replace x1:=ah x1 hb;replace x2:=ah x2 hb;replace HM:=Ac (HM.out.below hb);replace hz:=Nat.le_trans hz hb.size;replace hB:=hB.trans (hb.mono hB.size);clear hb;rw[← HES.out];by_cases hlen:m.length=g.infos.length
 ·have HLE:=Ac (show m.length=acts.length by omega);have hle1:m.length≤g.infos.length:=by omega
  have hle2:g.infos.length≤m.length:=by omega
  have hle3:m.length≤acts.length:=by omega
  have h0:es=0:=by rw[HES.out]; exact if_neg (by simpa using hlen)
  have t1:(es != 0)=false:=by rw[h0]; rfl
  clear hlen hal h0 HG;dsimp only;go_wp2_with fail
  refine(ny wn 1 (by decide) (by decide)).mono ?_;rintro e wn ⟨u,rfl,hb,hu⟩;replace x0:=ah x0 hb;replace x1:=ah x1 hb;replace x2:=ah x2 hb;replace HM:=Ac (HM.out.below hb);replace hz:=Nat.le_trans hz hb.size;replace hB:=hB.trans (hb.mono hB.size);clear hb;obtain⟨one,hone⟩:∃ one:Rat,one=((1:Int):Rat):=⟨_,rfl⟩;rw[← hone] at hu;have H1:=Ac (show one=1 from hone); clear hone;have BI:=Ac (hu.mono (G:=fun _=>True) (fun _ _ _=>trivial));obtain⟨A1,c1,B1,d1',rfl,hn,hd⟩:=hu.open;clear hn hd hu;dsimp only;go_wp2_with fail
  obtain⟨ob,hob⟩:∃ ob,ob=wn.heap.size:=⟨_,rfl⟩;obtain⟨W1,hW1,ry,hB1,hzz⟩:=aB wn 53 #[.bool (au one).neg,.slice A1 (au one).num.length c1,.slice B1 (au one).den.length d1'];rw[← hW1];rw[← hob] at ry ⊢;have hos:ob < W1.heap.size:=ry.lt;clear hW1 hzz hob;replace BI:=Ac (BI.out.below hB1);replace HM:=Ac (HM.out.below hB1);have g2:=ah x2 hB1;have hB2:=hB.trans (hB1.mono hB.size);replace HI:=Ac (fun h=>by
   obtain⟨b,o,h1,h2,h3,h4⟩:=HI.out h;exact(⟨b,o,h1,h2,Nat.lt_of_lt_of_le h3 hB2.size,fun k x hx=>⟨ah (h4 k x hx).c0 hB2,ah (h4 k x hx).c1 hB2⟩⟩:∃ b o,Ai=some ⟨b,o,none⟩∧F b∧b < W1.heap.size∧∀ k x,g.infos[k]? = some x→Dh W1 F b (o+k*2) x))
  have o0:=ry.cell (i:=0) rfl; have o1:=ry.cell (i:=1) rfl; have o2:=ry.cell (i:=2) rfl;clear ry hB1 hB x0 x1 x2 hz;have hz2:=hB2.size;go_loopw [7] (fun i wr=>∃ k:Nat,k≤m.length∧i = .int .i64 (k:Int)∧iw ((List.zipWith kN acts m).take k)=0∧Below W1.heap.size W1 wr) (fun i _=>m.length - (intOf i).toNat)
  case atStart=>exact⟨0,by omega,rfl,rfl,Below.refl _ _⟩
  case round =>
   obtain⟨k,hk,rfl,hpre,hbel⟩:=hrel;have HP:=Ac hpre; clear hpre;by_cases hlt:k < m.length
   ·obtain⟨l,hl⟩:=ay hlt;obtain⟨inf,pJ⟩:=ay (l:=g.infos) (k:=k) (by omega);have hak:acts[k]? = some inf.actions:=by rw[HAC.out,List.getElem?_map,pJ]; rfl
    obtain⟨A0,c0,he,_,hM⟩:=HM.out;cases he
    obtain⟨b,o,rfl,hF,hbl,hx⟩:=hM (by omega);obtain⟨ur,eu0,hrow⟩:=hx k l hl;rw[Nat.mul_one] at eu0;have HRW:=Ac hrow;obtain⟨Ar,cr,rfl,hcr,_⟩:=hrow;obtain⟨b2,p2,rfl,hF2,hbl2,hx2⟩:=HI.out (by omega);have ei0:=(hx2 k inf pJ).c1;have hia:inf.actions≤10:=HA.out inf (List.mem_of_getElem? pJ);have bV:=HBB.out l (List.mem_of_getElem? hl);have HFI:=Ac bV.2;have hll:=bV.1;have HL:=Ac hl; have HK:=Ac hak;clear hx hx2 hM hl pJ hak bV;have eu:=ah eu0 hbel; have ei:=ah ei0 hbel; have gr:=ah g2 hbel;by_cases hact:(l.length:Int)=inf.actions
    ·have d2:((l.length:Int) != inf.actions)=false:=by simp; omega
     have CQ:=Ac hact;go_wp2_with fail
     go_quiet (fail)
     have hb:Below wr.heap.size wr (wr.drewN nq):=aC (Below.refl _ wr) nq;have hzr:W1.heap.size≤wr.heap.size:=hbel.size;clear eu ei gr;replace hzr:=Nat.le_trans hzr hb.size;replace hbel:=hbel.trans (hb.mono hbel.size);clear hb;generalize wr.drewN nq=wq at *;go_wp2_with fail
     refine(ny wq 0 (by decide) (by decide)).mono ?_;rintro e wn ⟨u,rfl,hb,hu⟩;replace hzr:=Nat.le_trans hzr hb.size;replace hbel:=hbel.trans (hb.mono hbel.size);clear hb;obtain⟨s0,hs0⟩:∃ s0:Rat,s0=((0:Int):Rat):=⟨_,rfl⟩;rw[← hs0] at hu;have H0:=Ac (show s0=0 from hs0); clear hs0;have HZ:=Ac hu;obtain⟨A3,c3,B3,d3,rfl,hn,hd⟩:=hu.open;clear hn hd hu;dsimp only;go_wp2_with fail
     obtain⟨bs,hbs⟩:∃ bs,bs=wn.heap.size:=⟨_,rfl⟩;obtain⟨W2,hW2,rs,hB2',hzz⟩:=aB wn 53 #[.bool (au s0).neg,.slice A3 (au s0).num.length c3,.slice B3 (au s0).den.length d3];rw[← hW2];rw[← hbs] at rs ⊢;have hbs1:W1.heap.size≤bs:=by omega
     have hZ:RtV W2 (fun b=>b≠bs) (.agg #[.bool (au s0).neg,.slice A3 (au s0).num.length c3,.slice B3 (au s0).den.length d3]) s0:=(HZ.out.mono (G:=fun b=>b≠bs) (fun b _ hl=>by omega)).below hB2';replace hbel:=hbel.trans (hB2'.mono hbel.size);have HST:=Ac rs; have HZ2:=Ac hZ;have hs2:W2.heap.size≤W2.heap.size:=Nat.le_refl _;have hbs2:=rs.lt;clear hW2 hzz hbs HZ rs hZ hB2';go_loopw [9] (fun i wi=>∃ (j:Nat) (s:Rat) (A':Option Addr) (c':Nat) (B':Option Addr) (d':Nat),j≤l.length∧i = .int .i64 (j:Int)∧iw ((l.map fD).take j)=0∧s=pq ((l.take j).map vT)∧rl s≤1+1025*j∧Row wi bs 53 [.bool (au s).neg,.slice A' (au s).num.length c',.slice B' (au s).den.length d'] ∧
      RtV wi (fun b=>b≠bs) (.agg #[.bool (au s).neg,.slice A' (au s).num.length c',.slice B' (au s).den.length d']) s∧Below W1.heap.size W1 wi∧W2.heap.size≤wi.heap.size) (fun i _=>l.length - (intOf i).toNat)
     case atStart=>exact⟨0,s0,A3,c3,B3,d3,by omega,rfl,rfl,by rw[H0.out]; rfl,by rw[H0.out,oV]; omega,HST.out,HZ2.out,hbel,hs2⟩
     case round =>
      clear HST HZ2 hbel hzr H0 hs2;obtain⟨j,s,A',c',B',d',hj,rfl,hpre,hsum,hrs,rs,hnm,hbel,hzr⟩:=hrel;have HPJ:=Ac hpre; have HSU:=Ac hsum; have HNM:=Ac hnm; clear hpre hsum hnm;have eu:=ah eu0 hbel;have p0:=ah o0 hbel; have p1:=ah o1 hbel; have p2:=ah o2 hbel;have HON:=Ac (Az.mono (G:=fun b=>b≠bs) (Az.below (Az.old BI.out) hbel) (fun b hb _=>by have:=hb.2; omega));by_cases hlt2:j < l.length
      ·obtain⟨A2,c2,he,_,hR⟩:=HRW.out;cases he
       obtain⟨b3,o3,rfl,hF3,hb3,hx3⟩:=hR (by omega);obtain⟨r,hr⟩:=ay hlt2;obtain⟨ex0,⟨vn,ex1,hn⟩,⟨vd,ex2,hd⟩⟩:=hx3 j r hr;have HRV:=Ac (Az.mono (G:=fun b=>b≠bs) ((Az.below (Az.old (Az.make (r:=r) rfl hn hd)) hbel)) (fun b hb _=>by have:=hb.2; omega));obtain⟨A4,c4,rfl,_,_⟩:=hn;obtain⟨A5,c5,rfl,_,_⟩:=hd;have hfr:=HFI.out r (List.mem_of_getElem? hr);have HFR:=Ac hfr.1;have hf2:=hfr.2.1; have hf3:=hfr.2.2;have HRR:=Ac hr;have y0:=ex0; have y1:=ex1; have y2:=ex2;replace ex0:=ah ex0 hbel; replace ex1:=ah ex1 hbel; replace ex2:=ah ex2 hbel;clear hx3 hR hr hfr;have ai1:l.length≤10:=by have:=CQ.out; omega
       go_wp2_with fail
       refine(aad wr _ _ r HRV.out HFR.out hf2 hf3).mono ?_;rintro e wn ⟨_,rfl,hb,rfl⟩;replace eu:=ah eu hb;replace p0:=ah p0 hb;replace p1:=ah p1 hb;replace p2:=ah p2 hb;replace ex0:=ah ex0 hb;replace ex1:=ah ex1 hb;replace ex2:=ah ex2 hb;replace HRV:=Ac (HRV.out.below hb);replace HON:=Ac (HON.out.below hb);replace HNM:=Ac (HNM.out.below hb);replace rs:=rs.below hb rs.lt;replace hzr:=Nat.le_trans hzr hb.size;replace hbel:=hbel.trans (hb.mono hbel.size);clear hb;obtain⟨re,hre⟩:∃ re,re=dQ r:=⟨_,rfl⟩;rw[← hre];by_cases abz:re=0
       ·have t3:(re != 0)=false:=by rw[abz]; rfl
        have h1:dQ r=0:=hre.symm.trans abz;have HRE:=Ac hre; have HRE0:=Ac abz;clear hre abz;obtain⟨⟨x,rfl⟩,h2,h3⟩:=vO h1;have hrx:rl x≤1024:=by unfold rl; exact Nat.max_le.2 ⟨h2,h3⟩
        have HE:=Ac (y7 x h1);clear h1 h2 h3 HFR hf2 hf3;have hsv:rl (s+x)≤1+1025*(j+1):=by have:=aaZ s x; omega
        obtain⟨one',hone'⟩:∃ y:Rat,y=1:=⟨_,rfl⟩;have aaI:rl one≤20000:=by rw[H1.out,wC]; omega
        by_cases hneg:dh x=true
        ·have e1:(au x).neg=true:=hneg;have hse:fD (au x)=2:=HE.out.trans (if_pos (.inl hneg));have hrow:=kZ CQ.out HPJ.out HRR.out (by rw[hse]; decide);have HF:=Ac ((jX HLE.out HP.out HK.out HL.out (by rw[hrow,hse]; decide)).trans (hrow.trans hse));clear hneg hse hrow;rw[e1] at ex0;dsimp only;go_wp2_with fail
         go_quiet (fail)
         go_wp2
         go_ret;exact⟨_,rfl,aC (hB2.trans (hbel.mono hB2.size)) _,by rw[HF.out]; rfl⟩
        ·have e1:(au x).neg=false:=by show dh x=false; simpa using hneg
         have HE2:=Ac (HE.out.trans (show(if dh x=true∨0 < iH x 1 then (2:Int) else 0)=if 0 < iH x one then 2 else 0 by
          rw[H1.out];by_cases h:0 < iH x 1
          ·rw[if_pos h,if_pos (.inr h)]
          ·rw[if_neg h,if_neg (fun k=>k.elim hneg h)]))
         clear hneg HE;rw[e1] at ex0 y0 HRV;obtain⟨e0,he0⟩:∃ e0,e0=iH x one:=⟨_,rfl⟩;rw[← he0] at HE2;have HO:=Ac he0; clear he0;by_cases h0:0 < e0
         ·have t4:decide (0 < e0)=true:=decide_eq_true h0;have hse:fD (au x)=2:=HE2.out.trans (if_pos h0);have hrow:=kZ CQ.out HPJ.out HRR.out (by rw[hse]; decide);have HF:=Ac ((jX HLE.out HP.out HK.out HL.out (by rw[hrow,hse]; decide)).trans (hrow.trans hse));clear h0 hse hrow;dsimp only;go_wp2_with fail
          refine wp_region_held_drew (S:=fun w'=>w'.cell? ⟨b,o+k,none⟩=some (.slice (some ⟨b3,o3,none⟩) l.length cr)∧w'.cell? ⟨ob,0,none⟩=some (.bool (au one).neg)∧w'.cell? ⟨ob,1,none⟩=some (.slice A1 (au one).num.length c1)∧w'.cell? ⟨ob,2,none⟩=some (.slice B1 (au one).den.length d1')∧w'.cell? ⟨b3,o3+j*3,none⟩=some (.bool false)∧w'.cell? ⟨b3,o3+j*3+1,none⟩=some (.slice A4 (au x).num.length c4)∧w'.cell? ⟨b3,o3+j*3+2,none⟩=some (.slice A5 (au x).den.length c5)) (by kernel_rfl) ⟨eu,p0,p1,p2,ex0,ex1,ex2⟩ (fun hHeld=>?_);have hb:Below wn.heap.size wn wn.drew:=aC (Below.refl _ wn) 1;replace eu:=ah eu hb;replace p0:=ah p0 hb;replace p1:=ah p1 hb;replace p2:=ah p2 hb;replace ex0:=ah ex0 hb;replace ex1:=ah ex1 hb;replace ex2:=ah ex2 hb;replace HRV:=Ac (HRV.out.below hb);replace HON:=Ac (HON.out.below hb);replace HNM:=Ac (HNM.out.below hb);replace rs:=rs.below hb rs.lt;replace hzr:=Nat.le_trans hzr hb.size;replace hbel:=hbel.trans (hb.mono hbel.size);clear hb;generalize wn.drew=wn at *;refine tk0 [0,1,2,3,4,5,6,7,8,9,10,11,12,13,14,15,16] ?_;iterate 17 (refine tk (v:=?_) rfl (by kernel_rfl) (by kernel_rfl) (by kernel_rfl) (fun _ _ _ h=>h) (Or.inl ⟨by rfl,?_⟩) hHeld ?_;rotate_left;(focus intro wx hSx;(try dsimp only at hSx);go_split_ands;go_simp;try with_reducible rfl);try simp only[Act.put,lq1,lq2,lq3,lq4,lq5,lq6])
          refine tk1 ?_;refine tk2 17 (by kernel_rfl) rfl fun K hK=>?_
          go_simp;refine(qL _ _ _ _ x one HRV.out HON.out (by omega) aaI).mono ?_;rintro e wn ⟨_,rfl,hb,rfl⟩;rw[show iH x one=e0 from HO.out.symm];replace eu:=ah eu hb;replace p0:=ah p0 hb;replace p1:=ah p1 hb;replace p2:=ah p2 hb;replace ex0:=ah ex0 hb;replace ex1:=ah ex1 hb;replace ex2:=ah ex2 hb;replace HRV:=Ac (HRV.out.below hb);replace HON:=Ac (HON.out.below hb);replace HNM:=Ac (HNM.out.below hb);replace rs:=rs.below hb rs.lt;replace hzr:=Nat.le_trans hzr hb.size;replace hbel:=hbel.trans (hb.mono hbel.size);clear hb;dsimp only;clear hHeld;refine hK.out _ _ ⟨eu,p0,p1,p2,ex0,ex1,ex2⟩ (fun hHeld=>?_);clear hK K;try simp only[Act.put,lq1,lq2,lq3,lq4,lq5,lq6]
          refine tk0 [18,19] ?_;iterate 2 (refine tk (v:=?_) rfl (by kernel_rfl) (by kernel_rfl) (by kernel_rfl) (fun _ _ _ h=>h) (Or.inl ⟨by rfl,?_⟩) hHeld ?_;rotate_left;(focus intro wx hSx;(try dsimp only at hSx);go_split_ands;go_simp;try with_reducible rfl);try simp only[Act.put,lq1,lq2,lq3,lq4,lq5,lq6])
          refine tk1 ?_;refine wpAnyH_done (by kernel_rfl) ?_ _;clear hHeld;clear ex0 ex1 ex2 p0 p1 p2 eu;show Exit.then _ _ .normal _ _;go_wp2
          go_ret;exact⟨_,rfl,hB2.trans (hbel.mono hB2.size),by rw[HF.out]; rfl⟩
         ·have hse:fD (au x)=0:=HE2.out.trans (if_neg h0);have HSE:=Ac hse;have t4:decide (0 < e0)=false:=decide_eq_false h0;clear h0 hse;dsimp only;go_wp2_with fail
          refine wp_region_held_drew (S:=fun w'=>w'.cell? ⟨b,o+k,none⟩=some (.slice (some ⟨b3,o3,none⟩) l.length cr)∧w'.cell? ⟨ob,0,none⟩=some (.bool (au one).neg)∧w'.cell? ⟨ob,1,none⟩=some (.slice A1 (au one).num.length c1)∧w'.cell? ⟨ob,2,none⟩=some (.slice B1 (au one).den.length d1')∧w'.cell? ⟨b3,o3+j*3,none⟩=some (.bool false)∧w'.cell? ⟨b3,o3+j*3+1,none⟩=some (.slice A4 (au x).num.length c4)∧w'.cell? ⟨b3,o3+j*3+2,none⟩=some (.slice A5 (au x).den.length c5)) (by kernel_rfl) ⟨eu,p0,p1,p2,ex0,ex1,ex2⟩ (fun hHeld=>?_);have hb:Below wn.heap.size wn wn.drew:=aC (Below.refl _ wn) 1;replace eu:=ah eu hb;replace p0:=ah p0 hb;replace p1:=ah p1 hb;replace p2:=ah p2 hb;replace ex0:=ah ex0 hb;replace ex1:=ah ex1 hb;replace ex2:=ah ex2 hb;replace HRV:=Ac (HRV.out.below hb);replace HON:=Ac (HON.out.below hb);replace HNM:=Ac (HNM.out.below hb);replace rs:=rs.below hb rs.lt;replace hzr:=Nat.le_trans hzr hb.size;replace hbel:=hbel.trans (hb.mono hbel.size);clear hb;generalize wn.drew=wn at *;refine tk0 [0,1,2,3,4,5,6,7,8,9,10,11,12,13,14,15,16] ?_;iterate 17 (refine tk (v:=?_) rfl (by kernel_rfl) (by kernel_rfl) (by kernel_rfl) (fun _ _ _ h=>h) (Or.inl ⟨by rfl,?_⟩) hHeld ?_;rotate_left;(focus intro wx hSx;(try dsimp only at hSx);go_split_ands;go_simp;try with_reducible rfl);try simp only[Act.put,lq1,lq2,lq3,lq4,lq5,lq6])
          refine tk1 ?_;refine tk2 17 (by kernel_rfl) rfl fun K hK=>?_
          go_simp;refine(qL _ _ _ _ x one HRV.out HON.out (by omega) aaI).mono ?_;rintro e wn ⟨_,rfl,hb,rfl⟩;rw[show iH x one=e0 from HO.out.symm];replace eu:=ah eu hb;replace p0:=ah p0 hb;replace p1:=ah p1 hb;replace p2:=ah p2 hb;replace ex0:=ah ex0 hb;replace ex1:=ah ex1 hb;replace ex2:=ah ex2 hb;replace HRV:=Ac (HRV.out.below hb);replace HON:=Ac (HON.out.below hb);replace HNM:=Ac (HNM.out.below hb);replace rs:=rs.below hb rs.lt;replace hzr:=Nat.le_trans hzr hb.size;replace hbel:=hbel.trans (hb.mono hbel.size);clear hb;dsimp only;clear hHeld;refine hK.out _ _ ⟨eu,p0,p1,p2,ex0,ex1,ex2⟩ (fun hHeld=>?_);clear hK K;try simp only[Act.put,lq1,lq2,lq3,lq4,lq5,lq6]
          refine tk0 [18,19] ?_;iterate 2 (refine tk (v:=?_) rfl (by kernel_rfl) (by kernel_rfl) (by kernel_rfl) (fun _ _ _ h=>h) (Or.inl ⟨by rfl,?_⟩) hHeld ?_;rotate_left;(focus intro wx hSx;(try dsimp only at hSx);go_split_ands;go_simp;try with_reducible rfl);try simp only[Act.put,lq1,lq2,lq3,lq4,lq5,lq6])
          refine tk1 ?_;refine wpAnyH_done (by kernel_rfl) ?_ _;clear hHeld;clear ex0 ex1 ex2 p0 p1 p2 eu;show Exit.then _ _ .normal _ _;have eu:=ah eu0 hbel;have s0':=rs.cell (i:=0) rfl; have s1':=rs.cell (i:=1) rfl; have s2':=rs.cell (i:=2) rfl;have ex0:=ah y0 hbel; have ex1:=ah y1 hbel; have ex2:=ah y2 hbel;go_wp2_with fail
          refine bC (fun w'=>w'.cell? ⟨b,o+k,none⟩=some (.slice (some ⟨b3,o3,none⟩) l.length cr)∧w'.cell? ⟨bs,0,none⟩=some (.bool (au s).neg)∧w'.cell? ⟨bs,1,none⟩=some (.slice A' (au s).num.length c')∧w'.cell? ⟨bs,2,none⟩=some (.slice B' (au s).den.length d')∧w'.cell? ⟨b3,o3+j*3,none⟩=some (.bool false)∧w'.cell? ⟨b3,o3+j*3+1,none⟩=some (.slice A4 (au x).num.length c4)∧w'.cell? ⟨b3,o3+j*3+2,none⟩=some (.slice A5 (au x).den.length c5)) 9 1 (by kernel_rfl) rfl (by kernel_rfl) ?_;have hHeld:(fun w':World=>w'.cell? ⟨b,o+k,none⟩=some (.slice (some ⟨b3,o3,none⟩) l.length cr)∧w'.cell? ⟨bs,0,none⟩=some (.bool (au s).neg)∧w'.cell? ⟨bs,1,none⟩=some (.slice A' (au s).num.length c')∧w'.cell? ⟨bs,2,none⟩=some (.slice B' (au s).den.length d')∧w'.cell? ⟨b3,o3+j*3,none⟩=some (.bool false)∧w'.cell? ⟨b3,o3+j*3+1,none⟩=some (.slice A4 (au x).num.length c4)∧w'.cell? ⟨b3,o3+j*3+2,none⟩=some (.slice A5 (au x).den.length c5)) wn.drew:=⟨eu,s0',s1',s2',ex0,ex1,ex2⟩;simp only[List.take_succ_cons,List.take_zero];have hb:Below wn.heap.size wn wn.drew:=aC (Below.refl _ wn) 1;replace eu:=ah eu hb;replace s0':=ah s0' hb;replace s1':=ah s1' hb;replace s2':=ah s2' hb;replace ex0:=ah ex0 hb;replace ex1:=ah ex1 hb;replace ex2:=ah ex2 hb;replace HRV:=Ac (HRV.out.below hb);replace HNM:=Ac (HNM.out.below hb);replace rs:=rs.below hb rs.lt;replace hzr:=Nat.le_trans hzr hb.size;replace hbel:=hbel.trans (hb.mono hbel.size);clear hb;generalize wn.drew=wn at *;refine tk0 [0,1,2,3,4,5,6,7] ?_;iterate 8 (refine tk (v:=?_) rfl (by kernel_rfl) (by kernel_rfl) (by kernel_rfl) (fun _ _ _ h=>h) (Or.inl ⟨by rfl,?_⟩) hHeld ?_;rotate_left;(focus intro wx hSx;(try dsimp only at hSx);go_split_ands;go_simp;try with_reducible rfl);try simp only[Act.put,lq1,lq2,lq3,lq4,lq5,lq6])
          refine tk1 ?_;refine tk2 8 (by kernel_rfl) rfl fun K hK=>?_
          go_simp;refine(uh _ _ _ _ s x HNM.out HRV.out (by omega) (by omega)).mono ?_;rintro e wn ⟨u,rfl,hb,hu⟩;have hu2:RtV wn (fun b=>b≠bs) u (s+x):=hu.mono (fun b hb _=>hb.elim id fun h=>by have:=rs.lt; omega);have HU:=Ac hu2;obtain⟨A6,c6,B6,d6,rfl,hn,hd⟩:=hu2.open;clear hn hd hu hu2;replace eu:=ah eu hb;replace s0':=ah s0' hb;replace s1':=ah s1' hb;replace s2':=ah s2' hb;replace ex0:=ah ex0 hb;replace ex1:=ah ex1 hb;replace ex2:=ah ex2 hb;replace HRV:=Ac (HRV.out.below hb);replace HNM:=Ac (HNM.out.below hb);replace rs:=rs.below hb rs.lt;replace hzr:=Nat.le_trans hzr hb.size;replace hbel:=hbel.trans (hb.mono hbel.size);clear hb;dsimp only;clear hHeld;refine hK.out _ _ ⟨eu,s0',s1',s2',ex0,ex1,ex2⟩ (fun hHeld=>?_);clear hK K;try simp only[Act.put,lq1,lq2,lq3,lq4,lq5,lq6]
          refine wpAnyH_done (by kernel_rfl) ?_ _;clear hHeld;show wpList _ _ _ _ _ _;have q0:=rs.cell (i:=0) rfl; have f0:=rs.frozen 0;have q1:=rs.cell (i:=1) rfl; have f1:=rs.frozen 1;have q2:=rs.cell (i:=2) rfl; have f2:=rs.frozen 2;clear eu s0' s1' s2' ex0 ex1 ex2;go_wp2
          show Exit.inBlock _ _ .normal _ _;go_wp2
          obtain⟨Wz,hWz,hrw,hwz,hkz⟩:=aW rs (.bool (au (s+x)).neg) (.slice A6 (au (s+x)).num.length c6) (.slice B6 (au (s+x)).den.length d6);rw[← hWz];have hsz:Wz.heap.size=wn.heap.size:=by rw[hWz]; simp
          clear hWz q0 q1 q2 f0 f1 f2;have HUU:=Ac (HU.out.keep (fun b hb _=>hb) (hkz (fun b=>b≠bs) (fun h=>h rfl)));go_roundw
          case rel=>exact⟨j+1,s+x,A6,c6,B6,d6,by omega,by go_num,lD HPJ.out (by rw[List.getElem?_map,HRR.out]; show some (fD (au x))=_; rw[HSE.out]),by rw[afz HRR.out,aav,← HSU.out,yH],hsv,hrw,HUU.out,hwz _ _ (by omega) hbel,by omega⟩
          case measure=>simp[intOf]; omega
       ·have t3:(re != 0)=true:=by simp[abz]
        have hse:fD r=re:=by unfold fD; rw[if_pos (by rw[← hre]; exact abz),hre]
        have hrow:=kZ CQ.out HPJ.out HRR.out (by rw[hse]; exact abz);have HF:=Ac ((jX HLE.out HP.out HK.out HL.out (by rw[hrow,hse]; exact abz)).trans (hrow.trans hse));clear hre abz hse hrow;dsimp only;go_wp2
        go_ret;exact⟨_,rfl,hB2.trans (hbel.mono hB2.size),by rw[HF.out]; rfl⟩
      ·have hsh:lW l=0:=by
        have:=HPJ.out;rw[List.take_of_length_le (by simp; omega)] at this;exact this
       have hrow:=sQ CQ.out hsh;have hall:s=pq (l.map vT):=by rw[HSU.out,List.take_of_length_le (by omega)]
       have BU:=Ac (show kN inf.actions l=if iH s one≠0 then 14 else 0 by rw[H1.out,hall]; exact hrow);have ai1:l.length≤10:=by have:=CQ.out; omega
       have aaI:rl one≤20000:=by rw[H1.out,wC]; omega
       have s0':=rs.cell (i:=0) rfl; have s1':=rs.cell (i:=1) rfl; have s2':=rs.cell (i:=2) rfl;clear hsh hrow hall;go_wp2_with fail
       refine(qL _ _ _ _ s one HNM.out HON.out (by omega) aaI).mono ?_;rintro e wn ⟨_,rfl,hb,rfl⟩;replace p0:=ah p0 hb;replace p1:=ah p1 hb;replace p2:=ah p2 hb;replace s0':=ah s0' hb;replace s1':=ah s1' hb;replace s2':=ah s2' hb;replace HON:=Ac (HON.out.below hb);replace HNM:=Ac (HNM.out.below hb);replace rs:=rs.below hb rs.lt;replace hzr:=Nat.le_trans hzr hb.size;replace hbel:=hbel.trans (hb.mono hbel.size);clear hb;clear p0 p1 p2 s0' s1' s2' rs HNM HON;generalize iH s one=e0 at *;by_cases h0:e0=0
       ·have t1:(e0 != 0)=false:=by rw[h0]; rfl
        have hr0:kN inf.actions l=0:=by rw[BU.out,if_neg (by simpa using h0)]
        have HR0:=Ac hr0; clear hr0 h0;dsimp only;go_wp2
        go_roundw
        case rel=>exact⟨k+1,by omega,by go_num,lD HP.out (by rw[xX HK.out HL.out,HR0.out]),hbel⟩
        case measure=>simp[intOf]; omega
       ·have t1:(e0 != 0)=true:=by simp[h0]
        have hr0:kN inf.actions l=14:=by rw[BU.out,if_pos h0]
        have HE:=Ac ((jX HLE.out HP.out HK.out HL.out (by rw[hr0]; decide)).trans hr0);clear hr0 h0;dsimp only;go_wp2
        go_ret;exact⟨_,rfl,hB2.trans (hbel.mono hB2.size),by rw[HE.out]; rfl⟩
    ·have d2:((l.length:Int) != inf.actions)=true:=by simp; omega
     have h3:kN inf.actions l=3:=by unfold kN; rw[if_pos hact]
     have HE:=Ac ((jX HLE.out HP.out HK.out HL.out (by rw[h3]; decide)).trans h3);clear hact h3;go_wp2_with fail
     go_quiet (fail)
     go_wp2
     go_ret;exact⟨_,rfl,aC (hB2.trans (hbel.mono hB2.size)) _,by rw[HE.out]; rfl⟩
   ·have HE:=Ac (aaH HLE.out HP.out (by omega));go_wp2
    go_ret;exact⟨_,rfl,hB2.trans (hbel.mono hB2.size),by rw[HE.out]; rfl⟩
 ·have h3:es=3:=by rw[HES.out]; exact if_pos hlen
  have t1:(es != 0)=true:=by rw[h3]; rfl
  have HE:=Ac (show lS acts m=3 by unfold lS; rw[if_pos (by omega)]);have HES3:=Ac h3;clear h3;dsimp only;go_wp2
  go_ret;exact⟨_,rfl,hB,by rw[HE.out,HES3.out]; rfl⟩
end Go.Proofs.YtkcheepafifjaaaGreatDoor
