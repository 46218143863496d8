/- plan.Check; parlourref16.shape. -/
import Derived.Test.YthmklhapjegfdaaGreatDoorK31
import Derived.Test.YthmklhapjegfdaaGreatDoorK33
set_option linter.all false
set_option maxRecDepth 100000
set_option maxHeartbeats 12800000
namespace Go.Proofs.YthmklhapjegfdaaGreatDoor
open Lib renaming hid → Ac
open Go.RowKit
def eP (g:Gm) (m:List (List Raw)):Int:=if bD g≠0 then bD g else gZ (g.infos.map Inf.actions) m
theorem Ae.below {w w':World} {F:Ag} {v:Value} {l:List (List Raw)} (h:Ae w F v l) (hb:Below w.heap.size w w'):Ae w' F v l:=h.on (Below.same' hb F)
theorem sZ (w:World) (F:Ag) (vg vm:Value) (g:Gm) (m:List (List Raw)) (hg:Az w F vg g) (hsm:Small g) (hm:Ae w F vm m) (hT:BF w) (hlm:m.length≤100000) (hb:Bh m) :
  Calls Tryz.prog 28 #[vg,vm] w (Ret w fun v _=>v = .int .i64 (eP g m)):=by
 have HG:=Ac hg; have HM:=Ac hm; have HS:=Ac hsm; have HT:=Ac hT;have hli:=hsm.infos;have hact:bD g=0→∀ i∈g.infos,i.actions≤10:=uD;obtain⟨vn,vi,rfl,⟨A,c,rfl,hc,_⟩,⟨Ai,ci,rfl,hci,_⟩⟩:=hg;clear hm hsm hT;go_enter Tryz.func28,Tryz.ntmps28;go_wp2_with fail
 obtain⟨W,hW,rx,hB,hz⟩:=aN w 25 #[.int .i64 g.aj,.slice A g.nodes.length c,.slice Ai g.infos.length ci];rw[← hW];clear hW hz;replace HG:=Ac (HG.out.on (Below.same' hB F)); replace HM:=Ac (HM.out.below hB); replace HT:=Ac (HT.out.on hB);have x0:=rx.cell (i:=0) rfl; have x1:=rx.cell (i:=1) rfl; have x2:=rx.cell (i:=2) rfl;clear rx;go_wp2_with fail
 refine(aa5 W F _ g HG.out HS.out).mono ?_;rintro e w1 ⟨_,rfl,hb1,rfl⟩;rw[ae6];replace HG:=Ac (HG.out.on (Below.same' hb1 F)); replace HM:=Ac (HM.out.below hb1); replace HT:=Ac (HT.out.on hb1);replace x0:=ah x0 hb1; replace x1:=ah x1 hb1; replace x2:=ah x2 hb1;have hB1:=hB.trans (hb1.mono hB.size);clear hb1;have HE:=Ac (show eP g m=if bD g≠0 then bD g else gZ (g.infos.map Inf.actions) m from rfl);generalize bD g=fe at *;by_cases h0:fe=0
 ·have t1:(fe != 0)=false:=by rw[h0]; rfl
  have HF:=Ac (HE.out.trans (if_neg (by simpa using h0)));have ha:=hact h0;clear h0 hact;dsimp only;go_wp2_with fail
  refine(aeh w1 F _ _ g m HG.out HM.out HT.out hlm (by omega) hb ha).mono ?_;rintro e w2 ⟨_,rfl,hb2,rfl⟩;have hB2:=hB1.trans (hb2.mono hB1.size);rw[← HF.out];dsimp only;go_wp2
  go_ret;exact⟨_,rfl,hB2,rfl⟩
 ·have t1:(fe != 0)=true:=by simp[h0]
  have HF:=Ac (HE.out.trans (if_pos h0));clear h0 hact;dsimp only;go_wp2
  go_ret;exact⟨_,rfl,hB1,by rw[HF.out]; rfl⟩
theorem aeu (w:World) (F:Ag) (vg vm:Value) (g:Gm) (m:List (List Raw)) (hg:Az w F vg g) (hm:Ae w F vm m) (hlm:m.length≤100000) (hli:g.infos.length≤100000) :
  Calls Tryz.prog 98 #[vg,vm] w (Ret w fun v _=>v = .int .i64 (if m.length≠g.infos.length then 3 else 0)):=by
 obtain⟨vn,vi,rfl,⟨A,c,rfl,hc,_⟩,⟨Ai,ci,rfl,hci,_⟩⟩:=hg;obtain⟨Am,cm,rfl,hcm,_⟩:=hm;obtain⟨er,her⟩:∃ er:Int,er=if m.length≠g.infos.length then 3 else 0:=⟨_,rfl⟩
 rw[← her];by_cases hlen:m.length=g.infos.length
 ·have d1:((m.length:Int) != (g.infos.length:Int))=false:=by simp; omega
  have HE:=Ac (her.trans (if_neg (by simpa using hlen)));clear hlen her;go_enter Tryz.func98,Tryz.ntmps98;go_wp2
  go_ret;exact⟨_,rfl,(Below.refl _ _).alloc (Nat.le_refl _) _,by rw[HE.out]; rfl⟩
 ·have d1:((m.length:Int) != (g.infos.length:Int))=true:=by simp; omega
  have HE:=Ac (her.trans (if_pos hlen));clear hlen her;go_enter Tryz.func98,Tryz.ntmps98;go_wp2
  go_ret;exact⟨_,rfl,(Below.refl _ _).alloc (Nat.le_refl _) _,by rw[HE.out]; rfl⟩
theorem ae8:∀ {mr:List (List Raw)},(∀ l∈mr,∃ xs:List Rat,l=xs.map ay)→∃ m:List (List Rat),mr=m.map (List.map ay)
 | [],_=>⟨[],rfl⟩
 | l :: mr,h=>by
  obtain⟨xs,hx⟩:=h l (List.mem_cons_self);obtain⟨m,hm⟩:=ae8 (mr:=mr) (fun l hl=>h l (List.mem_cons_of_mem _ hl));exact⟨xs :: m,by rw[hx,hm]; rfl⟩
theorem ru {g:Gm} {mr:List (List Raw)} (h:eP g mr=0):bD g=0:=by
 unfold eP at h;by_cases h1:bD g=0
 ·exact h1
 ·rw[if_pos h1] at h; exact h
theorem xw {g:Gm} {mr:List (List Raw)} (h:eP g mr=0):gZ (g.infos.map Inf.actions) mr=0:=by
 have h1:=ru h;unfold eP at h;rwa [if_neg (by simpa using h1)] at h
theorem abQ {a:Int} {l:List Raw} (h:kL a l=0):(l.length:Int)=a∧lV l=0∧iH (o9 (l.map vN)) 1=0:=by
 unfold kL at h;split at h
 ·omega
 rename_i h1
 split at h
 ·omega
 rename_i h2
 split at h
 ·omega
 rename_i h3
 exact⟨by omega,by omega,by omega⟩
theorem pY {acts:List Int} {mr:List (List Raw)} (h:gZ acts mr=0):mr.length=acts.length∧∀ (k:Nat) (a:Int) (l:List Raw),acts[k]? = some a→mr[k]? = some l→kL a l=0:=by
 unfold gZ at h;split at h
 ·omega
 rename_i h1
 exact⟨by omega,fun k a l ha hl=>vM h _ (List.mem_of_getElem? (yc ha hl))⟩
theorem abR {g:Gm} (h:bD g=0):1≤g.aj∧g.aj≤4:=by
 unfold bD at h;split at h
 ·omega
 ·rename_i h1
  unfold iw at h1; omega
theorem ae9:∀ (l:List Int) (a:Int) (k:Nat),(∀ x∈l,1≤x∧x≤1000)→a+l.length≤l.foldl (· + ·) a∧l.foldl (· + ·) a≤a+1000*l.length
 | [],a,k,_=>by simp
 | x :: l,a,k,h=>by
  have h1:=h x (List.mem_cons_self);have h2:=ae9 l (a+x) k (fun y hy=>h y (List.mem_cons_of_mem _ hy));rw[List.foldl_cons,List.length_cons];omega
theorem aev {l:List Int} (h:∀ x∈l,1≤x∧x≤1000):(l.length:Int)≤ahU l∧ahU l≤1000*l.length:=by
 have:=ae9 l 0 0 h;unfold ahU; omega
theorem abS {aj:Int} {ni:Nat} {nodes:List Nd} (h:bY aj ni nodes=0) {n:Nd} (hn:n∈nodes) (hk:n.kind=1):n.weights.length=n.next.length∧1≤n.next.length∧n.next.length≤60∧∀ x∈n.weights,1≤x∧x≤1000:=by
 have h1:=iP h n hn;unfold aO at h1;rw[if_pos hk] at h1;unfold bQ at h1;split at h1
 ·omega
 ·rename_i h2
  split at h1
  ·omega
  ·rename_i h3
   refine⟨by omega,by omega,by omega,fun x hx=>?_⟩;have h4:outside 1 1000 n.weights=false:=by simpa using h3
   unfold outside at h4;have:=List.any_eq_false.1 h4 x hx;simp at this;omega
theorem aew {aj:Int} {ni:Nat} {nodes:List Nd} (h:bY aj ni nodes=0) {n:Nd} (hn:n∈nodes) (hk:n.kind=2):1≤n.next.length∧n.next.length≤10∧0≤n.aI∧n.aI < aj∧0≤n.info∧n.info < (ni:Int):=by
 have h1:=iP h n hn;unfold aO at h1;rw[if_neg (by omega),if_pos hk] at h1;unfold dF at h1;split at h1
 ·omega
 ·rename_i h2
  split at h1
  ·omega
  ·exact⟨by omega,by omega,by omega,by omega,by omega,by omega⟩
theorem kinds {aj:Int} {ni:Nat} {nodes:List Nd} (h:bY aj ni nodes=0) {n:Nd} (hn:n∈nodes):n.kind=1∨n.kind=2∨n.kind=3:=by
 have h1:=iP h n hn;unfold aO at h1;split at h1
 ·exact .inl ‹_›
 ·split at h1
  ·exact .inr (.inl ‹_›)
  ·split at h1
   ·exact .inr (.inr ‹_›)
   ·omega
theorem aex {g:Gm} (h:bD g=0) {n:Nd} (hn:n∈g.nodes) (hk:n.kind=2):∃ inf,g.infos[n.info.toNat]? = some inf∧inf.actions=n.next.length∧inf.aI=n.aI:=by
 obtain⟨h2,h5⟩:=nZ h;have h6:=aew h2 hn hk;unfold jA at h5;split at h5
 ·omega
 rename_i ht
 obtain⟨inf,hi⟩:=ak (l:=g.infos) (k:=n.info.toNat) (by omega);have e2:cZ g.infos n=false:=by
  cases hb:cZ g.infos n with
  | false=>rfl
  | true=>exact absurd (List.any_eq_true.2 ⟨n,hn,hb⟩) ht
 unfold cZ at e2;rw[decide_eq_true hk,Bool.true_and,Bool.or_eq_false_iff,List.getD_eq_getElem?_getD,hi] at e2;have e3:=of_decide_eq_false e2.1;have e4:=of_decide_eq_false e2.2;simp only[Option.getD_some] at e3 e4;exact⟨inf,hi,by omega,by omega⟩
theorem ah1 {a b:Int} (ha:1≤a∧a≤1000) (hb:1≤b∧b≤60000):rl ((a:Rat) / (b:Rat))≤4:=by
 have h1:rl (a:Rat)≤1:=by
  rw[ags];have:(dig a.natAbs).length≤1:=bg (by unfold LB; omega);omega
 have h2:rl (b:Rat)≤1:=by
  rw[ags];have:(dig b.natAbs).length≤1:=bg (by unfold LB; omega);omega
 have hb0:(b:Rat)≠0:=fun e=>by
  have:b=0:=Rat.intCast_inj.1 e;omega
 rw[Rat.div_def];have h3:=aiA (a:Rat) (b:Rat)⁻¹;rw[aiC hb0] at h3;omega
def BI (mr:List (List Raw)):Prop:=∀ l∈mr,∀ r∈l,r.num.length≤4∧r.den.length≤4
theorem ahl {g:Gm} {mr:List (List Raw)} (h:eP g mr=0) (hL:BI mr):∃ m:List (List Rat),mr=m.map (List.map ay)∧Fit g m∧∀ l∈m,o9 l=1∧∀ x∈l,dI x=false:=by
 have hf:=ru h;obtain⟨hlen,hrows⟩:=pY (xw h);have hrow:∀ l∈mr,∃ a:Int,kL a l=0:=by
  intro l hl;obtain⟨k,hk⟩:=List.getElem?_of_mem hl;obtain⟨a,ha⟩:=ak (l:=g.infos.map Inf.actions) (k:=k) (by have:=aG hk; omega);exact⟨a,hrows k a l ha hk⟩
 obtain⟨m,rfl⟩:=ae8 (mr:=mr) (fun l hl=>by
  obtain⟨a,ha⟩:=hrow l hl;obtain⟨xs,hx,_⟩:=tX (abQ ha).2.1;exact⟨xs,hx⟩)
 obtain⟨hne,_⟩:=nZ hf;refine⟨m,rfl,⟨ku hf,hne,abR hf,by simpa using hlen,fun n hn hk=>?_⟩,fun l hl=>?_⟩
 ·rcases kinds hne hn with k1 | k1 | k1
  ·obtain⟨c1,c2,c3,c4⟩:=abS hne hn k1;have hs:=aev c4;unfold qU;rw[if_neg (by omega),List.length_map];refine⟨c1,fun x hx=>?_⟩;obtain⟨y,hy,rfl⟩:=List.mem_map.1 hx;exact ah1 (c4 y hy) (by omega)
  ·obtain⟨inf,hi,ha,_⟩:=aex hf hn k1;obtain⟨l,hl⟩:=ak (l:=m) (k:=n.info.toNat) (by have:=aG hi; simp at hlen; omega);have hr:=hrows n.info.toNat inf.actions (l.map ay) (by rw[List.getElem?_map,hi]; rfl) (by rw[List.getElem?_map,hl]; rfl);have hll:=(abQ hr).1;rw[List.length_map] at hll;unfold qU;rw[if_pos k1,List.getD_eq_getElem?_getD,hl,Option.getD_some];refine⟨by omega,fun x hx=>?_⟩;have:=hL (l.map ay) (List.mem_map_of_mem (List.mem_of_getElem? hl)) (ay x) (List.mem_map_of_mem hx);exact Nat.max_le.2 this
  ·exact absurd k1 hk
 ·obtain⟨a,ha⟩:=hrow (l.map ay) (List.mem_map_of_mem hl);obtain⟨_,h2,h3⟩:=abQ ha;rw[acu] at h3;refine⟨(aaf _ _).1 h3,fun x hx=>?_⟩;have h4:=vM h2 (eY (ay x)) (List.mem_map_of_mem (List.mem_map_of_mem hx));obtain⟨y,hy,_,hn⟩:=aaR h4;rw[afn hy]; exact hn
def A8 (F:Ag) (e:Int) (l:List (List Raw)) (v:Value) (w':World):Prop:=∃ vx,v = .tuple #[vx,.int .i64 e]∧Ae w' F vx l
def kN (g:Gm) (roots:List Int) (m o:List (List Raw)):Int :=
 if bI g roots≠0 then bI g roots else if fU (insL g.nodes.length (aH g.nodes).2 roots) (aT g)=false then 13 else if eP g m≠0 then eP g m else eP g o
def afa (inn:List Bool) (l:List Int):Bool:=ji inn (l.getD 0 0)
def og {α:Type} (inn:List Bool) (sets:List (List Int)) (m o:List (List α)) (i:Nat):List α:=(if afa inn (sets.getD i []) then o else m).getD i []
def uF {α:Type} (inn:List Bool) (sets:List (List Int)) (m o:List (List α)) (k:Nat):List (List α):=(List.range k).map (og inn sets m o)
def kJ (g:Gm) (roots:List Int) (m o:List (List Raw)):List (List Raw) :=
 if kN g roots m o=0 then uF (insL g.nodes.length (aH g.nodes).2 roots) (aT g) m o m.length else []
def aey (g:Gm) (roots:List Int) (m o:List (List Raw)):Int :=
 if iD g roots≠0 then iD g roots else if pV g roots=false then 13 else if gZ (g.infos.map Inf.actions) m≠0 then gZ (g.infos.map Inf.actions) m else gZ (g.infos.map Inf.actions) o
def rC {α:Type} (ss:List Int) (o:List (List α)) (k:Nat) (m:List (List α)):List (List α):=(ss.take k).foldl (fun a s=>a.set s.toNat (o.getD s.toNat [])) m
theorem adn {α:Type} {ss:List Int} {o m:List (List α)} {k:Nat} {s:Int} (h:ss[k]? = some s):rC ss o (k+1) m=(rC ss o k m).set s.toNat (o.getD s.toNat []):=by
 unfold rC; rw[take_snoc h,List.foldl_append]; rfl
def uG (g:Gm) (roots:List Int) (m o:List (List Raw)):List (List Raw) :=
 if aey g roots m o=0 then rC (jg g roots) o (jg g roots).length m else []
theorem ado {α:Type} (o:List (List α)) (i:Nat):∀ (ss:List Int) (m:List (List α)),(∀ s∈ss,0≤s)→i < m.length→(ss.foldl (fun a s=>a.set s.toNat (o.getD s.toNat [])) m)[i]? = if (i:Int)∈ss then some (o.getD i []) else m[i]?
 | [],m,_,_=>by simp
 | s :: ss,m,h,hi=>by
  have hs:=h s List.mem_cons_self;rw[List.foldl_cons,ado o i ss _ (fun s h'=>h s (List.mem_cons_of_mem _ h')) (by rw[List.length_set]; exact hi)];by_cases h1:(i:Int)∈ss
  ·rw[if_pos h1,if_pos (List.mem_cons_of_mem _ h1)]
  ·rw[if_neg h1];by_cases h2:(i:Int)=s
   ·subst h2;rw[if_pos List.mem_cons_self,Int.toNat_natCast,List.getElem?_set_self hi]
   ·rw[if_neg (fun h=>by rcases List.mem_cons.1 h with h | h <;> contradiction),List.getElem?_set_ne (by omega)]
theorem adp {α:Type} (o:List (List α)):∀ (ss:List Int) (m:List (List α)),(ss.foldl (fun a s=>a.set s.toNat (o.getD s.toNat [])) m).length=m.length
 | [],_=>rfl
 | s :: ss,m=>by rw[List.foldl_cons,adp o ss,List.length_set]
theorem af4 {α:Type} {inn:List Bool} {sets:List (List Int)} {m o:List (List α)} (hc:fU inn sets=true) (hne:∀ l∈sets,l≠[]) (hm:m.length=sets.length) :
  rC (kH (ji inn) sets) o (kH (ji inn) sets).length m=uF inn sets m o m.length:=by
 unfold rC;rw[List.take_of_length_le (Nat.le_refl _)];apply List.ext_getElem?
 intro i;by_cases hi:i < m.length
 ·rw[ado o i _ m (fun s hs=>(zL s hs).1) hi];obtain⟨l,hl⟩:=ak (l:=sets) (k:=i) (by omega);obtain⟨x,t,rfl⟩:∃ x t,l=x :: t:=by
   cases l with
   | nil=>exact absurd rfl (hne [] (List.mem_of_getElem? hl))
   | cons x t=>exact⟨x,t,rfl⟩
  unfold uF;rw[List.getElem?_map,List.getElem?_range hi,Option.map_some];have e1:sets.getD i []=x :: t:=by rw[List.getD_eq_getElem?_getD,hl]; rfl
  obtain⟨r,hr⟩:=ak hi;have e2:m.getD i []=r:=by rw[List.getD_eq_getElem?_getD,hr]; rfl
  unfold og afa;rw[e1,show(x :: t).getD 0 0=x from rfl];by_cases hy:(i:Int)∈kH (ji inn) sets
  ·rw[if_pos hy];have h3:=List.all_eq_true.1 hc _ hy;unfold xu at h3;rw[Int.toNat_natCast,e1] at h3;rw[if_pos (List.all_eq_true.1 h3 x List.mem_cons_self)]
  ·rw[if_neg hy];have h3:ji inn x=false:=by
    cases h4:ji inn x with
    | false=>rfl
    | true=>exact absurd (wC.2 ⟨i,x :: t,rfl,hl,by rw[List.any_cons,h4]; rfl⟩) hy
   rw[h3,if_neg (by decide),e2,hr]
 ·rw[List.getElem?_eq_none (by rw[adp]; omega),List.getElem?_eq_none (by unfold uF; rw[List.length_map,List.length_range]; omega)]
theorem aa9 {g:Gm} (h:bD g=0):∀ l∈aT g,l≠[]:=by
 obtain⟨_,h2⟩:=nZ h;unfold jA at h2;intro l hl e;subst e;have:jZ (aT g)=true:=by unfold jZ; exact List.any_eq_true.2 ⟨_,hl,rfl⟩
 rw[this] at h2;split at h2
 ·omega
 ·simp at h2
theorem adq (g:Gm) (roots:List Int) (m o:List (List Raw)):kN g roots m o=aey g roots m o:=by
 unfold kN aey;rw[pX];by_cases h:iD g roots=0
 ·obtain⟨hg,hrt⟩:=uq h;have hf:=(nD (g:=g) (roots:=roots) (by rw[pX]; exact h)).1;rw[if_neg (show ¬ iD g roots≠0 by simpa using h),if_neg (show ¬ iD g roots≠0 by simpa using h),aa8 hg (zB hrt),aer];have es:∀ m,eP g m=gZ (g.infos.map Inf.actions) m:=fun m=>by unfold eP; rw[if_neg (by simpa using hf)]
  unfold pV;rw[show(aT g).length=g.infos.length from bC _ _ _,es,es]
 ·rw[if_pos h,if_pos h]
theorem adr {g:Gm} {roots:List Int} {m o:List (List Raw)} (h:kN g roots m o=0):bI g roots=0∧fU (insL g.nodes.length (aH g.nodes).2 roots) (aT g)=true∧eP g m=0∧eP g o=0:=by
 unfold kN at h;by_cases h1:bI g roots=0
 ·rw[if_neg (by simpa using h1)] at h;by_cases h2:fU (insL g.nodes.length (aH g.nodes).2 roots) (aT g)=false
  ·rw[if_pos h2] at h; omega
  ·rw[if_neg h2] at h;by_cases h3:eP g m=0
   ·rw[if_neg (by simpa using h3)] at h;exact⟨h1,by simpa using h2,h3,h⟩
   ·rw[if_pos h3] at h; exact absurd h h3
 ·rw[if_pos h1] at h; exact absurd h h1
theorem wF {g:Gm} {m:List (List Raw)} (h:eP g m=0):m.length=(aT g).length:=by
 have:=(pY (xw h)).1;rw[List.length_map] at this;rw[this]; exact(bC _ _ _).symm
theorem aez (g:Gm) (roots:List Int) (m o:List (List Raw)):kJ g roots m o=uG g roots m o:=by
 unfold kJ uG;rw[← adq];by_cases h:kN g roots m o=0
 ·rw[if_pos h,if_pos h];obtain⟨h1,h2,h3,h4⟩:=adr h;rw[← af4 h2 (aa9 (ru h3)) (wF h3)];have h5:iD g roots=0:=by rw[← pX]; exact h1
  obtain⟨hg,hrt⟩:=uq h5;rw[aa8 hg (zB hrt)];unfold jg kH;rw[af2,show(aT g).length=g.infos.length from bC _ _ _]
 ·rw[if_neg h,if_neg h]
structure IntsIn (w:World) (F:Ag) (v:Value) (l:List Int) (N:Nat):Prop where
 at_:Ak w F v l
 len:l.length=N
structure Layout (g:Gm) (up place:List Int):Prop where
 ahm:up.length=g.nodes.length
 ahn:place.length=g.nodes.length
 root:up[0]? = some (-1)
 kid:∀ i k c,Kid g.nodes i k c→up[c]? = some (i:Int)∧place[c]? = some (k:Int)
structure Counts (w:World) (F:Ag) (fid:FuncId) (caps:Array Value) (nodes:List Nd) (cnt:Nd→Bool):Prop where
 enters:∀ (args:Array Value) (w':World),(callFunc fid args).run Tryz.prog w' = .ok (.enter fid args) w'
 calls:∀ (W:World) (n:Nd) (v:Value),n∈nodes→Bf W F v n→Below w.heap.size w W→Calls Tryz.prog fid (#[v]++caps) W (Ret W fun u _=>u = .bool (cnt n))
theorem Bf.cells {w:World} {F:Ag} {v:Value} {n:Nd} (h:Bf w F v n):∃ A3 c3 A4 c4 A5 c5,v = .agg #[.int .i64 n.kind,.int .i64 n.aI,.int .i64 n.info,.slice A3 n.next.length c3,.slice A4 n.weights.length c4,.slice A5 n.pay.length c5]:=by
 obtain⟨v3,v4,v5,rfl,⟨A3,c3,rfl,_⟩,⟨A4,c4,rfl,_⟩,⟨A5,c5,rfl,_⟩⟩:=h;exact⟨A3,c3,A4,c4,A5,c5,rfl⟩
structure Laid (g:Gm) (U P:List Int) (i k:Nat):Prop where
 ahm:U.length=g.nodes.length
 ahn:P.length=g.nodes.length
 root:U[0]? = some (-1)
 kid:∀ i' k' c,Kid g.nodes i' k' c→(i' < i∨(i'=i∧k' < k))→U[c]? = some (i':Int)∧P[c]? = some (k':Int)
theorem Laid.start {g:Gm} (h0:0 < g.nodes.length):Laid g ((List.replicate g.nodes.length 0).set 0 (-1)) (List.replicate g.nodes.length 0) 0 0 :=
 ⟨by simp,by simp,by simp[h0],fun i' k' c _ h=>by omega⟩
theorem Laid.step {g:Gm} (hg:Good g) {U P:List Int} {i k c:Nat} (h:Laid g U P i k) (hk:Kid g.nodes i k c):Laid g (U.set c (i:Int)) (P.set c (k:Int)) i (k+1):=by
 have hl:=hg.abL hk;refine⟨by rw[List.length_set]; exact h.ahm,by rw[List.length_set]; exact h.ahn,by rw[List.getElem?_set_ne (by omega)]; exact h.root,fun i' k' c' hk' hlt=>?_⟩;by_cases e:c'=c
 ·subst e;obtain⟨rfl,rfl⟩:=hg.ahT hk' hk;rw[List.getElem?_set_self (by rw[h.ahm]; omega),List.getElem?_set_self (by rw[h.ahn]; omega)];exact⟨rfl,rfl⟩
 ·rw[List.getElem?_set_ne (fun h=>e h.symm),List.getElem?_set_ne (fun h=>e h.symm)];refine h.kid i' k' c' hk' ?_;rcases hlt with h1 | ⟨h1,h2⟩
  ·exact .inl h1
  ·by_cases e2:k'=k
   ·subst e2; subst h1;obtain⟨n,hn,hc⟩:=hk;obtain⟨n',hn',hc'⟩:=hk';rw[hn] at hn'; cases hn';rw[hc] at hc'; injection hc' with e3
    exact absurd (Int.ofNat_inj.1 e3).symm e
   ·exact .inr ⟨h1,by omega⟩
theorem Laid.next {g:Gm} {U P:List Int} {i k:Nat} {n:Nd} (h:Laid g U P i k) (hn:g.nodes[i]? = some n) (hk:n.next.length≤k):Laid g U P (i+1) 0 :=
 ⟨h.ahm,h.ahn,h.root,fun i' k' c hk' hlt=>h.kid i' k' c hk' (by
  rcases hlt with h1 | ⟨_,h2⟩
  ·by_cases e:i'=i
   ·subst e;obtain⟨n',hn',hc⟩:=hk';rw[hn] at hn'; cases hn';have:=aG hc;exact .inr ⟨rfl,by omega⟩
   ·exact .inl (by omega)
  ·omega)⟩
theorem Laid.done {g:Gm} {U P:List Int} {i k:Nat} (h:Laid g U P i k) (hi:g.nodes.length≤i):Layout g U P :=
 ⟨h.ahm,h.ahn,h.root,fun i' k' c hk'=>h.kid i' k' c hk' (.inl (by
  obtain⟨n,hn,_⟩:=hk';have:=aG hn;omega))⟩
structure VAp (B bp bu bl:Nat):Prop where
 p:B < bp
 u:B < bu
 l:B < bl
 pu:bp≠bu
 pl:bp≠bl
 ul:bu≠bl
section
variable {w:World} {g:Gm} {A:Option Addr} {c:Nat} {Ai:Option Addr} {ci:Nat} {vm:Value} {bp bu bl:Nat} {U P:List Int} {wr wr':World}
end
open List renaming getElem_toArray → lq1, getElem_cons_zero → lq2, getElem_cons_succ → lq3, setIfInBounds_toArray → lq4, set_cons_zero → lq5, set_cons_succ → lq6
theorem af5 {l:List Raw} {j:Nat} {r:Raw} (h:l[j]? = some r):(l.take (j+1)).map vN=(l.take j).map vN ++ [vN r]:=by rw[take_snoc h,List.map_append]; rfl
theorem abb (w:World) (F:Ag) (vg vm:Value) (g:Gm) (m:List (List Raw)) (hg:Az w F vg g) (hm:Ae w F vm m) (hlm:m.length≤100000) (hli:g.infos.length≤100000) (hb:Bh m) (hact:∀ i∈g.infos,i.actions≤10) :
  Calls Tryz.prog 50 #[vg,vm] w (Ret w fun v _=>v = .int .i64 (gZ (g.infos.map Inf.actions) m)):=by
 have HG:=Ac hg; have HM:=Ac hm;obtain⟨vn,vi,rfl,⟨A,c,rfl,hc,hN⟩,⟨Ai,ci,rfl,hci,hI⟩⟩:=hg;obtain⟨Am,cm,rfl,hcm,hMM⟩:=hm;have HBB:=Ac hb; have HA:=Ac hact; have HI:=Ac hI;clear hN hI hMM hb hact;obtain⟨acts,vk⟩:∃ a,a=g.infos.map Inf.actions:=⟨_,rfl⟩;rw[← vk];have hal:acts.length=g.infos.length:=by rw[vk,List.length_map]
 have HAC:=Ac vk; clear vk;obtain⟨es,hes⟩:∃ es:Int,es=if m.length≠g.infos.length then 3 else 0:=⟨_,rfl⟩
 have HES:=Ac hes; clear hes;go_enter Tryz.func50,Tryz.ntmps50;go_wp2_with fail
 obtain⟨W,hW,rx,hB,hz⟩:=aN w 25 #[.int .i64 g.aj,.slice A g.nodes.length c,.slice Ai g.infos.length ci];rw[← hW];clear hW;replace HG:=Ac (HG.out.on (Below.same' hB F)); replace HM:=Ac (HM.out.below hB);have x0:=rx.cell (i:=0) rfl; have x1:=rx.cell (i:=1) rfl; have x2:=rx.cell (i:=2) rfl;clear rx;have hz:w.heap.size+1≤W.heap.size:=by omega
 go_wp2_with fail
 refine(aeu W F _ _ g m HG.out HM.out hlm hli).mono ?_;rintro e wn ⟨_,rfl,hb,rfl⟩;replace x0:=ah x0 hb;replace x1:=ah x1 hb;replace x2:=ah x2 hb;replace HM:=Ac (HM.out.below hb);replace hz:=Nat.le_trans hz hb.size;replace hB:=hB.trans (hb.mono hB.size);clear hb;rw[← HES.out];by_cases hlen:m.length=g.infos.length
 ·have HLE:=Ac (show m.length=acts.length by omega);have hle1:m.length≤g.infos.length:=by omega
  have hle2:g.infos.length≤m.length:=by omega
  have hle3:m.length≤acts.length:=by omega
  have h0:es=0:=by rw[HES.out]; exact if_neg (by simpa using hlen)
  have t1:(es != 0)=false:=by rw[h0]; rfl
  clear hlen hal h0 HG;dsimp only;go_wp2_with fail
  refine(zq wn 1 (by decide) (by decide)).mono ?_;rintro e wn ⟨u,rfl,hb,hu⟩;replace x0:=ah x0 hb;replace x1:=ah x1 hb;replace x2:=ah x2 hb;replace HM:=Ac (HM.out.below hb);replace hz:=Nat.le_trans hz hb.size;replace hB:=hB.trans (hb.mono hB.size);clear hb;obtain⟨one,hone⟩:∃ one:Rat,one=((1:Int):Rat):=⟨_,rfl⟩;rw[← hone] at hu;have H1:=Ac (show one=1 from hone); clear hone;have BH:=Ac (hu.mono (G:=fun _=>True) (fun _ _ _=>trivial));obtain⟨A1,c1,B1,d1',rfl,hn,hd⟩:=hu.open;clear hn hd hu;dsimp only;go_wp2_with fail
  obtain⟨ob,hob⟩:∃ ob,ob=wn.heap.size:=⟨_,rfl⟩;obtain⟨W1,hW1,ry,hB1,hzz⟩:=aN wn 83 #[.bool (ay one).neg,.slice A1 (ay one).num.length c1,.slice B1 (ay one).den.length d1'];rw[← hW1];rw[← hob] at ry ⊢;have hos:ob < W1.heap.size:=ry.lt;clear hW1 hzz hob;replace BH:=Ac (BH.out.below hB1);replace HM:=Ac (HM.out.below hB1);have g2:=ah x2 hB1;have hB2:=hB.trans (hB1.mono hB.size);replace HI:=Ac (fun h=>by
   obtain⟨b,o,h1,h2,h3,h4⟩:=HI.out h;exact(⟨b,o,h1,h2,Nat.lt_of_lt_of_le h3 hB2.size,fun k x hx=>⟨ah (h4 k x hx).c0 hB2,ah (h4 k x hx).c1 hB2⟩⟩:∃ b o,Ai=some ⟨b,o,none⟩∧F b∧b < W1.heap.size∧∀ k x,g.infos[k]? = some x→Dq W1 F b (o+k*2) x))
  have o0:=ry.cell (i:=0) rfl; have o1:=ry.cell (i:=1) rfl; have o2:=ry.cell (i:=2) rfl;clear ry hB1 hB x0 x1 x2 hz;have hz2:=hB2.size;go_loopw [7] (fun i wr=>∃ k:Nat,k≤m.length∧i = .int .i64 (k:Int)∧gu ((List.zipWith kL acts m).take k)=0∧Below W1.heap.size W1 wr) (fun i _=>m.length - (intOf i).toNat)
  case atStart=>exact⟨0,by omega,rfl,rfl,Below.refl _ _⟩
  case round =>
   obtain⟨k,hk,rfl,hpre,hbel⟩:=hrel;have HP:=Ac hpre; clear hpre;by_cases hlt:k < m.length
   ·obtain⟨l,hl⟩:=ak hlt;obtain⟨inf,pz⟩:=ak (l:=g.infos) (k:=k) (by omega);have hak:acts[k]? = some inf.actions:=by rw[HAC.out,List.getElem?_map,pz]; rfl
    obtain⟨A0,c0,he,_,hM⟩:=HM.out;cases he
    obtain⟨b,o,rfl,hF,hbl,hx⟩:=hM (by omega);obtain⟨ur,eu0,hrow⟩:=hx k l hl;rw[Nat.mul_one] at eu0;have HRW:=Ac hrow;obtain⟨Ar,cr,rfl,hcr,_⟩:=hrow;obtain⟨b2,p2,rfl,hF2,hbl2,hx2⟩:=HI.out (by omega);have ei0:=(hx2 k inf pz).c1;have hia:inf.actions≤10:=HA.out inf (List.mem_of_getElem? pz);have fM:=HBB.out l (List.mem_of_getElem? hl);have HFI:=Ac fM.2;have hll:=fM.1;have HL:=Ac hl; have HK:=Ac hak;clear hx hx2 hM hl pz hak fM;have eu:=ah eu0 hbel; have ei:=ah ei0 hbel; have gr:=ah g2 hbel;by_cases hact:(l.length:Int)=inf.actions
    ·have d2:((l.length:Int) != inf.actions)=false:=by simp; omega
     have CW:=Ac hact;go_wp2_with fail
     go_quiet (fail)
     have hb:Below wr.heap.size wr (wr.drewN nq):=aF (Below.refl _ wr) nq;have hzr:W1.heap.size≤wr.heap.size:=hbel.size;clear eu ei gr;replace hzr:=Nat.le_trans hzr hb.size;replace hbel:=hbel.trans (hb.mono hbel.size);clear hb;generalize wr.drewN nq=wq at *;go_wp2_with fail
     refine(zq wq 0 (by decide) (by decide)).mono ?_;rintro e wn ⟨u,rfl,hb,hu⟩;replace hzr:=Nat.le_trans hzr hb.size;replace hbel:=hbel.trans (hb.mono hbel.size);clear hb;obtain⟨s0,hs0⟩:∃ s0:Rat,s0=((0:Int):Rat):=⟨_,rfl⟩;rw[← hs0] at hu;have H0:=Ac (show s0=0 from hs0); clear hs0;have HZ:=Ac hu;obtain⟨A3,c3,B3,d3,rfl,hn,hd⟩:=hu.open;clear hn hd hu;dsimp only;go_wp2_with fail
     obtain⟨bs,hbs⟩:∃ bs,bs=wn.heap.size:=⟨_,rfl⟩;obtain⟨W2,hW2,rs,hB2',hzz⟩:=aN wn 83 #[.bool (ay s0).neg,.slice A3 (ay s0).num.length c3,.slice B3 (ay s0).den.length d3];rw[← hW2];rw[← hbs] at rs ⊢;have hbs1:W1.heap.size≤bs:=by omega
     have hZ:RtV W2 (fun b=>b≠bs) (.agg #[.bool (ay s0).neg,.slice A3 (ay s0).num.length c3,.slice B3 (ay s0).den.length d3]) s0:=(HZ.out.mono (G:=fun b=>b≠bs) (fun b _ hl=>by omega)).below hB2';replace hbel:=hbel.trans (hB2'.mono hbel.size);have HST:=Ac rs; have HZ2:=Ac hZ;have hs2:W2.heap.size≤W2.heap.size:=Nat.le_refl _;have hbs2:=rs.lt;clear hW2 hzz hbs HZ rs hZ hB2';go_loopw [9] (fun i wi=>∃ (j:Nat) (s:Rat) (A':Option Addr) (c':Nat) (B':Option Addr) (d':Nat),j≤l.length∧i = .int .i64 (j:Int)∧gu ((l.map eY).take j)=0∧s=o9 ((l.take j).map vN)∧rl s≤1+1025*j∧Row wi bs 83 [.bool (ay s).neg,.slice A' (ay s).num.length c',.slice B' (ay s).den.length d'] ∧
      RtV wi (fun b=>b≠bs) (.agg #[.bool (ay s).neg,.slice A' (ay s).num.length c',.slice B' (ay s).den.length d']) s∧Below W1.heap.size W1 wi∧W2.heap.size≤wi.heap.size) (fun i _=>l.length - (intOf i).toNat)
     case atStart=>exact⟨0,s0,A3,c3,B3,d3,by omega,rfl,rfl,by rw[H0.out]; rfl,by rw[H0.out,aeQ]; omega,HST.out,HZ2.out,hbel,hs2⟩
     case round =>
      clear HST HZ2 hbel hzr H0 hs2;obtain⟨j,s,A',c',B',d',hj,rfl,hpre,hsum,hrs,rs,hnm,hbel,hzr⟩:=hrel;have HPJ:=Ac hpre; have HSU:=Ac hsum; have HNM:=Ac hnm; clear hpre hsum hnm;have eu:=ah eu0 hbel;have p0:=ah o0 hbel; have p1:=ah o1 hbel; have p2:=ah o2 hbel;have HON:=Ac (AB.mono (G:=fun b=>b≠bs) (AB.below (AB.old BH.out) hbel) (fun b hb _=>by have:=hb.2; omega));by_cases hlt2:j < l.length
      ·obtain⟨A2,c2,he,_,hR⟩:=HRW.out;cases he
       obtain⟨b3,o3,rfl,hF3,hb3,hx3⟩:=hR (by omega);obtain⟨r,hr⟩:=ak hlt2;obtain⟨ex0,⟨vn,ex1,hn⟩,⟨vd,ex2,hd⟩⟩:=hx3 j r hr;have HRV:=Ac (AB.mono (G:=fun b=>b≠bs) ((AB.below (AB.old (AB.make (r:=r) rfl hn hd)) hbel)) (fun b hb _=>by have:=hb.2; omega));obtain⟨A4,c4,rfl,_,_⟩:=hn;obtain⟨A5,c5,rfl,_,_⟩:=hd;have hfr:=HFI.out r (List.mem_of_getElem? hr);have HFR:=Ac hfr.1;have hf2:=hfr.2.1; have hf3:=hfr.2.2;have HRR:=Ac hr;have y0:=ex0; have y1:=ex1; have y2:=ex2;replace ex0:=ah ex0 hbel; replace ex1:=ah ex1 hbel; replace ex2:=ah ex2 hbel;clear hx3 hR hr hfr;have ajg:l.length≤10:=by have:=CW.out; omega
       go_wp2_with fail
       refine(aaw wr _ _ r HRV.out HFR.out hf2 hf3).mono ?_;rintro e wn ⟨_,rfl,hb,rfl⟩;replace eu:=ah eu hb;replace p0:=ah p0 hb;replace p1:=ah p1 hb;replace p2:=ah p2 hb;replace ex0:=ah ex0 hb;replace ex1:=ah ex1 hb;replace ex2:=ah ex2 hb;replace HRV:=Ac (HRV.out.below hb);replace HON:=Ac (HON.out.below hb);replace HNM:=Ac (HNM.out.below hb);replace rs:=rs.below hb rs.lt;replace hzr:=Nat.le_trans hzr hb.size;replace hbel:=hbel.trans (hb.mono hbel.size);clear hb;obtain⟨re,hre⟩:∃ re,re=dS r:=⟨_,rfl⟩;rw[← hre];by_cases abT:re=0
       ·have t3:(re != 0)=false:=by rw[abT]; rfl
        have h1:dS r=0:=hre.symm.trans abT;have HRE:=Ac hre; have HRE0:=Ac abT;clear hre abT;obtain⟨⟨x,rfl⟩,h2,h3⟩:=vK h1;have hrx:rl x≤1024:=by unfold rl; exact Nat.max_le.2 ⟨h2,h3⟩
        have HE:=Ac (zH x h1);clear h1 h2 h3 HFR hf2 hf3;have hsv:rl (s+x)≤1+1025*(j+1):=by have:=adF s x; omega
        obtain⟨one',hone'⟩:∃ y:Rat,y=1:=⟨_,rfl⟩;have aa2:rl one≤20000:=by rw[H1.out,zG]; omega
        by_cases hneg:dI x=true
        ·have e1:(ay x).neg=true:=hneg;have hse:eY (ay x)=2:=HE.out.trans (if_pos (.inl hneg));have hrow:=lC CW.out HPJ.out HRR.out (by rw[hse]; decide);have HF:=Ac ((jQ HLE.out HP.out HK.out HL.out (by rw[hrow,hse]; decide)).trans (hrow.trans hse));clear hneg hse hrow;rw[e1] at ex0;dsimp only;go_wp2_with fail
         go_quiet (fail)
         go_wp2
         go_ret;exact⟨_,rfl,aF (hB2.trans (hbel.mono hB2.size)) _,by rw[HF.out]; rfl⟩
        ·have e1:(ay x).neg=false:=by show dI x=false; simpa using hneg
         have HE2:=Ac (HE.out.trans (show(if dI x=true∨0 < iH x 1 then (2:Int) else 0)=if 0 < iH x one then 2 else 0 by
          rw[H1.out];by_cases h:0 < iH x 1
          ·rw[if_pos h,if_pos (.inr h)]
          ·rw[if_neg h,if_neg (fun k=>k.elim hneg h)]))
         clear hneg HE;rw[e1] at ex0 y0 HRV;obtain⟨e0,he0⟩:∃ e0,e0=iH x one:=⟨_,rfl⟩;rw[← he0] at HE2;have HO:=Ac he0; clear he0;by_cases h0:0 < e0
         ·have t4:decide (0 < e0)=true:=decide_eq_true h0;have hse:eY (ay x)=2:=HE2.out.trans (if_pos h0);have hrow:=lC CW.out HPJ.out HRR.out (by rw[hse]; decide);have HF:=Ac ((jQ HLE.out HP.out HK.out HL.out (by rw[hrow,hse]; decide)).trans (hrow.trans hse));clear h0 hse hrow;dsimp only;go_wp2_with fail
          refine wp_region_held_drew (S:=fun w'=>w'.cell? ⟨b,o+k,none⟩=some (.slice (some ⟨b3,o3,none⟩) l.length cr)∧w'.cell? ⟨ob,0,none⟩=some (.bool (ay one).neg)∧w'.cell? ⟨ob,1,none⟩=some (.slice A1 (ay one).num.length c1)∧w'.cell? ⟨ob,2,none⟩=some (.slice B1 (ay one).den.length d1')∧w'.cell? ⟨b3,o3+j*3,none⟩=some (.bool false)∧w'.cell? ⟨b3,o3+j*3+1,none⟩=some (.slice A4 (ay x).num.length c4)∧w'.cell? ⟨b3,o3+j*3+2,none⟩=some (.slice A5 (ay x).den.length c5)) (by kernel_rfl) ⟨eu,p0,p1,p2,ex0,ex1,ex2⟩ (fun hHeld=>?_);have hb:Below wn.heap.size wn wn.drew:=aF (Below.refl _ wn) 1;replace eu:=ah eu hb;replace p0:=ah p0 hb;replace p1:=ah p1 hb;replace p2:=ah p2 hb;replace ex0:=ah ex0 hb;replace ex1:=ah ex1 hb;replace ex2:=ah ex2 hb;replace HRV:=Ac (HRV.out.below hb);replace HON:=Ac (HON.out.below hb);replace HNM:=Ac (HNM.out.below hb);replace rs:=rs.below hb rs.lt;replace hzr:=Nat.le_trans hzr hb.size;replace hbel:=hbel.trans (hb.mono hbel.size);clear hb;generalize wn.drew=wn at *;refine tk0 [0,1,2,3,4,5,6,7,8,9,10,11,12,13,14,15,16] ?_;iterate 17 (refine tk (v:=?_) rfl (by kernel_rfl) (by kernel_rfl) (by kernel_rfl) (fun _ _ _ h=>h) (Or.inl ⟨by rfl,?_⟩) hHeld ?_;rotate_left;(focus intro wx hSx;(try dsimp only at hSx);go_split_ands;go_simp;try with_reducible rfl);try simp only[Act.put,lq1,lq2,lq3,lq4,lq5,lq6])
          refine tk1 ?_;refine tk2 17 (by kernel_rfl) rfl fun K hK=>?_
          go_simp;refine(qP _ _ _ _ x one HRV.out HON.out (by omega) aa2).mono ?_;rintro e wn ⟨_,rfl,hb,rfl⟩;rw[show iH x one=e0 from HO.out.symm];replace eu:=ah eu hb;replace p0:=ah p0 hb;replace p1:=ah p1 hb;replace p2:=ah p2 hb;replace ex0:=ah ex0 hb;replace ex1:=ah ex1 hb;replace ex2:=ah ex2 hb;replace HRV:=Ac (HRV.out.below hb);replace HON:=Ac (HON.out.below hb);replace HNM:=Ac (HNM.out.below hb);replace rs:=rs.below hb rs.lt;replace hzr:=Nat.le_trans hzr hb.size;replace hbel:=hbel.trans (hb.mono hbel.size);clear hb;dsimp only;clear hHeld;refine hK.out _ _ ⟨eu,p0,p1,p2,ex0,ex1,ex2⟩ (fun hHeld=>?_);clear hK K;try simp only[Act.put,lq1,lq2,lq3,lq4,lq5,lq6]
          refine tk0 [18,19] ?_;iterate 2 (refine tk (v:=?_) rfl (by kernel_rfl) (by kernel_rfl) (by kernel_rfl) (fun _ _ _ h=>h) (Or.inl ⟨by rfl,?_⟩) hHeld ?_;rotate_left;(focus intro wx hSx;(try dsimp only at hSx);go_split_ands;go_simp;try with_reducible rfl);try simp only[Act.put,lq1,lq2,lq3,lq4,lq5,lq6])
          refine tk1 ?_;refine wpAnyH_done (by kernel_rfl) ?_ _;clear hHeld;clear ex0 ex1 ex2 p0 p1 p2 eu;show Exit.then _ _ .normal _ _;go_wp2
          go_ret;exact⟨_,rfl,hB2.trans (hbel.mono hB2.size),by rw[HF.out]; rfl⟩
         ·have hse:eY (ay x)=0:=HE2.out.trans (if_neg h0);have HSE:=Ac hse;have t4:decide (0 < e0)=false:=decide_eq_false h0;clear h0 hse;dsimp only;go_wp2_with fail
          refine wp_region_held_drew (S:=fun w'=>w'.cell? ⟨b,o+k,none⟩=some (.slice (some ⟨b3,o3,none⟩) l.length cr)∧w'.cell? ⟨ob,0,none⟩=some (.bool (ay one).neg)∧w'.cell? ⟨ob,1,none⟩=some (.slice A1 (ay one).num.length c1)∧w'.cell? ⟨ob,2,none⟩=some (.slice B1 (ay one).den.length d1')∧w'.cell? ⟨b3,o3+j*3,none⟩=some (.bool false)∧w'.cell? ⟨b3,o3+j*3+1,none⟩=some (.slice A4 (ay x).num.length c4)∧w'.cell? ⟨b3,o3+j*3+2,none⟩=some (.slice A5 (ay x).den.length c5)) (by kernel_rfl) ⟨eu,p0,p1,p2,ex0,ex1,ex2⟩ (fun hHeld=>?_);have hb:Below wn.heap.size wn wn.drew:=aF (Below.refl _ wn) 1;replace eu:=ah eu hb;replace p0:=ah p0 hb;replace p1:=ah p1 hb;replace p2:=ah p2 hb;replace ex0:=ah ex0 hb;replace ex1:=ah ex1 hb;replace ex2:=ah ex2 hb;replace HRV:=Ac (HRV.out.below hb);replace HON:=Ac (HON.out.below hb);replace HNM:=Ac (HNM.out.below hb);replace rs:=rs.below hb rs.lt;replace hzr:=Nat.le_trans hzr hb.size;replace hbel:=hbel.trans (hb.mono hbel.size);clear hb;generalize wn.drew=wn at *;refine tk0 [0,1,2,3,4,5,6,7,8,9,10,11,12,13,14,15,16] ?_;iterate 17 (refine tk (v:=?_) rfl (by kernel_rfl) (by kernel_rfl) (by kernel_rfl) (fun _ _ _ h=>h) (Or.inl ⟨by rfl,?_⟩) hHeld ?_;rotate_left;(focus intro wx hSx;(try dsimp only at hSx);go_split_ands;go_simp;try with_reducible rfl);try simp only[Act.put,lq1,lq2,lq3,lq4,lq5,lq6])
          refine tk1 ?_;refine tk2 17 (by kernel_rfl) rfl fun K hK=>?_
          go_simp;refine(qP _ _ _ _ x one HRV.out HON.out (by omega) aa2).mono ?_;rintro e wn ⟨_,rfl,hb,rfl⟩;rw[show iH x one=e0 from HO.out.symm];replace eu:=ah eu hb;replace p0:=ah p0 hb;replace p1:=ah p1 hb;replace p2:=ah p2 hb;replace ex0:=ah ex0 hb;replace ex1:=ah ex1 hb;replace ex2:=ah ex2 hb;replace HRV:=Ac (HRV.out.below hb);replace HON:=Ac (HON.out.below hb);replace HNM:=Ac (HNM.out.below hb);replace rs:=rs.below hb rs.lt;replace hzr:=Nat.le_trans hzr hb.size;replace hbel:=hbel.trans (hb.mono hbel.size);clear hb;dsimp only;clear hHeld;refine hK.out _ _ ⟨eu,p0,p1,p2,ex0,ex1,ex2⟩ (fun hHeld=>?_);clear hK K;try simp only[Act.put,lq1,lq2,lq3,lq4,lq5,lq6]
          refine tk0 [18,19] ?_;iterate 2 (refine tk (v:=?_) rfl (by kernel_rfl) (by kernel_rfl) (by kernel_rfl) (fun _ _ _ h=>h) (Or.inl ⟨by rfl,?_⟩) hHeld ?_;rotate_left;(focus intro wx hSx;(try dsimp only at hSx);go_split_ands;go_simp;try with_reducible rfl);try simp only[Act.put,lq1,lq2,lq3,lq4,lq5,lq6])
          refine tk1 ?_;refine wpAnyH_done (by kernel_rfl) ?_ _;clear hHeld;clear ex0 ex1 ex2 p0 p1 p2 eu;show Exit.then _ _ .normal _ _;have eu:=ah eu0 hbel;have s0':=rs.cell (i:=0) rfl; have s1':=rs.cell (i:=1) rfl; have s2':=rs.cell (i:=2) rfl;have ex0:=ah y0 hbel; have ex1:=ah y1 hbel; have ex2:=ah y2 hbel;go_wp2_with fail
          refine dQ (fun w'=>w'.cell? ⟨b,o+k,none⟩=some (.slice (some ⟨b3,o3,none⟩) l.length cr)∧w'.cell? ⟨bs,0,none⟩=some (.bool (ay s).neg)∧w'.cell? ⟨bs,1,none⟩=some (.slice A' (ay s).num.length c')∧w'.cell? ⟨bs,2,none⟩=some (.slice B' (ay s).den.length d')∧w'.cell? ⟨b3,o3+j*3,none⟩=some (.bool false)∧w'.cell? ⟨b3,o3+j*3+1,none⟩=some (.slice A4 (ay x).num.length c4)∧w'.cell? ⟨b3,o3+j*3+2,none⟩=some (.slice A5 (ay x).den.length c5)) 9 1 (by kernel_rfl) rfl (by kernel_rfl) ?_;have hHeld:(fun w':World=>w'.cell? ⟨b,o+k,none⟩=some (.slice (some ⟨b3,o3,none⟩) l.length cr)∧w'.cell? ⟨bs,0,none⟩=some (.bool (ay s).neg)∧w'.cell? ⟨bs,1,none⟩=some (.slice A' (ay s).num.length c')∧w'.cell? ⟨bs,2,none⟩=some (.slice B' (ay s).den.length d')∧w'.cell? ⟨b3,o3+j*3,none⟩=some (.bool false)∧w'.cell? ⟨b3,o3+j*3+1,none⟩=some (.slice A4 (ay x).num.length c4)∧w'.cell? ⟨b3,o3+j*3+2,none⟩=some (.slice A5 (ay x).den.length c5)) wn.drew:=⟨eu,s0',s1',s2',ex0,ex1,ex2⟩;simp only[List.take_succ_cons,List.take_zero];have hb:Below wn.heap.size wn wn.drew:=aF (Below.refl _ wn) 1;replace eu:=ah eu hb;replace s0':=ah s0' hb;replace s1':=ah s1' hb;replace s2':=ah s2' hb;replace ex0:=ah ex0 hb;replace ex1:=ah ex1 hb;replace ex2:=ah ex2 hb;replace HRV:=Ac (HRV.out.below hb);replace HNM:=Ac (HNM.out.below hb);replace rs:=rs.below hb rs.lt;replace hzr:=Nat.le_trans hzr hb.size;replace hbel:=hbel.trans (hb.mono hbel.size);clear hb;generalize wn.drew=wn at *;refine tk0 [0,1,2,3,4,5,6,7] ?_;iterate 8 (refine tk (v:=?_) rfl (by kernel_rfl) (by kernel_rfl) (by kernel_rfl) (fun _ _ _ h=>h) (Or.inl ⟨by rfl,?_⟩) hHeld ?_;rotate_left;(focus intro wx hSx;(try dsimp only at hSx);go_split_ands;go_simp;try with_reducible rfl);try simp only[Act.put,lq1,lq2,lq3,lq4,lq5,lq6])
          refine tk1 ?_;refine tk2 8 (by kernel_rfl) rfl fun K hK=>?_
          go_simp;refine(zo _ _ _ _ s x HNM.out HRV.out (by omega) (by omega)).mono ?_;rintro e wn ⟨u,rfl,hb,hu⟩;have hu2:RtV wn (fun b=>b≠bs) u (s+x):=hu.mono (fun b hb _=>hb.elim id fun h=>by have:=rs.lt; omega);have HU:=Ac hu2;obtain⟨A6,c6,B6,d6,rfl,hn,hd⟩:=hu2.open;clear hn hd hu hu2;replace eu:=ah eu hb;replace s0':=ah s0' hb;replace s1':=ah s1' hb;replace s2':=ah s2' hb;replace ex0:=ah ex0 hb;replace ex1:=ah ex1 hb;replace ex2:=ah ex2 hb;replace HRV:=Ac (HRV.out.below hb);replace HNM:=Ac (HNM.out.below hb);replace rs:=rs.below hb rs.lt;replace hzr:=Nat.le_trans hzr hb.size;replace hbel:=hbel.trans (hb.mono hbel.size);clear hb;dsimp only;clear hHeld;refine hK.out _ _ ⟨eu,s0',s1',s2',ex0,ex1,ex2⟩ (fun hHeld=>?_);clear hK K;try simp only[Act.put,lq1,lq2,lq3,lq4,lq5,lq6]
          refine wpAnyH_done (by kernel_rfl) ?_ _;clear hHeld;show wpList _ _ _ _ _ _;have q0:=rs.cell (i:=0) rfl; have f0:=rs.frozen 0;have q1:=rs.cell (i:=1) rfl; have f1:=rs.frozen 1;have q2:=rs.cell (i:=2) rfl; have f2:=rs.frozen 2;clear eu s0' s1' s2' ex0 ex1 ex2;go_wp2
          show Exit.inBlock _ _ .normal _ _;go_wp2
          obtain⟨Wz,hWz,hrw,hwz,hkz⟩:=dK rs (.bool (ay (s+x)).neg) (.slice A6 (ay (s+x)).num.length c6) (.slice B6 (ay (s+x)).den.length d6);rw[← hWz];have hsz:Wz.heap.size=wn.heap.size:=by rw[hWz]; simp
          clear hWz q0 q1 q2 f0 f1 f2;have HUU:=Ac (HU.out.keep (fun b hb _=>hb) (hkz (fun b=>b≠bs) (fun h=>h rfl)));go_roundw
          case rel=>exact⟨j+1,s+x,A6,c6,B6,d6,by omega,by go_num,lK HPJ.out (by rw[List.getElem?_map,HRR.out]; show some (eY (ay x))=_; rw[HSE.out]),by rw[af5 HRR.out,aaS,← HSU.out,yO],hsv,hrw,HUU.out,hwz _ _ (by omega) hbel,by omega⟩
          case measure=>simp[intOf]; omega
       ·have t3:(re != 0)=true:=by simp[abT]
        have hse:eY r=re:=by unfold eY; rw[if_pos (by rw[← hre]; exact abT),hre]
        have hrow:=lC CW.out HPJ.out HRR.out (by rw[hse]; exact abT);have HF:=Ac ((jQ HLE.out HP.out HK.out HL.out (by rw[hrow,hse]; exact abT)).trans (hrow.trans hse));clear hre abT hse hrow;dsimp only;go_wp2
        go_ret;exact⟨_,rfl,hB2.trans (hbel.mono hB2.size),by rw[HF.out]; rfl⟩
      ·have hsh:lV l=0:=by
        have:=HPJ.out;rw[List.take_of_length_le (by simp; omega)] at this;exact this
       have hrow:=sW CW.out hsh;have hall:s=o9 (l.map vN):=by rw[HSU.out,List.take_of_length_le (by omega)]
       have BQ:=Ac (show kL inf.actions l=if iH s one≠0 then 14 else 0 by rw[H1.out,hall]; exact hrow);have ajg:l.length≤10:=by have:=CW.out; omega
       have aa2:rl one≤20000:=by rw[H1.out,zG]; omega
       have s0':=rs.cell (i:=0) rfl; have s1':=rs.cell (i:=1) rfl; have s2':=rs.cell (i:=2) rfl;clear hsh hrow hall;go_wp2_with fail
       refine(qP _ _ _ _ s one HNM.out HON.out (by omega) aa2).mono ?_;rintro e wn ⟨_,rfl,hb,rfl⟩;replace p0:=ah p0 hb;replace p1:=ah p1 hb;replace p2:=ah p2 hb;replace s0':=ah s0' hb;replace s1':=ah s1' hb;replace s2':=ah s2' hb;replace HON:=Ac (HON.out.below hb);replace HNM:=Ac (HNM.out.below hb);replace rs:=rs.below hb rs.lt;replace hzr:=Nat.le_trans hzr hb.size;replace hbel:=hbel.trans (hb.mono hbel.size);clear hb;clear p0 p1 p2 s0' s1' s2' rs HNM HON;generalize iH s one=e0 at *;by_cases h0:e0=0
       ·have t1:(e0 != 0)=false:=by rw[h0]; rfl
        have hr0:kL inf.actions l=0:=by rw[BQ.out,if_neg (by simpa using h0)]
        have HR0:=Ac hr0; clear hr0 h0;dsimp only;go_wp2
        go_roundw
        case rel=>exact⟨k+1,by omega,by go_num,lK HP.out (by rw[yc HK.out HL.out,HR0.out]),hbel⟩
        case measure=>simp[intOf]; omega
       ·have t1:(e0 != 0)=true:=by simp[h0]
        have hr0:kL inf.actions l=14:=by rw[BQ.out,if_pos h0]
        have HE:=Ac ((jQ HLE.out HP.out HK.out HL.out (by rw[hr0]; decide)).trans hr0);clear hr0 h0;dsimp only;go_wp2
        go_ret;exact⟨_,rfl,hB2.trans (hbel.mono hB2.size),by rw[HE.out]; rfl⟩
    ·have d2:((l.length:Int) != inf.actions)=true:=by simp; omega
     have h3:kL inf.actions l=3:=by unfold kL; rw[if_pos hact]
     have HE:=Ac ((jQ HLE.out HP.out HK.out HL.out (by rw[h3]; decide)).trans h3);clear hact h3;go_wp2_with fail
     go_quiet (fail)
     go_wp2
     go_ret;exact⟨_,rfl,aF (hB2.trans (hbel.mono hB2.size)) _,by rw[HE.out]; rfl⟩
   ·have HE:=Ac (aa1 HLE.out HP.out (by omega));go_wp2
    go_ret;exact⟨_,rfl,hB2.trans (hbel.mono hB2.size),by rw[HE.out]; rfl⟩
 ·have h3:es=3:=by rw[HES.out]; exact if_pos hlen
  have t1:(es != 0)=true:=by rw[h3]; rfl
  have HE:=Ac (show gZ acts m=3 by unfold gZ; rw[if_pos (by omega)]);have HES3:=Ac h3;clear h3;dsimp only;go_wp2
  go_ret;exact⟨_,rfl,hB,by rw[HE.out,HES3.out]; rfl⟩
end Go.Proofs.YthmklhapjegfdaaGreatDoor
