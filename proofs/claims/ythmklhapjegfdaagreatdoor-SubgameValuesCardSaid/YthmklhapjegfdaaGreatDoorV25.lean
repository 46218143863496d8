/- plan.Check; parlourref16.shape. -/
import Derived.Test.YthmklhapjegfdaaGreatDoorV23
import Derived.Test.YthmklhapjegfdaaGreatDoorV24
set_option linter.all false
set_option maxRecDepth 100000
set_option maxHeartbeats 12800000
namespace Go.Proofs.YthmklhapjegfdaaGreatDoor
open Lib renaming hid → Ac
open Go.RowKit
def gU (g:Gm) (m:List (List Raw)):Int:=if bF g≠0 then bF g else nG (g.infos.map Inf.actions) m
theorem Ae.below {w w':World} {F:Ag} {v:Value} {l:List (List Raw)} (h:Ae w F v l) (hb:Below w.heap.size w w'):Ae w' F v l:=h.on (Below.same' hb F)
theorem vF (w:World) (F:Ag) (vg vm:Value) (g:Gm) (m:List (List Raw)) (hg:AB w F vg g) (hsm:Small g) (hm:Ae w F vm m) (hT:BH w) (hlm:m.length≤100000) (hb:BI m) :
  Calls Tryz.prog 28 #[vg,vm] w (Ret w fun v _=>v = .int .i64 (gU g m)):=by
 have HG:=Ac hg;have HM:=Ac hm;have HS:=Ac hsm;have HT:=Ac hT;have hli:=hsm.infos;have hact:bF g=0→∀ i∈g.infos,i.actions≤10:=wo;obtain⟨vn,vi,rfl,⟨A,c,rfl,hc,_⟩,⟨Ai,ci,rfl,hci,_⟩⟩:=hg;clear hm hsm hT;go_in;go_wp2_with fail
 refine zaS ?_;intro W hW rx hB hz;clear hW hz;replace HG:=Ac (HG.out.on (Below.same' hB F));replace HM:=Ac (HM.out.below hB);replace HT:=Ac (HT.out.on hB);refine ZL ?_;intro x0 x1 x2;clear rx;go_wp2_with fail
 refine(acg W F _ g HG.out HS.out).mono ?_;rintro e w1 ⟨_,rfl,hb1,rfl⟩;rw[ag0];replace HG:=Ac (HG.out.on (Below.same' hb1 F));replace HM:=Ac (HM.out.below hb1);replace HT:=Ac (HT.out.on hb1);replace x0:=ah x0 hb1;replace x1:=ah x1 hb1;replace x2:=ah x2 hb1;have hB1:=hB.trans (hb1.mono hB.size);clear hb1;have HE:=Ac (show gU g m=if bF g≠0 then bF g else nG (g.infos.map Inf.actions) m from rfl);generalize bF g=fe at *;by_cases h0:fe=0
 ·have t1:(fe != 0)=false:=by rw[h0];rfl
  have HF:=Ac (HE.out.trans (if_neg (by simpa using h0)));have ha:=hact h0;clear h0 hact;dsimp only;go_wp2_with fail
  refine(afW w1 F _ _ g m HG.out HM.out HT.out hlm byOmega hb ha).mono ?_;rintro e w2 ⟨_,rfl,hb2,rfl⟩;have hB2:=hB1.trans (hb2.mono hB1.size);rw[← HF.out];dsimp only;go_wp2
  go_ret;exact⟨_,rfl,hB2,rfl⟩
 ·have t1:(fe != 0)=true:=by simp[h0]
  have HF:=Ac (HE.out.trans (if_pos h0));clear h0 hact;dsimp only;go_wp2
  go_ret;exact⟨_,rfl,hB1,by rw[HF.out]; rfl⟩
theorem af8 (w:World) (F:Ag) (vg vm:Value) (g:Gm) (m:List (List Raw)) (hg:AB w F vg g) (hm:Ae w F vm m) (hlm:m.length≤100000) (hli:g.infos.length≤100000) :
  Calls Tryz.prog 98 #[vg,vm] w (Ret w fun v _=>v = .int .i64 (if m.length≠g.infos.length then 3 else 0)):=by
 obtain⟨vn,vi,rfl,⟨A,c,rfl,hc,_⟩,⟨Ai,ci,rfl,hci,_⟩⟩:=hg;obtain⟨Am,cm,rfl,hcm,_⟩:=hm;obtain⟨er,her⟩:∃ er:Int,er=if m.length≠g.infos.length then 3 else 0:=⟨_,rfl⟩
 rw[← her];by_cases hlen:m.length=g.infos.length
 ·have d1:((m.length:Int) != (g.infos.length:Int))=false:=aB;have HE:=Ac (her.trans (if_neg (by simpa using hlen)));clear hlen her;exact zaR
 ·have d1:((m.length:Int) != (g.infos.length:Int))=true:=aB;have HE:=Ac (her.trans (if_pos hlen));clear hlen her;exact zaR
theorem ag3:∀ {mr:List (List Raw)},(∀ l∈mr,∃ xs:List Rat,l=xs.map aG)→∃ m:List (List Rat),mr=m.map (List.map aG)
 | [],_=>⟨[],rfl⟩
 | l :: mr,h=>by
  obtain⟨xs,hx⟩:=h l (List.mem_cons_self);obtain⟨m,hm⟩:=ag3 (mr:=mr) (fun l hl=>h l (List.mem_cons_of_mem _ hl));exact⟨xs :: m,by rw[hx,hm]; rfl⟩
theorem zn {g:Gm} {mr:List (List Raw)} (h:gU g mr=0):bF g=0:=by
 unfold gU at h;by_cases h1:bF g=0
 ·exact h1
 ·rw[if_pos h1] at h;exact h
theorem zo {g:Gm} {mr:List (List Raw)} (h:gU g mr=0):nG (g.infos.map Inf.actions) mr=0:=by
 have h1:=zn h;unfold gU at h;rwa [if_neg (by simpa using h1)] at h
theorem ada {a:Int} {l:List Raw} (h:lJ a l=0):(l.length:Int)=a∧lS l=0∧jh (o8 (l.map yt)) 1=0:=by
 unfold lJ at h;split at h
 ·omega
 rename_i h1
 split at h
 ·omega
 rename_i h2
 split at h
 ·omega
 rename_i h3
 exact⟨byOmega,byOmega,byOmega⟩
theorem aa0 {acts:List Int} {mr:List (List Raw)} (h:nG acts mr=0):mr.length=acts.length∧∀ (k:Nat) (a:Int) (l:List Raw),acts[k]? = some a→mr[k]? = some l→lJ a l=0:=by
 unfold nG at h;split at h
 ·omega
 rename_i h1
 exact⟨byOmega,fun k a l ha hl=>yj h _ (List.mem_of_getElem? (zT ha hl))⟩
theorem adb {g:Gm} (h:bF g=0):1≤g.au∧g.au≤4:=by
 unfold bF at h;split at h
 ·omega
 ·rename_i h1
  unfold iq at h1;omega
theorem ag4:∀ (l:List Int) (a:Int) (k:Nat),(∀ x∈l,1≤x∧x≤1000)→a+l.length≤l.foldl (· + ·) a∧l.foldl (· + ·) a≤a+1000*l.length
 | [],a,k,_=>by simp
 | x :: l,a,k,h=>by
  have h1:=h x (List.mem_cons_self);have h2:=ag4 l (a+x) k (fun y hy=>h y (List.mem_cons_of_mem _ hy));rw[List.foldl_cons,List.length_cons];omega
theorem wB {l:List Int} (h:∀ x∈l,1≤x∧x≤1000):(l.length:Int)≤lU l∧lU l≤1000*l.length:=by
 have:=ag4 l 0 0 h;unfold lU;omega
theorem rC {au:Int} {ni:Nat} {nodes:List Nd} (h:cO au ni nodes=0) {n:Nd} (hn:n∈nodes) (hk:n.kind=1):n.weights.length=n.next.length∧1≤n.next.length∧n.next.length≤60∧∀ x∈n.weights,1≤x∧x≤1000:=by
 have h1:=iC h n hn;unfold aU at h1;rw[if_pos hk] at h1;unfold bZ at h1;split at h1
 ·omega
 ·rename_i h2
  split at h1
  ·omega
  ·rename_i h3
   refine⟨byOmega,byOmega,byOmega,fun x hx=>?_⟩;have h4:outside 1 1000 n.weights=false:=by simpa using h3
   unfold outside at h4;have:=List.any_eq_false.1 h4 x hx;simp at this;omega
theorem wC {au:Int} {ni:Nat} {nodes:List Nd} (h:cO au ni nodes=0) {n:Nd} (hn:n∈nodes) (hk:n.kind=2):1≤n.next.length∧n.next.length≤10∧0≤n.aF∧n.aF < au∧0≤n.info∧n.info < (ni:Int):=by
 have h1:=iC h n hn;unfold aU at h1;rw[if_neg byOmega,if_pos hk] at h1;unfold dU at h1;split at h1
 ·omega
 ·rename_i h2
  split at h1
  ·omega
  ·exact⟨byOmega,byOmega,byOmega,byOmega,byOmega,byOmega⟩
theorem kinds {au:Int} {ni:Nat} {nodes:List Nd} (h:cO au ni nodes=0) {n:Nd} (hn:n∈nodes):n.kind=1∨n.kind=2∨n.kind=3:=by
 have h1:=iC h n hn;unfold aU at h1;split at h1
 ·exact .inl ‹_›
 ·split at h1
  ·exact .inr (.inl ‹_›)
  ·split at h1
   ·exact .inr (.inr ‹_›)
   ·omega
theorem af9 {g:Gm} (h:bF g=0) {n:Nd} (hn:n∈g.nodes) (hk:n.kind=2):∃ inf,g.infos[n.info.toNat]? = some inf∧inf.actions=n.next.length∧inf.aF=n.aF:=by
 obtain⟨h2,h5⟩:=lG h;have h6:=wC h2 hn hk;unfold jm at h5;split at h5
 ·omega
 rename_i ht
 obtain⟨inf,hi⟩:=aC (l:=g.infos) (k:=n.info.toNat) byOmega;have e2:dK g.infos n=false:=by
  cases hb:dK g.infos n with
  | false=>rfl
  | true=>exact absurd (List.any_eq_true.2 ⟨n,hn,hb⟩) ht
 unfold dK at e2;rw[decide_eq_true hk,Bool.true_and,Bool.or_eq_false_iff,List.getD_eq_getElem?_getD,hi] at e2;have e3:=of_decide_eq_false e2.1;have e4:=of_decide_eq_false e2.2;simp only[Option.getD_some] at e3 e4;exact⟨inf,hi,byOmega,byOmega⟩
theorem aku {a b:Int} (ha:1≤a∧a≤1000) (hb:1≤b∧b≤60000):rl ((a:Rat) / (b:Rat))≤4:=by
 have h1:rl (a:Rat)≤1:=by
  rw[afj];have:(dig a.natAbs).length≤1:=bg (by unfold LB; omega);omega
 have h2:rl (b:Rat)≤1:=by
  rw[afj];have:(dig b.natAbs).length≤1:=bg (by unfold LB; omega);omega
 have hb0:(b:Rat)≠0:=fun e=>by
  have:b=0:=Rat.intCast_inj.1 e;omega
 rw[Rat.div_def];have h3:=afi (a:Rat) (b:Rat)⁻¹;rw[ak7 hb0] at h3;omega
def CP (mr:List (List Raw)):Prop:=∀ l∈mr,∀ r∈l,r.num.length≤4∧r.den.length≤4
theorem aga {g:Gm} {mr:List (List Raw)} (h:gU g mr=0) (hL:CP mr):∃ m:List (List Rat),mr=m.map (List.map aG)∧Fit g m∧∀ l∈m,o8 l=1∧∀ x∈l,dV x=false:=by
 have hf:=zn h;obtain⟨hlen,hrows⟩:=aa0 (zo h);have hrow:∀ l∈mr,∃ a:Int,lJ a l=0:=by
  intro l hl;obtain⟨k,hk⟩:=List.getElem?_of_mem hl;obtain⟨a,ha⟩:=aC (l:=g.infos.map Inf.actions) (k:=k) (by have:=aI hk; omega);exact⟨a,hrows k a l ha hk⟩
 obtain⟨m,rfl⟩:=ag3 (mr:=mr) (fun l hl=>by
  obtain⟨a,ha⟩:=hrow l hl;obtain⟨xs,hx,_⟩:=vN (ada ha).2.1;exact⟨xs,hx⟩)
 obtain⟨hne,_⟩:=lG hf;refine⟨m,rfl,⟨jd hf,hne,adb hf,by simpa using hlen,fun n hn hk=>?_⟩,fun l hl=>?_⟩
 ·rcases kinds hne hn with k1 | k1 | k1
  ·obtain⟨c1,c2,c3,c4⟩:=rC hne hn k1;have hs:=wB c4;unfold iK;rw[if_neg byOmega,List.length_map];refine⟨c1,fun x hx=>?_⟩;obtain⟨y,hy,rfl⟩:=List.mem_map.1 hx;exact aku (c4 y hy) byOmega
  ·obtain⟨inf,hi,ha,_⟩:=af9 hf hn k1;obtain⟨l,hl⟩:=aC (l:=m) (k:=n.info.toNat) (by have:=aI hi; simp at hlen; omega);have hr:=hrows n.info.toNat inf.actions (l.map aG) (by rw[List.getElem?_map,hi]; rfl) (by rw[List.getElem?_map,hl]; rfl);have hll:=(ada hr).1;rw[List.length_map] at hll;unfold iK;rw[if_pos k1,List.getD_eq_getElem?_getD,hl,Option.getD_some];refine⟨byOmega,fun x hx=>?_⟩;have:=hL (l.map aG) (List.mem_map_of_mem (List.mem_of_getElem? hl)) (aG x) (List.mem_map_of_mem hx);exact Nat.max_le.2 this
  ·exact absurd k1 hk
 ·obtain⟨a,ha⟩:=hrow (l.map aG) (List.mem_map_of_mem hl);obtain⟨_,h2,h3⟩:=ada ha;rw[aau] at h3;refine⟨(uI _ _).1 h3,fun x hx=>?_⟩;have h4:=yj h2 (gy (aG x)) (List.mem_map_of_mem (List.mem_map_of_mem hx));obtain⟨y,hy,_,hn⟩:=abX h4;rw[abV hy];exact hn
def BQ (F:Ag) (e:Int) (l:List (List Raw)) (v:Value) (w':World):Prop:=∃ vx,v = .tuple #[vx,.int .i64 e]∧Ae w' F vx l
def rP (g:Gm) (roots:List Int) (m o:List (List Raw)):Int :=
 if dD g roots≠0 then dD g roots else if lW (insL g.nodes.length (aQ g.nodes).2 roots) (aW g)=false then 13 else if gU g m≠0 then gU g m else gU g o
def ajv (inn:List Bool) (l:List Int):Bool:=jr inn (l.getD 0 0)
def uD {α:Type} (inn:List Bool) (sets:List (List Int)) (m o:List (List α)) (i:Nat):List α:=(if ajv inn (sets.getD i []) then o else m).getD i []
def ajw {α:Type} (inn:List Bool) (sets:List (List Int)) (m o:List (List α)) (k:Nat):List (List α):=(List.range k).map (uD inn sets m o)
def uF (g:Gm) (roots:List Int) (m o:List (List Raw)):List (List Raw) :=
 if rP g roots m o=0 then ajw (insL g.nodes.length (aQ g.nodes).2 roots) (aW g) m o m.length else []
theorem ahY {g:Gm} (h:bF g=0):∀ l∈aW g,l≠[]:=by
 obtain⟨_,h2⟩:=lG h;unfold jm at h2;intro l hl e;subst e;have:jc (aW g)=true:=by unfold jc;exact List.any_eq_true.2 ⟨_,hl,rfl⟩
 rw[this] at h2;split at h2
 ·omega
 ·simp at h2
theorem aci {g:Gm} {m:List (List Raw)} (h:gU g m=0):m.length=(aW g).length:=by
 have:=(aa0 (zo h)).1;rw[List.length_map] at this;rw[this];exact(bC _ _ _).symm
theorem agb {m:List (List Rat)} {n:Nd} (hk:n.kind=2):iK m n=m.getD n.info.toNat []:=by unfold iK; rw[if_pos hk]
theorem ade {m:List (List Rat)} {n:Nd} (hk:n.kind≠2):iK m n=n.weights.map fun x:Int=>(x:Rat) / ((lU n.weights:Int):Rat):=by unfold iK; rw[if_neg hk]
theorem ahZ (w:World) (F:Ag) (v:Value) (l:List Int) (hv:Ah w F v l) (hl:l.length≤100) (hx:∀ x∈l,1≤x∧x≤1000) :
  Calls Tryz.prog 149 #[v] w fun e w'=>e = .returned (.int .i64 (lU l))∧w=w':=by
 obtain⟨A,c,rfl,hc,hr⟩:=hv;have HR:=Ac hr; have HX:=Ac hx;have HB:=Ac (fun k=>show lU (l.take k)≤100000∧0≤lU (l.take k) from by
  have h1:=wB (l:=l.take k) (fun x hx'=>hx x (List.mem_of_mem_take hx'));have h2:(l.take k).length≤l.length:=aB;omega)
 clear hr hx;go_in;go_wp2
 go_loop [3,4] (fun s i=>∃ k:Nat,k≤l.length∧i = .int .i64 (k:Int)∧s = .int .i64 (lU (l.take k))) (fun _ i=>l.length - (intOf i).toNat)
 case atStart=>exact⟨0,byOmega,rfl,rfl⟩
 case round =>
  obtain⟨k,hk,rfl,rfl⟩:=hrel;obtain⟨s,hs⟩:=named (lU (l.take k));have hb:=HB.out k;rw[← hs] at hb ⊢;have HS:=Ac hs;clear hs;by_cases hlt:k < l.length
  ·obtain⟨b,o,rfl,_,hb',hcell⟩:=HR.out byOmega;obtain⟨x,hxk⟩:=aC hlt;have e1:=hcell k x hxk;unfold iE at e1;rw[Nat.mul_one] at e1;have hxb:=HX.out x (List.mem_of_getElem? hxk);have HXK:=Ac hxk;clear hcell hxk;go_wp2
   go_round
   case rel=>exact⟨k+1,byOmega,by go_num,by rw[take_snoc HXK.out,abZ,← HS.out]⟩
   case measure=>simp[intOf]; omega
  ·go_wp2
   go_ret;exact⟨by rw[HS.out,List.take_of_length_le byOmega]; rfl,rfl⟩
open List renaming getElem_toArray → lq1, getElem_cons_zero → lq2, getElem_cons_succ → lq3, setIfInBounds_toArray → lq4, set_cons_zero → lq5, set_cons_succ → lq6
theorem ah0 (w:World) (F:Ag) (v:Value) (l:List Int) (hv:Ah w F v l) (hl:l.length≤100) (hx:∀ x∈l,1≤x∧x≤1000) :
  Calls Tryz.prog 149 #[v] w (Ret w fun u _=>u = .int .i64 (lU l)):=by
 refine(ahZ w F v l hv hl hx).mono ?_;rintro e w' ⟨rfl,rfl⟩;exact⟨_,rfl,Below.refl _ _,rfl⟩
theorem agc (w:World) (F:Ag) (vg vm:Value) (g:Gm) (m:List (List Rat)) (i k:Nat) (n:Nd) (hg:AB w F vg g) (hm:BZ w F vm m) (hf:Fit g m) (hn:g.nodes.length≤100) (hml:m.length≤100000) (hni:g.nodes[i]? = some n) (hk3:n.kind≠3) (hkn:k < n.next.length) :
  Calls Tryz.prog 94 #[vg,vm,.int .i64 (i:Int),.int .i64 (k:Int)] w (Ret w fun u w'=>RtV w' (Ext F w.heap.size) u ((iK m n).getD k 0)):=by
 have hmem:=List.mem_of_getElem? hni;have hin:=aI hni;have hch:=hf.chan n hmem hk3;obtain⟨z,hz⟩:=aC (l:=iK m n) (k:=k) (by rw[hch.1]; exact hkn);have hzr:=hch.2 z (List.mem_of_getElem? hz);have hzd:(iK m n).getD k 0=z:=by rw[List.getD_eq_getElem?_getD,hz];rfl
 rw[hzd];have hmv:=fun h=>wC hf.nodes hmem h
 have hcp:=fun h=>rC hf.nodes hmem h
 have agd:=kinds hf.nodes hmem;have hrows:=hf.rows;obtain⟨vn,vi,rfl,⟨A,c,rfl,hc,hN⟩,⟨Ai,ci,rfl,hci,hI⟩⟩:=hg;obtain⟨b,q,rfl,hFb,hbl,hcell⟩:=hN byOmega;have hne:=hcell i n hni;have n0:=hne.c0;have n1:=hne.c1;have n2:=hne.c2;obtain⟨v3,n3,h3⟩:=hne.c3;obtain⟨v4,n4,h4⟩:=hne.c4;obtain⟨v5,n5,h5⟩:=hne.c5;have H4:=Ac h4;obtain⟨A3,c3,rfl,_,_⟩:=h3;obtain⟨A4,c4,rfl,_,hx4⟩:=h4;obtain⟨A5,c5,rfl,_,_⟩:=h5;obtain⟨Am,cm,rfl,hcm,hM⟩:=hm;rw[List.length_map] at hcm hM;rw[List.length_map];clear hcell hne hN hI hni hmem hzd hch;rcases (agd.imp id fun h=>h.resolve_right hk3:n.kind=1∨n.kind=2) with hk | hk
 ·have t1:(n.kind==1)=true:=by simp[hk]
  obtain⟨c1',c2',c3',c4'⟩:=hcp hk;have hw100:n.weights.length≤100:=byOmega;have hkw:k < n.weights.length:=byOmega;obtain⟨x,hx⟩:=aC hkw;have hxb:=c4' x (List.mem_of_getElem? hx);have hsr:=wB c4';obtain⟨sw,hsw⟩:=named (lU n.weights);have hzx:z=(x:Rat) / (sw:Rat):=by
   rw[ade byOmega,List.getElem?_map,hx,Option.map_some,Option.some.injEq] at hz;rw[← hz,hsw]
  rw[← hsw] at hsr;have HSW:=Ac hsw;have HZX:=Ac hzx;have HC4:=Ac c4';obtain⟨b4,o4,rfl,hF4,hb4,ajx⟩:=hx4 byOmega;have ew:=ajx k x hx;unfold iE at ew;rw[Nat.mul_one] at ew;have hs1:1≤sw:=byOmega;have hs2:sw≤100000:=byOmega;clear hz hsw hzx c1' c2' c3' c4' hsr hk hmv hcp agd hrows ajx hx4 hM hx;go_in
  go_upto_region 2 with(fail)
  obtain⟨W,hW,rx,rz,rn,hB,ajy⟩:=qR w 25 #[.int .i64 g.au,.slice (some ⟨b,q,none⟩) g.nodes.length c,.slice Ai g.infos.length ci] 83 #[.bool false,.slice none 0 0,.slice none 0 0] 61 #[.int .i64 n.kind,.int .i64 n.aF,.int .i64 n.info,.slice A3 n.next.length c3,.slice (some ⟨b4,o4,none⟩) n.weights.length c4,.slice A5 n.pay.length c5];rw[← hW];have hzz:w.heap.size+3≤W.heap.size:=ajy;clear hW ajy;have x0:=rn.cell (i:=0) rfl;have x4:=rn.cell (i:=4) rfl;replace ew:=ah ew hB;replace H4:=Ac (H4.out.on (Below.same' hB F));clear rx rn n0 n1 n2 n3 n4 n5;go_wp2_with fail
  refine bD (fun w'=>w'.cell? ⟨w.heap.size+2,4,none⟩=some (.slice (some ⟨b4,o4,none⟩) n.weights.length c4)∧w'.cell? ⟨b4,o4+k,none⟩=some (.int .i64 x)) 9 1 ak rfl ak ?_;have hHeld:(fun w':World=>w'.cell? ⟨w.heap.size+2,4,none⟩=some (.slice (some ⟨b4,o4,none⟩) n.weights.length c4)∧w'.cell? ⟨b4,o4+k,none⟩=some (.int .i64 x)) W.drew:=⟨x4,ew⟩;refine ZB ?_;have hb:Below W.heap.size W W.drew:=aK (Below.refl _ W) 1;refine zbg ?_;clear x4 ew H4 rz hzz hB hb;intro x4 ew H4 rz hzz hB;generalize W.drew=wn at *;refine tkm [0,1,2,3,4,5,6] ?_;refine tk2 7 ak rfl fun K hK=>?_
  go_simp;refine(ah0 wn F _ n.weights H4.out hw100 HC4.out).mono ?_;rintro e wn ⟨u,rfl,hb,rfl⟩;rw[← HSW.out];refine zbg ?_;clear x4 ew H4 rz hzz hB hb;intro x4 ew H4 rz hzz hB;dsimp only;clear hHeld;refine hK.out _ _ ⟨x4,ew⟩ (fun hHeld=>?_);clear hK K;refine Zc ?_;refine tk2 8 ak rfl fun K hK=>?_
  go_simp;refine(afV wn x sw byOmega byOmega byOmega byOmega byOmega).mono ?_;rintro e wn ⟨u,rfl,hb,hu⟩;rw[← HZX.out] at hu;have hu2:=hu.mono (G:=fun b=>w.heap.size+3≤b) (fun b hb _=>by omega);have HU:=Ac hu2;obtain⟨Am',cm',Bm,dm,rfl,hn',hd'⟩:=hu2.open;clear hn' hd' hu hu2;refine zbg ?_;clear x4 ew H4 rz hzz hB hb;intro x4 ew H4 rz hzz hB;dsimp only;clear hHeld;refine hK.out _ _ ⟨x4,ew⟩ (fun hHeld=>?_);refine zc7 ?_;clear hK K hHeld;clear x4 ew;refine Zv ?_;intro q0 y0 q1 y1 q2 y2;go_wp2
  refine Y5 ?_;go_wp2
  obtain⟨Wz,hWz,hrz,hwz,hkz⟩:=dJ rz (.bool (aG z).neg) (.slice Am' (aG z).num.length cm') (.slice Bm (aG z).den.length dm);refine Zn ?_;clear hWz q0 q1 q2 y0 y1 y2;intro t0 t1 t2;refine bodyPost_ret (v:=.agg #[.bool (aG z).neg,.slice Am' (aG z).num.length cm',.slice Bm (aG z).den.length dm]) (by simp[results,Tryz.results94,go_sem,t0,t1,t2]) rfl ?_;exact⟨_,rfl,hwz _ _ byOmega hB,HU.out.keep (fun b hb _=>.inr byOmega) (hkz (fun b=>w.heap.size+3≤b) byOmega)⟩
 ·have t1:(n.kind==1)=false:=by simp[hk]
  obtain⟨m1,m2,m3,m4,m5,m6⟩:=hmv hk;obtain⟨ik,hik⟩:∃ ik:Nat,n.info=(ik:Int):=⟨n.info.toNat,byOmega⟩;have hil:ik < m.length:=by rw[hrows];omega
  obtain⟨l,hl⟩:=aC hil;have hcl:iK m n=l:=by rw[agb hk,hik,Int.toNat_natCast,List.getD_eq_getElem?_getD,hl];rfl
  rw[hcl] at hz;obtain⟨bm,om,rfl,hFm,hbm,hx⟩:=hM byOmega;obtain⟨ur,eu,hrow⟩:=hx ik (l.map aG) (by rw[List.getElem?_map,hl]; rfl);rw[Nat.mul_one] at eu;obtain⟨Ar,cr,rfl,hcr,hR⟩:=hrow;rw[List.length_map] at eu hcr hR;have hkl:k < l.length:=aI hz;obtain⟨br,orr,rfl,hFr,hbr,hxr⟩:=hR byOmega;obtain⟨ex0,⟨vn,ex1,hn'⟩,⟨vd,ex2,hd'⟩⟩:=hxr k (aG z) (by rw[List.getElem?_map,hz]; rfl);have HR:=Ac (AL.old (AL.make (r:=aG z) rfl hn' hd'));obtain⟨A1',c1',rfl,_,_⟩:=hn';obtain⟨A2',c2',rfl,_,_⟩:=hd';rw[hik] at n2;clear hz hmv hcp agd hrows hx4 hM hx hxr hR hl hcl hik hk m1 m2 m3 m4 m5 m6;go_in
  go_upto_region 2 with(fail)
  obtain⟨W,hW,rx,rz,rn,hB,ajy⟩:=qR w 25 #[.int .i64 g.au,.slice (some ⟨b,q,none⟩) g.nodes.length c,.slice Ai g.infos.length ci] 83 #[.bool false,.slice none 0 0,.slice none 0 0] 61 #[.int .i64 n.kind,.int .i64 n.aF,.int .i64 (ik:Int),.slice A3 n.next.length c3,.slice A4 n.weights.length c4,.slice A5 n.pay.length c5];rw[← hW];have hzz:w.heap.size+3≤W.heap.size:=ajy;clear hW ajy;have x0:=rn.cell (i:=0) rfl;have x2:=rn.cell (i:=2) rfl;replace eu:=ah eu hB;replace ex0:=ah ex0 hB;replace ex1:=ah ex1 hB;replace ex2:=ah ex2 hB;replace HR:=Ac (HR.out.below hB);clear rx rn n0 n1 n2 n3 n4 n5;have q0:=rz.cell (i:=0) rfl;have f0:=rz.frozen 0;have q1:=rz.cell (i:=1) rfl;have f1:=rz.frozen 1;have q2:=rz.cell (i:=2) rfl;have f2:=rz.frozen 2;go_wp2
  obtain⟨Wz,hWz,hrz,hwz,hkz⟩:=dJ rz (.bool (aG z).neg) (.slice A1' (aG z).num.length c1') (.slice A2' (aG z).den.length c2');rw[← hWz];clear hWz q0 q1 q2 f0 f1 f2;have u0:=hrz.cell (i:=0) rfl;have u1:=hrz.cell (i:=1) rfl;have u2:=hrz.cell (i:=2) rfl;refine bodyPost_ret (v:=.agg #[.bool (aG z).neg,.slice A1' (aG z).num.length c1',.slice A2' (aG z).den.length c2']) (by simp[results,Tryz.results94,go_sem,u0,u1,u2]) rfl ?_;exact⟨_,rfl,hwz _ _ byOmega hB,HR.out.keep (fun b hb _=>.inl hb.1) (hkz (Old F w.heap.size) (fun h=>by have:=h.2; omega))⟩
theorem ah1 {l:List Raw} {j:Nat} {r:Raw} (h:l[j]? = some r):(l.take (j+1)).map yt=(l.take j).map yt ++ [yt r]:=by rw[take_snoc h,List.map_append]; rfl
theorem ah2 (w:World) (F:Ag) (vg vm:Value) (g:Gm) (m:List (List Raw)) (hg:AB w F vg g) (hm:Ae w F vm m) (hlm:m.length≤100000) (hli:g.infos.length≤100000) (hb:BI m) (hact:∀ i∈g.infos,i.actions≤10) :
  Calls Tryz.prog 50 #[vg,vm] w (Ret w fun v _=>v = .int .i64 (nG (g.infos.map Inf.actions) m)):=by
 have HG:=Ac hg;have HM:=Ac hm;obtain⟨vn,vi,rfl,⟨A,c,rfl,hc,hN⟩,⟨Ai,ci,rfl,hci,hI⟩⟩:=hg;obtain⟨Am,cm,rfl,hcm,hMM⟩:=hm;have HBB:=Ac hb;have HA:=Ac hact;have HI:=Ac hI;clear hN hI hMM hb hact;obtain⟨acts,xw⟩:=named (g.infos.map Inf.actions);rw[← xw];have hal:acts.length=g.infos.length:=by rw[xw,List.length_map]
 have HAC:=Ac xw;clear xw;obtain⟨es,hes⟩:∃ es:Int,es=if m.length≠g.infos.length then 3 else 0:=⟨_,rfl⟩
 have HES:=Ac hes;clear hes;go_in;go_wp2_with fail
 refine zaS ?_;intro W hW rx hB hz;clear hW;replace HG:=Ac (HG.out.on (Below.same' hB F));replace HM:=Ac (HM.out.below hB);refine ZL ?_;intro x0 x1 x2;clear rx;have hz:w.heap.size+1≤W.heap.size:=byOmega;go_wp2_with fail
 refine(af8 W F _ _ g m HG.out HM.out hlm hli).mono ?_;rintro e wn ⟨_,rfl,hb,rfl⟩;refine zas ?_;clear x0 x1 x2;intro x0 x1 x2;replace HM:=Ac (HM.out.below hb);refine Zd ?_;clear hz hB hb;intro hz hB;rw[← HES.out];by_cases hlen:m.length=g.infos.length
 ·have HLE:=Ac (show m.length=acts.length by omega);have hle1:m.length≤g.infos.length:=byOmega;have hle2:g.infos.length≤m.length:=byOmega;have hle3:m.length≤acts.length:=byOmega;have h0:es=0:=by rw[HES.out];exact if_neg (by simpa using hlen)
  have t1:(es != 0)=false:=by rw[h0];rfl
  clear hlen hal h0 HG;dsimp only;go_wp2_with fail
  refine(qZ wn 1 aA aA).mono ?_;rintro e wn ⟨u,rfl,hb,hu⟩;refine zas ?_;clear x0 x1 x2;intro x0 x1 x2;replace HM:=Ac (HM.out.below hb);refine Zd ?_;clear hz hB hb;intro hz hB;obtain⟨one,hone⟩:∃ one:Rat,one=((1:Int):Rat):=⟨_,rfl⟩;rw[← hone] at hu;have H1:=Ac (show one=1 from hone);clear hone;have BO:=Ac (hu.mono (G:=fun _=>True) (fun _ _ _=>trivial));obtain⟨A1,c1,B1,d1',rfl,hn,hd⟩:=hu.open;clear hn hd hu;dsimp only;go_wp2_with fail
  obtain⟨ob,hob⟩:=named wn.heap.size;obtain⟨W1,hW1,ry,hB1,hzz⟩:=aP wn 83 #[.bool (aG one).neg,.slice A1 (aG one).num.length c1,.slice B1 (aG one).den.length d1'];rw[← hW1];rw[← hob] at ry ⊢;have hos:ob < W1.heap.size:=ry.lt;clear hW1 hzz hob;replace BO:=Ac (BO.out.below hB1);replace HM:=Ac (HM.out.below hB1);have g2:=ah x2 hB1;have hB2:=hB.trans (hB1.mono hB.size);replace HI:=Ac (fun h=>by
   obtain⟨b,o,h1,h2,h3,h4⟩:=HI.out h;exact(⟨b,o,h1,h2,Nat.lt_of_lt_of_le h3 hB2.size,fun k x hx=>⟨ah (h4 k x hx).c0 hB2,ah (h4 k x hx).c1 hB2⟩⟩:∃ b o,Ai=some ⟨b,o,none⟩∧F b∧b < W1.heap.size∧∀ k x,g.infos[k]? = some x→DR W1 F b (o+k*2) x))
  have o0:=ry.cell (i:=0) rfl;have o1:=ry.cell (i:=1) rfl;have o2:=ry.cell (i:=2) rfl;clear ry hB1 hB x0 x1 x2 hz;have hz2:=hB2.size;go_loopw [7] (fun i wr=>∃ k:Nat,k≤m.length∧i = .int .i64 (k:Int)∧iG ((List.zipWith lJ acts m).take k)=0∧Below W1.heap.size W1 wr) (fun i _=>m.length - (intOf i).toNat)
  case atStart=>exact⟨0,byOmega,rfl,rfl,Below.refl _ _⟩
  case round =>
   obtain⟨k,hk,rfl,hpre,hbel⟩:=hrel;have HP:=Ac hpre;clear hpre;by_cases hlt:k < m.length
   ·obtain⟨l,hl⟩:=aC hlt;obtain⟨inf,mG⟩:=aC (l:=g.infos) (k:=k) byOmega;have hak:acts[k]? = some inf.actions:=by rw[HAC.out,List.getElem?_map,mG];rfl
    obtain⟨A0,c0,he,_,hM⟩:=HM.out;cases he;obtain⟨b,o,rfl,hF,hbl,hx⟩:=hM byOmega;obtain⟨ur,eu0,hrow⟩:=hx k l hl;rw[Nat.mul_one] at eu0;have HRW:=Ac hrow;obtain⟨Ar,cr,rfl,hcr,_⟩:=hrow;obtain⟨b2,p2,rfl,hF2,hbl2,hx2⟩:=HI.out byOmega;have ei0:=(hx2 k inf mG).c1;have hia:inf.actions≤10:=HA.out inf (List.mem_of_getElem? mG);have fD:=HBB.out l (List.mem_of_getElem? hl);have HFI:=Ac fD.2;have hll:=fD.1;have HL:=Ac hl;have HK:=Ac hak;clear hx hx2 hM hl mG hak fD;have eu:=ah eu0 hbel;have ei:=ah ei0 hbel;have gr:=ah g2 hbel;by_cases hact:(l.length:Int)=inf.actions
    ·have d2:((l.length:Int) != inf.actions)=false:=aB;have CW:=Ac hact;go_wp2_with fail
     go_quiet (fail)
     have hb:Below wr.heap.size wr (wr.drewN nq):=aK (Below.refl _ wr) nq;have hzr:W1.heap.size≤wr.heap.size:=hbel.size;clear eu ei gr;refine YN ?_;clear hzr hbel hb;intro hzr hbel;generalize wr.drewN nq=wq at *;go_wp2_with fail
     refine(qZ wq 0 aA aA).mono ?_;rintro e wn ⟨u,rfl,hb,hu⟩;refine YN ?_;clear hzr hbel hb;intro hzr hbel;obtain⟨s0,hs0⟩:∃ s0:Rat,s0=((0:Int):Rat):=⟨_,rfl⟩;rw[← hs0] at hu;have H0:=Ac (show s0=0 from hs0);clear hs0;have HZ:=Ac hu;obtain⟨A3,c3,B3,d3,rfl,hn,hd⟩:=hu.open;clear hn hd hu;dsimp only;go_wp2_with fail
     obtain⟨bs,hbs⟩:=named wn.heap.size;obtain⟨W2,hW2,rs,hB2',hzz⟩:=aP wn 83 #[.bool (aG s0).neg,.slice A3 (aG s0).num.length c3,.slice B3 (aG s0).den.length d3];rw[← hW2];rw[← hbs] at rs ⊢;have hbs1:W1.heap.size≤bs:=byOmega;have hZ:RtV W2 (fun b=>b≠bs) (.agg #[.bool (aG s0).neg,.slice A3 (aG s0).num.length c3,.slice B3 (aG s0).den.length d3]) s0:=(HZ.out.mono (G:=fun b=>b≠bs) (fun b _ hl=>by omega)).below hB2';replace hbel:=hbel.trans (hB2'.mono hbel.size);have HST:=Ac rs; have HZ2:=Ac hZ;have hs2:W2.heap.size≤W2.heap.size:=Nat.le_refl _;have hbs2:=rs.lt;clear hW2 hzz hbs HZ rs hZ hB2';go_loopw [9] (fun i wi=>∃ (j:Nat) (s:Rat) (A':Option Addr) (c':Nat) (B':Option Addr) (d':Nat),j≤l.length∧i = .int .i64 (j:Int)∧iG ((l.map gy).take j)=0∧s=o8 ((l.take j).map yt)∧rl s≤1+1025*j∧Row wi bs 83 [.bool (aG s).neg,.slice A' (aG s).num.length c',.slice B' (aG s).den.length d'] ∧
      RtV wi (fun b=>b≠bs) (.agg #[.bool (aG s).neg,.slice A' (aG s).num.length c',.slice B' (aG s).den.length d']) s∧Below W1.heap.size W1 wi∧W2.heap.size≤wi.heap.size) (fun i _=>l.length - (intOf i).toNat)
     case atStart=>exact⟨0,s0,A3,c3,B3,d3,byOmega,rfl,rfl,by rw[H0.out]; rfl,by rw[H0.out,wQ]; omega,HST.out,HZ2.out,hbel,hs2⟩
     case round =>
      clear HST HZ2 hbel hzr H0 hs2;obtain⟨j,s,A',c',B',d',hj,rfl,hpre,hsum,hrs,rs,hnm,hbel,hzr⟩:=hrel;have HPJ:=Ac hpre;have HSU:=Ac hsum;have HNM:=Ac hnm;clear hpre hsum hnm;have eu:=ah eu0 hbel;have p0:=ah o0 hbel;have p1:=ah o1 hbel;have p2:=ah o2 hbel;have HON:=Ac (AL.mono (G:=fun b=>b≠bs) (AL.below (AL.old BO.out) hbel) (fun b hb _=>by have:=hb.2; omega));by_cases hlt2:j < l.length
      ·obtain⟨A2,c2,he,_,hR⟩:=HRW.out;cases he;obtain⟨b3,o3,rfl,hF3,hb3,hx3⟩:=hR byOmega;obtain⟨r,hr⟩:=aC hlt2;obtain⟨ex0,⟨vn,ex1,hn⟩,⟨vd,ex2,hd⟩⟩:=hx3 j r hr;have HRV:=Ac (AL.mono (G:=fun b=>b≠bs) ((AL.below (AL.old (AL.make (r:=r) rfl hn hd)) hbel)) (fun b hb _=>by have:=hb.2; omega));obtain⟨A4,c4,rfl,_,_⟩:=hn;obtain⟨A5,c5,rfl,_,_⟩:=hd;have hfr:=HFI.out r (List.mem_of_getElem? hr);have HFR:=Ac hfr.1;have hf2:=hfr.2.1;have hf3:=hfr.2.2;have HRR:=Ac hr;have y0:=ex0;have y1:=ex1;have y2:=ex2;replace ex0:=ah ex0 hbel;replace ex1:=ah ex1 hbel;replace ex2:=ah ex2 hbel;clear hx3 hR hr hfr;have al4:l.length≤10:=by have:=CW.out;omega
       go_wp2_with fail
       refine(aby wr _ _ r HRV.out HFR.out hf2 hf3).mono ?_;rintro e wn ⟨_,rfl,hb,rfl⟩;refine ZF ?_;clear eu p0 p1 p2 ex0 ex1 ex2 HRV HON HNM rs hzr hbel hb;intro eu p0 p1 p2 ex0 ex1 ex2 HRV HON HNM rs hzr hbel;obtain⟨re,hre⟩:=named (eY r);rw[← hre];by_cases adf:re=0
       ·have t3:(re != 0)=false:=by rw[adf];rfl
        have h1:eY r=0:=hre.symm.trans adf;have HRE:=Ac hre;have HRE0:=Ac adf;clear hre adf;obtain⟨⟨x,rfl⟩,h2,h3⟩:=yh h1;have hrx:rl x≤1024:=by unfold rl;exact Nat.max_le.2 ⟨h2,h3⟩
        have HE:=Ac (aaS x h1);clear h1 h2 h3 HFR hf2 hf3;have hsv:rl (s+x)≤1+1025*(j+1):=by have:=acI s x;omega
        obtain⟨one',hone'⟩:∃ y:Rat,y=1:=⟨_,rfl⟩;have acf:rl one≤20000:=by rw[H1.out,aaR];omega
        by_cases hneg:dV x=true
        ·have e1:(aG x).neg=true:=hneg;have hse:gy (aG x)=2:=HE.out.trans (if_pos (.inl hneg));refine zc8 ?_;intro hrow HF;clear hneg hse hrow;rw[e1] at ex0;dsimp only;go_wp2_with fail
         go_quiet (fail)
         go_wp2
         go_ret;exact⟨_,rfl,aK (hB2.trans (hbel.mono hB2.size)) _,by rw[HF.out]; rfl⟩
        ·have e1:(aG x).neg=false:=by show dV x=false;simpa using hneg
         have HE2:=Ac (HE.out.trans (show(if dV x=true∨0 < jh x 1 then (2:Int) else 0)=if 0 < jh x one then 2 else 0 by
          rw[H1.out];by_cases h:0 < jh x 1
          ·rw[if_pos h,if_pos (.inr h)]
          ·rw[if_neg h,if_neg (fun k=>k.elim hneg h)]))
         clear hneg HE;rw[e1] at ex0 y0 HRV;obtain⟨e0,he0⟩:=named (jh x one);rw[← he0] at HE2;have HO:=Ac he0;clear he0;by_cases h0:0 < e0
         ·have t4:decide (0 < e0)=true:=decide_eq_true h0;have hse:gy (aG x)=2:=HE2.out.trans (if_pos h0);refine zc8 ?_;intro hrow HF;clear h0 hse hrow;dsimp only;go_wp2_with fail
          refine ZU ?_;intro hHeld hb;clear eu p0 p1 p2 ex0 ex1 ex2 HRV HON HNM rs hzr hbel hb;intro eu p0 p1 p2 ex0 ex1 ex2 HRV HON HNM rs hzr hbel;generalize wn.drew=wn at *;refine tkm [0,1,2,3,4,5,6,7,8,9,10,11,12,13,14,15,16] ?_;refine tk2 17 ak rfl fun K hK=>?_
          go_simp;refine(sS _ _ _ _ x one HRV.out HON.out byOmega acf).mono ?_;rintro e wn ⟨_,rfl,hb,rfl⟩;rw[show jh x one=e0 from HO.out.symm];refine ZF ?_;clear eu p0 p1 p2 ex0 ex1 ex2 HRV HON HNM rs hzr hbel hb;intro eu p0 p1 p2 ex0 ex1 ex2 HRV HON HNM rs hzr hbel;dsimp only;clear hHeld;refine hK.out _ _ ⟨eu,p0,p1,p2,ex0,ex1,ex2⟩ (fun hHeld=>?_);clear hK K;refine Zc ?_;refine tkm [18,19] ?_;refine YF ?_;clear hHeld;clear ex0 ex1 ex2 p0 p1 p2 eu;refine Y5 ?_;go_wp2
          go_ret;exact⟨_,rfl,hB2.trans (hbel.mono hB2.size),by rw[HF.out]; rfl⟩
         ·have hse:gy (aG x)=0:=HE2.out.trans (if_neg h0);have HSE:=Ac hse;have t4:decide (0 < e0)=false:=decide_eq_false h0;clear h0 hse;dsimp only;go_wp2_with fail
          refine ZU ?_;intro hHeld hb;clear eu p0 p1 p2 ex0 ex1 ex2 HRV HON HNM rs hzr hbel hb;intro eu p0 p1 p2 ex0 ex1 ex2 HRV HON HNM rs hzr hbel;generalize wn.drew=wn at *;refine tkm [0,1,2,3,4,5,6,7,8,9,10,11,12,13,14,15,16] ?_;refine tk2 17 ak rfl fun K hK=>?_
          go_simp;refine(sS _ _ _ _ x one HRV.out HON.out byOmega acf).mono ?_;rintro e wn ⟨_,rfl,hb,rfl⟩;rw[show jh x one=e0 from HO.out.symm];refine ZF ?_;clear eu p0 p1 p2 ex0 ex1 ex2 HRV HON HNM rs hzr hbel hb;intro eu p0 p1 p2 ex0 ex1 ex2 HRV HON HNM rs hzr hbel;dsimp only;clear hHeld;refine hK.out _ _ ⟨eu,p0,p1,p2,ex0,ex1,ex2⟩ (fun hHeld=>?_);clear hK K;refine Zc ?_;refine tkm [18,19] ?_;refine YF ?_;clear hHeld;clear ex0 ex1 ex2 p0 p1 p2 eu;refine Y5 ?_;have eu:=ah eu0 hbel;have s0':=rs.cell (i:=0) rfl;have s1':=rs.cell (i:=1) rfl;have s2':=rs.cell (i:=2) rfl;have ex0:=ah y0 hbel;have ex1:=ah y1 hbel;have ex2:=ah y2 hbel;go_wp2_with fail
          refine bD (fun w'=>w'.cell? ⟨b,o+k,none⟩=some (.slice (some ⟨b3,o3,none⟩) l.length cr)∧w'.cell? ⟨bs,0,none⟩=some (.bool (aG s).neg)∧w'.cell? ⟨bs,1,none⟩=some (.slice A' (aG s).num.length c')∧w'.cell? ⟨bs,2,none⟩=some (.slice B' (aG s).den.length d')∧w'.cell? ⟨b3,o3+j*3,none⟩=some (.bool false)∧w'.cell? ⟨b3,o3+j*3+1,none⟩=some (.slice A4 (aG x).num.length c4)∧w'.cell? ⟨b3,o3+j*3+2,none⟩=some (.slice A5 (aG x).den.length c5)) 9 1 ak rfl ak ?_;have hHeld:(fun w':World=>w'.cell? ⟨b,o+k,none⟩=some (.slice (some ⟨b3,o3,none⟩) l.length cr)∧w'.cell? ⟨bs,0,none⟩=some (.bool (aG s).neg)∧w'.cell? ⟨bs,1,none⟩=some (.slice A' (aG s).num.length c')∧w'.cell? ⟨bs,2,none⟩=some (.slice B' (aG s).den.length d')∧w'.cell? ⟨b3,o3+j*3,none⟩=some (.bool false)∧w'.cell? ⟨b3,o3+j*3+1,none⟩=some (.slice A4 (aG x).num.length c4)∧w'.cell? ⟨b3,o3+j*3+2,none⟩=some (.slice A5 (aG x).den.length c5)) wn.drew:=⟨eu,s0',s1',s2',ex0,ex1,ex2⟩;refine ZB ?_;refine zcR ?_;intro hb;replace eu:=ah eu hb;replace s0':=ah s0' hb;replace s1':=ah s1' hb;replace s2':=ah s2' hb;replace ex0:=ah ex0 hb;replace ex1:=ah ex1 hb;replace ex2:=ah ex2 hb;replace HRV:=Ac (HRV.out.below hb);replace HNM:=Ac (HNM.out.below hb);replace rs:=rs.below hb rs.lt;refine YN ?_;clear hzr hbel hb;intro hzr hbel;generalize wn.drew=wn at *;refine tkm [0,1,2,3,4,5,6,7] ?_;refine tk2 8 ak rfl fun K hK=>?_
          go_simp;refine(vX _ _ _ _ s x HNM.out HRV.out byOmega byOmega).mono ?_;rintro e wn ⟨u,rfl,hb,hu⟩;have hu2:RtV wn (fun b=>b≠bs) u (s+x):=hu.mono (fun b hb _=>hb.elim id fun h=>by have:=rs.lt; omega);have HU:=Ac hu2;obtain⟨A6,c6,B6,d6,rfl,hn,hd⟩:=hu2.open;clear hn hd hu hu2;replace eu:=ah eu hb;replace s0':=ah s0' hb;replace s1':=ah s1' hb;replace s2':=ah s2' hb;replace ex0:=ah ex0 hb;replace ex1:=ah ex1 hb;replace ex2:=ah ex2 hb;replace HRV:=Ac (HRV.out.below hb);replace HNM:=Ac (HNM.out.below hb);replace rs:=rs.below hb rs.lt;refine YN ?_;clear hzr hbel hb;intro hzr hbel;dsimp only;clear hHeld;refine hK.out _ _ ⟨eu,s0',s1',s2',ex0,ex1,ex2⟩ (fun hHeld=>?_);refine zc7 ?_;clear hK K hHeld;have q0:=rs.cell (i:=0) rfl;have f0:=rs.frozen 0;have q1:=rs.cell (i:=1) rfl;have f1:=rs.frozen 1;have q2:=rs.cell (i:=2) rfl;have f2:=rs.frozen 2;clear eu s0' s1' s2' ex0 ex1 ex2;go_wp2
          refine zbk ?_;go_wp2
          obtain⟨Wz,hWz,hrw,hwz,hkz⟩:=dJ rs (.bool (aG (s+x)).neg) (.slice A6 (aG (s+x)).num.length c6) (.slice B6 (aG (s+x)).den.length d6);rw[← hWz];have hsz:Wz.heap.size=wn.heap.size:=by rw[hWz];simp
          clear hWz q0 q1 q2 f0 f1 f2;have HUU:=Ac (HU.out.keep (fun b hb _=>hb) (hkz (fun b=>b≠bs) (fun h=>h rfl)));go_roundw
          case rel=>exact⟨j+1,s+x,A6,c6,B6,d6,byOmega,by go_num,nD HPJ.out (by rw[List.getElem?_map,HRR.out]; show some (gy (aG x))=_; rw[HSE.out]),by rw[ah1 HRR.out,abY,← HSU.out,wW],hsv,hrw,HUU.out,hwz _ _ byOmega hbel,byOmega⟩
          case measure=>simp[intOf]; omega
       ·have t3:(re != 0)=true:=by simp[adf]
        have hse:gy r=re:=by unfold gy;rw[if_pos (by rw[← hre]; exact adf),hre]
        have hrow:=mW CW.out HPJ.out HRR.out (by rw[hse]; exact adf);have HF:=Ac ((lC HLE.out HP.out HK.out HL.out (by rw[hrow,hse]; exact adf)).trans (hrow.trans hse));clear hre adf hse hrow;dsimp only;go_wp2
        go_ret;exact⟨_,rfl,hB2.trans (hbel.mono hB2.size),by rw[HF.out]; rfl⟩
      ·have hsh:lS l=0:=by
        have:=HPJ.out;rw[List.take_of_length_le aB] at this;exact this
       have hrow:=vw CW.out hsh;have hall:s=o8 (l.map yt):=by rw[HSU.out,List.take_of_length_le byOmega]
       have BJ:=Ac (show lJ inf.actions l=if jh s one≠0 then 14 else 0 by rw[H1.out,hall]; exact hrow);have al4:l.length≤10:=by have:=CW.out;omega
       have acf:rl one≤20000:=by rw[H1.out,aaR];omega
       have s0':=rs.cell (i:=0) rfl;have s1':=rs.cell (i:=1) rfl;have s2':=rs.cell (i:=2) rfl;clear hsh hrow hall;go_wp2_with fail
       refine(sS _ _ _ _ s one HNM.out HON.out byOmega acf).mono ?_;rintro e wn ⟨_,rfl,hb,rfl⟩;replace p0:=ah p0 hb;replace p1:=ah p1 hb;replace p2:=ah p2 hb;replace s0':=ah s0' hb;replace s1':=ah s1' hb;replace s2':=ah s2' hb;replace HON:=Ac (HON.out.below hb);replace HNM:=Ac (HNM.out.below hb);replace rs:=rs.below hb rs.lt;refine YN ?_;clear hzr hbel hb;intro hzr hbel;clear p0 p1 p2 s0' s1' s2' rs HNM HON;generalize jh s one=e0 at *;by_cases h0:e0=0
       ·have t1:(e0 != 0)=false:=by rw[h0];rfl
        have hr0:lJ inf.actions l=0:=by rw[BJ.out,if_neg (by simpa using h0)]
        have HR0:=Ac hr0;clear hr0 h0;dsimp only;go_wp2
        go_roundw
        case rel=>exact⟨k+1,byOmega,by go_num,nD HP.out (by rw[zT HK.out HL.out,HR0.out]),hbel⟩
        case measure=>simp[intOf]; omega
       ·refine zcx ?_;clear h0;intro t1 HE;dsimp only;go_wp2
        go_ret;exact⟨_,rfl,hB2.trans (hbel.mono hB2.size),by rw[HE.out]; rfl⟩
    ·refine zcs ?_;intro d2 h3 HE;clear hact h3;go_wp2_with fail
     go_quiet (fail)
     go_wp2
     go_ret;exact⟨_,rfl,aK (hB2.trans (hbel.mono hB2.size)) _,by rw[HE.out]; rfl⟩
   ·have HE:=Ac (ace HLE.out HP.out byOmega);go_wp2
    go_ret;exact⟨_,rfl,hB2.trans (hbel.mono hB2.size),by rw[HE.out]; rfl⟩
 ·have h3:es=3:=by rw[HES.out];exact if_pos hlen
  have t1:(es != 0)=true:=by rw[h3];rfl
  have HE:=Ac (show nG acts m=3 by unfold nG; rw[if_pos byOmega]);have HES3:=Ac h3;clear h3;dsimp only;go_wp2
  go_ret;exact⟨_,rfl,hB,by rw[HE.out,HES3.out]; rfl⟩
end Go.Proofs.YthmklhapjegfdaaGreatDoor
