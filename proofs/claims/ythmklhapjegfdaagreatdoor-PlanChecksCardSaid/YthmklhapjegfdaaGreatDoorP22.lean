/- plan.Check; parlourref16.shape. -/
import Derived.Test.YthmklhapjegfdaaGreatDoorP20
import Derived.Test.YthmklhapjegfdaaGreatDoorP21
set_option linter.all false
set_option maxRecDepth 100000
set_option maxHeartbeats 12800000
namespace Go.Proofs.YthmklhapjegfdaaGreatDoor
open Lib renaming hid → Ae
open Go.RowKit
def iF (g:Gm) (m:List (List Raw)):Int:=if aY g≠0 then aY g else lS (g.infos.map Inf.actions) m
theorem Ag.below {w w':World} {F:Ah} {v:Value} {l:List (List Raw)} (h:Ag w F v l) (hb:Below w.heap.size w w'):Ag w' F v l:=h.on (Below.same' hb F)
theorem tZ (w:World) (F:Ah) (vg vm:Value) (g:Gm) (m:List (List Raw)) (hg:AP w F vg g) (hsm:Small g) (hm:Ag w F vm m) (hT:Bz w) (hlm:m.length≤100000) (hb:BA m) :
  Calls Tryz.prog 28 #[vg,vm] w (Ret w fun v _=>v = .int .i64 (iF g m)):=by
 have HG:=Ae hg; have HM:=Ae hm; have HS:=Ae hsm; have HT:=Ae hT;have hli:=hsm.infos;have hact:aY g=0→∀ i∈g.infos,i.actions≤10:=zK;obtain⟨vn,vi,rfl,⟨A,c,rfl,hc,_⟩,⟨Ai,ci,rfl,hci,_⟩⟩:=hg;clear hm hsm hT;go_in
 go_wp2_with fail
 obtain⟨W,hW,rx,hB,hz⟩:=aO w 25 #[.int .i64 g.aA,.slice A g.nodes.length c,.slice Ai g.infos.length ci];rw[← hW];clear hW hz;replace HG:=Ae (HG.out.on (Below.same' hB F)); replace HM:=Ae (HM.out.below hB); replace HT:=Ae (HT.out.on hB);have x0:=rx.cell (i:=0) rfl; have x1:=rx.cell (i:=1) rfl; have x2:=rx.cell (i:=2) rfl;clear rx;go_wp2_with fail
 refine(sG W F _ g HG.out HS.out).mono ?_;rintro e w1 ⟨_,rfl,hb1,rfl⟩;rw[pY];replace HG:=Ae (HG.out.on (Below.same' hb1 F)); replace HM:=Ae (HM.out.below hb1); replace HT:=Ae (HT.out.on hb1);replace x0:=ah x0 hb1; replace x1:=ah x1 hb1; replace x2:=ah x2 hb1;have hB1:=hB.trans (hb1.mono hB.size);clear hb1;have HE:=Ae (show iF g m=if aY g≠0 then aY g else lS (g.infos.map Inf.actions) m from rfl);generalize aY g=fe at *;by_cases h0:fe=0
 ·have t1:(fe != 0)=false:=by rw[h0]; rfl
  have HF:=Ae (HE.out.trans (if_neg (by simpa using h0)));have ha:=hact h0;clear h0 hact;dsimp only;go_wp2_with fail
  refine(ad9 w1 F _ _ g m HG.out HM.out HT.out hlm byOmega hb ha).mono ?_;rintro e w2 ⟨_,rfl,hb2,rfl⟩;have hB2:=hB1.trans (hb2.mono hB1.size);rw[← HF.out];dsimp only;go_wp2
  go_ret;exact⟨_,rfl,hB2,rfl⟩
 ·have t1:(fe != 0)=true:=by simp[h0]
  have HF:=Ae (HE.out.trans (if_pos h0));clear h0 hact;dsimp only;go_wp2
  go_ret;exact⟨_,rfl,hB1,by rw[HF.out]; rfl⟩
theorem aeh (w:World) (F:Ah) (vg vm:Value) (g:Gm) (m:List (List Raw)) (hg:AP w F vg g) (hm:Ag w F vm m) (hlm:m.length≤100000) (hli:g.infos.length≤100000) :
  Calls Tryz.prog 98 #[vg,vm] w (Ret w fun v _=>v = .int .i64 (if m.length≠g.infos.length then 3 else 0)):=by
 obtain⟨vn,vi,rfl,⟨A,c,rfl,hc,_⟩,⟨Ai,ci,rfl,hci,_⟩⟩:=hg;obtain⟨Am,cm,rfl,hcm,_⟩:=hm;obtain⟨er,her⟩:∃ er:Int,er=if m.length≠g.infos.length then 3 else 0:=⟨_,rfl⟩
 rw[← her];by_cases hlen:m.length=g.infos.length
 ·have d1:((m.length:Int) != (g.infos.length:Int))=false:=au;have HE:=Ae (her.trans (if_neg (by simpa using hlen)));clear hlen her;go_in
  go_wp2
  go_ret;exact⟨_,rfl,(Below.refl _ _).alloc (Nat.le_refl _) _,by rw[HE.out]; rfl⟩
 ·have d1:((m.length:Int) != (g.infos.length:Int))=true:=au;have HE:=Ae (her.trans (if_pos hlen));clear hlen her;go_in
  go_wp2
  go_ret;exact⟨_,rfl,(Below.refl _ _).alloc (Nat.le_refl _) _,by rw[HE.out]; rfl⟩
theorem aeV:∀ {mr:List (List Raw)},(∀ l∈mr,∃ xs:List Rat,l=xs.map aG)→∃ m:List (List Rat),mr=m.map (List.map aG)
 | [],_=>⟨[],rfl⟩
 | l :: mr,h=>by
  obtain⟨xs,hx⟩:=h l (List.mem_cons_self);obtain⟨m,hm⟩:=aeV (mr:=mr) (fun l hl=>h l (List.mem_cons_of_mem _ hl));exact⟨xs :: m,by rw[hx,hm]; rfl⟩
theorem nV {g:Gm} {mr:List (List Raw)} (h:iF g mr=0):aY g=0:=by
 unfold iF at h;by_cases h1:aY g=0
 ·exact h1
 ·rw[if_pos h1] at h; exact h
theorem xZ {g:Gm} {mr:List (List Raw)} (h:iF g mr=0):lS (g.infos.map Inf.actions) mr=0:=by
 have h1:=nV h;unfold iF at h;rwa [if_neg (by simpa using h1)] at h
theorem yL {a:Int} {l:List Raw} (h:kN a l=0):(l.length:Int)=a∧lV l=0∧iI (pO (l.map qR)) 1=0:=by
 unfold kN at h;split at h
 ·omega
 rename_i h1
 split at h
 ·omega
 rename_i h2
 split at h
 ·omega
 rename_i h3
 exact⟨byOmega,byOmega,byOmega⟩
theorem zM {acts:List Int} {mr:List (List Raw)} (h:lS acts mr=0):mr.length=acts.length∧∀ (k:Nat) (a:Int) (l:List Raw),acts[k]? = some a→mr[k]? = some l→kN a l=0:=by
 unfold lS at h;split at h
 ·omega
 rename_i h1
 exact⟨byOmega,fun k a l ha hl=>wR h _ (List.mem_of_getElem? (yK ha hl))⟩
theorem kL {g:Gm} (h:aY g=0):1≤g.aA∧g.aA≤4:=by
 unfold aY at h;split at h
 ·omega
 ·rename_i h1
  unfold iC at h1; omega
theorem aeW:∀ (l:List Int) (a:Int) (k:Nat),(∀ x∈l,1≤x∧x≤1000)→a+l.length≤l.foldl (· + ·) a∧l.foldl (· + ·) a≤a+1000*l.length
 | [],a,k,_=>by simp
 | x :: l,a,k,h=>by
  have h1:=h x (List.mem_cons_self);have h2:=aeW l (a+x) k (fun y hy=>h y (List.mem_cons_of_mem _ hy));rw[List.foldl_cons,List.length_cons];omega
theorem aei {l:List Int} (h:∀ x∈l,1≤x∧x≤1000):(l.length:Int)≤ahM l∧ahM l≤1000*l.length:=by
 have:=aeW l 0 0 h;unfold ahM; omega
theorem abJ {aA:Int} {ni:Nat} {nodes:List Nd} (h:dF aA ni nodes=0) {n:Nd} (hn:n∈nodes) (hk:n.kind=1):n.weights.length=n.next.length∧1≤n.next.length∧n.next.length≤60∧∀ x∈n.weights,1≤x∧x≤1000:=by
 have h1:=iL h n hn;unfold aT at h1;rw[if_pos hk] at h1;unfold dh at h1;split at h1
 ·omega
 ·rename_i h2
  split at h1
  ·omega
  ·rename_i h3
   refine⟨byOmega,byOmega,byOmega,fun x hx=>?_⟩;have h4:outside 1 1000 n.weights=false:=by simpa using h3
   unfold outside at h4;have:=List.any_eq_false.1 h4 x hx;simp at this;omega
theorem qc {aA:Int} {ni:Nat} {nodes:List Nd} (h:dF aA ni nodes=0) {n:Nd} (hn:n∈nodes) (hk:n.kind=2):1≤n.next.length∧n.next.length≤10∧0≤n.aI∧n.aI < aA∧0≤n.info∧n.info < (ni:Int):=by
 have h1:=iL h n hn;unfold aT at h1;rw[if_neg byOmega,if_pos hk] at h1;unfold dL at h1;split at h1
 ·omega
 ·rename_i h2
  split at h1
  ·omega
  ·exact⟨byOmega,byOmega,byOmega,byOmega,byOmega,byOmega⟩
theorem kinds {aA:Int} {ni:Nat} {nodes:List Nd} (h:dF aA ni nodes=0) {n:Nd} (hn:n∈nodes):n.kind=1∨n.kind=2∨n.kind=3:=by
 have h1:=iL h n hn;unfold aT at h1;split at h1
 ·exact .inl ‹_›
 ·split at h1
  ·exact .inr (.inl ‹_›)
  ·split at h1
   ·exact .inr (.inr ‹_›)
   ·omega
theorem ny {g:Gm} (h:aY g=0) {n:Nd} (hn:n∈g.nodes) (hk:n.kind=2):∃ inf,g.infos[n.info.toNat]? = some inf∧inf.actions=n.next.length∧inf.aI=n.aI:=by
 obtain⟨h2,h5⟩:=iw h;have h6:=qc h2 hn hk;unfold jl at h5;split at h5
 ·omega
 rename_i ht
 obtain⟨inf,hi⟩:=aC (l:=g.infos) (k:=n.info.toNat) byOmega;have e2:dI g.infos n=false:=by
  cases hb:dI g.infos n with
  | false=>rfl
  | true=>exact absurd (List.any_eq_true.2 ⟨n,hn,hb⟩) ht
 unfold dI at e2;rw[decide_eq_true hk,Bool.true_and,Bool.or_eq_false_iff,List.getD_eq_getElem?_getD,hi] at e2;have e3:=of_decide_eq_false e2.1;have e4:=of_decide_eq_false e2.2;simp only[Option.getD_some] at e3 e4;exact⟨inf,hi,byOmega,byOmega⟩
theorem aeX {a b:Int} (ha:1≤a∧a≤1000) (hb:1≤b∧b≤60000):rl ((a:Rat) / (b:Rat))≤4:=by
 have h1:rl (a:Rat)≤1:=by
  rw[yX];have:(dig a.natAbs).length≤1:=aW (by unfold LB; omega);omega
 have h2:rl (b:Rat)≤1:=by
  rw[yX];have:(dig b.natAbs).length≤1:=aW (by unfold LB; omega);omega
 have hb0:(b:Rat)≠0:=fun e=>by
  have:b=0:=Rat.intCast_inj.1 e;omega
 rw[Rat.div_def];have h3:=abh (a:Rat) (b:Rat)⁻¹;rw[agp hb0] at h3;omega
def BK (mr:List (List Raw)):Prop:=∀ l∈mr,∀ r∈l,r.num.length≤4∧r.den.length≤4
theorem aiF {g:Gm} {mr:List (List Raw)} (h:iF g mr=0) (hL:BK mr):∃ m:List (List Rat),mr=m.map (List.map aG)∧Fit g m∧∀ l∈m,pO l=1∧∀ x∈l,dH x=false:=by
 have hf:=nV h;obtain⟨hlen,hrows⟩:=zM (xZ h);have hrow:∀ l∈mr,∃ a:Int,kN a l=0:=by
  intro l hl;obtain⟨k,hk⟩:=List.getElem?_of_mem hl;obtain⟨a,ha⟩:=aC (l:=g.infos.map Inf.actions) (k:=k) (by have:=aK hk; omega);exact⟨a,hrows k a l ha hk⟩
 obtain⟨m,rfl⟩:=aeV (mr:=mr) (fun l hl=>by
  obtain⟨a,ha⟩:=hrow l hl;obtain⟨xs,hx,_⟩:=uG (yL ha).2.1;exact⟨xs,hx⟩)
 obtain⟨hne,_⟩:=iw hf;refine⟨m,rfl,⟨kG hf,hne,kL hf,by simpa using hlen,fun n hn hk=>?_⟩,fun l hl=>?_⟩
 ·rcases kinds hne hn with k1 | k1 | k1
  ·obtain⟨c1,c2,c3,c4⟩:=abJ hne hn k1;have hs:=aei c4;unfold aeK;rw[if_neg byOmega,List.length_map];refine⟨c1,fun x hx=>?_⟩;obtain⟨y,hy,rfl⟩:=List.mem_map.1 hx;exact aeX (c4 y hy) byOmega
  ·obtain⟨inf,hi,ha,_⟩:=ny hf hn k1;obtain⟨l,hl⟩:=aC (l:=m) (k:=n.info.toNat) (by have:=aK hi; simp at hlen; omega);have hr:=hrows n.info.toNat inf.actions (l.map aG) (by rw[List.getElem?_map,hi]; rfl) (by rw[List.getElem?_map,hl]; rfl);have hll:=(yL hr).1;rw[List.length_map] at hll;unfold aeK;rw[if_pos k1,List.getD_eq_getElem?_getD,hl,Option.getD_some];refine⟨byOmega,fun x hx=>?_⟩;have:=hL (l.map aG) (List.mem_map_of_mem (List.mem_of_getElem? hl)) (aG x) (List.mem_map_of_mem hx);exact Nat.max_le.2 this
  ·exact absurd k1 hk
 ·obtain⟨a,ha⟩:=hrow (l.map aG) (List.mem_map_of_mem hl);obtain⟨_,h2,h3⟩:=yL ha;rw[acn] at h3;refine⟨(aak _ _).1 h3,fun x hx=>?_⟩;have h4:=wR h2 (fA (aG x)) (List.mem_map_of_mem (List.mem_map_of_mem hx));obtain⟨y,hy,_,hn⟩:=aaL h4;rw[afe hy]; exact hn
section
variable {w:World} {g:Gm} {A:Option Addr} {c:Nat} {Ai:Option Addr} {ci:Nat} {vm:Value} {bp bu bl:Nat} {U P:List Int} {wr wr':World}
end
open List renaming getElem_toArray → lq1, getElem_cons_zero → lq2, getElem_cons_succ → lq3, setIfInBounds_toArray → lq4, set_cons_zero → lq5, set_cons_succ → lq6
theorem afL {l:List Raw} {j:Nat} {r:Raw} (h:l[j]? = some r):(l.take (j+1)).map qR=(l.take j).map qR ++ [qR r]:=by rw[take_snoc h,List.map_append]; rfl
theorem afM (w:World) (F:Ah) (vg vm:Value) (g:Gm) (m:List (List Raw)) (hg:AP w F vg g) (hm:Ag w F vm m) (hlm:m.length≤100000) (hli:g.infos.length≤100000) (hb:BA m) (hact:∀ i∈g.infos,i.actions≤10) :
  Calls Tryz.prog 50 #[vg,vm] w (Ret w fun v _=>v = .int .i64 (lS (g.infos.map Inf.actions) m)):=by
 have HG:=Ae hg; have HM:=Ae hm;obtain⟨vn,vi,rfl,⟨A,c,rfl,hc,hN⟩,⟨Ai,ci,rfl,hci,hI⟩⟩:=hg;obtain⟨Am,cm,rfl,hcm,hMM⟩:=hm;have HBB:=Ae hb; have HA:=Ae hact; have HI:=Ae hI;clear hN hI hMM hb hact;obtain⟨acts,vW⟩:=named (g.infos.map Inf.actions);rw[← vW];have hal:acts.length=g.infos.length:=by rw[vW,List.length_map]
 have HAC:=Ae vW; clear vW;obtain⟨es,hes⟩:∃ es:Int,es=if m.length≠g.infos.length then 3 else 0:=⟨_,rfl⟩
 have HES:=Ae hes; clear hes;go_in
 go_wp2_with fail
 obtain⟨W,hW,rx,hB,hz⟩:=aO w 25 #[.int .i64 g.aA,.slice A g.nodes.length c,.slice Ai g.infos.length ci];rw[← hW];clear hW;replace HG:=Ae (HG.out.on (Below.same' hB F)); replace HM:=Ae (HM.out.below hB);have x0:=rx.cell (i:=0) rfl; have x1:=rx.cell (i:=1) rfl; have x2:=rx.cell (i:=2) rfl;clear rx;have hz:w.heap.size+1≤W.heap.size:=byOmega;go_wp2_with fail
 refine(aeh W F _ _ g m HG.out HM.out hlm hli).mono ?_;rintro e wn ⟨_,rfl,hb,rfl⟩;replace x0:=ah x0 hb;replace x1:=ah x1 hb;replace x2:=ah x2 hb;replace HM:=Ae (HM.out.below hb);replace hz:=Nat.le_trans hz hb.size;replace hB:=hB.trans (hb.mono hB.size);clear hb;rw[← HES.out];by_cases hlen:m.length=g.infos.length
 ·have HLE:=Ae (show m.length=acts.length by omega);have hle1:m.length≤g.infos.length:=byOmega;have hle2:g.infos.length≤m.length:=byOmega;have hle3:m.length≤acts.length:=byOmega;have h0:es=0:=by rw[HES.out]; exact if_neg (by simpa using hlen)
  have t1:(es != 0)=false:=by rw[h0]; rfl
  clear hlen hal h0 HG;dsimp only;go_wp2_with fail
  refine(pX wn 1 aB aB).mono ?_;rintro e wn ⟨u,rfl,hb,hu⟩;replace x0:=ah x0 hb;replace x1:=ah x1 hb;replace x2:=ah x2 hb;replace HM:=Ae (HM.out.below hb);replace hz:=Nat.le_trans hz hb.size;replace hB:=hB.trans (hb.mono hB.size);clear hb;obtain⟨one,hone⟩:∃ one:Rat,one=((1:Int):Rat):=⟨_,rfl⟩;rw[← hone] at hu;have H1:=Ae (show one=1 from hone); clear hone;have BD:=Ae (hu.mono (G:=fun _=>True) (fun _ _ _=>trivial));obtain⟨A1,c1,B1,d1',rfl,hn,hd⟩:=hu.open;clear hn hd hu;dsimp only;go_wp2_with fail
  obtain⟨ob,hob⟩:=named wn.heap.size;obtain⟨W1,hW1,ry,hB1,hzz⟩:=aO wn 83 #[.bool (aG one).neg,.slice A1 (aG one).num.length c1,.slice B1 (aG one).den.length d1'];rw[← hW1];rw[← hob] at ry ⊢;have hos:ob < W1.heap.size:=ry.lt;clear hW1 hzz hob;replace BD:=Ae (BD.out.below hB1);replace HM:=Ae (HM.out.below hB1);have g2:=ah x2 hB1;have hB2:=hB.trans (hB1.mono hB.size);replace HI:=Ae (fun h=>by
   obtain⟨b,o,h1,h2,h3,h4⟩:=HI.out h;exact(⟨b,o,h1,h2,Nat.lt_of_lt_of_le h3 hB2.size,fun k x hx=>⟨ah (h4 k x hx).c0 hB2,ah (h4 k x hx).c1 hB2⟩⟩:∃ b o,Ai=some ⟨b,o,none⟩∧F b∧b < W1.heap.size∧∀ k x,g.infos[k]? = some x→Dj W1 F b (o+k*2) x))
  have o0:=ry.cell (i:=0) rfl; have o1:=ry.cell (i:=1) rfl; have o2:=ry.cell (i:=2) rfl;clear ry hB1 hB x0 x1 x2 hz;have hz2:=hB2.size;go_loopw [7] (fun i wr=>∃ k:Nat,k≤m.length∧i = .int .i64 (k:Int)∧gJ ((List.zipWith kN acts m).take k)=0∧Below W1.heap.size W1 wr) (fun i _=>m.length - (intOf i).toNat)
  case atStart=>exact⟨0,byOmega,rfl,rfl,Below.refl _ _⟩
  case round =>
   obtain⟨k,hk,rfl,hpre,hbel⟩:=hrel;have HP:=Ae hpre; clear hpre;by_cases hlt:k < m.length
   ·obtain⟨l,hl⟩:=aC hlt;obtain⟨inf,dS⟩:=aC (l:=g.infos) (k:=k) byOmega;have hak:acts[k]? = some inf.actions:=by rw[HAC.out,List.getElem?_map,dS]; rfl
    obtain⟨A0,c0,he,_,hM⟩:=HM.out;cases he
    obtain⟨b,o,rfl,hF,hbl,hx⟩:=hM byOmega;obtain⟨ur,eu0,hrow⟩:=hx k l hl;rw[Nat.mul_one] at eu0;have HRW:=Ae hrow;obtain⟨Ar,cr,rfl,hcr,_⟩:=hrow;obtain⟨b2,p2,rfl,hF2,ahY,hx2⟩:=HI.out byOmega;have ei0:=(hx2 k inf dS).c1;have hia:inf.actions≤10:=HA.out inf (List.mem_of_getElem? dS);have iq:=HBB.out l (List.mem_of_getElem? hl);have HFI:=Ae iq.2;have hll:=iq.1;have HL:=Ae hl; have HK:=Ae hak;clear hx hx2 hM hl dS hak iq;have eu:=ah eu0 hbel; have ei:=ah ei0 hbel; have gr:=ah g2 hbel;by_cases hact:(l.length:Int)=inf.actions
    ·have d2:((l.length:Int) != inf.actions)=false:=au;have CG:=Ae hact;go_wp2_with fail
     go_quiet (fail)
     have hb:Below wr.heap.size wr (wr.drewN nq):=aH (Below.refl _ wr) nq;have hzr:W1.heap.size≤wr.heap.size:=hbel.size;clear eu ei gr;replace hzr:=Nat.le_trans hzr hb.size;replace hbel:=hbel.trans (hb.mono hbel.size);clear hb;generalize wr.drewN nq=wq at *;go_wp2_with fail
     refine(pX wq 0 aB aB).mono ?_;rintro e wn ⟨u,rfl,hb,hu⟩;replace hzr:=Nat.le_trans hzr hb.size;replace hbel:=hbel.trans (hb.mono hbel.size);clear hb;obtain⟨s0,hs0⟩:∃ s0:Rat,s0=((0:Int):Rat):=⟨_,rfl⟩;rw[← hs0] at hu;have H0:=Ae (show s0=0 from hs0); clear hs0;have HZ:=Ae hu;obtain⟨A3,c3,B3,d3,rfl,hn,hd⟩:=hu.open;clear hn hd hu;dsimp only;go_wp2_with fail
     obtain⟨bs,hbs⟩:=named wn.heap.size;obtain⟨W2,hW2,rs,hB2',hzz⟩:=aO wn 83 #[.bool (aG s0).neg,.slice A3 (aG s0).num.length c3,.slice B3 (aG s0).den.length d3];rw[← hW2];rw[← hbs] at rs ⊢;have hbs1:W1.heap.size≤bs:=byOmega;have hZ:RtV W2 (fun b=>b≠bs) (.agg #[.bool (aG s0).neg,.slice A3 (aG s0).num.length c3,.slice B3 (aG s0).den.length d3]) s0:=(HZ.out.mono (G:=fun b=>b≠bs) (fun b _ hl=>by omega)).below hB2';replace hbel:=hbel.trans (hB2'.mono hbel.size);have HST:=Ae rs; have HZ2:=Ae hZ;have hs2:W2.heap.size≤W2.heap.size:=Nat.le_refl _;have hbs2:=rs.lt;clear hW2 hzz hbs HZ rs hZ hB2';go_loopw [9] (fun i wi=>∃ (j:Nat) (s:Rat) (A':Option Addr) (c':Nat) (B':Option Addr) (d':Nat),j≤l.length∧i = .int .i64 (j:Int)∧gJ ((l.map fA).take j)=0∧s=pO ((l.take j).map qR)∧rl s≤1+1025*j∧Row wi bs 83 [.bool (aG s).neg,.slice A' (aG s).num.length c',.slice B' (aG s).den.length d'] ∧
      RtV wi (fun b=>b≠bs) (.agg #[.bool (aG s).neg,.slice A' (aG s).num.length c',.slice B' (aG s).den.length d']) s∧Below W1.heap.size W1 wi∧W2.heap.size≤wi.heap.size) (fun i _=>l.length - (intOf i).toNat)
     case atStart=>exact⟨0,s0,A3,c3,B3,d3,byOmega,rfl,rfl,by rw[H0.out]; rfl,by rw[H0.out,yH]; omega,HST.out,HZ2.out,hbel,hs2⟩
     case round =>
      clear HST HZ2 hbel hzr H0 hs2;obtain⟨j,s,A',c',B',d',hj,rfl,hpre,hsum,hrs,rs,hnm,hbel,hzr⟩:=hrel;have HPJ:=Ae hpre; have HSU:=Ae hsum; have HNM:=Ae hnm; clear hpre hsum hnm;have eu:=ah eu0 hbel;have p0:=ah o0 hbel; have p1:=ah o1 hbel; have p2:=ah o2 hbel;have HON:=Ae (AL.mono (G:=fun b=>b≠bs) (AL.below (AL.old BD.out) hbel) (fun b hb _=>by have:=hb.2; omega));by_cases hlt2:j < l.length
      ·obtain⟨A2,c2,he,_,hR⟩:=HRW.out;cases he
       obtain⟨b3,o3,rfl,hF3,hb3,hx3⟩:=hR byOmega;obtain⟨r,hr⟩:=aC hlt2;obtain⟨ex0,⟨vn,ex1,hn⟩,⟨vd,ex2,hd⟩⟩:=hx3 j r hr;have HRV:=Ae (AL.mono (G:=fun b=>b≠bs) ((AL.below (AL.old (AL.make (r:=r) rfl hn hd)) hbel)) (fun b hb _=>by have:=hb.2; omega));obtain⟨A4,c4,rfl,_,_⟩:=hn;obtain⟨A5,c5,rfl,_,_⟩:=hd;have hfr:=HFI.out r (List.mem_of_getElem? hr);have HFR:=Ae hfr.1;have hf2:=hfr.2.1; have hf3:=hfr.2.2;have HRR:=Ae hr;have y0:=ex0; have y1:=ex1; have y2:=ex2;replace ex0:=ah ex0 hbel; replace ex1:=ah ex1 hbel; replace ex2:=ah ex2 hbel;clear hx3 hR hr hfr;have aiU:l.length≤10:=by have:=CG.out; omega
       go_wp2_with fail
       refine(aat wr _ _ r HRV.out HFR.out hf2 hf3).mono ?_;rintro e wn ⟨_,rfl,hb,rfl⟩;replace eu:=ah eu hb;replace p0:=ah p0 hb;replace p1:=ah p1 hb;replace p2:=ah p2 hb;replace ex0:=ah ex0 hb;replace ex1:=ah ex1 hb;replace ex2:=ah ex2 hb;replace HRV:=Ae (HRV.out.below hb);replace HON:=Ae (HON.out.below hb);replace HNM:=Ae (HNM.out.below hb);replace rs:=rs.below hb rs.lt;replace hzr:=Nat.le_trans hzr hb.size;replace hbel:=hbel.trans (hb.mono hbel.size);clear hb;obtain⟨re,hre⟩:=named (dV r);rw[← hre];by_cases abK:re=0
       ·have t3:(re != 0)=false:=by rw[abK]; rfl
        have h1:dV r=0:=hre.symm.trans abK;have HRE:=Ae hre; have HRE0:=Ae abK;clear hre abK;obtain⟨⟨x,rfl⟩,h2,h3⟩:=wQ h1;have hrx:rl x≤1024:=by unfold rl; exact Nat.max_le.2 ⟨h2,h3⟩
        have HE:=Ae (zJ x h1);clear h1 h2 h3 HFR hf2 hf3;have hsv:rl (s+x)≤1+1025*(j+1):=by have:=ady s x; omega
        obtain⟨one',hone'⟩:∃ y:Rat,y=1:=⟨_,rfl⟩;have aa1:rl one≤20000:=by rw[H1.out,wY]; omega
        by_cases hneg:dH x=true
        ·have e1:(aG x).neg=true:=hneg;have hse:fA (aG x)=2:=HE.out.trans (if_pos (.inl hneg));have hrow:=lD CG.out HPJ.out HRR.out (by rw[hse]; decide);have HF:=Ae ((jU HLE.out HP.out HK.out HL.out (by rw[hrow,hse]; decide)).trans (hrow.trans hse));clear hneg hse hrow;rw[e1] at ex0;dsimp only;go_wp2_with fail
         go_quiet (fail)
         go_wp2
         go_ret;exact⟨_,rfl,aH (hB2.trans (hbel.mono hB2.size)) _,by rw[HF.out]; rfl⟩
        ·have e1:(aG x).neg=false:=by show dH x=false; simpa using hneg
         have HE2:=Ae (HE.out.trans (show(if dH x=true∨0 < iI x 1 then (2:Int) else 0)=if 0 < iI x one then 2 else 0 by
          rw[H1.out];by_cases h:0 < iI x 1
          ·rw[if_pos h,if_pos (.inr h)]
          ·rw[if_neg h,if_neg (fun k=>k.elim hneg h)]))
         clear hneg HE;rw[e1] at ex0 y0 HRV;obtain⟨e0,he0⟩:=named (iI x one);rw[← he0] at HE2;have HO:=Ae he0; clear he0;by_cases h0:0 < e0
         ·have t4:decide (0 < e0)=true:=decide_eq_true h0;have hse:fA (aG x)=2:=HE2.out.trans (if_pos h0);have hrow:=lD CG.out HPJ.out HRR.out (by rw[hse]; decide);have HF:=Ae ((jU HLE.out HP.out HK.out HL.out (by rw[hrow,hse]; decide)).trans (hrow.trans hse));clear h0 hse hrow;dsimp only;go_wp2_with fail
          refine wp_region_held_drew (S:=fun w'=>w'.cell? ⟨b,o+k,none⟩=some (.slice (some ⟨b3,o3,none⟩) l.length cr)∧w'.cell? ⟨ob,0,none⟩=some (.bool (aG one).neg)∧w'.cell? ⟨ob,1,none⟩=some (.slice A1 (aG one).num.length c1)∧w'.cell? ⟨ob,2,none⟩=some (.slice B1 (aG one).den.length d1')∧w'.cell? ⟨b3,o3+j*3,none⟩=some (.bool false)∧w'.cell? ⟨b3,o3+j*3+1,none⟩=some (.slice A4 (aG x).num.length c4)∧w'.cell? ⟨b3,o3+j*3+2,none⟩=some (.slice A5 (aG x).den.length c5)) aj ⟨eu,p0,p1,p2,ex0,ex1,ex2⟩ (fun hHeld=>?_);have hb:Below wn.heap.size wn wn.drew:=aH (Below.refl _ wn) 1;replace eu:=ah eu hb;replace p0:=ah p0 hb;replace p1:=ah p1 hb;replace p2:=ah p2 hb;replace ex0:=ah ex0 hb;replace ex1:=ah ex1 hb;replace ex2:=ah ex2 hb;replace HRV:=Ae (HRV.out.below hb);replace HON:=Ae (HON.out.below hb);replace HNM:=Ae (HNM.out.below hb);replace rs:=rs.below hb rs.lt;replace hzr:=Nat.le_trans hzr hb.size;replace hbel:=hbel.trans (hb.mono hbel.size);clear hb;generalize wn.drew=wn at *;refine tk0 [0,1,2,3,4,5,6,7,8,9,10,11,12,13,14,15,16] ?_;iterate 17 (refine tk (v:=?_) rfl aj aj aj (fun _ _ _ h=>h) (Or.inl ⟨by rfl,?_⟩) hHeld ?_;rotate_left;(focus intro wx hSx;(try dsimp only at hSx);go_split_ands;go_simp;try with_reducible rfl);try simp only[Act.put,lq1,lq2,lq3,lq4,lq5,lq6])
          refine tk1 ?_;refine tk2 17 aj rfl fun K hK=>?_
          go_simp;refine(qW _ _ _ _ x one HRV.out HON.out byOmega aa1).mono ?_;rintro e wn ⟨_,rfl,hb,rfl⟩;rw[show iI x one=e0 from HO.out.symm];replace eu:=ah eu hb;replace p0:=ah p0 hb;replace p1:=ah p1 hb;replace p2:=ah p2 hb;replace ex0:=ah ex0 hb;replace ex1:=ah ex1 hb;replace ex2:=ah ex2 hb;replace HRV:=Ae (HRV.out.below hb);replace HON:=Ae (HON.out.below hb);replace HNM:=Ae (HNM.out.below hb);replace rs:=rs.below hb rs.lt;replace hzr:=Nat.le_trans hzr hb.size;replace hbel:=hbel.trans (hb.mono hbel.size);clear hb;dsimp only;clear hHeld;refine hK.out _ _ ⟨eu,p0,p1,p2,ex0,ex1,ex2⟩ (fun hHeld=>?_);clear hK K;try simp only[Act.put,lq1,lq2,lq3,lq4,lq5,lq6]
          refine tk0 [18,19] ?_;iterate 2 (refine tk (v:=?_) rfl aj aj aj (fun _ _ _ h=>h) (Or.inl ⟨by rfl,?_⟩) hHeld ?_;rotate_left;(focus intro wx hSx;(try dsimp only at hSx);go_split_ands;go_simp;try with_reducible rfl);try simp only[Act.put,lq1,lq2,lq3,lq4,lq5,lq6])
          refine tk1 ?_;refine wpAnyH_done aj ?_ _;clear hHeld;clear ex0 ex1 ex2 p0 p1 p2 eu;show Exit.then _ _ .normal _ _;go_wp2
          go_ret;exact⟨_,rfl,hB2.trans (hbel.mono hB2.size),by rw[HF.out]; rfl⟩
         ·have hse:fA (aG x)=0:=HE2.out.trans (if_neg h0);have HSE:=Ae hse;have t4:decide (0 < e0)=false:=decide_eq_false h0;clear h0 hse;dsimp only;go_wp2_with fail
          refine wp_region_held_drew (S:=fun w'=>w'.cell? ⟨b,o+k,none⟩=some (.slice (some ⟨b3,o3,none⟩) l.length cr)∧w'.cell? ⟨ob,0,none⟩=some (.bool (aG one).neg)∧w'.cell? ⟨ob,1,none⟩=some (.slice A1 (aG one).num.length c1)∧w'.cell? ⟨ob,2,none⟩=some (.slice B1 (aG one).den.length d1')∧w'.cell? ⟨b3,o3+j*3,none⟩=some (.bool false)∧w'.cell? ⟨b3,o3+j*3+1,none⟩=some (.slice A4 (aG x).num.length c4)∧w'.cell? ⟨b3,o3+j*3+2,none⟩=some (.slice A5 (aG x).den.length c5)) aj ⟨eu,p0,p1,p2,ex0,ex1,ex2⟩ (fun hHeld=>?_);have hb:Below wn.heap.size wn wn.drew:=aH (Below.refl _ wn) 1;replace eu:=ah eu hb;replace p0:=ah p0 hb;replace p1:=ah p1 hb;replace p2:=ah p2 hb;replace ex0:=ah ex0 hb;replace ex1:=ah ex1 hb;replace ex2:=ah ex2 hb;replace HRV:=Ae (HRV.out.below hb);replace HON:=Ae (HON.out.below hb);replace HNM:=Ae (HNM.out.below hb);replace rs:=rs.below hb rs.lt;replace hzr:=Nat.le_trans hzr hb.size;replace hbel:=hbel.trans (hb.mono hbel.size);clear hb;generalize wn.drew=wn at *;refine tk0 [0,1,2,3,4,5,6,7,8,9,10,11,12,13,14,15,16] ?_;iterate 17 (refine tk (v:=?_) rfl aj aj aj (fun _ _ _ h=>h) (Or.inl ⟨by rfl,?_⟩) hHeld ?_;rotate_left;(focus intro wx hSx;(try dsimp only at hSx);go_split_ands;go_simp;try with_reducible rfl);try simp only[Act.put,lq1,lq2,lq3,lq4,lq5,lq6])
          refine tk1 ?_;refine tk2 17 aj rfl fun K hK=>?_
          go_simp;refine(qW _ _ _ _ x one HRV.out HON.out byOmega aa1).mono ?_;rintro e wn ⟨_,rfl,hb,rfl⟩;rw[show iI x one=e0 from HO.out.symm];replace eu:=ah eu hb;replace p0:=ah p0 hb;replace p1:=ah p1 hb;replace p2:=ah p2 hb;replace ex0:=ah ex0 hb;replace ex1:=ah ex1 hb;replace ex2:=ah ex2 hb;replace HRV:=Ae (HRV.out.below hb);replace HON:=Ae (HON.out.below hb);replace HNM:=Ae (HNM.out.below hb);replace rs:=rs.below hb rs.lt;replace hzr:=Nat.le_trans hzr hb.size;replace hbel:=hbel.trans (hb.mono hbel.size);clear hb;dsimp only;clear hHeld;refine hK.out _ _ ⟨eu,p0,p1,p2,ex0,ex1,ex2⟩ (fun hHeld=>?_);clear hK K;try simp only[Act.put,lq1,lq2,lq3,lq4,lq5,lq6]
          refine tk0 [18,19] ?_;iterate 2 (refine tk (v:=?_) rfl aj aj aj (fun _ _ _ h=>h) (Or.inl ⟨by rfl,?_⟩) hHeld ?_;rotate_left;(focus intro wx hSx;(try dsimp only at hSx);go_split_ands;go_simp;try with_reducible rfl);try simp only[Act.put,lq1,lq2,lq3,lq4,lq5,lq6])
          refine tk1 ?_;refine wpAnyH_done aj ?_ _;clear hHeld;clear ex0 ex1 ex2 p0 p1 p2 eu;show Exit.then _ _ .normal _ _;have eu:=ah eu0 hbel;have s0':=rs.cell (i:=0) rfl; have s1':=rs.cell (i:=1) rfl; have s2':=rs.cell (i:=2) rfl;have ex0:=ah y0 hbel; have ex1:=ah y1 hbel; have ex2:=ah y2 hbel;go_wp2_with fail
          refine bW (fun w'=>w'.cell? ⟨b,o+k,none⟩=some (.slice (some ⟨b3,o3,none⟩) l.length cr)∧w'.cell? ⟨bs,0,none⟩=some (.bool (aG s).neg)∧w'.cell? ⟨bs,1,none⟩=some (.slice A' (aG s).num.length c')∧w'.cell? ⟨bs,2,none⟩=some (.slice B' (aG s).den.length d')∧w'.cell? ⟨b3,o3+j*3,none⟩=some (.bool false)∧w'.cell? ⟨b3,o3+j*3+1,none⟩=some (.slice A4 (aG x).num.length c4)∧w'.cell? ⟨b3,o3+j*3+2,none⟩=some (.slice A5 (aG x).den.length c5)) 9 1 aj rfl aj ?_;have hHeld:(fun w':World=>w'.cell? ⟨b,o+k,none⟩=some (.slice (some ⟨b3,o3,none⟩) l.length cr)∧w'.cell? ⟨bs,0,none⟩=some (.bool (aG s).neg)∧w'.cell? ⟨bs,1,none⟩=some (.slice A' (aG s).num.length c')∧w'.cell? ⟨bs,2,none⟩=some (.slice B' (aG s).den.length d')∧w'.cell? ⟨b3,o3+j*3,none⟩=some (.bool false)∧w'.cell? ⟨b3,o3+j*3+1,none⟩=some (.slice A4 (aG x).num.length c4)∧w'.cell? ⟨b3,o3+j*3+2,none⟩=some (.slice A5 (aG x).den.length c5)) wn.drew:=⟨eu,s0',s1',s2',ex0,ex1,ex2⟩;simp only[List.take_succ_cons,List.take_zero];have hb:Below wn.heap.size wn wn.drew:=aH (Below.refl _ wn) 1;replace eu:=ah eu hb;replace s0':=ah s0' hb;replace s1':=ah s1' hb;replace s2':=ah s2' hb;replace ex0:=ah ex0 hb;replace ex1:=ah ex1 hb;replace ex2:=ah ex2 hb;replace HRV:=Ae (HRV.out.below hb);replace HNM:=Ae (HNM.out.below hb);replace rs:=rs.below hb rs.lt;replace hzr:=Nat.le_trans hzr hb.size;replace hbel:=hbel.trans (hb.mono hbel.size);clear hb;generalize wn.drew=wn at *;refine tk0 [0,1,2,3,4,5,6,7] ?_;iterate 8 (refine tk (v:=?_) rfl aj aj aj (fun _ _ _ h=>h) (Or.inl ⟨by rfl,?_⟩) hHeld ?_;rotate_left;(focus intro wx hSx;(try dsimp only at hSx);go_split_ands;go_simp;try with_reducible rfl);try simp only[Act.put,lq1,lq2,lq3,lq4,lq5,lq6])
          refine tk1 ?_;refine tk2 8 aj rfl fun K hK=>?_
          go_simp;refine(zI _ _ _ _ s x HNM.out HRV.out byOmega byOmega).mono ?_;rintro e wn ⟨u,rfl,hb,hu⟩;have hu2:RtV wn (fun b=>b≠bs) u (s+x):=hu.mono (fun b hb _=>hb.elim id fun h=>by have:=rs.lt; omega);have HU:=Ae hu2;obtain⟨A6,c6,B6,d6,rfl,hn,hd⟩:=hu2.open;clear hn hd hu hu2;replace eu:=ah eu hb;replace s0':=ah s0' hb;replace s1':=ah s1' hb;replace s2':=ah s2' hb;replace ex0:=ah ex0 hb;replace ex1:=ah ex1 hb;replace ex2:=ah ex2 hb;replace HRV:=Ae (HRV.out.below hb);replace HNM:=Ae (HNM.out.below hb);replace rs:=rs.below hb rs.lt;replace hzr:=Nat.le_trans hzr hb.size;replace hbel:=hbel.trans (hb.mono hbel.size);clear hb;dsimp only;clear hHeld;refine hK.out _ _ ⟨eu,s0',s1',s2',ex0,ex1,ex2⟩ (fun hHeld=>?_);clear hK K;try simp only[Act.put,lq1,lq2,lq3,lq4,lq5,lq6]
          refine wpAnyH_done aj ?_ _;clear hHeld;show wpList _ _ _ _ _ _;have q0:=rs.cell (i:=0) rfl; have f0:=rs.frozen 0;have q1:=rs.cell (i:=1) rfl; have f1:=rs.frozen 1;have q2:=rs.cell (i:=2) rfl; have f2:=rs.frozen 2;clear eu s0' s1' s2' ex0 ex1 ex2;go_wp2
          show Exit.inBlock _ _ .normal _ _;go_wp2
          obtain⟨Wz,hWz,hrw,hwz,hkz⟩:=bP rs (.bool (aG (s+x)).neg) (.slice A6 (aG (s+x)).num.length c6) (.slice B6 (aG (s+x)).den.length d6);rw[← hWz];have hsz:Wz.heap.size=wn.heap.size:=by rw[hWz]; simp
          clear hWz q0 q1 q2 f0 f1 f2;have HUU:=Ae (HU.out.keep (fun b hb _=>hb) (hkz (fun b=>b≠bs) (fun h=>h rfl)));go_roundw
          case rel=>exact⟨j+1,s+x,A6,c6,B6,d6,byOmega,by go_num,lK HPJ.out (by rw[List.getElem?_map,HRR.out]; show some (fA (aG x))=_; rw[HSE.out]),by rw[afL HRR.out,aaM,← HSU.out,vK],hsv,hrw,HUU.out,hwz _ _ byOmega hbel,byOmega⟩
          case measure=>simp[intOf]; omega
       ·have t3:(re != 0)=true:=by simp[abK]
        have hse:fA r=re:=by unfold fA; rw[if_pos (by rw[← hre]; exact abK),hre]
        have hrow:=lD CG.out HPJ.out HRR.out (by rw[hse]; exact abK);have HF:=Ae ((jU HLE.out HP.out HK.out HL.out (by rw[hrow,hse]; exact abK)).trans (hrow.trans hse));clear hre abK hse hrow;dsimp only;go_wp2
        go_ret;exact⟨_,rfl,hB2.trans (hbel.mono hB2.size),by rw[HF.out]; rfl⟩
      ·have hsh:lV l=0:=by
        have:=HPJ.out;rw[List.take_of_length_le au] at this;exact this
       have hrow:=tX CG.out hsh;have hall:s=pO (l.map qR):=by rw[HSU.out,List.take_of_length_le byOmega]
       have Bd:=Ae (show kN inf.actions l=if iI s one≠0 then 14 else 0 by rw[H1.out,hall]; exact hrow);have aiU:l.length≤10:=by have:=CG.out; omega
       have aa1:rl one≤20000:=by rw[H1.out,wY]; omega
       have s0':=rs.cell (i:=0) rfl; have s1':=rs.cell (i:=1) rfl; have s2':=rs.cell (i:=2) rfl;clear hsh hrow hall;go_wp2_with fail
       refine(qW _ _ _ _ s one HNM.out HON.out byOmega aa1).mono ?_;rintro e wn ⟨_,rfl,hb,rfl⟩;replace p0:=ah p0 hb;replace p1:=ah p1 hb;replace p2:=ah p2 hb;replace s0':=ah s0' hb;replace s1':=ah s1' hb;replace s2':=ah s2' hb;replace HON:=Ae (HON.out.below hb);replace HNM:=Ae (HNM.out.below hb);replace rs:=rs.below hb rs.lt;replace hzr:=Nat.le_trans hzr hb.size;replace hbel:=hbel.trans (hb.mono hbel.size);clear hb;clear p0 p1 p2 s0' s1' s2' rs HNM HON;generalize iI s one=e0 at *;by_cases h0:e0=0
       ·have t1:(e0 != 0)=false:=by rw[h0]; rfl
        have hr0:kN inf.actions l=0:=by rw[Bd.out,if_neg (by simpa using h0)]
        have HR0:=Ae hr0; clear hr0 h0;dsimp only;go_wp2
        go_roundw
        case rel=>exact⟨k+1,byOmega,by go_num,lK HP.out (by rw[yK HK.out HL.out,HR0.out]),hbel⟩
        case measure=>simp[intOf]; omega
       ·have t1:(e0 != 0)=true:=by simp[h0]
        have hr0:kN inf.actions l=14:=by rw[Bd.out,if_pos h0]
        have HE:=Ae ((jU HLE.out HP.out HK.out HL.out (by rw[hr0]; decide)).trans hr0);clear hr0 h0;dsimp only;go_wp2
        go_ret;exact⟨_,rfl,hB2.trans (hbel.mono hB2.size),by rw[HE.out]; rfl⟩
    ·have d2:((l.length:Int) != inf.actions)=true:=au;have h3:kN inf.actions l=3:=by unfold kN; rw[if_pos hact]
     have HE:=Ae ((jU HLE.out HP.out HK.out HL.out (by rw[h3]; decide)).trans h3);clear hact h3;go_wp2_with fail
     go_quiet (fail)
     go_wp2
     go_ret;exact⟨_,rfl,aH (hB2.trans (hbel.mono hB2.size)) _,by rw[HE.out]; rfl⟩
   ·have HE:=Ae (aa0 HLE.out HP.out byOmega);go_wp2
    go_ret;exact⟨_,rfl,hB2.trans (hbel.mono hB2.size),by rw[HE.out]; rfl⟩
 ·have h3:es=3:=by rw[HES.out]; exact if_pos hlen
  have t1:(es != 0)=true:=by rw[h3]; rfl
  have HE:=Ae (show lS acts m=3 by unfold lS; rw[if_pos byOmega]);have HES3:=Ae h3;clear h3;dsimp only;go_wp2
  go_ret;exact⟨_,rfl,hB,by rw[HE.out,HES3.out]; rfl⟩
end Go.Proofs.YthmklhapjegfdaaGreatDoor
