/- plan.Check; parlourref16.shape. -/
import Derived.Test.YthmklhapjegfdaaGreatDoorX19
import Derived.Test.YthmklhapjegfdaaGreatDoorX20
set_option linter.all false
set_option maxRecDepth 100000
set_option maxHeartbeats 12800000
namespace Go.Proofs.YthmklhapjegfdaaGreatDoor
open Lib renaming hid → Ag
open Go.RowKit
def dS (g:Gm) (m:List (List Raw)):Int:=if bP g≠0 then bP g else iV (g.infos.map Inf.actions) m
theorem Ah.below {w w':World} {F:Aj} {v:Value} {l:List (List Raw)} (h:Ah w F v l) (hb:Below w.heap.size w w'):Ah w' F v l:=h.on (Below.same' hb F)
theorem qI (w:World) (F:Aj) (vg vm:Value) (g:Gm) (m:List (List Raw)) (hg:AU w F vg g) (hsm:Small g) (hm:Ah w F vm m) (hT:BK w) (hlm:m.length≤100000) (hb:Bf m) :
  Calls Tryz.prog 28 #[vg,vm] w (Ret w fun v _=>v = .int .i64 (dS g m)):=by
 have HG:=Ag hg;have HM:=Ag hm;have HS:=Ag hsm;have HT:=Ag hT;have hli:=hsm.infos;have hact:bP g=0→∀ i∈g.infos,i.actions≤10:=oU;obtain⟨vn,vi,rfl,⟨A,c,rfl,hc,_⟩,⟨Ai,ci,rfl,hci,_⟩⟩:=hg;clear hm hsm hT;go_in;go_wp2_with fail
 refine Zz ?_;intro W hW rx hB hz;clear hW hz;refine zcV ?_;clear HG;intro HG;replace HM:=Ag (HM.out.below hB);replace HT:=Ag (HT.out.on hB);refine Ze ?_;intro x0 x1 x2;clear rx;go_wp2_with fail
 refine(uJ W F _ g HG.out HS.out).mono ?_;rintro e w1 ⟨_,rfl,hb1,rfl⟩;rw[rQ];replace HG:=Ag (HG.out.on (Below.same' hb1 F));replace HM:=Ag (HM.out.below hb1);replace HT:=Ag (HT.out.on hb1);replace x0:=ah x0 hb1;replace x1:=ah x1 hb1;replace x2:=ah x2 hb1;have hB1:=hB.trans (hb1.mono hB.size);clear hb1;have HE:=Ag (show dS g m=if bP g≠0 then bP g else iV (g.infos.map Inf.actions) m from rfl);generalize bP g=fe at *;by_cases h0:fe=0
 ·have t1:(fe != 0)=false:=by rw[h0];rfl
  have HF:=Ag (HE.out.trans (if_neg (by simpa using h0)));have ha:=hact h0;clear h0 hact;dsimp only;go_wp2_with fail
  refine(aaX w1 F _ _ g m HG.out HM.out HT.out hlm byOmega hb ha).mono ?_;exact zcb
 ·exact zbL
theorem afF (w:World) (F:Aj) (vg vm:Value) (g:Gm) (m:List (List Raw)) (hg:AU w F vg g) (hm:Ah w F vm m) (hlm:m.length≤100000) (hli:g.infos.length≤100000) :
  Calls Tryz.prog 98 #[vg,vm] w (Ret w fun v _=>v = .int .i64 (if m.length≠g.infos.length then 3 else 0)):=by
 obtain⟨vn,vi,rfl,⟨A,c,rfl,hc,_⟩,⟨Ai,ci,rfl,hci,_⟩⟩:=hg;obtain⟨Am,cm,rfl,hcm,_⟩:=hm;obtain⟨er,her⟩:∃ er:Int,er=if m.length≠g.infos.length then 3 else 0:=⟨_,rfl⟩
 rw[← her];by_cases hlen:m.length=g.infos.length
 ·have d1:((m.length:Int) != (g.infos.length:Int))=false:=aC;have HE:=Ag (her.trans (if_neg (by simpa using hlen)));clear hlen her;exact za8
 ·have d1:((m.length:Int) != (g.infos.length:Int))=true:=aC;have HE:=Ag (her.trans (if_pos hlen));clear hlen her;exact za8
theorem agl:∀ {mr:List (List Raw)},(∀ l∈mr,∃ xs:List Rat,l=xs.map au)→∃ m:List (List Rat),mr=m.map (List.map au)
 | [],_=>⟨[],rfl⟩
 | l :: mr,h=>by
  obtain⟨xs,hx⟩:=h l (List.mem_cons_self);obtain⟨m,hm⟩:=agl (mr:=mr) (fun l hl=>h l (List.mem_cons_of_mem _ hl));exact⟨xs :: m,by rw[hx,hm]; rfl⟩
theorem iE {g:Gm} {mr:List (List Raw)} (h:dS g mr=0):bP g=0:=by
 unfold dS at h;by_cases h1:bP g=0
 ·exact h1
 ·rw[if_pos h1] at h;exact h
theorem nG {g:Gm} {mr:List (List Raw)} (h:dS g mr=0):iV (g.infos.map Inf.actions) mr=0:=by
 have h1:=iE h;unfold dS at h;rwa [if_neg (by simpa using h1)] at h
theorem yt {a:Int} {l:List Raw} (h:lM a l=0):(l.length:Int)=a∧nT l=0∧iO (jH (l.map oJ)) 1=0:=by
 unfold lM at h;split at h
 ·omega
 rename_i h1
 split at h
 ·omega
 rename_i h2
 split at h
 ·omega
 rename_i h3
 exact⟨byOmega,byOmega,byOmega⟩
theorem rU {acts:List Int} {mr:List (List Raw)} (h:iV acts mr=0):mr.length=acts.length∧∀ (k:Nat) (a:Int) (l:List Raw),acts[k]? = some a→mr[k]? = some l→lM a l=0:=by
 unfold iV at h;split at h
 ·omega
 rename_i h1
 exact⟨byOmega,fun k a l ha hl=>yK h _ (List.mem_of_getElem? (aaf ha hl))⟩
theorem lH {g:Gm} (h:bP g=0):1≤g.aF∧g.aF≤4:=by
 unfold bP at h;split at h
 ·omega
 ·rename_i h1
  unfold iZ at h1;omega
theorem agm:∀ (l:List Int) (a:Int) (k:Nat),(∀ x∈l,1≤x∧x≤1000)→a+l.length≤l.foldl (· + ·) a∧l.foldl (· + ·) a≤a+1000*l.length
 | [],a,k,_=>by simp
 | x :: l,a,k,h=>by
  have h1:=h x (List.mem_cons_self);have h2:=agm l (a+x) k (fun y hy=>h y (List.mem_cons_of_mem _ hy));rw[List.foldl_cons,List.length_cons];omega
theorem afG {l:List Int} (h:∀ x∈l,1≤x∧x≤1000):(l.length:Int)≤aju l∧aju l≤1000*l.length:=by
 have:=agm l 0 0 h;unfold aju;omega
theorem acZ {aF:Int} {ni:Nat} {nodes:List Nd} (h:dL aF ni nodes=0) {n:Nd} (hn:n∈nodes) (hk:n.kind=1):n.weights.length=n.next.length∧1≤n.next.length∧n.next.length≤60∧∀ x∈n.weights,1≤x∧x≤1000:=by
 have h1:=ji h n hn;unfold aV at h1;rw[if_pos hk] at h1;unfold dB at h1;split at h1
 ·omega
 ·rename_i h2
  split at h1
  ·omega
  ·rename_i h3
   refine⟨byOmega,byOmega,byOmega,fun x hx=>?_⟩;have h4:outside 1 1000 n.weights=false:=by simpa using h3
   unfold outside at h4;have:=List.any_eq_false.1 h4 x hx;simp at this;omega
theorem rV {aF:Int} {ni:Nat} {nodes:List Nd} (h:dL aF ni nodes=0) {n:Nd} (hn:n∈nodes) (hk:n.kind=2):1≤n.next.length∧n.next.length≤10∧0≤n.aJ∧n.aJ < aF∧0≤n.info∧n.info < (ni:Int):=by
 have h1:=ji h n hn;unfold aV at h1;rw[if_neg byOmega,if_pos hk] at h1;unfold dY at h1;split at h1
 ·omega
 ·rename_i h2
  split at h1
  ·omega
  ·exact⟨byOmega,byOmega,byOmega,byOmega,byOmega,byOmega⟩
theorem kinds {aF:Int} {ni:Nat} {nodes:List Nd} (h:dL aF ni nodes=0) {n:Nd} (hn:n∈nodes):n.kind=1∨n.kind=2∨n.kind=3:=by
 have h1:=ji h n hn;unfold aV at h1;split at h1
 ·exact .inl ‹_›
 ·split at h1
  ·exact .inr (.inl ‹_›)
  ·split at h1
   ·exact .inr (.inr ‹_›)
   ·omega
theorem oV {g:Gm} (h:bP g=0) {n:Nd} (hn:n∈g.nodes) (hk:n.kind=2):∃ inf,g.infos[n.info.toNat]? = some inf∧inf.actions=n.next.length∧inf.aJ=n.aJ:=by
 obtain⟨h2,h5⟩:=iW h;have h6:=rV h2 hn hk;unfold jM at h5;split at h5
 ·omega
 rename_i ht
 obtain⟨inf,hi⟩:=aB (l:=g.infos) (k:=n.info.toNat) byOmega;have e2:dU g.infos n=false:=by
  cases hb:dU g.infos n with
  | false=>rfl
  | true=>exact absurd (List.any_eq_true.2 ⟨n,hn,hb⟩) ht
 unfold dU at e2;rw[decide_eq_true hk,Bool.true_and,Bool.or_eq_false_iff,List.getD_eq_getElem?_getD,hi] at e2;have e3:=of_decide_eq_false e2.1;have e4:=of_decide_eq_false e2.2;simp only[Option.getD_some] at e3 e4;exact⟨inf,hi,byOmega,byOmega⟩
theorem agn {a b:Int} (ha:1≤a∧a≤1000) (hb:1≤b∧b≤60000):rl ((a:Rat) / (b:Rat))≤4:=by
 have h1:rl (a:Rat)≤1:=by
  rw[aau];have:(dig a.natAbs).length≤1:=aT (by unfold LB; omega);omega
 have h2:rl (b:Rat)≤1:=by
  rw[aau];have:(dig b.natAbs).length≤1:=aT (by unfold LB; omega);omega
 have hb0:(b:Rat)≠0:=fun e=>by
  have:b=0:=Rat.intCast_inj.1 e;omega
 rw[Rat.div_def];have h3:=nK (a:Rat) (b:Rat)⁻¹;rw[aeX hb0] at h3;omega
def BG (mr:List (List Raw)):Prop:=∀ l∈mr,∀ r∈l,r.num.length≤4∧r.den.length≤4
theorem wO {g:Gm} {mr:List (List Raw)} (h:dS g mr=0) (hL:BG mr):∃ m:List (List Rat),mr=m.map (List.map au)∧Fit g m∧∀ l∈m,jH l=1∧∀ x∈l,dD x=false:=by
 have hf:=iE h;obtain⟨hlen,hrows⟩:=rU (nG h);have hrow:∀ l∈mr,∃ a:Int,lM a l=0:=by
  intro l hl;obtain⟨k,hk⟩:=List.getElem?_of_mem hl;obtain⟨a,ha⟩:=aB (l:=g.infos.map Inf.actions) (k:=k) (by have:=aK hk; omega);exact⟨a,hrows k a l ha hk⟩
 obtain⟨m,rfl⟩:=agl (mr:=mr) (fun l hl=>by
  obtain⟨a,ha⟩:=hrow l hl;obtain⟨xs,hx,_⟩:=wB (yt ha).2.1;exact⟨xs,hx⟩)
 obtain⟨hne,_⟩:=iW hf;refine⟨m,rfl,⟨lC hf,hne,lH hf,by simpa using hlen,fun n hn hk=>?_⟩,fun l hl=>?_⟩
 ·rcases kinds hne hn with k1 | k1 | k1
  ·obtain⟨c1,c2,c3,c4⟩:=acZ hne hn k1;have hs:=afG c4;unfold af6;rw[if_neg byOmega,List.length_map];refine⟨c1,fun x hx=>?_⟩;obtain⟨y,hy,rfl⟩:=List.mem_map.1 hx;exact agn (c4 y hy) byOmega
  ·obtain⟨inf,hi,ha,_⟩:=oV hf hn k1;obtain⟨l,hl⟩:=aB (l:=m) (k:=n.info.toNat) (by have:=aK hi; simp at hlen; omega);have hr:=hrows n.info.toNat inf.actions (l.map au) (by rw[List.getElem?_map,hi]; rfl) (by rw[List.getElem?_map,hl]; rfl);have hll:=(yt hr).1;rw[List.length_map] at hll;unfold af6;rw[if_pos k1,List.getD_eq_getElem?_getD,hl,Option.getD_some];refine⟨byOmega,fun x hx=>?_⟩;have:=hL (l.map au) (List.mem_map_of_mem (List.mem_of_getElem? hl)) (au x) (List.mem_map_of_mem hx);exact Nat.max_le.2 this
  ·exact absurd k1 hk
 ·obtain⟨a,ha⟩:=hrow (l.map au) (List.mem_map_of_mem hl);obtain⟨_,h2,h3⟩:=yt ha;rw[adJ] at h3;refine⟨(uU _ _).1 h3,fun x hx=>?_⟩;have h4:=yK h2 (dP (au x)) (List.mem_map_of_mem (List.mem_map_of_mem hx));obtain⟨y,hy,_,hn⟩:=yL h4;rw[agM hy];exact hn
open List renaming getElem_toArray → lq1, getElem_cons_zero → lq2, getElem_cons_succ → lq3, setIfInBounds_toArray → lq4, set_cons_zero → lq5, set_cons_succ → lq6
theorem ahj {l:List Raw} {j:Nat} {r:Raw} (h:l[j]? = some r):(l.take (j+1)).map oJ=(l.take j).map oJ ++ [oJ r]:=by rw[take_snoc h,List.map_append]; rfl
theorem ach (w:World) (F:Aj) (vg vm:Value) (g:Gm) (m:List (List Raw)) (hg:AU w F vg g) (hm:Ah w F vm m) (hlm:m.length≤100000) (hli:g.infos.length≤100000) (hb:Bf m) (hact:∀ i∈g.infos,i.actions≤10) :
  Calls Tryz.prog 50 #[vg,vm] w (Ret w fun v _=>v = .int .i64 (iV (g.infos.map Inf.actions) m)):=by
 have HG:=Ag hg;have HM:=Ag hm;obtain⟨vn,vi,rfl,⟨A,c,rfl,hc,hN⟩,⟨Ai,ci,rfl,hci,hI⟩⟩:=hg;obtain⟨Am,cm,rfl,hcm,hMM⟩:=hm;have HBB:=Ag hb;have HA:=Ag hact;have HI:=Ag hI;clear hN hI hMM hb hact;obtain⟨acts,xY⟩:=named (g.infos.map Inf.actions);rw[← xY];have hal:acts.length=g.infos.length:=by rw[xY,List.length_map]
 have HAC:=Ag xY;clear xY;obtain⟨es,hes⟩:∃ es:Int,es=if m.length≠g.infos.length then 3 else 0:=⟨_,rfl⟩
 have HES:=Ag hes;clear hes;go_in;go_wp2_with fail
 refine Zz ?_;intro W hW rx hB hz;clear hW;refine zcV ?_;clear HG;intro HG;replace HM:=Ag (HM.out.below hB);refine Ze ?_;intro x0 x1 x2;clear rx;have hz:w.heap.size+1≤W.heap.size:=byOmega;go_wp2_with fail
 refine(afF W F _ _ g m HG.out HM.out hlm hli).mono ?_;rintro e wn ⟨_,rfl,hb,rfl⟩;refine ZN ?_;clear x0 x1 x2;intro x0 x1 x2;replace HM:=Ag (HM.out.below hb);refine Zc ?_;clear hz hB hb;intro hz hB;rw[← HES.out];by_cases hlen:m.length=g.infos.length
 ·have HLE:=Ag (show m.length=acts.length by omega);have hle1:m.length≤g.infos.length:=byOmega;have hle2:g.infos.length≤m.length:=byOmega;have hle3:m.length≤acts.length:=byOmega;have h0:es=0:=by rw[HES.out];exact if_neg (by simpa using hlen)
  have t1:(es != 0)=false:=by rw[h0];rfl
  clear hlen hal h0 HG;dsimp only;go_wp2_with fail
  refine(oP wn 1 ay ay).mono ?_;rintro e wn ⟨u,rfl,hb,hu⟩;refine ZN ?_;clear x0 x1 x2;intro x0 x1 x2;replace HM:=Ag (HM.out.below hb);refine Zc ?_;clear hz hB hb;intro hz hB;obtain⟨one,hone⟩:∃ one:Rat,one=((1:Int):Rat):=⟨_,rfl⟩;rw[← hone] at hu;have H1:=Ag (show one=1 from hone);clear hone;have BA:=Ag (hu.mono (G:=fun _=>True) (fun _ _ _=>trivial));obtain⟨A1,c1,B1,d1',rfl,hn,hd⟩:=hu.open;clear hn hd hu;dsimp only;go_wp2_with fail
  obtain⟨ob,hob⟩:=named wn.heap.size;obtain⟨W1,hW1,ry,hB1,hzz⟩:=aN wn 83 #[.bool (au one).neg,.slice A1 (au one).num.length c1,.slice B1 (au one).den.length d1'];rw[← hW1];rw[← hob] at ry ⊢;have hos:ob < W1.heap.size:=ry.lt;clear hW1 hzz hob;replace BA:=Ag (BA.out.below hB1);replace HM:=Ag (HM.out.below hB1);have g2:=ah x2 hB1;have hB2:=hB.trans (hB1.mono hB.size);replace HI:=Ag (fun h=>by
   obtain⟨b,o,h1,h2,h3,h4⟩:=HI.out h;exact(⟨b,o,h1,h2,Nat.lt_of_lt_of_le h3 hB2.size,fun k x hx=>⟨ah (h4 k x hx).c0 hB2,ah (h4 k x hx).c1 hB2⟩⟩:∃ b o,Ai=some ⟨b,o,none⟩∧F b∧b < W1.heap.size∧∀ k x,g.infos[k]? = some x→DF W1 F b (o+k*2) x))
  have o0:=ry.cell (i:=0) rfl;have o1:=ry.cell (i:=1) rfl;have o2:=ry.cell (i:=2) rfl;clear ry hB1 hB x0 x1 x2 hz;have hz2:=hB2.size;go_loopw [7] (fun i wr=>∃ k:Nat,k≤m.length∧i = .int .i64 (k:Int)∧iJ ((List.zipWith lM acts m).take k)=0∧Below W1.heap.size W1 wr) (fun i _=>m.length - (intOf i).toNat)
  case atStart=>exact⟨0,byOmega,rfl,rfl,Below.refl _ _⟩
  case round =>
   obtain⟨k,hk,rfl,hpre,hbel⟩:=hrel;have HP:=Ag hpre;clear hpre;by_cases hlt:k < m.length
   ·obtain⟨l,hl⟩:=aB hlt;obtain⟨inf,fB⟩:=aB (l:=g.infos) (k:=k) byOmega;have hak:acts[k]? = some inf.actions:=by rw[HAC.out,List.getElem?_map,fB];rfl
    obtain⟨A0,c0,he,_,hM⟩:=HM.out;cases he;obtain⟨b,o,rfl,hF,hbl,hx⟩:=hM byOmega;obtain⟨ur,eu0,hrow⟩:=hx k l hl;rw[Nat.mul_one] at eu0;have HRW:=Ag hrow;obtain⟨Ar,cr,rfl,hcr,_⟩:=hrow;obtain⟨b2,p2,rfl,hF2,ajH,hx2⟩:=HI.out byOmega;have ei0:=(hx2 k inf fB).c1;have hia:inf.actions≤10:=HA.out inf (List.mem_of_getElem? fB);have iC:=HBB.out l (List.mem_of_getElem? hl);have HFI:=Ag iC.2;have hll:=iC.1;have HL:=Ag hl;have HK:=Ag hak;clear hx hx2 hM hl fB hak iC;have eu:=ah eu0 hbel;have ei:=ah ei0 hbel;have gr:=ah g2 hbel;by_cases hact:(l.length:Int)=inf.actions
    ·have d2:((l.length:Int) != inf.actions)=false:=aC;have CW:=Ag hact;go_wp2_with fail
     go_quiet (fail)
     have hb:Below wr.heap.size wr (wr.drewN nq):=aH (Below.refl _ wr) nq;have hzr:W1.heap.size≤wr.heap.size:=hbel.size;clear eu ei gr;refine Y0 ?_;clear hzr hbel hb;intro hzr hbel;generalize wr.drewN nq=wq at *;go_wp2_with fail
     refine(oP wq 0 ay ay).mono ?_;rintro e wn ⟨u,rfl,hb,hu⟩;refine Y0 ?_;clear hzr hbel hb;intro hzr hbel;obtain⟨s0,hs0⟩:∃ s0:Rat,s0=((0:Int):Rat):=⟨_,rfl⟩;rw[← hs0] at hu;have H0:=Ag (show s0=0 from hs0);clear hs0;have HZ:=Ag hu;obtain⟨A3,c3,B3,d3,rfl,hn,hd⟩:=hu.open;clear hn hd hu;dsimp only;go_wp2_with fail
     obtain⟨bs,hbs⟩:=named wn.heap.size;obtain⟨W2,hW2,rs,hB2',hzz⟩:=aN wn 83 #[.bool (au s0).neg,.slice A3 (au s0).num.length c3,.slice B3 (au s0).den.length d3];rw[← hW2];rw[← hbs] at rs ⊢;have hbs1:W1.heap.size≤bs:=byOmega;have hZ:RtV W2 (fun b=>b≠bs) (.agg #[.bool (au s0).neg,.slice A3 (au s0).num.length c3,.slice B3 (au s0).den.length d3]) s0:=(HZ.out.mono (G:=fun b=>b≠bs) (fun b _ hl=>by omega)).below hB2';replace hbel:=hbel.trans (hB2'.mono hbel.size);have HST:=Ag rs; have HZ2:=Ag hZ;have hs2:W2.heap.size≤W2.heap.size:=Nat.le_refl _;have hbs2:=rs.lt;clear hW2 hzz hbs HZ rs hZ hB2';go_loopw [9] (fun i wi=>∃ (j:Nat) (s:Rat) (A':Option Addr) (c':Nat) (B':Option Addr) (d':Nat),j≤l.length∧i = .int .i64 (j:Int)∧iJ ((l.map dP).take j)=0∧s=jH ((l.take j).map oJ)∧rl s≤1+1025*j∧Row wi bs 83 [.bool (au s).neg,.slice A' (au s).num.length c',.slice B' (au s).den.length d'] ∧
      RtV wi (fun b=>b≠bs) (.agg #[.bool (au s).neg,.slice A' (au s).num.length c',.slice B' (au s).den.length d']) s∧Below W1.heap.size W1 wi∧W2.heap.size≤wi.heap.size) (fun i _=>l.length - (intOf i).toNat)
     case atStart=>exact⟨0,s0,A3,c3,B3,d3,byOmega,rfl,rfl,by rw[H0.out]; rfl,by rw[H0.out,uy]; omega,HST.out,HZ2.out,hbel,hs2⟩
     case round =>
      clear HST HZ2 hbel hzr H0 hs2;obtain⟨j,s,A',c',B',d',hj,rfl,hpre,hsum,hrs,rs,hnm,hbel,hzr⟩:=hrel;have HPJ:=Ag hpre;have HSU:=Ag hsum;have HNM:=Ag hnm;clear hpre hsum hnm;have eu:=ah eu0 hbel;have p0:=ah o0 hbel;have p1:=ah o1 hbel;have p2:=ah o2 hbel;have HON:=Ag (AA.mono (G:=fun b=>b≠bs) (AA.below (AA.old BA.out) hbel) (fun b hb _=>by have:=hb.2; omega));by_cases hlt2:j < l.length
      ·obtain⟨A2,c2,he,_,hR⟩:=HRW.out;cases he;obtain⟨b3,o3,rfl,hF3,hb3,hx3⟩:=hR byOmega;obtain⟨r,hr⟩:=aB hlt2;obtain⟨ex0,⟨vn,ex1,hn⟩,⟨vd,ex2,hd⟩⟩:=hx3 j r hr;have HRV:=Ag (AA.mono (G:=fun b=>b≠bs) ((AA.below (AA.old (AA.make (r:=r) rfl hn hd)) hbel)) (fun b hb _=>by have:=hb.2; omega));obtain⟨A4,c4,rfl,_,_⟩:=hn;obtain⟨A5,c5,rfl,_,_⟩:=hd;have hfr:=HFI.out r (List.mem_of_getElem? hr);have HFR:=Ag hfr.1;have hf2:=hfr.2.1;have hf3:=hfr.2.2;have HRR:=Ag hr;have y0:=ex0;have y1:=ex1;have y2:=ex2;replace ex0:=ah ex0 hbel;replace ex1:=ah ex1 hbel;replace ex2:=ah ex2 hbel;clear hx3 hR hr hfr;have akH:l.length≤10:=by have:=CW.out;omega
       go_wp2_with fail
       refine(vM wr _ _ r HRV.out HFR.out hf2 hf3).mono ?_;rintro e wn ⟨_,rfl,hb,rfl⟩;refine ZI ?_;clear eu p0 p1 p2 ex0 ex1 ex2 HRV HON HNM rs hzr hbel hb;intro eu p0 p1 p2 ex0 ex1 ex2 HRV HON HNM rs hzr hbel;obtain⟨re,hre⟩:=named (dZ r);rw[← hre];by_cases ac0:re=0
       ·have t3:(re != 0)=false:=by rw[ac0];rfl
        have h1:dZ r=0:=hre.symm.trans ac0;have HRE:=Ag hre;have HRE0:=Ag ac0;clear hre ac0;obtain⟨⟨x,rfl⟩,h2,h3⟩:=uF h1;have hrx:rl x≤1024:=by unfold rl;exact Nat.max_le.2 ⟨h2,h3⟩
        have HE:=Ag (rP x h1);clear h1 h2 h3 HFR hf2 hf3;have hsv:rl (s+x)≤1+1025*(j+1):=by have:=aat s x;omega
        obtain⟨one',hone'⟩:∃ y:Rat,y=1:=⟨_,rfl⟩;have acf:rl one≤20000:=by rw[H1.out,nM];omega
        by_cases hneg:dD x=true
        ·have e1:(au x).neg=true:=hneg;have hse:dP (au x)=2:=HE.out.trans (if_pos (.inl hneg));refine zdQ ?_;intro hrow HF;clear hneg hse hrow;rw[e1] at ex0;dsimp only;go_wp2_with fail
         go_quiet (fail)
         go_wp2
         go_ret;exact⟨_,rfl,aH (hB2.trans (hbel.mono hB2.size)) _,by rw[HF.out]; rfl⟩
        ·have e1:(au x).neg=false:=by show dD x=false;simpa using hneg
         have HE2:=Ag (HE.out.trans (show(if dD x=true∨0 < iO x 1 then (2:Int) else 0)=if 0 < iO x one then 2 else 0 by
          rw[H1.out];by_cases h:0 < iO x 1
          ·rw[if_pos h,if_pos (.inr h)]
          ·rw[if_neg h,if_neg (fun k=>k.elim hneg h)]))
         clear hneg HE;rw[e1] at ex0 y0 HRV;obtain⟨e0,he0⟩:=named (iO x one);rw[← he0] at HE2;have HO:=Ag he0;clear he0;by_cases h0:0 < e0
         ·have t4:decide (0 < e0)=true:=decide_eq_true h0;have hse:dP (au x)=2:=HE2.out.trans (if_pos h0);refine zdQ ?_;intro hrow HF;clear h0 hse hrow;dsimp only;go_wp2_with fail
          refine ZX ?_;intro hHeld hb;clear eu p0 p1 p2 ex0 ex1 ex2 HRV HON HNM rs hzr hbel hb;intro eu p0 p1 p2 ex0 ex1 ex2 HRV HON HNM rs hzr hbel;generalize wn.drew=wn at *;refine tkm [0,1,2,3,4,5,6,7,8,9,10,11,12,13,14,15,16] ?_;refine tk2 17 aj rfl fun K hK=>?_
          go_simp;refine(qc _ _ _ _ x one HRV.out HON.out byOmega acf).mono ?_;rintro e wn ⟨_,rfl,hb,rfl⟩;rw[show iO x one=e0 from HO.out.symm];refine ZI ?_;clear eu p0 p1 p2 ex0 ex1 ex2 HRV HON HNM rs hzr hbel hb;intro eu p0 p1 p2 ex0 ex1 ex2 HRV HON HNM rs hzr hbel;dsimp only;clear hHeld;refine hK.out _ _ ⟨eu,p0,p1,p2,ex0,ex1,ex2⟩ (fun hHeld=>?_);clear hK K;refine Zb ?_;refine tkm [18,19] ?_;refine YF ?_;clear hHeld;clear ex0 ex1 ex2 p0 p1 p2 eu;refine Yi ?_;go_wp2
          go_ret;exact⟨_,rfl,hB2.trans (hbel.mono hB2.size),by rw[HF.out]; rfl⟩
         ·have hse:dP (au x)=0:=HE2.out.trans (if_neg h0);have HSE:=Ag hse;have t4:decide (0 < e0)=false:=decide_eq_false h0;clear h0 hse;dsimp only;go_wp2_with fail
          refine ZX ?_;intro hHeld hb;clear eu p0 p1 p2 ex0 ex1 ex2 HRV HON HNM rs hzr hbel hb;intro eu p0 p1 p2 ex0 ex1 ex2 HRV HON HNM rs hzr hbel;generalize wn.drew=wn at *;refine tkm [0,1,2,3,4,5,6,7,8,9,10,11,12,13,14,15,16] ?_;refine tk2 17 aj rfl fun K hK=>?_
          go_simp;refine(qc _ _ _ _ x one HRV.out HON.out byOmega acf).mono ?_;rintro e wn ⟨_,rfl,hb,rfl⟩;rw[show iO x one=e0 from HO.out.symm];refine ZI ?_;clear eu p0 p1 p2 ex0 ex1 ex2 HRV HON HNM rs hzr hbel hb;intro eu p0 p1 p2 ex0 ex1 ex2 HRV HON HNM rs hzr hbel;dsimp only;clear hHeld;refine hK.out _ _ ⟨eu,p0,p1,p2,ex0,ex1,ex2⟩ (fun hHeld=>?_);clear hK K;refine Zb ?_;refine tkm [18,19] ?_;refine YF ?_;clear hHeld;clear ex0 ex1 ex2 p0 p1 p2 eu;refine Yi ?_;have eu:=ah eu0 hbel;have s0':=rs.cell (i:=0) rfl;have s1':=rs.cell (i:=1) rfl;have s2':=rs.cell (i:=2) rfl;have ex0:=ah y0 hbel;have ex1:=ah y1 hbel;have ex2:=ah y2 hbel;go_wp2_with fail
          refine bJ (fun w'=>w'.cell? ⟨b,o+k,none⟩=some (.slice (some ⟨b3,o3,none⟩) l.length cr)∧w'.cell? ⟨bs,0,none⟩=some (.bool (au s).neg)∧w'.cell? ⟨bs,1,none⟩=some (.slice A' (au s).num.length c')∧w'.cell? ⟨bs,2,none⟩=some (.slice B' (au s).den.length d')∧w'.cell? ⟨b3,o3+j*3,none⟩=some (.bool false)∧w'.cell? ⟨b3,o3+j*3+1,none⟩=some (.slice A4 (au x).num.length c4)∧w'.cell? ⟨b3,o3+j*3+2,none⟩=some (.slice A5 (au x).den.length c5)) 9 1 aj rfl aj ?_;have hHeld:(fun w':World=>w'.cell? ⟨b,o+k,none⟩=some (.slice (some ⟨b3,o3,none⟩) l.length cr)∧w'.cell? ⟨bs,0,none⟩=some (.bool (au s).neg)∧w'.cell? ⟨bs,1,none⟩=some (.slice A' (au s).num.length c')∧w'.cell? ⟨bs,2,none⟩=some (.slice B' (au s).den.length d')∧w'.cell? ⟨b3,o3+j*3,none⟩=some (.bool false)∧w'.cell? ⟨b3,o3+j*3+1,none⟩=some (.slice A4 (au x).num.length c4)∧w'.cell? ⟨b3,o3+j*3+2,none⟩=some (.slice A5 (au x).den.length c5)) wn.drew:=⟨eu,s0',s1',s2',ex0,ex1,ex2⟩;refine ZJ ?_;refine zaK ?_;intro hb;replace eu:=ah eu hb;replace s0':=ah s0' hb;replace s1':=ah s1' hb;replace s2':=ah s2' hb;replace ex0:=ah ex0 hb;replace ex1:=ah ex1 hb;replace ex2:=ah ex2 hb;replace HRV:=Ag (HRV.out.below hb);replace HNM:=Ag (HNM.out.below hb);replace rs:=rs.below hb rs.lt;refine Y0 ?_;clear hzr hbel hb;intro hzr hbel;generalize wn.drew=wn at *;refine tkm [0,1,2,3,4,5,6,7] ?_;refine tk2 8 aj rfl fun K hK=>?_
          go_simp;refine(oO _ _ _ _ s x HNM.out HRV.out byOmega byOmega).mono ?_;rintro e wn ⟨u,rfl,hb,hu⟩;have hu2:RtV wn (fun b=>b≠bs) u (s+x):=hu.mono (fun b hb _=>hb.elim id fun h=>by have:=rs.lt; omega);have HU:=Ag hu2;obtain⟨A6,c6,B6,d6,rfl,hn,hd⟩:=hu2.open;clear hn hd hu hu2;replace eu:=ah eu hb;replace s0':=ah s0' hb;replace s1':=ah s1' hb;replace s2':=ah s2' hb;replace ex0:=ah ex0 hb;replace ex1:=ah ex1 hb;replace ex2:=ah ex2 hb;replace HRV:=Ag (HRV.out.below hb);replace HNM:=Ag (HNM.out.below hb);replace rs:=rs.below hb rs.lt;refine Y0 ?_;clear hzr hbel hb;intro hzr hbel;dsimp only;clear hHeld;refine hK.out _ _ ⟨eu,s0',s1',s2',ex0,ex1,ex2⟩ (fun hHeld=>?_);clear hK K;refine Zb ?_;refine ZF ?_;clear hHeld;have q0:=rs.cell (i:=0) rfl;have f0:=rs.frozen 0;have q1:=rs.cell (i:=1) rfl;have f1:=rs.frozen 1;have q2:=rs.cell (i:=2) rfl;have f2:=rs.frozen 2;clear eu s0' s1' s2' ex0 ex1 ex2;go_wp2
          refine zae ?_;go_wp2
          obtain⟨Wz,hWz,hrw,hwz,hkz⟩:=bH rs (.bool (au (s+x)).neg) (.slice A6 (au (s+x)).num.length c6) (.slice B6 (au (s+x)).den.length d6);rw[← hWz];have hsz:Wz.heap.size=wn.heap.size:=by rw[hWz];simp
          clear hWz q0 q1 q2 f0 f1 f2;have HUU:=Ag (HU.out.keep (fun b hb _=>hb) (hkz (fun b=>b≠bs) (fun h=>h rfl)));go_roundw
          case rel=>exact⟨j+1,s+x,A6,c6,B6,d6,byOmega,by go_num,mW HPJ.out (by rw[List.getElem?_map,HRR.out]; show some (dP (au x))=_; rw[HSE.out]),by rw[ahj HRR.out,yM,← HSU.out,mX],hsv,hrw,HUU.out,hwz _ _ byOmega hbel,byOmega⟩
          case measure=>simp[intOf]; omega
       ·have t3:(re != 0)=true:=by simp[ac0]
        have hse:dP r=re:=by unfold dP;rw[if_pos (by rw[← hre]; exact ac0),hre]
        have hrow:=mM CW.out HPJ.out HRR.out (by rw[hse]; exact ac0);have HF:=Ag ((kS HLE.out HP.out HK.out HL.out (by rw[hrow,hse]; exact ac0)).trans (hrow.trans hse));clear hre ac0 hse hrow;dsimp only;go_wp2
        go_ret;exact⟨_,rfl,hB2.trans (hbel.mono hB2.size),by rw[HF.out]; rfl⟩
      ·have hsh:nT l=0:=by
        have:=HPJ.out;rw[List.take_of_length_le aC] at this;exact this
       have hrow:=vJ CW.out hsh;have hall:s=jH (l.map oJ):=by rw[HSU.out,List.take_of_length_le byOmega]
       have AX:=Ag (show lM inf.actions l=if iO s one≠0 then 14 else 0 by rw[H1.out,hall]; exact hrow);have akH:l.length≤10:=by have:=CW.out;omega
       have acf:rl one≤20000:=by rw[H1.out,nM];omega
       have s0':=rs.cell (i:=0) rfl;have s1':=rs.cell (i:=1) rfl;have s2':=rs.cell (i:=2) rfl;clear hsh hrow hall;go_wp2_with fail
       refine(qc _ _ _ _ s one HNM.out HON.out byOmega acf).mono ?_;rintro e wn ⟨_,rfl,hb,rfl⟩;replace p0:=ah p0 hb;replace p1:=ah p1 hb;replace p2:=ah p2 hb;replace s0':=ah s0' hb;replace s1':=ah s1' hb;replace s2':=ah s2' hb;replace HON:=Ag (HON.out.below hb);replace HNM:=Ag (HNM.out.below hb);replace rs:=rs.below hb rs.lt;refine Y0 ?_;clear hzr hbel hb;intro hzr hbel;clear p0 p1 p2 s0' s1' s2' rs HNM HON;generalize iO s one=e0 at *;by_cases h0:e0=0
       ·have t1:(e0 != 0)=false:=by rw[h0];rfl
        have hr0:lM inf.actions l=0:=by rw[AX.out,if_neg (by simpa using h0)]
        have HR0:=Ag hr0;clear hr0 h0;dsimp only;go_wp2
        go_roundw
        case rel=>exact⟨k+1,byOmega,by go_num,mW HP.out (by rw[aaf HK.out HL.out,HR0.out]),hbel⟩
        case measure=>simp[intOf]; omega
       ·refine zdf ?_;clear h0;intro t1 HE;dsimp only;go_wp2
        go_ret;exact⟨_,rfl,hB2.trans (hbel.mono hB2.size),by rw[HE.out]; rfl⟩
    ·refine zc4 ?_;intro d2 h3 HE;clear hact h3;go_wp2_with fail
     go_quiet (fail)
     go_wp2
     go_ret;exact⟨_,rfl,aH (hB2.trans (hbel.mono hB2.size)) _,by rw[HE.out]; rfl⟩
   ·have HE:=Ag (ace HLE.out HP.out byOmega);go_wp2
    go_ret;exact⟨_,rfl,hB2.trans (hbel.mono hB2.size),by rw[HE.out]; rfl⟩
 ·have h3:es=3:=by rw[HES.out];exact if_pos hlen
  have t1:(es != 0)=true:=by rw[h3];rfl
  have HE:=Ag (show iV acts m=3 by unfold iV; rw[if_pos byOmega]);have HES3:=Ag h3;clear h3;dsimp only;go_wp2
  go_ret;exact⟨_,rfl,hB,by rw[HE.out,HES3.out]; rfl⟩
end Go.Proofs.YthmklhapjegfdaaGreatDoor
