import Derived.Test.YtenaplhghbcjhaaGreatDoorQ19
import Derived.Test.YtenaplhghbcjhaaGreatDoorQ20
set_option linter.all false
set_option maxRecDepth 100000
set_option maxHeartbeats 0
namespace Go.Proofs.YtenaplhghbcjhaaGreatDoor
open Go.RowKit.Below renaming refl->GR
open Below renaming same'->GL
open Go.Value renaming bool->G7,slice->Gw
open List renaming getElem?_map->GY,length_map->Gz,map->Iq,mem_cons_of_mem->Iz,mem_map_of_mem->IL,mem_of_getElem?->Gx,take_of_length_le->G8
open Go.Proofs.Tryz renaming prog->GI
open Go.World renaming alloc->G5
open Go.RowKit
variable {a aC:Int} {mr:List (List Raw)} {l:List Raw} {ni:Nat}
def iw (g:Gm) (m:List (List Raw)):Int:=if aQ g≠0 then aQ g else pF (g.F8.map Inf.actions) m
theorem Gt.below {w w':World} {F:Gq} {v:Value} {l:List (List Raw)} (h:Gt w F v l) (hb:Below w.heap.size w w'):Gt w' F v l:=h.on (GL hb F)
theorem adV (w:World) (F:Gq) (vg vm:Value) (g:Gm) (m:List (List Raw)) (hg:AB w F vg g) (hsm:Small g) (hm:Gt w F vm m) (hT:BF w) (hlm:m.length<=100000) (hb:Bv m) :
  Calls GI 23 #[vg,vm] w (Ret w λv _=>v = .int .i64 (iw g m)):=by
 have HG:=Ag hg;have HM:=Ag hm;have HS:=Ag hsm;have HT:=Ag hT;have hli:=hsm.F8;have hact:aQ g=0->∀ i∈g.F8,i.actions<=10:=dJ;obtain⟨vn,vi,rfl,⟨A,c,rfl,hc,_⟩,⟨Ai,ci,rfl,hci,_⟩⟩:=hg;clear hm hsm hT;go_in;go_wp2_with fail
 generalize hW:G5 _ _=W;obtain⟨rx,hB,hz⟩:=aI hW;clear hW hz;replace HG:=Ag (HG.o.on (GL hB F));replace HM:=Ag (HM.o.below hB);replace HT:=Ag (HT.o.on hB);refine Zd ?_;intro x0 x1 x2;clear rx;go_wp2_with fail
 refine(abg W F _ g HG.o HS.o).mono ?_;rintro e w1 ⟨_,rfl,hb1,rfl⟩;rw[yD];replace HG:=Ag (HG.o.on (GL hb1 F));replace HM:=Ag (HM.o.below hb1);replace HT:=Ag (HT.o.on hb1);replace x0:=ah x0 hb1;replace x1:=ah x1 hb1;replace x2:=ah x2 hb1;have hB1:=hB.trans (hb1.mono hB.size);clear hb1;have HE:=Ag (show iw g m=if aQ g≠0 then aQ g else pF (g.F8.map Inf.actions) m from rfl);generalize aQ g=fe at *;by_cases h0:fe=0
 ·have t1:(fe != 0)=false:=by rw[h0];rfl
  have HF:=Ag (HE.o.trans (LG (by simpa using h0)));have ha:=hact h0;clear h0 hact;dsimp only;go_wp2_with fail
  refine(aii w1 F _ _ g m HG.o HM.o HT.o hlm FI hb ha).mono ?_;exact zcr
 ·exact zb3
theorem ac1 (w:World) (F:Gq) (vg vm:Value) (g:Gm) (m:List (List Raw)) (hg:AB w F vg g) (hm:Gt w F vm m) (hlm:m.length<=100000) (hli:g.F8.length<=100000) :
  Calls GI 80 #[vg,vm] w (Ret w λv _=>v = .int .i64 (if m.length≠g.F8.length then 3 else 0)):=by
 obtain⟨vn,vi,rfl,⟨A,c,rfl,hc,_⟩,⟨Ai,ci,rfl,hci,_⟩⟩:=hg;obtain⟨Am,cm,rfl,hcm,_⟩:=hm;obtain⟨er,her⟩:∃ er:Int,er=if m.length≠g.F8.length then 3 else 0:=⟨_,rfl⟩
 rw[<-her];by_cases hlen:m.length=g.F8.length
 ·have d1:((m.length:Int) != (g.F8.length:Int))=false:=aB;have HE:=Ag (her.trans (LG (by simpa using hlen)));clear hlen her;exact zbm
 ·have d1:((m.length:Int) != (g.F8.length:Int))=true:=aB;have HE:=Ag (her.trans (LH hlen));clear hlen her;exact zbm
theorem ajn:∀ {mr:List (List Raw)},(∀ l∈mr,∃ xs:List Rat,l=xs.map ak)->∃ m:List (List Rat),mr=m.map (Iq ak)
 | [],_=>⟨[],rfl⟩
 | l :: mr,h=>by
  obtain⟨xs,hx⟩:=h l (List.mem_cons_self);obtain⟨m,hm⟩:=ajn (mr:=mr) (λl hl=>h l (Iz _ hl));exact⟨xs :: m,by rw[hx,hm]; rfl⟩
theorem xk {g:Gm} (h:iw g mr=0):aQ g=0:=by grind [iw]
theorem tC {g:Gm} (h:iw g mr=0):pF (g.F8.map Inf.actions) mr=0:=by grind [iw]
theorem yE (h:nG a l=0):(l.length:Int)=a/\nO l=0/\iR (jm (l.map gK)) 1=0:=by grind [nG]
theorem vP {acts:List Int} (h:pF acts mr=0):mr.length=acts.length/\∀ (k:Nat) (a:Int) (l:List Raw),acts[k]? = some a->mr[k]? = some l->nG a l=0:=by
 unfold pF at h;split at h
 ·omega
 rename_i h1
 exact⟨FI,λk a l ha hl=>yw h _ (Gx (afp ha hl))⟩
theorem nS {g:Gm} (h:aQ g=0):1<=g.aC/\g.aC<=4:=by grind [aQ,jE]
theorem ajo:∀ (l:List Int) (a:Int) (k:Nat),(∀ x∈l,1<=x/\x<=1000)->a+l.length<=l.foldl (· + ·) a/\l.foldl (· + ·) a<=a+1000*l.length
 | [],a,k,_=>by simp
 | x :: l,a,k,h=>by
  have h1:=h x (List.mem_cons_self);have h2:=ajo l (a+x) k (λy hy=>h y (Iz _ hy));rw[List.foldl_cons,List.length_cons];omega
theorem oK {l:List Int} (h:∀ x∈l,1<=x/\x<=1000):(l.length:Int)<=rE l/\rE l<=1000*l.length:=by
 have:=ajo l 0 0 h;grind [rE]
theorem kX {F7:List Nd} (h:dH aC ni F7=0) {n:Nd} (hn:n∈F7) (hk:n.kind=1):n.weights.length=n.next.length/\1<=n.next.length/\n.next.length<=60/\∀ x∈n.weights,1<=x/\x<=1000:=by
 have h1:=gJ h n hn;grind [aT,dw,outside]
theorem kF {F7:List Nd} (h:dH aC ni F7=0) {n:Nd} (hn:n∈F7) (hk:n.kind=2):1<=n.next.length/\n.next.length<=10/\0<=n.aH/\n.aH < aC/\0<=n.info/\n.info < (ni:Int):=by
 have h1:=gJ h n hn;grind [aT,dX]
theorem kinds {F7:List Nd} (h:dH aC ni F7=0) {n:Nd} (hn:n∈F7):n.kind=1\/n.kind=2\/n.kind=3:=by
 have h1:=gJ h n hn;grind [aT]
theorem mD {g:Gm} (h:aQ g=0) {n:Nd} (hn:n∈g.F7) (hk:n.kind=2):∃ inf,g.F8[n.info.toNat]? = some inf/\inf.actions=n.next.length/\inf.aH=n.aH:=by
 obtain⟨h2,h5⟩:=dP h;have h6:=kF h2 hn hk;unfold kR at h5;split at h5
 ·omega
 rename_i ht
 obtain⟨inf,hi⟩:=Gl (l:=g.F8) (k:=n.info.toNat) FI;have e2:dV g.F8 n=false:=by
   cases hb:dV g.F8 n with
   | false=>rfl
   | true=>exact absurd (List.any_eq_true.2 ⟨n,hn,hb⟩) ht
 grind [dV]
theorem yF {b:Int} (ha:1<=a/\a<=1000) (hb:1<=b/\b<=60000):rl ((a:Rat) / (b:Rat))<=4:=by grind [ae0,bC,jQ,ahE]
def BQ (mr:List (List Raw)):Prop:=∀ l∈mr,∀ r∈l,r.num.length<=4/\r.den.length<=4
theorem abl {g:Gm} (h:iw g mr=0) (hL:BQ mr):∃ m:List (List Rat),mr=m.map (Iq ak)/\Fit g m/\∀ l∈m,jm l=1/\∀ x∈l,dh x=false:=by
 have hf:=xk h;obtain⟨hlen,hrows⟩:=vP (tC h);have hrow:∀ l∈mr,∃ a:Int,nG a l=0:=by
   intro l hl;obtain⟨k,hk⟩:=List.getElem?_of_mem hl;obtain⟨a,ha⟩:=Gl (l:=g.F8.map Inf.actions) (k:=k) (by have:=Gn hk; omega);grind
 obtain⟨m,rfl⟩:=ajn (mr:=mr) (λl hl=>by
  obtain⟨a,ha⟩:=hrow l hl;obtain⟨xs,hx,_⟩:=zF (yE ha).2.1;exact⟨xs,hx⟩)
 obtain⟨hne,_⟩:=dP hf;refine⟨m,rfl,⟨gQ hf,hne,nS hf,by simpa using hlen,λn hn hk=>?_⟩,λl hl=>?_⟩
 ·rcases kinds hne hn with k1 | k1 | k1
  ·obtain⟨c1,c2,c3,c4⟩:=kX hne hn k1;have hs:=oK c4;unfold wu;rw[LG FI,Gz];refine⟨c1,λx hx=>?_⟩;obtain⟨y,hy,rfl⟩:=List.mem_map.1 hx;exact yF (c4 y hy) FI
  ·obtain⟨inf,hi,ha,_⟩:=mD hf hn k1;obtain⟨l,hl⟩:=Gl (l:=m) (k:=n.info.toNat) (by have:=Gn hi; simp at hlen; omega);have hr:=hrows n.info.toNat inf.actions (l.map ak) (by rw[GY,hi]; rfl) (by rw[GY,hl]; rfl);have hll:=(yE hr).1;rw[Gz] at hll;unfold wu;rw[LH k1,List.getD_eq_getElem?_getD,hl,Option.getD_some];refine⟨FI,λx hx=>?_⟩;have:=hL (l.map ak) (IL (Gx hl)) (ak x) (IL hx);exact Nat.max_le.2 this
  grind
 ·obtain⟨a,ha⟩:=hrow (l.map ak) (IL hl);obtain⟨_,h2,h3⟩:=yE ha;rw[eU] at h3;refine⟨(jc _ _).1 h3,λx hx=>?_⟩;have h4:=yw h2 (fD (ak x)) (IL (IL hx));obtain⟨y,hy,_,hn⟩:=aeh h4;rw[aef hy];exact hn
theorem qG {m:List (List Rat)} {n:Nd} (hk:n.kind≠2):wu m n=n.weights.map λx:Int=>(x:Rat) / ((rE n.weights:Int):Rat):=by unfold wu; rw[LG hk]
open List renaming getElem_toArray → lq1, getElem_cons_zero → lq2, getElem_cons_succ → lq3, setIfInBounds_toArray → lq4, set_cons_zero → lq5, set_cons_succ → lq6
theorem akp {j:Nat} {r:Raw} (h:l[j]? = some r):(l.take (j+1)).map gK=(l.take j).map gK ++ [gK r]:=by rw[Gv h,List.map_append]; rfl
theorem akq (w:World) (F:Gq) (vg vm:Value) (g:Gm) (m:List (List Raw)) (hg:AB w F vg g) (hm:Gt w F vm m) (hlm:m.length<=100000) (hli:g.F8.length<=100000) (hb:Bv m) (hact:∀ i∈g.F8,i.actions<=10) :
  Calls GI 107 #[vg,vm] w (Ret w λv _=>v = .int .i64 (pF (g.F8.map Inf.actions) m)):=by
 have HG:=Ag hg;have HM:=Ag hm;obtain⟨vn,vi,rfl,⟨A,c,rfl,hc,hN⟩,⟨Ai,ci,rfl,hci,hI⟩⟩:=hg;obtain⟨Am,cm,rfl,hcm,hMM⟩:=hm;have HBB:=Ag hb;have HA:=Ag hact;have HI:=Ag hI;clear hN hI hMM hb hact;obtain⟨acts,aaw⟩:=Gp (g.F8.map Inf.actions);rw[<-aaw];have hal:acts.length=g.F8.length:=by rw[aaw,Gz]
 have HAC:=Ag aaw;clear aaw;obtain⟨es,hes⟩:∃ es:Int,es=if m.length≠g.F8.length then 3 else 0:=⟨_,rfl⟩
 have HES:=Ag hes;clear hes;go_in;go_wp2_with fail
 generalize hW:G5 _ _=W;obtain⟨rx,hB,hz⟩:=aI hW;clear hW;replace HG:=Ag (HG.o.on (GL hB F));replace HM:=Ag (HM.o.below hB);refine Zd ?_;intro x0 x1 x2;clear rx;have hz:w.heap.size+1<=W.heap.size:=FI;go_wp2_with fail
 refine(ac1 W F _ _ g m HG.o HM.o hlm hli).mono ?_;rintro e wn ⟨_,rfl,hb,rfl⟩;refine Zx ?_;clear x0 x1 x2;intro x0 x1 x2;replace HM:=Ag (HM.o.below hb);refine Zf ?_;clear hz hB hb;intro hz hB;rw[<-HES.o];by_cases hlen:m.length=g.F8.length
 ·have HLE:=Ag (show m.length=acts.length by omega);have hle1:m.length<=g.F8.length:=FI;have hle2:g.F8.length<=m.length:=FI;have hle3:m.length<=acts.length:=FI;have h0:es=0:=by rw[HES.o];exact LG (by simpa using hlen)
  have t1:(es != 0)=false:=by rw[h0];rfl
  clear hlen hal h0 HG;dsimp only;go_wp2_with fail
  refine(dZ wn 1 au au).mono ?_;rintro e wn ⟨u,rfl,hb,hu⟩;refine Zx ?_;clear x0 x1 x2;intro x0 x1 x2;replace HM:=Ag (HM.o.below hb);refine Zf ?_;clear hz hB hb;intro hz hB;obtain⟨one,hone⟩:∃ one:Rat,one=((1:Int):Rat):=⟨_,rfl⟩;rw[<-hone] at hu;have H1:=Ag (show one=1 from hone);clear hone;have Bh:=Ag (hu.mono (G:=λ_=>True) (λ_ _ _=>trivial));obtain⟨A1,c1,B1,d1',rfl,hn,hd⟩:=hu.open;clear hn hd hu;dsimp only;go_wp2_with fail
  obtain⟨ob,hob⟩:=Gp wn.heap.size;generalize hW1:G5 _ _=W1;obtain⟨ry,hB1,hzz⟩:=aI hW1;rw[<-hob] at ry ⊢;have hos:ob < W1.heap.size:=ry.lt;clear hW1 hzz hob;replace Bh:=Ag (Bh.o.below hB1);replace HM:=Ag (HM.o.below hB1);have g2:=ah x2 hB1;have hB2:=hB.trans (hB1.mono hB.size);replace HI:=Ag (λh=>by
   obtain⟨b,o,h1,h2,h3,h4⟩:=HI.o h;exact(⟨b,o,h1,h2,Nat.lt_of_lt_of_le h3 hB2.size,λk x hx=>⟨ah (h4 k x hx).c0 hB2,ah (h4 k x hx).c1 hB2⟩⟩:∃ b o,Ai=some ⟨b,o,none⟩/\F b/\b < W1.heap.size/\∀ k x,g.F8[k]? = some x->Ep W1 F b (o+k*2) x))
  have o0:=ry.cell (i:=0) rfl;have o1:=ry.cell (i:=1) rfl;have o2:=ry.cell (i:=2) rfl;clear ry hB1 hB x0 x1 x2 hz;have hz2:=hB2.size;go_loopw [7] (λi wr=>∃ k:Nat,k<=m.length/\i = .int .i64 (k:Int)/\fZ ((List.zipWith nG acts m).take k)=0/\Below W1.heap.size W1 wr) (λi _=>m.length - (intOf i).toNat)
  case atStart=>exact⟨0,FI,rfl,rfl,GR _ _⟩
  case round =>
   obtain⟨k,hk,rfl,hpre,hbel⟩:=hrel;have HP:=Ag hpre;clear hpre;by_cases hlt:k < m.length
   ·obtain⟨l,hl⟩:=Gl hlt;obtain⟨inf,bU⟩:=Gl (l:=g.F8) (k:=k) FI;have hak:acts[k]? = some inf.actions:=by rw[HAC.o,GY,bU];rfl
    obtain⟨A0,c0,he,_,hM⟩:=HM.o;cases he;obtain⟨b,o,rfl,hF,hbl,hx⟩:=hM FI;obtain⟨ur,eu0,hrow⟩:=hx k l hl;rw[Nat.mul_one] at eu0;have HRW:=Ag hrow;obtain⟨Ar,cr,rfl,hcr,_⟩:=hrow;obtain⟨b2,p2,rfl,hF2,agK,hx2⟩:=HI.o FI;have ei0:=(hx2 k inf bU).c1;have hia:inf.actions<=10:=HA.o inf (Gx bU);have bH:=HBB.o l (Gx hl);have HFI:=Ag bH.2;have hll:=bH.1;have HL:=Ag hl;have HK:=Ag hak;clear hx hx2 hM hl bU hak bH;have eu:=ah eu0 hbel;have ei:=ah ei0 hbel;have gr:=ah g2 hbel;by_cases hact:(l.length:Int)=inf.actions
    ·have d2:((l.length:Int) != inf.actions)=false:=aB;have Dv:=Ag hact;go_wp2_with fail
     go_quiet (fail)
     have hb:Below wr.heap.size wr (wr.drewN nq):=aG (GR _ wr) nq;have hzr:W1.heap.size<=wr.heap.size:=hbel.size;clear eu ei gr;refine Y1 ?_;clear hzr hbel hb;intro hzr hbel;generalize wr.drewN nq=wq at *;go_wp2_with fail
     refine(dZ wq 0 au au).mono ?_;rintro e wn ⟨u,rfl,hb,hu⟩;refine Y1 ?_;clear hzr hbel hb;intro hzr hbel;obtain⟨s0,hs0⟩:∃ s0:Rat,s0=((0:Int):Rat):=⟨_,rfl⟩;rw[<-hs0] at hu;have H0:=Ag (show s0=0 from hs0);clear hs0;have HZ:=Ag hu;obtain⟨A3,c3,B3,d3,rfl,hn,hd⟩:=hu.open;clear hn hd hu;dsimp only;go_wp2_with fail
     obtain⟨bs,hbs⟩:=Gp wn.heap.size;generalize hW2:G5 _ _=W2;obtain⟨rs,hB2',hzz⟩:=aI hW2;rw[<-hbs] at rs ⊢;have hbs1:W1.heap.size<=bs:=FI;have hZ:RtV W2 (λb=>b≠bs) (.agg #[G7 (ak s0).neg,Gw A3 (ak s0).num.length c3,Gw B3 (ak s0).den.length d3]) s0:=(HZ.o.mono (G:=λb=>b≠bs) (λb _ hl=>by omega)).below hB2';replace hbel:=hbel.trans (hB2'.mono hbel.size);have HST:=Ag rs; have HZ2:=Ag hZ;have hs2:W2.heap.size<=W2.heap.size:=Nat.le_refl _;have hbs2:=rs.lt;clear hW2 hzz hbs HZ rs hZ hB2';go_loopw [9] (λi wi=>∃ (j:Nat) (s:Rat) (A':Option Addr) (c':Nat) (B':Option Addr) (d':Nat),j<=l.length/\i = .int .i64 (j:Int)/\fZ ((l.map fD).take j)=0/\s=jm ((l.take j).map gK)/\rl s<=1+1025*j/\Row wi bs 42 [G7 (ak s).neg,Gw A' (ak s).num.length c',Gw B' (ak s).den.length d'] /\
      RtV wi (λb=>b≠bs) (.agg #[G7 (ak s).neg,Gw A' (ak s).num.length c',Gw B' (ak s).den.length d']) s/\Below W1.heap.size W1 wi/\W2.heap.size<=wi.heap.size) (λi _=>l.length - (intOf i).toNat)
     case atStart=>exact⟨0,s0,A3,c3,B3,d3,FI,rfl,rfl,by rw[H0.o]; rfl,by rw[H0.o,lK]; omega,HST.o,HZ2.o,hbel,hs2⟩
     case round =>
      clear HST HZ2 hbel hzr H0 hs2;obtain⟨j,s,A',c',B',d',hj,rfl,hpre,hsum,hrs,rs,hnm,hbel,hzr⟩:=hrel;have HPJ:=Ag hpre;have HSU:=Ag hsum;have HNM:=Ag hnm;clear hpre hsum hnm;have eu:=ah eu0 hbel;have p0:=ah o0 hbel;have p1:=ah o1 hbel;have p2:=ah o2 hbel;have HON:=Ag (Ak.mono (G:=λb=>b≠bs) (Ak.below (Ak.old Bh.o) hbel) (λb hb _=>by have:=hb.2; omega));by_cases hlt2:j < l.length
      ·obtain⟨A2,c2,he,_,hR⟩:=HRW.o;cases he;obtain⟨b3,o3,rfl,hF3,hb3,hx3⟩:=hR FI;obtain⟨r,hr⟩:=Gl hlt2;obtain⟨ex0,⟨vn,ex1,hn⟩,⟨vd,ex2,hd⟩⟩:=hx3 j r hr;have HRV:=Ag (Ak.mono (G:=λb=>b≠bs) ((Ak.below (Ak.old (Ak.make (r:=r) rfl hn hd)) hbel)) (λb hb _=>by have:=hb.2; omega));obtain⟨A4,c4,rfl,_,_⟩:=hn;obtain⟨A5,c5,rfl,_,_⟩:=hd;have hfr:=HFI.o r (Gx hr);have HFR:=Ag hfr.1;have hf2:=hfr.2.1;have hf3:=hfr.2.2;have HRR:=Ag hr;have y0:=ex0;have y1:=ex1;have y2:=ex2;replace ex0:=ah ex0 hbel;replace ex1:=ah ex1 hbel;replace ex2:=ah ex2 hbel;clear hx3 hR hr hfr;have ao5:l.length<=10:=by have:=Dv.o;omega
       go_wp2_with fail
       refine(uo wr _ _ r HRV.o HFR.o hf2 hf3).mono ?_;rintro e wn ⟨_,rfl,hb,rfl⟩;refine ZF ?_;clear eu p0 p1 p2 ex0 ex1 ex2 HRV HON HNM rs hzr hbel hb;intro eu p0 p1 p2 ex0 ex1 ex2 HRV HON HNM rs hzr hbel;obtain⟨re,hre⟩:=Gp (dF r);rw[<-hre];by_cases afs:re=0
       ·have t3:(re != 0)=false:=by rw[afs];rfl
        have h1:dF r=0:=hre.symm.trans afs;have HRE:=Ag hre;have HRE0:=Ag afs;clear hre afs;obtain⟨⟨x,rfl⟩,h2,h3⟩:=yu h1;have hrx:rl x<=1024:=by unfold rl;exact Nat.max_le.2 ⟨h2,h3⟩
        have HE:=Ag (acZ x h1);clear h1 h2 h3 HFR hf2 hf3;have hsv:rl (s+x)<=1+1025*(j+1):=by have:=acw s x;omega
        obtain⟨one',hone'⟩:∃ y:Rat,y=1:=⟨_,rfl⟩;have aex:rl one<=20000:=by rw[H1.o,pX];omega
        by_cases hneg:dh x=true
        ·have e1:(ak x).neg=true:=hneg;have hse:fD (ak x)=2:=HE.o.trans (LH (.inl hneg));refine zeb ?_;intro hrow HF;clear hneg hse hrow;rw[e1] at ex0;dsimp only;go_wp2_with fail
         go_quiet (fail)
         go_wp2
         go_ret;exact⟨_,rfl,aG (hB2.trans (hbel.mono hB2.size)) _,by rw[HF.o]; rfl⟩
        ·have e1:(ak x).neg=false:=by show dh x=false;simpa using hneg
         have HE2:=Ag (HE.o.trans (show(if dh x=true\/0 < iR x 1 then (2:Int) else 0)=if 0 < iR x one then 2 else 0 by
          rw[H1.o];by_cases h:0 < iR x 1
          ·rw[LH h,LH (.inr h)]
          ·rw[LG h,LG (λk=>k.elim hneg h)]))
         clear hneg HE;rw[e1] at ex0 y0 HRV;obtain⟨e0,he0⟩:=Gp (iR x one);rw[<-he0] at HE2;have HO:=Ag he0;clear he0;by_cases h0:0 < e0
         ·have t4:decide (0 < e0)=true:=LK h0;have hse:fD (ak x)=2:=HE2.o.trans (LH h0);refine zeb ?_;intro hrow HF;clear h0 hse hrow;dsimp only;go_wp2_with fail
          refine ZV ?_;intro hHeld hb;clear eu p0 p1 p2 ex0 ex1 ex2 HRV HON HNM rs hzr hbel hb;intro eu p0 p1 p2 ex0 ex1 ex2 HRV HON HNM rs hzr hbel;generalize wn.drew=wn at *;refine tkm [0,1,2,3,4,5,6,7,8,9,10,11,12,13,14,15,16] ?_;refine tk2 17 aj rfl λK hK=>?_
          go_simp;refine(pK _ _ _ _ x one HRV.o HON.o FI aex).mono ?_;rintro e wn ⟨_,rfl,hb,rfl⟩;rw[show iR x one=e0 from HO.o.symm];refine ZF ?_;clear eu p0 p1 p2 ex0 ex1 ex2 HRV HON HNM rs hzr hbel hb;intro eu p0 p1 p2 ex0 ex1 ex2 HRV HON HNM rs hzr hbel;dsimp only;clear hHeld;refine hK.out _ _ ⟨eu,p0,p1,p2,ex0,ex1,ex2⟩ (λhHeld=>?_);clear hK K;refine Zb ?_;refine tkm [18,19] ?_;refine Z8 ?_;clear hHeld;clear ex0 ex1 ex2 p0 p1 p2 eu;refine Z4 ?_;go_wp2
          go_ret;exact⟨_,rfl,hB2.trans (hbel.mono hB2.size),by rw[HF.o]; rfl⟩
         ·have hse:fD (ak x)=0:=HE2.o.trans (LG h0);have HSE:=Ag hse;have t4:decide (0 < e0)=false:=LJ h0;clear h0 hse;dsimp only;go_wp2_with fail
          refine ZV ?_;intro hHeld hb;clear eu p0 p1 p2 ex0 ex1 ex2 HRV HON HNM rs hzr hbel hb;intro eu p0 p1 p2 ex0 ex1 ex2 HRV HON HNM rs hzr hbel;generalize wn.drew=wn at *;refine tkm [0,1,2,3,4,5,6,7,8,9,10,11,12,13,14,15,16] ?_;refine tk2 17 aj rfl λK hK=>?_
          go_simp;refine(pK _ _ _ _ x one HRV.o HON.o FI aex).mono ?_;rintro e wn ⟨_,rfl,hb,rfl⟩;rw[show iR x one=e0 from HO.o.symm];refine ZF ?_;clear eu p0 p1 p2 ex0 ex1 ex2 HRV HON HNM rs hzr hbel hb;intro eu p0 p1 p2 ex0 ex1 ex2 HRV HON HNM rs hzr hbel;dsimp only;clear hHeld;refine hK.out _ _ ⟨eu,p0,p1,p2,ex0,ex1,ex2⟩ (λhHeld=>?_);clear hK K;refine Zb ?_;refine tkm [18,19] ?_;refine Z8 ?_;clear hHeld;clear ex0 ex1 ex2 p0 p1 p2 eu;refine Z4 ?_;have eu:=ah eu0 hbel;have s0':=rs.cell (i:=0) rfl;have s1':=rs.cell (i:=1) rfl;have s2':=rs.cell (i:=2) rfl;have ex0:=ah y0 hbel;have ex1:=ah y1 hbel;have ex2:=ah y2 hbel;go_wp2_with fail
          refine aP (λw'=>w'.cell? ⟨b,o+k,none⟩=some (Gw (some ⟨b3,o3,none⟩) l.length cr)/\w'.cell? ⟨bs,0,none⟩=some (G7 (ak s).neg)/\w'.cell? ⟨bs,1,none⟩=some (Gw A' (ak s).num.length c')/\w'.cell? ⟨bs,2,none⟩=some (Gw B' (ak s).den.length d')/\w'.cell? ⟨b3,o3+j*3,none⟩=some (G7 false)/\w'.cell? ⟨b3,o3+j*3+1,none⟩=some (Gw A4 (ak x).num.length c4)/\w'.cell? ⟨b3,o3+j*3+2,none⟩=some (Gw A5 (ak x).den.length c5)) 9 1 aj rfl aj ⟨eu,s0',s1',s2',ex0,ex1,ex2⟩ λhHeld=>?_
          refine Zo ?_;refine zac ?_;intro hb;replace eu:=ah eu hb;replace s0':=ah s0' hb;replace s1':=ah s1' hb;replace s2':=ah s2' hb;replace ex0:=ah ex0 hb;replace ex1:=ah ex1 hb;replace ex2:=ah ex2 hb;replace HRV:=Ag (HRV.o.below hb);replace HNM:=Ag (HNM.o.below hb);replace rs:=rs.below hb rs.lt;refine Y1 ?_;clear hzr hbel hb;intro hzr hbel;generalize wn.drew=wn at *;refine tkm [0,1,2,3,4,5,6,7] ?_;refine tk2 8 aj rfl λK hK=>?_
          go_simp;refine(mg _ _ _ _ s x HNM.o HRV.o FI FI).mono ?_;rintro e wn ⟨u,rfl,hb,hu⟩;have hu2:RtV wn (λb=>b≠bs) u (s+x):=hu.mono (λb hb _=>hb.elim id λh=>by have:=rs.lt; omega);have HU:=Ag hu2;obtain⟨A6,c6,B6,d6,rfl,hn,hd⟩:=hu2.open;clear hn hd hu hu2;replace eu:=ah eu hb;replace s0':=ah s0' hb;replace s1':=ah s1' hb;replace s2':=ah s2' hb;replace ex0:=ah ex0 hb;replace ex1:=ah ex1 hb;replace ex2:=ah ex2 hb;replace HRV:=Ag (HRV.o.below hb);replace HNM:=Ag (HNM.o.below hb);replace rs:=rs.below hb rs.lt;refine Y1 ?_;clear hzr hbel hb;intro hzr hbel;dsimp only;clear hHeld;refine hK.out _ _ ⟨eu,s0',s1',s2',ex0,ex1,ex2⟩ (λhHeld=>?_);clear hK K;refine Zb ?_;refine Zp ?_;clear hHeld;have q0:=rs.cell (i:=0) rfl;have f0:=rs.frozen 0;have q1:=rs.cell (i:=1) rfl;have f1:=rs.frozen 1;have q2:=rs.cell (i:=2) rfl;have f2:=rs.frozen 2;clear eu s0' s1' s2' ex0 ex1 ex2;go_wp2
          show Exit.inBlock _ _ .normal _ _;go_wp2
          obtain⟨Wz,hWz,hrw,hwz,hkz⟩:=aY rs (G7 (ak (s+x)).neg) (Gw A6 (ak (s+x)).num.length c6) (Gw B6 (ak (s+x)).den.length d6);rw[<-hWz];have hsz:Wz.heap.size=wn.heap.size:=by rw[hWz];simp
          clear hWz q0 q1 q2 f0 f1 f2;have HUU:=Ag (HU.o.keep (λb hb _=>hb) (hkz (λb=>b≠bs) (λh=>h rfl)));go_roundw
          case rel=>exact⟨j+1,s+x,A6,c6,B6,d6,FI,by go_num,jD HPJ.o (by rw[GY,HRR.o]; show some (fD (ak x))=_; rw[HSE.o]),by rw[akp HRR.o,oG,<-HSU.o,uJ],hsv,hrw,HUU.o,hwz _ _ FI hbel,FI⟩
          case measure=>exact zMs
       ·have t3:(re != 0)=true:=by simp[afs]
        have hse:fD r=re:=by unfold fD;rw[LH (by rw[<-hre]; exact afs),hre]
        have hrow:=oW Dv.o HPJ.o HRR.o (by rw[hse]; exact afs);have HF:=Ag ((mZ HLE.o HP.o HK.o HL.o (by rw[hrow,hse]; exact afs)).trans (hrow.trans hse));clear hre afs hse hrow;dsimp only;go_wp2
        go_ret;exact⟨_,rfl,hB2.trans (hbel.mono hB2.size),by rw[HF.o]; rfl⟩
      ·have hsh:nO l=0:=by
        have:=HPJ.o;rw[G8 aB] at this;exact this
       have hrow:=zf Dv.o hsh;have hall:s=jm (l.map gK):=by rw[HSU.o,G8 FI]
       have AV:=Ag (show nG inf.actions l=if iR s one≠0 then 14 else 0 by rw[H1.o,hall]; exact hrow);have ao5:l.length<=10:=by have:=Dv.o;omega
       have aex:rl one<=20000:=by rw[H1.o,pX];omega
       have s0':=rs.cell (i:=0) rfl;have s1':=rs.cell (i:=1) rfl;have s2':=rs.cell (i:=2) rfl;clear hsh hrow hall;go_wp2_with fail
       refine(pK _ _ _ _ s one HNM.o HON.o FI aex).mono ?_;rintro e wn ⟨_,rfl,hb,rfl⟩;replace p0:=ah p0 hb;replace p1:=ah p1 hb;replace p2:=ah p2 hb;replace s0':=ah s0' hb;replace s1':=ah s1' hb;replace s2':=ah s2' hb;replace HON:=Ag (HON.o.below hb);replace HNM:=Ag (HNM.o.below hb);replace rs:=rs.below hb rs.lt;refine Y1 ?_;clear hzr hbel hb;intro hzr hbel;clear p0 p1 p2 s0' s1' s2' rs HNM HON;generalize iR s one=e0 at *;by_cases h0:e0=0
       ·have t1:(e0 != 0)=false:=by rw[h0];rfl
        have hr0:nG inf.actions l=0:=by rw[AV.o,LG (by simpa using h0)]
        have HR0:=Ag hr0;clear hr0 h0;dsimp only;go_wp2
        go_roundw
        case rel=>exact⟨k+1,FI,by go_num,jD HP.o (by rw[afp HK.o HL.o,HR0.o]),hbel⟩
        case measure=>exact zMs
       ·refine zdu ?_;clear h0;intro t1 HE;dsimp only;go_wp2
        go_ret;exact⟨_,rfl,hB2.trans (hbel.mono hB2.size),by rw[HE.o]; rfl⟩
    ·have d2:((l.length:Int) != inf.actions)=true:=aB;have h3:nG inf.actions l=3:=by unfold nG;rw[LH hact]
     have HE:=Ag ((mZ HLE.o HP.o HK.o HL.o (by rw[h3]; decide)).trans h3);clear hact h3;go_wp2_with fail
     go_quiet (fail)
     go_wp2
     go_ret;exact⟨_,rfl,aG (hB2.trans (hbel.mono hB2.size)) _,by rw[HE.o]; rfl⟩
   ·have HE:=Ag (aew HLE.o HP.o FI);go_wp2
    go_ret;exact⟨_,rfl,hB2.trans (hbel.mono hB2.size),by rw[HE.o]; rfl⟩
 ·have h3:es=3:=by rw[HES.o];exact LH hlen
  have t1:(es != 0)=true:=by rw[h3];rfl
  have HE:=Ag (show pF acts m=3 by unfold pF; rw[LH FI]);have HES3:=Ag h3;clear h3;dsimp only;go_wp2
  go_ret;exact⟨_,rfl,hB,by rw[HE.o,HES3.o]; rfl⟩
