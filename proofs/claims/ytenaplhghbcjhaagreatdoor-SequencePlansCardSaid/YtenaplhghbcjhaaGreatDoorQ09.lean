import Derived.Test.YtenaplhghbcjhaaGreatDoorQ05
import Derived.Laws.EntriesVeiled
set_option linter.all false
set_option maxRecDepth 100000
set_option maxHeartbeats 0
namespace Go.Proofs.YtenaplhghbcjhaaGreatDoor
open Below renaming same'->GL
open Go.IntKind renaming i64->GU
open Go renaming Value->GN,World->GK
open Go.Value renaming int->GV,slice->Gw
open Int renaming eq_ofNat_of_zero_le->J4
open List renaming drop_eq_nil_of_le->Ip,map_set->Jj,mem_of_getElem?->Gx,replicate->GX
open Nat renaming le_refl->Gy,le_trans->He,lt_of_lt_of_le->Hz,mul_one->Ho
open Go.Proofs.Tryz renaming prog->GI
open List renaming getElem_toArray → lq1, getElem_cons_zero → lq2, getElem_cons_succ → lq3, setIfInBounds_toArray → lq4, set_cons_zero → lq5, set_cons_succ → lq6
open Go.RowKit
variable {K:Gq}
theorem ajW (w:GK) (F:Gq) (p:Nat) (ux:GN) (aC:Int) (ni:Nat) (x:Nd) (hw:CZ w p aC ni) (hx:Ce w F ux x) (hl:x.next.length < 1000000/\x.weights.length < 1000000/\x.pay.length < 1000000)
  (hp:0<=aC/\aC < 1000000) (hni:ni < 1000000) (hpl:p < w.heap.size) :
  Calls GI 130 #[.pointer (some ⟨p,0,none⟩),ux] w (Ret w λv _=>v = GV GU (aT aC ni x)):=by
 have HX:=Ag hx;obtain⟨v3,v4,v5,rfl,⟨A3,c3,rfl,hc3,h3⟩,⟨A4,c4,rfl,hc4,h4⟩,⟨A5,c5,rfl,hc5,h5⟩⟩:=hx;clear h3 h4 h5;have HW:=Ag hw;have HL:=Ag hl;clear hw hl;by_cases k1:x.kind=1
 ·have HF:=Ag (show aT aC ni x=dw x by unfold aT; simp[k1]);rw[k1] at HX ⊢;clear k1;go_in;go_wp2_with fail
  obtain⟨W,hW,hbx,hWb,hWz⟩:=dI w 51 #[GV GU 1,GV GU x.aH,GV GU x.info,Gw A3 x.next.length c3,Gw A4 x.weights.length c4,Gw A5 x.pay.length c5];refine Yf ?_;clear hW hbx hWb hWz;intro W1 lW hB1 hbt z0;have hen:=enters Tryz.func154 (by decide +kernel) (by decide +kernel);refine wp_region_held_drew (S:=λw'=>w'.cell? ⟨w.heap.size+1,1,none⟩=some (.func (.func 154) #[] #[])/\w'.cell? ⟨w.heap.size,0,none⟩=some (GV GU 1)/\w'.cell? ⟨w.heap.size,1,none⟩=some (GV GU x.aH)/\w'.cell? ⟨w.heap.size,2,none⟩=some (GV GU x.info)/\w'.cell? ⟨w.heap.size,3,none⟩=some (Gw A3 x.next.length c3)/\w'.cell? ⟨w.heap.size,4,none⟩=some (Gw A4 x.weights.length c4)/\w'.cell? ⟨w.heap.size,5,none⟩=some (Gw A5 x.pay.length c5)) aj ⟨hbt.cell rfl,lW.cell rfl,lW.cell rfl,lW.cell rfl,lW.cell rfl,lW.cell rfl,lW.cell rfl⟩ (λhHeld=>?_);refine tkm [0,1,2,3,4,5] ?_;refine tk2 6 aj rfl λK hK=>?_
  go_simp;refine(ahN _ F _ _ x (HX.o.on (GL hB1.drew F)) HL.o).mono ?_;exact ZE
 by_cases k2:x.kind=2
 ·have HF:=Ag (show aT aC ni x=dX aC ni x by unfold aT; simp[k2]);rw[k2] at HX ⊢;clear k1 k2;go_in;go_wp2_with fail
  obtain⟨W,hW,hbx,hWb,hWz⟩:=dI w 51 #[GV GU 2,GV GU x.aH,GV GU x.info,Gw A3 x.next.length c3,Gw A4 x.weights.length c4,Gw A5 x.pay.length c5];refine Yf ?_;clear hW hbx hWb hWz;intro W1 lW hB1 hbt z0;have hen:=enters Tryz.func155 (by decide +kernel) (by decide +kernel);refine wp_region_held_drew (S:=λw'=>w'.cell? ⟨w.heap.size+1,2,none⟩=some (.func (.func 155) #[] #[])/\w'.cell? ⟨w.heap.size,0,none⟩=some (GV GU 2)/\w'.cell? ⟨w.heap.size,1,none⟩=some (GV GU x.aH)/\w'.cell? ⟨w.heap.size,2,none⟩=some (GV GU x.info)/\w'.cell? ⟨w.heap.size,3,none⟩=some (Gw A3 x.next.length c3)/\w'.cell? ⟨w.heap.size,4,none⟩=some (Gw A4 x.weights.length c4)/\w'.cell? ⟨w.heap.size,5,none⟩=some (Gw A5 x.pay.length c5)) aj ⟨hbt.cell rfl,lW.cell rfl,lW.cell rfl,lW.cell rfl,lW.cell rfl,lW.cell rfl,lW.cell rfl⟩ (λhHeld=>?_);refine tkm [0,1,2,3,4,5] ?_;refine tk2 6 aj rfl λK hK=>?_
  go_simp;refine(move_any _ F p _ aC ni x ⟨(aK hB1.drew p 0 hpl).trans HW.o.aC,HW.o.F8.imp λA h=>h.imp λc h=>(aK hB1.drew p 2 hpl).trans h⟩ (HX.o.on (GL hB1.drew F)) HL.o hp hni aB).mono ?_;exact ZE
 by_cases k3:x.kind=3
 ·have HF:=Ag (show aT aC ni x=iG aC x by unfold aT; simp[k3]);rw[k3] at HX ⊢;clear k1 k2 k3;go_in;go_wp2_with fail
  obtain⟨W,hW,hbx,hWb,hWz⟩:=dI w 51 #[GV GU 3,GV GU x.aH,GV GU x.info,Gw A3 x.next.length c3,Gw A4 x.weights.length c4,Gw A5 x.pay.length c5];refine Yf ?_;clear hW hbx hWb hWz;intro W1 lW hB1 hbt z0;have hen:=enters Tryz.func156 (by decide +kernel) (by decide +kernel);refine wp_region_held_drew (S:=λw'=>w'.cell? ⟨w.heap.size+1,3,none⟩=some (.func (.func 156) #[] #[])/\w'.cell? ⟨w.heap.size,0,none⟩=some (GV GU 3)/\w'.cell? ⟨w.heap.size,1,none⟩=some (GV GU x.aH)/\w'.cell? ⟨w.heap.size,2,none⟩=some (GV GU x.info)/\w'.cell? ⟨w.heap.size,3,none⟩=some (Gw A3 x.next.length c3)/\w'.cell? ⟨w.heap.size,4,none⟩=some (Gw A4 x.weights.length c4)/\w'.cell? ⟨w.heap.size,5,none⟩=some (Gw A5 x.pay.length c5)) aj ⟨hbt.cell rfl,lW.cell rfl,lW.cell rfl,lW.cell rfl,lW.cell rfl,lW.cell rfl,lW.cell rfl⟩ (λhHeld=>?_);refine tkm [0,1,2,3,4,5] ?_;refine tk2 6 aj rfl λK hK=>?_
  go_simp;refine(ane _ F p _ aC ni x ⟨(aK hB1.drew p 0 hpl).trans HW.o.aC,HW.o.F8.imp λA h=>h.imp λc h=>(aK hB1.drew p 2 hpl).trans h⟩ (HX.o.on (GL hB1.drew F)) HL.o aB).mono ?_;exact ZE
 have HF:=Ag (show aT aC ni x=3 by unfold aT; simp[k1,k2,k3]);by_cases q:x.kind < 1
 ·exact zcj
 ·have d:decide (x.kind < 1)=false:=LJ q;have d2:3 < x.kind:=FI;exact zcj
structure Wrote (K:Gq) (w w':GK):Prop where
 os:w'.os=w.os
 tape:w'.tape=w.tape
 output:w'.output=w.output
 size:w.heap.size<=w'.heap.size
 block:∀ i,i < w.heap.size->¬ K i->w'.heap[i]? = w.heap[i]?
theorem Wrote.refl (K:Gq) (w:GK):Wrote K w w:=⟨rfl,rfl,rfl,Gy _,λ_ _ _=>rfl⟩
theorem Wrote.trans {a b c:GK} (h:Wrote K a b) (k:Wrote K b c):Wrote K a c :=
 ⟨k.os.trans h.os,k.tape.trans h.tape,k.output.trans h.output,He h.size k.size,λi hi hn=>(k.block i (Hz hi h.size) hn).trans (h.block i hi hn)⟩
theorem Wrote.setCell {a w:GK} (h:Wrote K a w) {p:Addr} (hp:K p.block\/a.heap.size<=p.block) (u:GN):Wrote K a (w.setCell p u) :=
 ⟨h.os,h.tape,h.output,by simpa using h.size,λi hi hn=>(Below.heap_setCell w p u i (by
  rintro rfl;rcases hp with hp | hp
  ·exact hn hp
  ·omega)).trans (h.block i hi hn)⟩
theorem Wrote.alloc {a w:GK} (h:Wrote K a w) (o:Obj):Wrote K a (w.alloc o) :=
 ⟨h.os,h.tape,h.output,He h.size aA,λi hi hn=>(Below.heap_alloc w o i (Hz hi h.size)).trans (h.block i hi hn)⟩
theorem Wrote.drew {a w:GK} (h:Wrote K a w):Wrote K a w.drew:=⟨h.os,h.tape,h.output,h.size,h.block⟩
theorem Wrote.same {F:Gq} {w w':GK} (h:Wrote K w w') (hF:∀ b,F b->¬ K b):Same F w w':=⟨h.size,λk hk hl=>h.block k hl (hF k hk)⟩
theorem Wrote.cell {w w':GK} (h:Wrote K w w'):∀ b o,b < w.heap.size->¬ K b->w'.cell? ⟨b,o,none⟩=w.cell? ⟨b,o,none⟩:=λb o hb hd=>World.cell?_of_block (h.block b hb hd)
theorem Row.wrote {w w':GK} {b:Nat} {t:TypeId} {vs:List GN} (h:Row w b t vs) (k:Wrote K w w') (hn:¬ K b):Row w' b t vs:=h.of_block (k.block b h.lt hn)
theorem Wrote.below {B:Nat} {a w w':GK} (h:Below B a w) (k:Wrote K w w') (hK:∀ b,K b->B<=b) (hB:B<=w.heap.size):Below B a w' :=
 h.trans ⟨k.os,k.tape,k.output,k.size,λi hi=>k.block i FI (λhk=>by have:=hK i hk; omega)⟩
structure Tri where
 p:List Int
 d:List Int
 l:List Int
def eG (rec:Nat->Tri->Int×Tri):List Int->Int->Tri->Int×Tri
 | [],next,t=>(next,t)
 | c :: cs,next,t=>if c≠next then (-1,t) else if (rec next.toNat t).1 < 0 then (-1,(rec next.toNat t).2) else eG rec cs (rec next.toNat t).1 (rec next.toNat t).2
def bP (F7:List Nd):Nat->Nat->Int->Int->Tri->Int×Tri
 | 0,_,_,_,t=>(-1,t)
 | f+1,a,par,dep,t=>match F7[a]? with
  | none=>(-1,t)
  | some n =>
   let r:=eG (λa' t=>bP F7 f a' a (dep+1) t) n.next ((a:Int)+1) ⟨t.p.set a par,t.d.set a dep,t.l⟩
   if r.1 < 0 then r else (r.1,⟨r.2.p,r.2.d,r.2.l.set a (r.1 - 1)⟩)
structure Tri.Len (N:Nat) (t:Tri):Prop where
 p:t.p.length=N
 d:t.d.length=N
 l:t.l.length=N
theorem aek {N:Nat} {rec:Nat->Tri->Int×Tri} (hrec:∀ a t,Tri.Len N t->Tri.Len N (rec a t).2):∀ (cs:List Int) (next:Int) (t:Tri),Tri.Len N t->Tri.Len N (eG rec cs next t).2
 | [],_,t,h=>h
 | c :: cs,next,t,h=>by
  unfold eG;split
  ·exact h
  ·split
   ·exact hrec _ _ h
   ·exact aek hrec cs _ _ (hrec _ _ h)
theorem mV {N:Nat} (F7:List Nd):∀ (f a:Nat) (par dep:Int) (t:Tri),Tri.Len N t->Tri.Len N (bP F7 f a par dep t).2
 | 0,_,_,_,_,h=>h
 | f+1,a,par,dep,t,h=>by
  unfold bP;split
  ·exact h
  ·rename_i n hn
   have hk:=aek (rec:=λa' t=>bP F7 f a' a (dep+1) t) (λa' t h=>mV F7 f a' a (dep+1) t h) n.next ((a:Int)+1) ⟨t.p.set a par,t.d.set a dep,t.l⟩ ⟨by simp[h.p],by simp[h.d],h.l⟩;dsimp only;split
   ·exact hk
   ·exact⟨hk.p,hk.d,by simp[hk.l]⟩
theorem ael {rec:Nat->Tri->Int×Tri} {rec':Nat->Int->Int×Int} (h:∀ a t d,(rec a t).1=(rec' a d).1):∀ (cs:List Int) (next:Int) (t:Tri) (d:Int),(eG rec cs next t).1=(dG rec' cs next d).1
 | [],_,_,_=>rfl
 | c :: cs,next,t,d=>by
  unfold eG dG;rw[h _ t d];split
  ·rfl
  ·split
   ·rfl
   ·exact ael h cs _ _ _
theorem yA (F7:List Nd):∀ (f a:Nat) (par dep:Int) (t:Tri) (d:Int),(bP F7 f a par dep t).1=(bT F7 f a dep d).1
 | 0,_,_,_,_,_=>rfl
 | f+1,a,par,dep,t,d=>by
  unfold bP bT;cases hn:F7[a]? with
  | none=>rfl
  | some n =>
   have hk:=ael (rec:=λa' t=>bP F7 f a' a (dep+1) t) (rec':=λa' d=>bT F7 f a' (dep+1) d) (λa' t d=>yA F7 f a' a (dep+1) t d) n.next ((a:Int)+1) ⟨t.p.set a par,t.d.set a dep,t.l⟩ (max d dep);dsimp only;rw[<-hk];split <;> rfl
theorem pG (F7:List Nd) (f a:Nat) (par dep:Int) (t:Tri):(bP F7 f a par dep t).1 = -1\/((a:Int) < (bP F7 f a par dep t).1/\(bP F7 f a par dep t).1<=F7.length):=by
 rw[yA F7 f a par dep t 0];grind [sQ]
def mW (l:List Int):List GN:=l.map (Value.int .i64)
structure BD (w:GK) (p bp bd bl:Nat) (aC:Int) (A:Option Addr) (N c:Nat) (Ai:Option Addr) (ni ci:Nat) (t:Tri):Prop where
 head:Row w p 175 [GV GU aC,Gw A N c,Gw Ai ni ci,Gw (some ⟨bp,0,none⟩) N N,Gw (some ⟨bd,0,none⟩) N N,Gw (some ⟨bl,0,none⟩) N N]
 rp:Row w bp 3 (mW t.p)
 rd:Row w bd 3 (mW t.d)
 rl:Row w bl 3 (mW t.l)
def Es (v:GN) (b o N c a:Nat):Prop:=∃ A',v = Gw A' (N - a) (c - a)/\(a < N->A'=some ⟨b,o+6*a,none⟩)
theorem ajX (g:Gm) (hsm:Small g) (p bp bd bl:Nat) (b o c:Nat) (Ai:Option Addr) (ci:Nat) (hd:p≠bp/\p≠bd/\p≠bl/\bp≠bd/\bp≠bl/\bd≠bl) (hc:g.F7.length<=c)
  (F:Gq) (hF:∀ k,F k->k≠bp/\k≠bd/\k≠bl):∀ (f a:Nat) (par dep:Int) (t:Tri) (w:GK) (u:GN),Es u b o g.F7.length c a->Tri.Len g.F7.length t ->
  (a < g.F7.length->Bz w F (Gw (some ⟨b,o,none⟩) g.F7.length c) g.F7)->BD w p bp bd bl g.aC (some ⟨b,o,none⟩) g.F7.length c Ai g.F8.length ci t->a<=g.F7.length->g.F7.length < a+f->0<=dep->dep+f<=100000 ->
  Calls GI 131 #[.pointer (some ⟨p,0,none⟩),GV GU par,GV GU dep,u] w λe w'=>∃ vr,e = .returned (.tuple #[vr,.bool (decide (0<=(bP g.F7 f a par dep t).1))]) /\
   (0<=(bP g.F7 f a par dep t).1->Es vr b o g.F7.length c (bP g.F7 f a par dep t).1.toNat)/\BD w' p bp bd bl g.aC (some ⟨b,o,none⟩) g.F7.length c Ai g.F8.length ci (bP g.F7 f a par dep t).2/\Wrote (λk=>k=bp\/k=bd\/k=bl) w w':=by
 intro f;induction f with
 | zero=>intro a par dep t w u hu ht hn hw ha hf hd0 hd1; omega
 | succ f ih =>
  intro a par dep t w u hu ht hn hw ha hf hd0 hd1;obtain⟨A',rfl,hA⟩:=hu;have IH:=Ag ih;clear ih;have hsn:=hsm.F7;have HSM:=Ag hsm;clear hsm;have HFF:=Ag hF;clear hF;have HW:=Ag hw;clear hw;by_cases hlt:a < g.F7.length
  ·have hz:((g.F7.length - a:Nat):Int)≠0:=FI;have hz':(((g.F7.length - a:Nat):Int)==0)=false:=aB;obtain rfl:=hA hlt;have HNA:=Ag (hn hlt);obtain⟨A'',c'',hev,_,hnn⟩:=hn hlt;injection hev with h1 h2 h3
   subst h1 h3;clear h2 hn;obtain⟨b',o',hbo,hFb,hbz,hcell⟩:=hnn FI;injection hbo with hbo
   injection hbo with h1 h2 h3
   subst h1 h2;clear h3 hnn hA;obtain⟨n,hn'⟩:=Gl hlt;obtain⟨v3,e3,A3,c3,rfl,hc3,i3⟩:=(hcell a n hn').c3;have HX:=Ag hn';have hl3:=HSM.o.next n (Gx hn');have H3:=Ag i3;clear i3 hcell hn';have x1:=HW.o.head.cell (i:=1) rfl;have x3:=HW.o.head.cell (i:=3) rfl;have x4:=HW.o.head.cell (i:=4) rfl;have hbF:=HFF.o b hFb;have sub1:((g.F7.length:Int) - ((g.F7.length - a:Nat):Int))=(a:Int):=FI;go_in;go_wp2_with fail
   refine wp_region_held_drew (S:=λw'=>w'.cell? ⟨p,3,none⟩=some (Gw (some ⟨bp,0,none⟩) g.F7.length g.F7.length)/\w'.cell? ⟨p,4,none⟩=some (Gw (some ⟨bd,0,none⟩) g.F7.length g.F7.length)) aj ⟨x3,x4⟩ (λhHeld=>?_);refine tkm [0,1,2,3,4,5,6,7,8,9,10,11,12] ?_;have fp:=HW.o.rp.frozen a;have fd:=HW.o.rd.frozen a;obtain⟨d1,d2,d3,d4,d5,d6⟩:=hd;obtain⟨yp,hyp⟩:=Gl (show a < t.p.length by rw[ht.p]; exact hlt);obtain⟨yd,hyd⟩:=Gl (show a < t.d.length by rw[ht.d]; exact hlt);have sp:w.cell? ⟨bp,a,none⟩=some (GV GU yp):=HW.o.rp.cell (by simp[mW,hyp]);have sd:w.cell? ⟨bd,a,none⟩=some (GV GU yd):=HW.o.rd.cell (by simp[mW,hyd]);clear hyp hyd;refine tk2 13 aj rfl λK hK=>?_
   go_simp;refine hK.out _ _ ⟨(HW.o.head.other (a:=⟨bp,a,none⟩) d1 _).drew.cell rfl,(HW.o.head.other (a:=⟨bp,a,none⟩) d1 _).drew.cell rfl⟩ (λhHeld=>?_);clear hK K;refine Zb ?_;refine tkm [14] ?_;refine tk2 15 aj rfl λK hK=>?_
   go_simp;refine hK.out _ _ ⟨((HW.o.head.other (a:=⟨bp,a,none⟩) d1 _).other (a:=⟨bd,a,none⟩) d2 _).drew.cell rfl,((HW.o.head.other (a:=⟨bp,a,none⟩) d1 _).other (a:=⟨bd,a,none⟩) d2 _).drew.cell rfl⟩ (λhHeld=>?_);clear hK K;refine Zb ?_;refine Z8 ?_;obtain⟨W,ajc⟩:∃ W:GK,W=((w.setCell ⟨bp,a,none⟩ (GV GU par)).setCell ⟨bd,a,none⟩ (GV GU dep)).drew:=⟨_,rfl⟩;rw[<-ajc];have hWW:Wrote (λk=>k=bp\/k=bd\/k=bl) w W:=by
    rw[ajc];exact(((Wrote.refl _ _).setCell (.inl (.inl rfl)) _).setCell (.inl (.inr (.inl rfl))) _).drew
   have hWA:BD W p bp bd bl g.aC (some ⟨b,o,none⟩) g.F7.length c Ai g.F8.length ci ⟨t.p.set a par,t.d.set a dep,t.l⟩:=by
    have h:=HW.o;rw[ajc];refine⟨((h.head.other d1 _).other d2 _).drew,?_,?_,?_⟩
    ·have:=((h.rp.set a (GV GU par)).other (a:=⟨bd,a,none⟩) d4 (GV GU dep)).drew;simpa [mW,Jj] using this
    ·have:=((h.rd.other (a:=⟨bp,a,none⟩) d4.symm (GV GU par)).set a (GV GU dep)).drew;simpa [mW,Jj] using this
    ·exact((h.rl.other (a:=⟨bp,a,none⟩) d5.symm _).other (a:=⟨bd,a,none⟩) d6.symm _).drew
   have HT:=Ag (show Tri.Len g.F7.length ⟨t.p.set a par,t.d.set a dep,t.l⟩ from⟨by simp[ht.p],by simp[ht.d],ht.l⟩);have HR:=Ag (show bP g.F7 (f+1) a par dep t=if (eG (λa' t=>bP g.F7 f a' a (dep+1) t) n.next ((a:Int)+1) ⟨t.p.set a par,t.d.set a dep,t.l⟩).1 < 0 then eG (λa' t=>bP g.F7 f a' a (dep+1) t) n.next ((a:Int)+1) ⟨t.p.set a par,t.d.set a dep,t.l⟩
     else ((eG (λa' t=>bP g.F7 f a' a (dep+1) t) n.next ((a:Int)+1) ⟨t.p.set a par,t.d.set a dep,t.l⟩).1,⟨(eG (λa' t=>bP g.F7 f a' a (dep+1) t) n.next ((a:Int)+1) ⟨t.p.set a par,t.d.set a dep,t.l⟩).2.p,(eG (λa' t=>bP g.F7 f a' a (dep+1) t) n.next ((a:Int)+1) ⟨t.p.set a par,t.d.set a dep,t.l⟩).2.d,(eG (λa' t=>bP g.F7 f a' a (dep+1) t) n.next ((a:Int)+1) ⟨t.p.set a par,t.d.set a dep,t.l⟩).2.l.set a ((eG (λa' t=>bP g.F7 f a' a (dep+1) t) n.next ((a:Int)+1) ⟨t.p.set a par,t.d.set a dep,t.l⟩).1 - 1)⟩) by
    rw[bP,HX.o])
   clear hHeld sp sd fp fd x1 x3 x4 ht HW ajc;generalize (⟨t.p.set a par,t.d.set a dep,t.l⟩:Tri)=t0 at *;have x1:=hWA.head.cell (i:=1) rfl;have hold:=hWW.cell;have e3':W.cell? ⟨b,o+6*a+3,none⟩=some (Gw A3 n.next.length c3):=by
    rw[hold b _ hbz (by rintro(h | h | h) <;> simp_all)];rw[<-e3];congr 2;omega
   clear hold;go_wp2_with fail
   ·go_loopw [11,48] (λrs i wr=>∃ (j nx:Nat) (t':Tri),j<=n.next.length/\i = GV GU j/\Es rs b o g.F7.length c nx/\a < nx/\nx<=g.F7.length/\Tri.Len g.F7.length t'/\BD wr p bp bd bl g.aC (some ⟨b,o,none⟩) g.F7.length c Ai g.F8.length ci t'/\Wrote (λk=>k=bp\/k=bd\/k=bl) w wr/\eG (λa' t=>bP g.F7 f a' a (dep+1) t) n.next ((a:Int)+1) t0=eG (λa' t=>bP g.F7 f a' a (dep+1) t) (n.next.drop j) (nx:Int) t') (λ_ i _=>n.next.length - (intOf i).toNat)
    case atStart=>exact⟨0,a+1,t0,FI,rfl,⟨_,by congr 1 <;> omega,λhq=>by omega⟩,FI,FI,HT.o,hWA,hWW,rfl⟩
    case round =>
     obtain⟨j,nx,t',hj,rfl,⟨A',rfl,hA'⟩,aoh,hnx1,hlen,hwa,hgr,hval⟩:=hrel;have HV:=Ag hval;clear hval;have HWA:=Ag hwa;clear hwa;clear x1 e3';have x1:=HWA.o.head.cell (i:=1) rfl;have x5:=HWA.o.head.cell (i:=5) rfl;have sub2:((g.F7.length:Int) - ((g.F7.length - nx:Nat):Int))=(nx:Int):=FI;by_cases hjt:j < n.next.length
     ·obtain⟨ch,hch⟩:=Gl hjt;obtain⟨b3,o3,rfl,hb3,alo,hx3⟩:=H3.o FI;have hb3F:=HFF.o b3 hb3;have ec:=hx3 j ch hch;unfold lU at ec;rw[Ho] at ec;rw[<-hgr.cell b3 _ alo (by rintro(h | h | h) <;> simp_all)] at ec;refine zae ?_;intro HD;clear hch hx3;by_cases hne:ch=nx
      ·subst hne;have hnn:((nx:Int) != (nx:Int))=false:=aA;have hbd2:=pG g.F7 f nx a (dep+1) t';have hlen2:=mV (N:=g.F7.length) g.F7 f nx a (dep+1) t' hlen;have HV2:=Ag (show eG (λa' t=>bP g.F7 f a' a (dep+1) t) n.next ((a:Int)+1) t0=if (bP g.F7 f nx a (dep+1) t').1 < 0 then (-1,(bP g.F7 f nx a (dep+1) t').2) else eG (λa' t=>bP g.F7 f a' a (dep+1) t) (n.next.drop (j+1)) (bP g.F7 f nx a (dep+1) t').1 (bP g.F7 f nx a (dep+1) t').2 by
        rw[HV.o,HD.o]; simp[eG])
       have HBD:=Ag hbd2;clear hbd2;have HLN:=Ag hlen2;clear hlen2;go_wp2_with fail
       refine(IH.o nx a (dep+1) t' wr _ ⟨A',rfl,hA'⟩ hlen (λ_=>HNA.o.on (hgr.same (λk hk hq=>by have:=HFF.o k hk; rcases hq with h | h | h <;> simp_all))) HWA.o hnx1 FI FI FI).mono ?_;rintro e w' ⟨vr,rfl,hrest,ahZ,gZ⟩;have hgg:=hgr.trans gZ;have hbb:=HBD.o;have hln:=HLN.o;generalize bP g.F7 f nx a (dep+1) t'=rr at *;obtain⟨rn,rd⟩:=rr;dsimp only at hrest ahZ hbb hln HV2 ⊢;clear HBD HLN x1 x5 hgr gZ HWA ec;by_cases hng:rn < 0
       ·refine zed ?_;intro HF hdn;go_wp2
        go_ret2;exact zdV
       ·have hdn:decide (0<=rn)=true:=LK FI;obtain⟨q,rfl⟩:=J4 (show 0<=rn by omega);have HRS:=Ag (hrest FI);clear hrest;go_wp2
        go_roundw
        case rel=>exact⟨j+1,q,rd,FI,by go_num,by simpa using HRS.o,FI,FI,hln,ahZ,hgg,by rw[HV2.o,LG hng]⟩
        case measure=>exact zMs
      ·have hdd:(ch != (nx:Int))=true:=by simp[hne]
       have HF:=Ag (show bP g.F7 (f+1) a par dep t=(-1,t') by rw[HR.o,HV.o,HD.o]; simp[eG,hne]);clear hne;go_wp2
       go_ret2;exact zdJ
     ·have HF:=Ag (show bP g.F7 (f+1) a par dep t=((nx:Int),⟨t'.p,t'.d,t'.l.set a ((nx:Int) - 1)⟩) by
       rw[HR.o,HV.o,Ip FI,LG (by simp only[eG]; omega)]; rfl)
      go_wp2_with fail
      refine Y2 ?_;intro wr0 wr2 hHeld;refine tkm [0,1,2,3,4,5,6,7,8,9,10,11,12,13,14,15] ?_;refine zcB ?_;intro fl yl sl K hK;go_simp;refine zbu ?_;clear hK K;go_wp2
      go_ret2;refine zaf ?_;intro h this;simpa [mW,Jj,wr0,wr2] using this
   ·go_loopw [11,48] (λrs i wr=>∃ (j nx:Nat) (t':Tri),j<=n.next.length/\i = GV GU j/\Es rs b o g.F7.length c nx/\a < nx/\nx<=g.F7.length/\Tri.Len g.F7.length t'/\BD wr p bp bd bl g.aC (some ⟨b,o,none⟩) g.F7.length c Ai g.F8.length ci t'/\Wrote (λk=>k=bp\/k=bd\/k=bl) w wr/\eG (λa' t=>bP g.F7 f a' a (dep+1) t) n.next ((a:Int)+1) t0=eG (λa' t=>bP g.F7 f a' a (dep+1) t) (n.next.drop j) (nx:Int) t') (λ_ i _=>n.next.length - (intOf i).toNat)
    case atStart=>exact⟨0,a+1,t0,FI,rfl,⟨_,by congr 1 <;> omega,λhq=>by congr 2 <;> omega⟩,FI,FI,HT.o,hWA,hWW,rfl⟩
    case round =>
     obtain⟨j,nx,t',hj,rfl,⟨A',rfl,hA'⟩,aoh,hnx1,hlen,hwa,hgr,hval⟩:=hrel;have HV:=Ag hval;clear hval;have HWA:=Ag hwa;clear hwa;clear x1 e3';have x1:=HWA.o.head.cell (i:=1) rfl;have x5:=HWA.o.head.cell (i:=5) rfl;have sub2:((g.F7.length:Int) - ((g.F7.length - nx:Nat):Int))=(nx:Int):=FI;by_cases hjt:j < n.next.length
     ·obtain⟨ch,hch⟩:=Gl hjt;obtain⟨b3,o3,rfl,hb3,alo,hx3⟩:=H3.o FI;have hb3F:=HFF.o b3 hb3;have ec:=hx3 j ch hch;unfold lU at ec;rw[Ho] at ec;rw[<-hgr.cell b3 _ alo (by rintro(h | h | h) <;> simp_all)] at ec;refine zae ?_;intro HD;clear hch hx3;by_cases hne:ch=nx
      ·subst hne;have hnn:((nx:Int) != (nx:Int))=false:=aA;have hbd2:=pG g.F7 f nx a (dep+1) t';have hlen2:=mV (N:=g.F7.length) g.F7 f nx a (dep+1) t' hlen;have HV2:=Ag (show eG (λa' t=>bP g.F7 f a' a (dep+1) t) n.next ((a:Int)+1) t0=if (bP g.F7 f nx a (dep+1) t').1 < 0 then (-1,(bP g.F7 f nx a (dep+1) t').2) else eG (λa' t=>bP g.F7 f a' a (dep+1) t) (n.next.drop (j+1)) (bP g.F7 f nx a (dep+1) t').1 (bP g.F7 f nx a (dep+1) t').2 by
        rw[HV.o,HD.o]; simp[eG])
       have HBD:=Ag hbd2;clear hbd2;have HLN:=Ag hlen2;clear hlen2;go_wp2_with fail
       refine(IH.o nx a (dep+1) t' wr _ ⟨A',rfl,hA'⟩ hlen (λ_=>HNA.o.on (hgr.same (λk hk hq=>by have:=HFF.o k hk; rcases hq with h | h | h <;> simp_all))) HWA.o hnx1 FI FI FI).mono ?_;rintro e w' ⟨vr,rfl,hrest,ahZ,gZ⟩;have hgg:=hgr.trans gZ;have hbb:=HBD.o;have hln:=HLN.o;generalize bP g.F7 f nx a (dep+1) t'=rr at *;obtain⟨rn,rd⟩:=rr;dsimp only at hrest ahZ hbb hln HV2 ⊢;clear HBD HLN x1 x5 hgr gZ HWA ec;by_cases hng:rn < 0
       ·refine zed ?_;intro HF hdn;go_wp2
        go_ret2;exact zdV
       ·have hdn:decide (0<=rn)=true:=LK FI;obtain⟨q,rfl⟩:=J4 (show 0<=rn by omega);have HRS:=Ag (hrest FI);clear hrest;go_wp2
        go_roundw
        case rel=>exact⟨j+1,q,rd,FI,by go_num,by simpa using HRS.o,FI,FI,hln,ahZ,hgg,by rw[HV2.o,LG hng]⟩
        case measure=>exact zMs
      ·have hdd:(ch != (nx:Int))=true:=by simp[hne]
       have HF:=Ag (show bP g.F7 (f+1) a par dep t=(-1,t') by rw[HR.o,HV.o,HD.o]; simp[eG,hne]);clear hne;go_wp2
       go_ret2;exact zdJ
     ·have HF:=Ag (show bP g.F7 (f+1) a par dep t=((nx:Int),⟨t'.p,t'.d,t'.l.set a ((nx:Int) - 1)⟩) by
       rw[HR.o,HV.o,Ip FI,LG (by simp only[eG]; omega)]; rfl)
      go_wp2_with fail
      refine Y2 ?_;intro wr0 wr2 hHeld;refine tkm [0,1,2,3,4,5,6,7,8,9,10,11,12,13,14,15] ?_;refine zcB ?_;intro fl yl sl K hK;go_simp;refine zbu ?_;clear hK K;go_wp2
      go_ret2;refine zaf ?_;intro h this;simpa [mW,Jj,wr0,wr2] using this
  ·have hz:(((g.F7.length - a:Nat):Int)==0)=true:=aB;have HF:=Ag (show bP g.F7 (f+1) a par dep t=(-1,t) by
    rw[bP]; rw[List.getElem?_eq_none FI])
   clear hA hn;go_in;go_wp2
   go_ret2;refine⟨_,by rw[HF.o]; rfl,by rw[HF.o]; intro h; simp at h,by rw[HF.o]; exact HW.o,Wrote.refl _ _⟩
def iM:List Nd->Nat->List Int->List Int
 | [],_,f=>f
 | x :: l,i,f=>if x.kind=2 then (iM l (i+1) f).set x.info.toNat ((i:Int)+1) else iM l (i+1) f
theorem jo:∀ (l:List Nd) (i:Nat) (f:List Int),(iM l i f).length=f.length
 | [],_,_=>rfl
 | x :: l,i,f=>by
  unfold iM;split
  ·simp[jo l]
  ·exact jo l _ _
theorem aar {l:List Nd} {k:Nat} {x:Nd} (h:l[k]? = some x) (i:Nat) (f:List Int):iM (l.drop k) i f=if x.kind=2 then (iM (l.drop (k+1)) (i+1) f).set x.info.toNat ((i:Int)+1) else iM (l.drop (k+1)) (i+1) f:=by
 exact zdC
def gy (g:Gm):List Int:=iM g.F7 0 (GX g.F8.length 0)
def iV (g:Gm):Int:=if vJ g then 10 else if (gy g).contains 0 then 18 else if gU (gy g) then 0 else 9
theorem ajY (w:GK) (F:Gq) (p:Nat) (g:Gm) (A Ai:Option Addr) (c ci:Nat) (h1:w.cell? ⟨p,1,none⟩=some (Gw A g.F7.length c)) (h2:w.cell? ⟨p,2,none⟩=some (Gw Ai g.F8.length ci)) (hp:p < w.heap.size)
  (hn:Bz w F (Gw A g.F7.length c) g.F7) (hi:BA w F (Gw Ai g.F8.length ci) g.F8) (hsm:Small g) (hin:BO g) (h0:0 < g.F7.length) :
  Calls GI 133 #[.pointer (some ⟨p,0,none⟩)] w (Ret w λv _=>v = GV GU (iV g)):=by
 have hsn:=hsm.F7;have hsi:=hsm.F8;have HS:=Ag hsm;clear hsm;have HIN:=Ag hin;clear hin;obtain⟨A',c',he,_,hN⟩:=hn;injection he with e1 e2 e3
 subst e1 e3;clear e2;obtain⟨b,o,rfl,hbF,hb,hcell⟩:=hN h0;clear hN;have HN:=Ag hcell;clear hcell;obtain⟨A',c',he,_,hI⟩:=hi;injection he with e1 e2 e3
 subst e1 e3;clear e2;have HI:=Ag hI;clear hI;have hsub:((g.F7.length:Int) - 1)=((g.F7.length - 1:Nat):Int):=FI;go_in;go_wp2_with (at_make; refine fG _ rfl _ _ 49 rfl 3 (GV GU 0) 8 Tryz.underlying49 Tryz.infoInt rfl g.F8.length rfl rfl FI FI ?_; intro w1 hb1 hz1 hrow1; have x1:=(aK hb1 p 1 hp).trans h1; have x2:=(aK hb1 p 2 hp).trans h2)
 go_loopw [4] (λi wr=>∃ k:Nat,k<=g.F7.length/\i = GV GU ((k:Int) - 1)/\Row wr w.heap.size 3 (mW (iM (g.F7.drop k) k (GX g.F8.length 0)))/\Below w.heap.size w wr) (λi _=>(intOf i+1).toNat)
 case atStart =>
  refine⟨g.F7.length,FI,by rw[<-hsub],?_,hb1⟩;simpa [iM,mW] using hrow1
 case round =>
  clear hb1 hz1 hrow1 x1 x2 w1;obtain⟨k,hk,rfl,hrow,hbel⟩:=hrel;have x1:=(aK hbel p 1 hp).trans h1;have x2:=(aK hbel p 2 hp).trans h2;have hlr:=hrow.lt;by_cases hlt:0 < k
  ·obtain⟨q,rfl⟩:∃ q,k=q+1:=⟨k - 1,FI⟩;have i1:(((q+1:Nat):Int) - 1)=(q:Int):=FI;rw[i1];clear i1;obtain⟨n,hn'⟩:=Gl (l:=g.F7) (k:=q) FI;obtain⟨e0,e1,e2,⟨v3,e3,A3,c3,rfl,hc3,i3⟩,⟨v4,e4,A4,c4,rfl,hc4,i4⟩,⟨v5,e5,A5,c5,rfl,hc5,i5⟩⟩:=HN.o q n hn';clear i3 i4 i5;have hold:=aK hbel;have HFD:=Ag (aar hn' q (GX g.F8.length 0));have HM:=Ag (Gx hn');clear hn';have hqn:q < g.F7.length:=FI;by_cases hkd:n.kind=2
   ·obtain⟨hin0,hin1⟩:=HIN.o n HM.o hkd;have hd:(n.kind==2)=true:=by simp[hkd]
    have HF2:=Ag (show iM (g.F7.drop q) q (GX g.F8.length 0)=(iM (g.F7.drop (q+1)) (q+1) (GX g.F8.length 0)).set n.info.toNat ((q:Int)+1) by rw[HFD.o,LH hkd]);clear hkd;have hfl:=jo (g.F7.drop (q+1)) (q+1) (GX g.F8.length 0);rw[List.length_replicate] at hfl;generalize iM (g.F7.drop (q+1)) (q+1) (GX g.F8.length 0)=fs at *;obtain⟨y,hy⟩:=Gl (l:=fs) (k:=n.info.toNat) FI;have rc:=hrow.cell (i:=n.info.toNat) (v:=GV GU y) (by simp[mW,hy]);have fc:=hrow.frozen n.info.toNat;clear hy;have HFL:=Ag hfl;clear hfl;go_wp2
    go_roundw
    case rel =>
     refine⟨q,FI,rfl,?_,(hbel.setCell (Gy _) _).alloc (by simpa using hbel.size) _⟩;rw[HF2.o];have:=(hrow.set n.info.toNat (GV GU ((q:Int)+1))).alloc (.cells #[GV GU n.kind,GV GU n.aH,GV GU n.info,Gw A3 n.next.length c3,Gw A4 n.weights.length c4,Gw A5 n.pay.length c5] 51);simpa [mW,Jj] using this
    case measure=>simp[intOf] <;> omega
   ·have hd:(n.kind==2)=false:=by simp[hkd]
    have HF2:=Ag (show iM (g.F7.drop q) q (GX g.F8.length 0)=iM (g.F7.drop (q+1)) (q+1) (GX g.F8.length 0) by rw[HFD.o,LG hkd]);clear hkd;go_wp2
    go_roundw
    case rel=>exact⟨q,FI,rfl,by rw[HF2.o]; exact hrow.alloc _,hbel.alloc hbel.size _⟩
    case measure=>simp[intOf] <;> omega
  ·obtain rfl:k=0:=FI;have hfs:iM (g.F7.drop 0) 0 (GX g.F8.length 0)=gy g:=by simp[gy]
   rw[hfs] at hrow;clear hfs;go_wp2
   go_loopw [49] (λi wr'=>∃ k:Nat,k<=g.F7.length/\i = GV GU k/\Row wr' w.heap.size 3 (mW (gy g))/\Below w.heap.size w wr'/\(g.F7.take k).any (dV g.F8)=false) (λi _=>g.F7.length - (intOf i).toNat)
   case atStart=>exact⟨0,FI,rfl,hrow,hbel,aA⟩
   case round =>
    clear hrow hbel x1 x2 hlr;obtain⟨k,hk,rfl,hrow,hbel,hpre⟩:=hrel;have HP:=Ag hpre;clear hpre;have x2:=(aK hbel p 2 hp).trans h2;have hlr:=hrow.lt;have hold:=aK hbel;by_cases hlt:k < g.F7.length
    ·obtain⟨n,hn'⟩:=Gl hlt;obtain⟨e0,e1,e2,⟨v3,e3,A3,c3,rfl,hc3,i3⟩,⟨v4,e4,A4,c4,rfl,hc4,i4⟩,⟨v5,e5,A5,c5,rfl,hc5,i5⟩⟩:=HN.o k n hn';clear i3 i4 i5;have HX:=Ag hn';have HM:=Ag (Gx hn');clear hn';by_cases hkd:n.kind=2
     ·obtain⟨hin0,hin1⟩:=HIN.o n HM.o hkd;have hd:(n.kind==2)=true:=by simp[hkd]
      obtain⟨bi,oi,rfl,hbiF,hbi,hic⟩:=HI.o FI;obtain⟨inf,bU⟩:=Gl (l:=g.F8) (k:=n.info.toNat) FI;obtain⟨f0,f1⟩:=hic n.info.toNat inf bU;have HTB:=Ag (show dV g.F8 n=(decide (inf.aH≠n.aH)||decide (inf.actions≠(n.next.length:Int))) by unfold dV; simp[hkd,bU,List.getD_eq_getElem?_getD]);clear hkd hic bU;have hpw:p < wr.heap.size:=Hz hp hbel.size;have hbiw:bi < wr.heap.size:=Hz hbi hbel.size;by_cases t1:inf.aH=n.aH
      ·by_cases t2:inf.actions=(n.next.length:Int)
       ·have HT:=Ag (show dV g.F8 n=false by rw[HTB.o]; simp[t1,t2]);have t1':(inf.aH==n.aH)=true:=by simp[t1]
        have t2':(inf.actions==(n.next.length:Int))=true:=by simp[t2]
        clear t1 t2;go_wp2
        go_quiet (fail)
        go_wp2
        go_roundw
        case rel=>exact⟨k+1,FI,by go_num,(hrow.alloc _).dN _,aG (hbel.alloc hbel.size _) _,nJ HX.o HP.o HT.o⟩
        case measure=>exact zMs
       ·have HF:=Ag (show iV g=10 by
         unfold iV; rw[LH]; unfold vJ; rw[List.any_eq_true]; exact⟨n,HM.o,by rw[HTB.o]; simp[t2]⟩)
        have t1':(inf.aH==n.aH)=true:=by simp[t1]
        have t2':(inf.actions==(n.next.length:Int))=false:=by simp[t2]
        clear t1 t2;go_wp2
        go_quiet (fail)
        exact zaO
      ·have HF:=Ag (show iV g=10 by
        unfold iV; rw[LH]; unfold vJ; rw[List.any_eq_true]; exact⟨n,HM.o,by rw[HTB.o]; simp[t1]⟩)
       have t1':(inf.aH==n.aH)=false:=by simp[t1]
       clear t1;go_wp2
       go_quiet (fail)
       exact zaO
     ·have hd:(n.kind==2)=false:=by simp[hkd]
      have HTB:=Ag (show dV g.F8 n=false by unfold dV; simp[hkd]);clear hkd;go_wp2
      go_quiet (fail)
      go_wp2
      go_roundw
      case rel=>exact⟨k+1,FI,by go_num,(hrow.alloc _).dN _,aG (hbel.alloc hbel.size _) _,nJ HX.o HP.o HTB.o⟩
      case measure=>exact zMs
    ·have HT:=Ag (show vJ g=false by
      have:=HP.o; rw[List.take_of_length_le FI] at this; exact this)
     have hfl:(gy g).length=g.F8.length:=by unfold gy;rw[jo];simp
     have HI2:=Ag (show AL wr (λk=>k=w.heap.size) (Gw (some ⟨w.heap.size,0,none⟩) g.F8.length g.F8.length) (gy g) by
      have:=Row.ints (F:=λk=>k=w.heap.size) hrow rfl (c:=g.F8.length) FI;rwa [hfl] at this)
     go_wp2_with fail
     refine(ae5 _ _ _ _ 0 HI2.o FI).mono ?_;rintro e w2 ⟨rfl,rfl⟩;have HFF:=Ag (show iV g=if (gy g).contains 0 then 18 else if gU (gy g) then 0 else 9 by unfold iV; rw[HT.o]; rfl);generalize hco:(gy g).contains 0=co at *;dsimp only;cases co
     ·go_wp2_with fail
      refine(ae6 _ _ _ _ HI2.o FI).mono ?_;rintro e w2 ⟨_,rfl,hb2,rfl⟩;generalize hso:gU (gy g)=so at *;dsimp only;cases so
      ·go_wp2
       go_ret;exact⟨_,rfl,hbel.trans (hb2.mono hbel.size),by rw[HFF.o]; rfl⟩
      ·go_wp2
       go_ret;exact⟨_,rfl,hbel.trans (hb2.mono hbel.size),by rw[HFF.o]; rfl⟩
     ·go_wp2
      go_ret;exact⟨_,rfl,hbel,by rw[HFF.o]; rfl⟩
