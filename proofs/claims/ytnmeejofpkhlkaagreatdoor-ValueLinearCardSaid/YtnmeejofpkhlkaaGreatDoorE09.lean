/- Part of a claim. -/
import Derived.Test.YtnmeejofpkhlkaaGreatDoorE05
import Derived.Laws.EntriesVeiled
set_option linter.all false
set_option maxRecDepth 100000
set_option maxHeartbeats 12800000
namespace Go.Proofs.YtnmeejofpkhlkaaGreatDoor
open Below renaming same'->FZ
open Go.IntKind renaming i64->F5
open Go renaming Value->F7,World->FW
open Go.Value renaming int->F6,slice->FQ
open Int renaming eq_ofNat_of_zero_le->J5
open List renaming drop_eq_nil_of_le->GU,map_set->Jb,mem_of_getElem?->FT,replicate->F8
open Nat renaming le_refl->FV,lt_of_lt_of_le->GZ,mul_one->Gp
open Go.Proofs.Tryz renaming prog->FY
open Lib renaming hid → Ac
open List renaming getElem_toArray → lq1, getElem_cons_zero → lq2, getElem_cons_succ → lq3, setIfInBounds_toArray → lq4, set_cons_zero → lq5, set_cons_succ → lq6
open Go.RowKit
variable {K:FI}
theorem ajW (w:FW) (F:FI) (p:Nat) (ux:F7) (ay:Int) (ni:Nat) (x:Nd) (hw:Cj w p ay ni) (hx:Bf w F ux x) (hl:x.next.length < 1000000/\x.weights.length < 1000000/\x.pay.length < 1000000)
  (hp:0<=ay/\ay < 1000000) (hni:ni < 1000000) (hpl:p < w.heap.size) :
  Calls FY 162 #[.pointer (some ⟨p,0,none⟩),ux] w (Ret w λv _=>v = F6 F5 (aQ ay ni x)):=by
 have HX:=Ac hx;obtain⟨v3,v4,v5,rfl,⟨A3,c3,rfl,hc3,h3⟩,⟨A4,c4,rfl,hc4,h4⟩,⟨A5,c5,rfl,hc5,h5⟩⟩:=hx;clear h3 h4 h5;have HW:=Ac hw;have HL:=Ac hl;clear hw hl;by_cases k1:x.kind=1
 ·have HF:=Ac (show aQ ay ni x=dw x by unfold aQ; simp[k1]);rw[k1] at HX ⊢;clear k1;go_in;go_wp2_with fail
  obtain⟨W,hW,hbx,hWb,hWz⟩:=fV w 127 #[F6 F5 1,F6 F5 x.aC,F6 F5 x.info,FQ A3 x.next.length c3,FQ A4 x.weights.length c4,FQ A5 x.pay.length c5];refine Yq ?_;clear hW hbx hWb hWz;intro W1 jh hB1 hbt z0;have hen:=enters Tryz.func190 (by decide +kernel) (by decide +kernel);refine wp_region_held_drew (S:=λw'=>w'.cell? ⟨w.heap.size+1,1,none⟩=some (.func (.func 190) #[] #[])/\w'.cell? ⟨w.heap.size,0,none⟩=some (F6 F5 1)/\w'.cell? ⟨w.heap.size,1,none⟩=some (F6 F5 x.aC)/\w'.cell? ⟨w.heap.size,2,none⟩=some (F6 F5 x.info)/\w'.cell? ⟨w.heap.size,3,none⟩=some (FQ A3 x.next.length c3)/\w'.cell? ⟨w.heap.size,4,none⟩=some (FQ A4 x.weights.length c4)/\w'.cell? ⟨w.heap.size,5,none⟩=some (FQ A5 x.pay.length c5)) ak ⟨hbt.cell rfl,jh.cell rfl,jh.cell rfl,jh.cell rfl,jh.cell rfl,jh.cell rfl,jh.cell rfl⟩ (λhHeld=>?_);refine tkm [0,1,2,3,4,5] ?_;refine tk2 6 ak rfl λK hK=>?_
  go_simp;refine(aho _ F _ _ x (HX.out.on (FZ hB1.drew F)) HL.out).mono ?_;exact ZI
 by_cases k2:x.kind=2
 ·have HF:=Ac (show aQ ay ni x=fA ay ni x by unfold aQ; simp[k2]);rw[k2] at HX ⊢;clear k1 k2;go_in;go_wp2_with fail
  obtain⟨W,hW,hbx,hWb,hWz⟩:=fV w 127 #[F6 F5 2,F6 F5 x.aC,F6 F5 x.info,FQ A3 x.next.length c3,FQ A4 x.weights.length c4,FQ A5 x.pay.length c5];refine Yq ?_;clear hW hbx hWb hWz;intro W1 jh hB1 hbt z0;have hen:=enters Tryz.func191 (by decide +kernel) (by decide +kernel);refine wp_region_held_drew (S:=λw'=>w'.cell? ⟨w.heap.size+1,2,none⟩=some (.func (.func 191) #[] #[])/\w'.cell? ⟨w.heap.size,0,none⟩=some (F6 F5 2)/\w'.cell? ⟨w.heap.size,1,none⟩=some (F6 F5 x.aC)/\w'.cell? ⟨w.heap.size,2,none⟩=some (F6 F5 x.info)/\w'.cell? ⟨w.heap.size,3,none⟩=some (FQ A3 x.next.length c3)/\w'.cell? ⟨w.heap.size,4,none⟩=some (FQ A4 x.weights.length c4)/\w'.cell? ⟨w.heap.size,5,none⟩=some (FQ A5 x.pay.length c5)) ak ⟨hbt.cell rfl,jh.cell rfl,jh.cell rfl,jh.cell rfl,jh.cell rfl,jh.cell rfl,jh.cell rfl⟩ (λhHeld=>?_);refine tkm [0,1,2,3,4,5] ?_;refine tk2 6 ak rfl λK hK=>?_
  go_simp;refine(move_any _ F p _ ay ni x ⟨(aS hB1.drew p 0 hpl).trans HW.out.ay,HW.out.Fh.imp λA h=>h.imp λc h=>(aS hB1.drew p 2 hpl).trans h⟩ (HX.out.on (FZ hB1.drew F)) HL.out hp hni aG).mono ?_;exact ZI
 by_cases k3:x.kind=3
 ·have HF:=Ac (show aQ ay ni x=iV ay x by unfold aQ; simp[k3]);rw[k3] at HX ⊢;clear k1 k2 k3;go_in;go_wp2_with fail
  obtain⟨W,hW,hbx,hWb,hWz⟩:=fV w 127 #[F6 F5 3,F6 F5 x.aC,F6 F5 x.info,FQ A3 x.next.length c3,FQ A4 x.weights.length c4,FQ A5 x.pay.length c5];refine Yq ?_;clear hW hbx hWb hWz;intro W1 jh hB1 hbt z0;have hen:=enters Tryz.func192 (by decide +kernel) (by decide +kernel);refine wp_region_held_drew (S:=λw'=>w'.cell? ⟨w.heap.size+1,3,none⟩=some (.func (.func 192) #[] #[])/\w'.cell? ⟨w.heap.size,0,none⟩=some (F6 F5 3)/\w'.cell? ⟨w.heap.size,1,none⟩=some (F6 F5 x.aC)/\w'.cell? ⟨w.heap.size,2,none⟩=some (F6 F5 x.info)/\w'.cell? ⟨w.heap.size,3,none⟩=some (FQ A3 x.next.length c3)/\w'.cell? ⟨w.heap.size,4,none⟩=some (FQ A4 x.weights.length c4)/\w'.cell? ⟨w.heap.size,5,none⟩=some (FQ A5 x.pay.length c5)) ak ⟨hbt.cell rfl,jh.cell rfl,jh.cell rfl,jh.cell rfl,jh.cell rfl,jh.cell rfl,jh.cell rfl⟩ (λhHeld=>?_);refine tkm [0,1,2,3,4,5] ?_;refine tk2 6 ak rfl λK hK=>?_
  go_simp;refine(amS _ F p _ ay ni x ⟨(aS hB1.drew p 0 hpl).trans HW.out.ay,HW.out.Fh.imp λA h=>h.imp λc h=>(aS hB1.drew p 2 hpl).trans h⟩ (HX.out.on (FZ hB1.drew F)) HL.out aG).mono ?_;exact ZI
 have HF:=Ac (show aQ ay ni x=3 by unfold aQ; simp[k1,k2,k3]);by_cases q:x.kind < 1
 ·exact zb0
 ·have d:decide (x.kind < 1)=false:=L9 q;have d2:3 < x.kind:=EN;exact zb0
structure Wrote (K:FI) (w w':FW):Prop where
 os:w'.os=w.os
 tape:w'.tape=w.tape
 output:w'.output=w.output
 size:w.heap.size<=w'.heap.size
 block:∀ i,i < w.heap.size->¬ K i->w'.heap[i]? = w.heap[i]?
theorem Wrote.refl (K:FI) (w:FW):Wrote K w w:=⟨rfl,rfl,rfl,FV _,λ_ _ _=>rfl⟩
theorem Wrote.trans {a b c:FW} (h:Wrote K a b) (k:Wrote K b c):Wrote K a c :=
 ⟨k.os.trans h.os,k.tape.trans h.tape,k.output.trans h.output,Nat.le_trans h.size k.size,λi hi hn=>(k.block i (GZ hi h.size) hn).trans (h.block i hi hn)⟩
theorem Wrote.setCell {a w:FW} (h:Wrote K a w) {p:Addr} (hp:K p.block\/a.heap.size<=p.block) (u:F7):Wrote K a (w.setCell p u) :=
 ⟨h.os,h.tape,h.output,by simpa using h.size,λi hi hn=>(Below.heap_setCell w p u i (by
  rintro rfl;rcases hp with hp | hp
  ·exact hn hp
  ·omega)).trans (h.block i hi hn)⟩
theorem Wrote.drew {a w:FW} (h:Wrote K a w):Wrote K a w.drew:=⟨h.os,h.tape,h.output,h.size,h.block⟩
theorem Wrote.dN {a w:FW} (h:Wrote K a w) (n:Nat):Wrote K a (w.drewN n):=⟨h.os,h.tape,h.output,h.size,h.block⟩
theorem Wrote.same {F:FI} {w w':FW} (h:Wrote K w w') (hF:∀ b,F b->¬ K b):Same F w w':=⟨h.size,λk hk hl=>h.block k hl (hF k hk)⟩
theorem Wrote.cell {w w':FW} (h:Wrote K w w'):∀ b o,b < w.heap.size->¬ K b->w'.cell? ⟨b,o,none⟩=w.cell? ⟨b,o,none⟩:=λb o hb hd=>World.cell?_of_block (h.block b hb hd)
theorem Row.wrote {w w':FW} {b:Nat} {t:TypeId} {vs:List F7} (h:Row w b t vs) (k:Wrote K w w') (hn:¬ K b):Row w' b t vs:=h.of_block (k.block b h.lt hn)
theorem Wrote.below {B:Nat} {a w w':FW} (h:Below B a w) (k:Wrote K w w') (hK:∀ b,K b->B<=b) (hB:B<=w.heap.size):Below B a w' :=
 h.trans ⟨k.os,k.tape,k.output,k.size,λi hi=>k.block i EN (λhk=>by have:=hK i hk; omega)⟩
structure Tri where
 p:List Int
 d:List Int
 l:List Int
def iw (rec:Nat->Tri->Int×Tri):List Int->Int->Tri->Int×Tri
 | [],next,t=>(next,t)
 | c :: cs,next,t=>if c≠next then (-1,t) else if (rec next.toNat t).1 < 0 then (-1,(rec next.toNat t).2) else iw rec cs (rec next.toNat t).1 (rec next.toNat t).2
def dJ (Fg:List Nd):Nat->Nat->Int->Int->Tri->Int×Tri
 | 0,_,_,_,t=>(-1,t)
 | f+1,a,par,dep,t=>match Fg[a]? with
  | none=>(-1,t)
  | some n =>
   let r:=iw (λa' t=>dJ Fg f a' a (dep+1) t) n.next ((a:Int)+1) ⟨t.p.set a par,t.d.set a dep,t.l⟩
   if r.1 < 0 then r else (r.1,⟨r.2.p,r.2.d,r.2.l.set a (r.1 - 1)⟩)
structure Tri.Len (N:Nat) (t:Tri):Prop where
 p:t.p.length=N
 d:t.d.length=N
 l:t.l.length=N
theorem adZ {N:Nat} {rec:Nat->Tri->Int×Tri} (hrec:∀ a t,Tri.Len N t->Tri.Len N (rec a t).2):∀ (cs:List Int) (next:Int) (t:Tri),Tri.Len N t->Tri.Len N (iw rec cs next t).2
 | [],_,t,h=>h
 | c :: cs,next,t,h=>by
  unfold iw;split
  ·exact h
  ·split
   ·exact hrec _ _ h
   ·exact adZ hrec cs _ _ (hrec _ _ h)
theorem qQ {N:Nat} (Fg:List Nd):∀ (f a:Nat) (par dep:Int) (t:Tri),Tri.Len N t->Tri.Len N (dJ Fg f a par dep t).2
 | 0,_,_,_,_,h=>h
 | f+1,a,par,dep,t,h=>by
  unfold dJ;split
  ·exact h
  ·rename_i n hn
   have hk:=adZ (rec:=λa' t=>dJ Fg f a' a (dep+1) t) (λa' t h=>qQ Fg f a' a (dep+1) t h) n.next ((a:Int)+1) ⟨t.p.set a par,t.d.set a dep,t.l⟩ ⟨by simp[h.p],by simp[h.d],h.l⟩;dsimp only;split
   ·exact hk
   ·exact⟨hk.p,hk.d,by simp[hk.l]⟩
theorem ad1 {rec:Nat->Tri->Int×Tri} {rec':Nat->Int->Int×Int} (h:∀ a t d,(rec a t).1=(rec' a d).1):∀ (cs:List Int) (next:Int) (t:Tri) (d:Int),(iw rec cs next t).1=(bK rec' cs next d).1
 | [],_,_,_=>rfl
 | c :: cs,next,t,d=>by
  unfold iw bK;rw[h _ t d];split
  ·rfl
  ·split
   ·rfl
   ·exact ad1 h cs _ _ _
theorem xw (Fg:List Nd):∀ (f a:Nat) (par dep:Int) (t:Tri) (d:Int),(dJ Fg f a par dep t).1=(bP Fg f a dep d).1
 | 0,_,_,_,_,_=>rfl
 | f+1,a,par,dep,t,d=>by
  unfold dJ bP;cases hn:Fg[a]? with
  | none=>rfl
  | some n =>
   have hk:=ad1 (rec:=λa' t=>dJ Fg f a' a (dep+1) t) (rec':=λa' d=>bP Fg f a' (dep+1) d) (λa' t d=>xw Fg f a' a (dep+1) t d) n.next ((a:Int)+1) ⟨t.p.set a par,t.d.set a dep,t.l⟩ (max d dep);dsimp only;rw[<-hk];split <;> rfl
theorem rZ (Fg:List Nd) (f a:Nat) (par dep:Int) (t:Tri):(dJ Fg f a par dep t).1 = -1\/((a:Int) < (dJ Fg f a par dep t).1/\(dJ Fg f a par dep t).1<=Fg.length):=by
 rw[xw Fg f a par dep t 0];exact rU Fg f a dep 0
def iZ (l:List Int):List F7:=l.map (Value.int .i64)
structure BG (w:FW) (p bp bd bl:Nat) (ay:Int) (A:Option Addr) (N c:Nat) (Ai:Option Addr) (ni ci:Nat) (t:Tri):Prop where
 head:Row w p 208 [F6 F5 ay,FQ A N c,FQ Ai ni ci,FQ (some ⟨bp,0,none⟩) N N,FQ (some ⟨bd,0,none⟩) N N,FQ (some ⟨bl,0,none⟩) N N]
 rp:Row w bp 3 (iZ t.p)
 rd:Row w bd 3 (iZ t.d)
 rl:Row w bl 3 (iZ t.l)
def DR (v:F7) (b o N c a:Nat):Prop:=∃ A',v = FQ A' (N - a) (c - a)/\(a < N->A'=some ⟨b,o+6*a,none⟩)
theorem ajX (g:Gm) (hsm:Small g) (p bp bd bl:Nat) (b o c:Nat) (Ai:Option Addr) (ci:Nat) (hd:p≠bp/\p≠bd/\p≠bl/\bp≠bd/\bp≠bl/\bd≠bl) (hc:g.Fg.length<=c)
  (F:FI) (hF:∀ k,F k->k≠bp/\k≠bd/\k≠bl):∀ (f a:Nat) (par dep:Int) (t:Tri) (w:FW) (u:F7),DR u b o g.Fg.length c a->Tri.Len g.Fg.length t ->
  (a < g.Fg.length->Bq w F (FQ (some ⟨b,o,none⟩) g.Fg.length c) g.Fg)->BG w p bp bd bl g.ay (some ⟨b,o,none⟩) g.Fg.length c Ai g.Fh.length ci t->a<=g.Fg.length->g.Fg.length < a+f->0<=dep->dep+f<=100000 ->
  Calls FY 163 #[.pointer (some ⟨p,0,none⟩),F6 F5 par,F6 F5 dep,u] w λe w'=>∃ vr,e = .returned (.tuple #[vr,.bool (decide (0<=(dJ g.Fg f a par dep t).1))]) /\
   (0<=(dJ g.Fg f a par dep t).1->DR vr b o g.Fg.length c (dJ g.Fg f a par dep t).1.toNat)/\BG w' p bp bd bl g.ay (some ⟨b,o,none⟩) g.Fg.length c Ai g.Fh.length ci (dJ g.Fg f a par dep t).2/\Wrote (λk=>k=bp\/k=bd\/k=bl) w w':=by
 intro f;induction f with
 | zero=>intro a par dep t w u hu ht hn hw ha hf hd0 hd1; omega
 | succ f ih =>
  intro a par dep t w u hu ht hn hw ha hf hd0 hd1;obtain⟨A',rfl,hA⟩:=hu;have IH:=Ac ih;clear ih;have hsn:=hsm.Fg;have HSM:=Ac hsm;clear hsm;have HFF:=Ac hF;clear hF;have HW:=Ac hw;clear hw;by_cases hlt:a < g.Fg.length
  ·have hz:((g.Fg.length - a:Nat):Int)≠0:=EN;have hz':(((g.Fg.length - a:Nat):Int)==0)=false:=aG;obtain rfl:=hA hlt;have HNA:=Ac (hn hlt);obtain⟨A'',c'',hev,_,hnn⟩:=hn hlt;injection hev with h1 h2 h3
   subst h1 h3;clear h2 hn;obtain⟨b',o',hbo,hFb,hbz,hcell⟩:=hnn EN;injection hbo with hbo
   injection hbo with h1 h2 h3
   subst h1 h2;clear h3 hnn hA;obtain⟨n,hn'⟩:=FC hlt;obtain⟨v3,e3,A3,c3,rfl,hc3,i3⟩:=(hcell a n hn').c3;have HX:=Ac hn';have hl3:=HSM.out.next n (FT hn');have H3:=Ac i3;clear i3 hcell hn';have x1:=HW.out.head.cell (i:=1) rfl;have x3:=HW.out.head.cell (i:=3) rfl;have x4:=HW.out.head.cell (i:=4) rfl;have hbF:=HFF.out b hFb;have amT:((g.Fg.length:Int) - ((g.Fg.length - a:Nat):Int))=(a:Int):=EN;go_in;go_wp2_with fail
   refine wp_region_held_drew (S:=λw'=>w'.cell? ⟨p,3,none⟩=some (FQ (some ⟨bp,0,none⟩) g.Fg.length g.Fg.length)/\w'.cell? ⟨p,4,none⟩=some (FQ (some ⟨bd,0,none⟩) g.Fg.length g.Fg.length)) ak ⟨x3,x4⟩ (λhHeld=>?_);refine tkm [0,1,2,3,4,5,6,7,8,9,10,11,12] ?_;have fp:=HW.out.rp.frozen a;have fd:=HW.out.rd.frozen a;obtain⟨d1,d2,d3,d4,d5,d6⟩:=hd;obtain⟨yp,hyp⟩:=FC (show a < t.p.length by rw[ht.p]; exact hlt);obtain⟨yd,hyd⟩:=FC (show a < t.d.length by rw[ht.d]; exact hlt);have sp:w.cell? ⟨bp,a,none⟩=some (F6 F5 yp):=HW.out.rp.cell (by simp[iZ,hyp]);have sd:w.cell? ⟨bd,a,none⟩=some (F6 F5 yd):=HW.out.rd.cell (by simp[iZ,hyd]);clear hyp hyd;refine tk2 13 ak rfl λK hK=>?_
   go_simp;refine hK.out _ _ ⟨(HW.out.head.other (a:=⟨bp,a,none⟩) d1 _).drew.cell rfl,(HW.out.head.other (a:=⟨bp,a,none⟩) d1 _).drew.cell rfl⟩ (λhHeld=>?_);clear hK K;refine Zb ?_;refine tkm [14] ?_;refine tk2 15 ak rfl λK hK=>?_
   go_simp;refine hK.out _ _ ⟨((HW.out.head.other (a:=⟨bp,a,none⟩) d1 _).other (a:=⟨bd,a,none⟩) d2 _).drew.cell rfl,((HW.out.head.other (a:=⟨bp,a,none⟩) d1 _).other (a:=⟨bd,a,none⟩) d2 _).drew.cell rfl⟩ (λhHeld=>?_);clear hK K;refine Zb ?_;refine Yf ?_;obtain⟨W,ai7⟩:∃ W:FW,W=((w.setCell ⟨bp,a,none⟩ (F6 F5 par)).setCell ⟨bd,a,none⟩ (F6 F5 dep)).drew:=⟨_,rfl⟩;rw[<-ai7];have hWW:Wrote (λk=>k=bp\/k=bd\/k=bl) w W:=by
    rw[ai7];exact(((Wrote.refl _ _).setCell (.inl (.inl rfl)) _).setCell (.inl (.inr (.inl rfl))) _).drew
   have hWA:BG W p bp bd bl g.ay (some ⟨b,o,none⟩) g.Fg.length c Ai g.Fh.length ci ⟨t.p.set a par,t.d.set a dep,t.l⟩:=by
    have h:=HW.out;rw[ai7];refine⟨((h.head.other d1 _).other d2 _).drew,?_,?_,?_⟩
    ·have:=((h.rp.set a (F6 F5 par)).other (a:=⟨bd,a,none⟩) d4 (F6 F5 dep)).drew;simpa [iZ,Jb] using this
    ·have:=((h.rd.other (a:=⟨bp,a,none⟩) d4.symm (F6 F5 par)).set a (F6 F5 dep)).drew;simpa [iZ,Jb] using this
    ·exact((h.rl.other (a:=⟨bp,a,none⟩) d5.symm _).other (a:=⟨bd,a,none⟩) d6.symm _).drew
   have HT:=Ac (show Tri.Len g.Fg.length ⟨t.p.set a par,t.d.set a dep,t.l⟩ from⟨by simp[ht.p],by simp[ht.d],ht.l⟩);have HR:=Ac (show dJ g.Fg (f+1) a par dep t=if (iw (λa' t=>dJ g.Fg f a' a (dep+1) t) n.next ((a:Int)+1) ⟨t.p.set a par,t.d.set a dep,t.l⟩).1 < 0 then iw (λa' t=>dJ g.Fg f a' a (dep+1) t) n.next ((a:Int)+1) ⟨t.p.set a par,t.d.set a dep,t.l⟩
     else ((iw (λa' t=>dJ g.Fg f a' a (dep+1) t) n.next ((a:Int)+1) ⟨t.p.set a par,t.d.set a dep,t.l⟩).1,⟨(iw (λa' t=>dJ g.Fg f a' a (dep+1) t) n.next ((a:Int)+1) ⟨t.p.set a par,t.d.set a dep,t.l⟩).2.p,(iw (λa' t=>dJ g.Fg f a' a (dep+1) t) n.next ((a:Int)+1) ⟨t.p.set a par,t.d.set a dep,t.l⟩).2.d,(iw (λa' t=>dJ g.Fg f a' a (dep+1) t) n.next ((a:Int)+1) ⟨t.p.set a par,t.d.set a dep,t.l⟩).2.l.set a ((iw (λa' t=>dJ g.Fg f a' a (dep+1) t) n.next ((a:Int)+1) ⟨t.p.set a par,t.d.set a dep,t.l⟩).1 - 1)⟩) by
    rw[dJ,HX.out])
   clear hHeld sp sd fp fd x1 x3 x4 ht HW ai7;generalize (⟨t.p.set a par,t.d.set a dep,t.l⟩:Tri)=t0 at *;have x1:=hWA.head.cell (i:=1) rfl;have hold:=hWW.cell;have e3':W.cell? ⟨b,o+6*a+3,none⟩=some (FQ A3 n.next.length c3):=by
    rw[hold b _ hbz (by rintro(h | h | h) <;> simp_all)];rw[<-e3];congr 2;omega
   clear hold;go_wp2_with fail
   ·go_loopw [11,48] (λrs i wr=>∃ (j nx:Nat) (t':Tri),j<=n.next.length/\i = F6 F5 j/\DR rs b o g.Fg.length c nx/\a < nx/\nx<=g.Fg.length/\Tri.Len g.Fg.length t'/\BG wr p bp bd bl g.ay (some ⟨b,o,none⟩) g.Fg.length c Ai g.Fh.length ci t'/\Wrote (λk=>k=bp\/k=bd\/k=bl) w wr/\iw (λa' t=>dJ g.Fg f a' a (dep+1) t) n.next ((a:Int)+1) t0=iw (λa' t=>dJ g.Fg f a' a (dep+1) t) (n.next.drop j) (nx:Int) t') (λ_ i _=>n.next.length - (intOf i).toNat)
    case atStart=>exact⟨0,a+1,t0,EN,rfl,⟨_,by congr 1 <;> omega,λhq=>by omega⟩,EN,EN,HT.out,hWA,hWW,rfl⟩
    case round =>
     obtain⟨j,nx,t',hj,rfl,⟨A',rfl,hA'⟩,anU,hnx1,hlen,hwa,hgr,hval⟩:=hrel;have HV:=Ac hval;clear hval;have HWA:=Ac hwa;clear hwa;clear x1 e3';have x1:=HWA.out.head.cell (i:=1) rfl;have x5:=HWA.out.head.cell (i:=5) rfl;have sub2:((g.Fg.length:Int) - ((g.Fg.length - nx:Nat):Int))=(nx:Int):=EN;by_cases hjt:j < n.next.length
     ·obtain⟨ch,hch⟩:=FC hjt;obtain⟨b3,o3,rfl,hb3,alj,hx3⟩:=H3.out EN;have hb3F:=HFF.out b3 hb3;have ec:=hx3 j ch hch;unfold jP at ec;rw[Gp] at ec;rw[<-hgr.cell b3 _ alj (by rintro(h | h | h) <;> simp_all)] at ec;refine zae ?_;intro HD;clear hch hx3;by_cases hne:ch=nx
      ·subst hne;have hnn:((nx:Int) != (nx:Int))=false:=aF;have hbd2:=rZ g.Fg f nx a (dep+1) t';have hlen2:=qQ (N:=g.Fg.length) g.Fg f nx a (dep+1) t' hlen;have HV2:=Ac (show iw (λa' t=>dJ g.Fg f a' a (dep+1) t) n.next ((a:Int)+1) t0=if (dJ g.Fg f nx a (dep+1) t').1 < 0 then (-1,(dJ g.Fg f nx a (dep+1) t').2) else iw (λa' t=>dJ g.Fg f a' a (dep+1) t) (n.next.drop (j+1)) (dJ g.Fg f nx a (dep+1) t').1 (dJ g.Fg f nx a (dep+1) t').2 by
        rw[HV.out,HD.out]; simp[iw])
       have HBD:=Ac hbd2;clear hbd2;have HLN:=Ac hlen2;clear hlen2;go_wp2_with fail
       refine(IH.out nx a (dep+1) t' wr _ ⟨A',rfl,hA'⟩ hlen (λ_=>HNA.out.on (hgr.same (λk hk hq=>by have:=HFF.out k hk; rcases hq with h | h | h <;> simp_all))) HWA.out hnx1 EN EN EN).mono ?_;rintro e w' ⟨vr,rfl,hrest,ahC,iM⟩;have hgg:=hgr.trans iM;have hbb:=HBD.out;have hln:=HLN.out;generalize dJ g.Fg f nx a (dep+1) t'=rr at *;obtain⟨rn,rd⟩:=rr;dsimp only at hrest ahC hbb hln HV2 ⊢;clear HBD HLN x1 x5 hgr iM HWA ec;by_cases hng:rn < 0
       ·refine zdO ?_;intro HF hdn;go_wp2
        go_ret2;exact zdu
       ·have hdn:decide (0<=rn)=true:=Mc EN;obtain⟨q,rfl⟩:=J5 (show 0<=rn by omega);have HRS:=Ac (hrest EN);clear hrest;go_wp2
        go_roundw
        case rel=>exact⟨j+1,q,rd,EN,by go_num,by simpa using HRS.out,EN,EN,hln,ahC,hgg,by rw[HV2.out,L6 hng]⟩
        case measure=>simp[intOf]; omega
      ·have hdd:(ch != (nx:Int))=true:=by simp[hne]
       have HF:=Ac (show dJ g.Fg (f+1) a par dep t=(-1,t') by rw[HR.out,HV.out,HD.out]; simp[iw,hne]);clear hne;go_wp2
       go_ret2;exact zdl
     ·have HF:=Ac (show dJ g.Fg (f+1) a par dep t=((nx:Int),⟨t'.p,t'.d,t'.l.set a ((nx:Int) - 1)⟩) by
       rw[HR.out,HV.out,GU EN,L6 (by simp only[iw]; omega)]; rfl)
      go_wp2_with fail
      refine Y5 ?_;intro wr0 wr2 hHeld;refine tkm [0,1,2,3,4,5,6,7,8,9,10,11,12,13,14,15] ?_;refine zcj ?_;intro fl yl sl K hK;go_simp;refine zbn ?_;clear hK K;go_wp2
      go_ret2;refine zaj ?_;intro h this;simpa [iZ,Jb,wr0,wr2] using this
   ·go_loopw [11,48] (λrs i wr=>∃ (j nx:Nat) (t':Tri),j<=n.next.length/\i = F6 F5 j/\DR rs b o g.Fg.length c nx/\a < nx/\nx<=g.Fg.length/\Tri.Len g.Fg.length t'/\BG wr p bp bd bl g.ay (some ⟨b,o,none⟩) g.Fg.length c Ai g.Fh.length ci t'/\Wrote (λk=>k=bp\/k=bd\/k=bl) w wr/\iw (λa' t=>dJ g.Fg f a' a (dep+1) t) n.next ((a:Int)+1) t0=iw (λa' t=>dJ g.Fg f a' a (dep+1) t) (n.next.drop j) (nx:Int) t') (λ_ i _=>n.next.length - (intOf i).toNat)
    case atStart=>exact⟨0,a+1,t0,EN,rfl,⟨_,by congr 1 <;> omega,λhq=>by congr 2 <;> omega⟩,EN,EN,HT.out,hWA,hWW,rfl⟩
    case round =>
     obtain⟨j,nx,t',hj,rfl,⟨A',rfl,hA'⟩,anU,hnx1,hlen,hwa,hgr,hval⟩:=hrel;have HV:=Ac hval;clear hval;have HWA:=Ac hwa;clear hwa;clear x1 e3';have x1:=HWA.out.head.cell (i:=1) rfl;have x5:=HWA.out.head.cell (i:=5) rfl;have sub2:((g.Fg.length:Int) - ((g.Fg.length - nx:Nat):Int))=(nx:Int):=EN;by_cases hjt:j < n.next.length
     ·obtain⟨ch,hch⟩:=FC hjt;obtain⟨b3,o3,rfl,hb3,alj,hx3⟩:=H3.out EN;have hb3F:=HFF.out b3 hb3;have ec:=hx3 j ch hch;unfold jP at ec;rw[Gp] at ec;rw[<-hgr.cell b3 _ alj (by rintro(h | h | h) <;> simp_all)] at ec;refine zae ?_;intro HD;clear hch hx3;by_cases hne:ch=nx
      ·subst hne;have hnn:((nx:Int) != (nx:Int))=false:=aF;have hbd2:=rZ g.Fg f nx a (dep+1) t';have hlen2:=qQ (N:=g.Fg.length) g.Fg f nx a (dep+1) t' hlen;have HV2:=Ac (show iw (λa' t=>dJ g.Fg f a' a (dep+1) t) n.next ((a:Int)+1) t0=if (dJ g.Fg f nx a (dep+1) t').1 < 0 then (-1,(dJ g.Fg f nx a (dep+1) t').2) else iw (λa' t=>dJ g.Fg f a' a (dep+1) t) (n.next.drop (j+1)) (dJ g.Fg f nx a (dep+1) t').1 (dJ g.Fg f nx a (dep+1) t').2 by
        rw[HV.out,HD.out]; simp[iw])
       have HBD:=Ac hbd2;clear hbd2;have HLN:=Ac hlen2;clear hlen2;go_wp2_with fail
       refine(IH.out nx a (dep+1) t' wr _ ⟨A',rfl,hA'⟩ hlen (λ_=>HNA.out.on (hgr.same (λk hk hq=>by have:=HFF.out k hk; rcases hq with h | h | h <;> simp_all))) HWA.out hnx1 EN EN EN).mono ?_;rintro e w' ⟨vr,rfl,hrest,ahC,iM⟩;have hgg:=hgr.trans iM;have hbb:=HBD.out;have hln:=HLN.out;generalize dJ g.Fg f nx a (dep+1) t'=rr at *;obtain⟨rn,rd⟩:=rr;dsimp only at hrest ahC hbb hln HV2 ⊢;clear HBD HLN x1 x5 hgr iM HWA ec;by_cases hng:rn < 0
       ·refine zdO ?_;intro HF hdn;go_wp2
        go_ret2;exact zdu
       ·have hdn:decide (0<=rn)=true:=Mc EN;obtain⟨q,rfl⟩:=J5 (show 0<=rn by omega);have HRS:=Ac (hrest EN);clear hrest;go_wp2
        go_roundw
        case rel=>exact⟨j+1,q,rd,EN,by go_num,by simpa using HRS.out,EN,EN,hln,ahC,hgg,by rw[HV2.out,L6 hng]⟩
        case measure=>simp[intOf]; omega
      ·have hdd:(ch != (nx:Int))=true:=by simp[hne]
       have HF:=Ac (show dJ g.Fg (f+1) a par dep t=(-1,t') by rw[HR.out,HV.out,HD.out]; simp[iw,hne]);clear hne;go_wp2
       go_ret2;exact zdl
     ·have HF:=Ac (show dJ g.Fg (f+1) a par dep t=((nx:Int),⟨t'.p,t'.d,t'.l.set a ((nx:Int) - 1)⟩) by
       rw[HR.out,HV.out,GU EN,L6 (by simp only[iw]; omega)]; rfl)
      go_wp2_with fail
      refine Y5 ?_;intro wr0 wr2 hHeld;refine tkm [0,1,2,3,4,5,6,7,8,9,10,11,12,13,14,15] ?_;refine zcj ?_;intro fl yl sl K hK;go_simp;refine zbn ?_;clear hK K;go_wp2
      go_ret2;refine zaj ?_;intro h this;simpa [iZ,Jb,wr0,wr2] using this
  ·have hz:(((g.Fg.length - a:Nat):Int)==0)=true:=aG;have HF:=Ac (show dJ g.Fg (f+1) a par dep t=(-1,t) by
    rw[dJ]; rw[List.getElem?_eq_none EN])
   clear hA hn;go_in;go_wp2
   go_ret2;refine⟨_,by rw[HF.out]; rfl,by rw[HF.out]; intro h; simp at h,by rw[HF.out]; exact HW.out,Wrote.refl _ _⟩
def jf:List Nd->Nat->List Int->List Int
 | [],_,f=>f
 | x :: l,i,f=>if x.kind=2 then (jf l (i+1) f).set x.info.toNat ((i:Int)+1) else jf l (i+1) f
theorem jK:∀ (l:List Nd) (i:Nat) (f:List Int),(jf l i f).length=f.length
 | [],_,_=>rfl
 | x :: l,i,f=>by
  unfold jf;split
  ·simp[jK l]
  ·exact jK l _ _
theorem zM {l:List Nd} {k:Nat} {x:Nd} (h:l[k]? = some x) (i:Nat) (f:List Int):jf (l.drop k) i f=if x.kind=2 then (jf (l.drop (k+1)) (i+1) f).set x.info.toNat ((i:Int)+1) else jf (l.drop (k+1)) (i+1) f:=by
 exact zdb
def gY (g:Gm):List Int:=jf g.Fg 0 (F8 g.Fh.length 0)
def jq (g:Gm):Int:=if qH g then 10 else if (gY g).contains 0 then 18 else if iD (gY g) then 0 else 9
theorem ajY (w:FW) (F:FI) (p:Nat) (g:Gm) (A Ai:Option Addr) (c ci:Nat) (h1:w.cell? ⟨p,1,none⟩=some (FQ A g.Fg.length c)) (h2:w.cell? ⟨p,2,none⟩=some (FQ Ai g.Fh.length ci)) (hp:p < w.heap.size)
  (hn:Bq w F (FQ A g.Fg.length c) g.Fg) (hi:Bv w F (FQ Ai g.Fh.length ci) g.Fh) (hsm:Small g) (hin:BN g) (h0:0 < g.Fg.length) :
  Calls FY 165 #[.pointer (some ⟨p,0,none⟩)] w (Ret w λv _=>v = F6 F5 (jq g)):=by
 have hsn:=hsm.Fg;have hsi:=hsm.Fh;have HS:=Ac hsm;clear hsm;have HIN:=Ac hin;clear hin;obtain⟨A',c',he,_,hN⟩:=hn;injection he with e1 e2 e3
 subst e1 e3;clear e2;obtain⟨b,o,rfl,hbF,hb,hcell⟩:=hN h0;clear hN;have HN:=Ac hcell;clear hcell;obtain⟨A',c',he,_,hI⟩:=hi;injection he with e1 e2 e3
 subst e1 e3;clear e2;have HI:=Ac hI;clear hI;have hsub:((g.Fg.length:Int) - 1)=((g.Fg.length - 1:Nat):Int):=EN;go_in;go_wp2_with (at_make; refine gX _ rfl _ _ 22 rfl 3 (F6 F5 0) 8 Tryz.underlying22 Tryz.infoInt rfl g.Fh.length rfl rfl EN EN ?_; intro w1 hb1 hz1 hrow1; have x1:=(aS hb1 p 1 hp).trans h1; have x2:=(aS hb1 p 2 hp).trans h2)
 go_loopw [4] (λi wr=>∃ k:Nat,k<=g.Fg.length/\i = F6 F5 ((k:Int) - 1)/\Row wr w.heap.size 3 (iZ (jf (g.Fg.drop k) k (F8 g.Fh.length 0)))/\Below w.heap.size w wr) (λi _=>(intOf i+1).toNat)
 case atStart =>
  refine⟨g.Fg.length,EN,by rw[<-hsub],?_,hb1⟩;simpa [jf,iZ] using hrow1
 case round =>
  clear hb1 hz1 hrow1 x1 x2 w1;obtain⟨k,hk,rfl,hrow,hbel⟩:=hrel;have x1:=(aS hbel p 1 hp).trans h1;have x2:=(aS hbel p 2 hp).trans h2;have hlr:=hrow.lt;by_cases hlt:0 < k
  ·obtain⟨q,rfl⟩:∃ q,k=q+1:=⟨k - 1,EN⟩;have i1:(((q+1:Nat):Int) - 1)=(q:Int):=EN;rw[i1];clear i1;obtain⟨n,hn'⟩:=FC (l:=g.Fg) (k:=q) EN;obtain⟨e0,e1,e2,⟨v3,e3,A3,c3,rfl,hc3,i3⟩,⟨v4,e4,A4,c4,rfl,hc4,i4⟩,⟨v5,e5,A5,c5,rfl,hc5,i5⟩⟩:=HN.out q n hn';clear i3 i4 i5;have hold:=aS hbel;have HFD:=Ac (zM hn' q (F8 g.Fh.length 0));have HM:=Ac (FT hn');clear hn';have hqn:q < g.Fg.length:=EN;by_cases hkd:n.kind=2
   ·obtain⟨hin0,hin1⟩:=HIN.out n HM.out hkd;have hd:(n.kind==2)=true:=by simp[hkd]
    have HF2:=Ac (show jf (g.Fg.drop q) q (F8 g.Fh.length 0)=(jf (g.Fg.drop (q+1)) (q+1) (F8 g.Fh.length 0)).set n.info.toNat ((q:Int)+1) by rw[HFD.out,L8 hkd]);clear hkd;have hfl:=jK (g.Fg.drop (q+1)) (q+1) (F8 g.Fh.length 0);rw[List.length_replicate] at hfl;generalize jf (g.Fg.drop (q+1)) (q+1) (F8 g.Fh.length 0)=fs at *;obtain⟨y,hy⟩:=FC (l:=fs) (k:=n.info.toNat) EN;have rc:=hrow.cell (i:=n.info.toNat) (v:=F6 F5 y) (by simp[iZ,hy]);have fc:=hrow.frozen n.info.toNat;clear hy;have HFL:=Ac hfl;clear hfl;go_wp2
    go_roundw
    case rel =>
     refine⟨q,EN,rfl,?_,(hbel.setCell (FV _) _).alloc (by simpa using hbel.size) _⟩;rw[HF2.out];have:=(hrow.set n.info.toNat (F6 F5 ((q:Int)+1))).alloc (.cells #[F6 F5 n.kind,F6 F5 n.aC,F6 F5 n.info,FQ A3 n.next.length c3,FQ A4 n.weights.length c4,FQ A5 n.pay.length c5] 127);simpa [iZ,Jb] using this
    case measure=>simp[intOf] <;> omega
   ·have hd:(n.kind==2)=false:=by simp[hkd]
    have HF2:=Ac (show jf (g.Fg.drop q) q (F8 g.Fh.length 0)=jf (g.Fg.drop (q+1)) (q+1) (F8 g.Fh.length 0) by rw[HFD.out,L6 hkd]);clear hkd;go_wp2
    go_roundw
    case rel=>exact⟨q,EN,rfl,by rw[HF2.out]; exact hrow.alloc _,hbel.alloc hbel.size _⟩
    case measure=>simp[intOf] <;> omega
  ·obtain rfl:k=0:=EN;have hfs:jf (g.Fg.drop 0) 0 (F8 g.Fh.length 0)=gY g:=by simp[gY]
   rw[hfs] at hrow;clear hfs;go_wp2
   go_loopw [49] (λi wr'=>∃ k:Nat,k<=g.Fg.length/\i = F6 F5 k/\Row wr' w.heap.size 3 (iZ (gY g))/\Below w.heap.size w wr'/\(g.Fg.take k).any (eH g.Fh)=false) (λi _=>g.Fg.length - (intOf i).toNat)
   case atStart=>exact⟨0,EN,rfl,hrow,hbel,aF⟩
   case round =>
    clear hrow hbel x1 x2 hlr;obtain⟨k,hk,rfl,hrow,hbel,hpre⟩:=hrel;have HP:=Ac hpre;clear hpre;have x2:=(aS hbel p 2 hp).trans h2;have hlr:=hrow.lt;have hold:=aS hbel;by_cases hlt:k < g.Fg.length
    ·obtain⟨n,hn'⟩:=FC hlt;obtain⟨e0,e1,e2,⟨v3,e3,A3,c3,rfl,hc3,i3⟩,⟨v4,e4,A4,c4,rfl,hc4,i4⟩,⟨v5,e5,A5,c5,rfl,hc5,i5⟩⟩:=HN.out k n hn';clear i3 i4 i5;have HX:=Ac hn';have HM:=Ac (FT hn');clear hn';by_cases hkd:n.kind=2
     ·obtain⟨hin0,hin1⟩:=HIN.out n HM.out hkd;have hd:(n.kind==2)=true:=by simp[hkd]
      obtain⟨bi,oi,rfl,hbiF,hbi,hic⟩:=HI.out EN;obtain⟨inf,gU⟩:=FC (l:=g.Fh) (k:=n.info.toNat) EN;obtain⟨f0,f1⟩:=hic n.info.toNat inf gU;have HTB:=Ac (show eH g.Fh n=(decide (inf.aC≠n.aC)||decide (inf.actions≠(n.next.length:Int))) by unfold eH; simp[hkd,gU,List.getD_eq_getElem?_getD]);clear hkd hic gU;have hpw:p < wr.heap.size:=GZ hp hbel.size;have hbiw:bi < wr.heap.size:=GZ hbi hbel.size;by_cases t1:inf.aC=n.aC
      ·by_cases t2:inf.actions=(n.next.length:Int)
       ·have HT:=Ac (show eH g.Fh n=false by rw[HTB.out]; simp[t1,t2]);have t1':(inf.aC==n.aC)=true:=by simp[t1]
        have t2':(inf.actions==(n.next.length:Int))=true:=by simp[t2]
        clear t1 t2;go_wp2
        go_quiet (fail)
        go_wp2
        go_roundw
        case rel=>exact⟨k+1,EN,by go_num,(hrow.alloc _).dN _,aI (hbel.alloc hbel.size _) _,pI HX.out HP.out HT.out⟩
        case measure=>simp[intOf]; omega
       ·have HF:=Ac (show jq g=10 by
         unfold jq; rw[L8]; unfold qH; rw[List.any_eq_true]; exact⟨n,HM.out,by rw[HTB.out]; simp[t2]⟩)
        have t1':(inf.aC==n.aC)=true:=by simp[t1]
        have t2':(inf.actions==(n.next.length:Int))=false:=by simp[t2]
        clear t1 t2;exact zai
      ·have HF:=Ac (show jq g=10 by
        unfold jq; rw[L8]; unfold qH; rw[List.any_eq_true]; exact⟨n,HM.out,by rw[HTB.out]; simp[t1]⟩)
       have t1':(inf.aC==n.aC)=false:=by simp[t1]
       clear t1;exact zai
     ·have hd:(n.kind==2)=false:=by simp[hkd]
      have HTB:=Ac (show eH g.Fh n=false by unfold eH; simp[hkd]);clear hkd;go_wp2
      go_quiet (fail)
      go_wp2
      go_roundw
      case rel=>exact⟨k+1,EN,by go_num,(hrow.alloc _).dN _,aI (hbel.alloc hbel.size _) _,pI HX.out HP.out HTB.out⟩
      case measure=>simp[intOf]; omega
    ·have HT:=Ac (show qH g=false by
      have:=HP.out; rw[List.take_of_length_le EN] at this; exact this)
     have hfl:(gY g).length=g.Fh.length:=by unfold gY;rw[jK];simp
     have HI2:=Ac (show Aj wr (λk=>k=w.heap.size) (FQ (some ⟨w.heap.size,0,none⟩) g.Fh.length g.Fh.length) (gY g) by
      have:=Row.ints (F:=λk=>k=w.heap.size) hrow rfl (c:=g.Fh.length) EN;rwa [hfl] at this)
     go_wp2_with fail
     refine(aeQ _ _ _ _ 0 HI2.out EN).mono ?_;rintro e w2 ⟨rfl,rfl⟩;have HFF:=Ac (show jq g=if (gY g).contains 0 then 18 else if iD (gY g) then 0 else 9 by unfold jq; rw[HT.out]; rfl);generalize hco:(gY g).contains 0=co at *;dsimp only;cases co
     ·go_wp2_with fail
      refine(aeR _ _ _ _ HI2.out EN).mono ?_;rintro e w2 ⟨_,rfl,hb2,rfl⟩;generalize hso:iD (gY g)=so at *;dsimp only;cases so
      ·go_wp2
       go_ret;exact⟨_,rfl,hbel.trans (hb2.mono hbel.size),by rw[HFF.out]; rfl⟩
      ·go_wp2
       go_ret;exact⟨_,rfl,hbel.trans (hb2.mono hbel.size),by rw[HFF.out]; rfl⟩
     ·go_wp2
      go_ret;exact⟨_,rfl,hbel,by rw[HFF.out]; rfl⟩
end Go.Proofs.YtnmeejofpkhlkaaGreatDoor
