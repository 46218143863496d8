/- recall.walker.node -/
import Derived.Test.YtnmeejofpkhlkaaGreatDoorR05
import Derived.Laws.EntriesVeiled
set_option linter.all false
set_option maxRecDepth 100000
set_option maxHeartbeats 12800000
namespace Go.Proofs.YtnmeejofpkhlkaaGreatDoor
open Lib renaming hid → Ag
open List renaming getElem_toArray → lq1, getElem_cons_zero → lq2, getElem_cons_succ → lq3, setIfInBounds_toArray → lq4, set_cons_zero → lq5, set_cons_succ → lq6
open Go.RowKit
theorem agZ (w:World) (F:Foot) (p:Nat) (ux:Value) (aA:Int) (ni:Nat) (x:Nd) (hw:Ce w p aA ni) (hx:BR w F ux x) (hl:x.next.length < 1000000∧x.weights.length < 1000000∧x.pay.length < 1000000)
  (hp:0≤aA∧aA < 1000000) (hni:ni < 1000000) (hpl:p < w.heap.size) :
  Calls Tryz.prog 162 #[.pointer (some ⟨p,0,none⟩),ux] w (Ret w fun v _=>v = .int .i64 (eH aA ni x)):=by
 have HX:=Ag hx;obtain⟨v3,v4,v5,rfl,⟨A3,c3,rfl,hc3,h3⟩,⟨A4,c4,rfl,hc4,h4⟩,⟨A5,c5,rfl,hc5,h5⟩⟩:=hx;clear h3 h4 h5;have HW:=Ag hw;have HL:=Ag hl;clear hw hl;by_cases k1:x.kind=1
 ·have HF:=Ag (show eH aA ni x=dI x by unfold eH; simp[k1]);rw[k1] at HX ⊢;clear k1;go_in;go_wp2_with fail
  obtain⟨W,hW,hbx,hWb,hWz⟩:=bH w 127 #[.int .i64 1,.int .i64 x.aC,.int .i64 x.info,.slice A3 x.next.length c3,.slice A4 x.weights.length c4,.slice A5 x.pay.length c5];refine Z5 ?_;clear hW hbx hWb hWz;intro W1 jY hB1 hbt z0;have hen:=enters Tryz.func190 (by decide +kernel) (by decide +kernel);refine wp_region_held_drew (S:=fun w'=>w'.cell? ⟨w.heap.size+1,1,none⟩=some (.func (.func 190) #[] #[])∧w'.cell? ⟨w.heap.size,0,none⟩=some (.int .i64 1)∧w'.cell? ⟨w.heap.size,1,none⟩=some (.int .i64 x.aC)∧w'.cell? ⟨w.heap.size,2,none⟩=some (.int .i64 x.info)∧w'.cell? ⟨w.heap.size,3,none⟩=some (.slice A3 x.next.length c3)∧w'.cell? ⟨w.heap.size,4,none⟩=some (.slice A4 x.weights.length c4)∧w'.cell? ⟨w.heap.size,5,none⟩=some (.slice A5 x.pay.length c5)) ah ⟨hbt.cell rfl,jY.cell rfl,jY.cell rfl,jY.cell rfl,jY.cell rfl,jY.cell rfl,jY.cell rfl⟩ (fun hHeld=>?_);refine tkm [0,1,2,3,4,5] ?_;refine tk2 6 ah rfl fun K hK=>?_
  go_simp;refine(ae6 _ F _ _ x (HX.out.on (Below.same' hB1.drew F)) HL.out).mono ?_;exact Zz
 by_cases k2:x.kind=2
 ·have HF:=Ag (show eH aA ni x=gW aA ni x by unfold eH; simp[k2]);rw[k2] at HX ⊢;clear k1 k2;go_in;go_wp2_with fail
  obtain⟨W,hW,hbx,hWb,hWz⟩:=bH w 127 #[.int .i64 2,.int .i64 x.aC,.int .i64 x.info,.slice A3 x.next.length c3,.slice A4 x.weights.length c4,.slice A5 x.pay.length c5];refine Z5 ?_;clear hW hbx hWb hWz;intro W1 jY hB1 hbt z0;have hen:=enters Tryz.func191 (by decide +kernel) (by decide +kernel);refine wp_region_held_drew (S:=fun w'=>w'.cell? ⟨w.heap.size+1,2,none⟩=some (.func (.func 191) #[] #[])∧w'.cell? ⟨w.heap.size,0,none⟩=some (.int .i64 2)∧w'.cell? ⟨w.heap.size,1,none⟩=some (.int .i64 x.aC)∧w'.cell? ⟨w.heap.size,2,none⟩=some (.int .i64 x.info)∧w'.cell? ⟨w.heap.size,3,none⟩=some (.slice A3 x.next.length c3)∧w'.cell? ⟨w.heap.size,4,none⟩=some (.slice A4 x.weights.length c4)∧w'.cell? ⟨w.heap.size,5,none⟩=some (.slice A5 x.pay.length c5)) ah ⟨hbt.cell rfl,jY.cell rfl,jY.cell rfl,jY.cell rfl,jY.cell rfl,jY.cell rfl,jY.cell rfl⟩ (fun hHeld=>?_);refine tkm [0,1,2,3,4,5] ?_;refine tk2 6 ah rfl fun K hK=>?_
  go_simp;refine(move_any _ F p _ aA ni x ⟨(aQ hB1.drew p 0 hpl).trans HW.out.aA,HW.out.infos.imp fun A h=>h.imp fun c h=>(aQ hB1.drew p 2 hpl).trans h⟩ (HX.out.on (Below.same' hB1.drew F)) HL.out hp hni aF).mono ?_;exact Zz
 by_cases k3:x.kind=3
 ·have HF:=Ag (show eH aA ni x=jS aA x by unfold eH; simp[k3]);rw[k3] at HX ⊢;clear k1 k2 k3;go_in;go_wp2_with fail
  obtain⟨W,hW,hbx,hWb,hWz⟩:=bH w 127 #[.int .i64 3,.int .i64 x.aC,.int .i64 x.info,.slice A3 x.next.length c3,.slice A4 x.weights.length c4,.slice A5 x.pay.length c5];refine Z5 ?_;clear hW hbx hWb hWz;intro W1 jY hB1 hbt z0;have hen:=enters Tryz.func192 (by decide +kernel) (by decide +kernel);refine wp_region_held_drew (S:=fun w'=>w'.cell? ⟨w.heap.size+1,3,none⟩=some (.func (.func 192) #[] #[])∧w'.cell? ⟨w.heap.size,0,none⟩=some (.int .i64 3)∧w'.cell? ⟨w.heap.size,1,none⟩=some (.int .i64 x.aC)∧w'.cell? ⟨w.heap.size,2,none⟩=some (.int .i64 x.info)∧w'.cell? ⟨w.heap.size,3,none⟩=some (.slice A3 x.next.length c3)∧w'.cell? ⟨w.heap.size,4,none⟩=some (.slice A4 x.weights.length c4)∧w'.cell? ⟨w.heap.size,5,none⟩=some (.slice A5 x.pay.length c5)) ah ⟨hbt.cell rfl,jY.cell rfl,jY.cell rfl,jY.cell rfl,jY.cell rfl,jY.cell rfl,jY.cell rfl⟩ (fun hHeld=>?_);refine tkm [0,1,2,3,4,5] ?_;refine tk2 6 ah rfl fun K hK=>?_
  go_simp;refine(ajE _ F p _ aA ni x ⟨(aQ hB1.drew p 0 hpl).trans HW.out.aA,HW.out.infos.imp fun A h=>h.imp fun c h=>(aQ hB1.drew p 2 hpl).trans h⟩ (HX.out.on (Below.same' hB1.drew F)) HL.out aF).mono ?_;exact Zz
 have HF:=Ag (show eH aA ni x=3 by unfold eH; simp[k1,k2,k3]);by_cases q:x.kind < 1
 ·clear k1 k2 k3;go_in;go_wp2
  go_ret;exact⟨_,rfl,tZ _ _ _ 0,by rw[HF.out]; rfl⟩
 ·have d:decide (x.kind < 1)=false:=decide_eq_false q;have d2:3 < x.kind:=byOmega;clear k1 k2 k3;go_in;go_wp2
  go_ret;exact⟨_,rfl,tZ _ _ _ 0,by rw[HF.out]; rfl⟩
structure Wrote (K:Foot) (w w':World):Prop where
 os:w'.os=w.os
 tape:w'.tape=w.tape
 output:w'.output=w.output
 size:w.heap.size≤w'.heap.size
 block:∀ i,i < w.heap.size→¬ K i→w'.heap[i]? = w.heap[i]?
theorem Wrote.refl (K:Foot) (w:World):Wrote K w w:=⟨rfl,rfl,rfl,Nat.le_refl _,fun _ _ _=>rfl⟩
theorem Wrote.trans {K:Foot} {a b c:World} (h:Wrote K a b) (k:Wrote K b c):Wrote K a c :=
 ⟨k.os.trans h.os,k.tape.trans h.tape,k.output.trans h.output,Nat.le_trans h.size k.size,fun i hi hn=>(k.block i (Nat.lt_of_lt_of_le hi h.size) hn).trans (h.block i hi hn)⟩
theorem Wrote.setCell {K:Foot} {a w:World} (h:Wrote K a w) {p:Addr} (hp:K p.block∨a.heap.size≤p.block) (u:Value):Wrote K a (w.setCell p u) :=
 ⟨h.os,h.tape,h.output,by simpa using h.size,fun i hi hn=>(Below.heap_setCell w p u i (by
  rintro rfl;rcases hp with hp | hp
  ·exact hn hp
  ·omega)).trans (h.block i hi hn)⟩
theorem Wrote.alloc {K:Foot} {a w:World} (h:Wrote K a w) (o:Obj):Wrote K a (w.alloc o) :=
 ⟨h.os,h.tape,h.output,Nat.le_trans h.size aB,fun i hi hn=>(Below.heap_alloc w o i (Nat.lt_of_lt_of_le hi h.size)).trans (h.block i hi hn)⟩
theorem Wrote.drew {K:Foot} {a w:World} (h:Wrote K a w):Wrote K a w.drew:=⟨h.os,h.tape,h.output,h.size,h.block⟩
theorem Wrote.dN {K:Foot} {a w:World} (h:Wrote K a w) (n:Nat):Wrote K a (w.drewN n):=⟨h.os,h.tape,h.output,h.size,h.block⟩
theorem Wrote.same {K F:Foot} {w w':World} (h:Wrote K w w') (hF:∀ b,F b→¬ K b):Same F w w':=⟨h.size,fun k hk hl=>h.block k hl (hF k hk)⟩
theorem Wrote.cell {K:Foot} {w w':World} (h:Wrote K w w'):∀ b o,b < w.heap.size→¬ K b→w'.cell? ⟨b,o,none⟩=w.cell? ⟨b,o,none⟩:=fun b o hb hd=>World.cell?_of_block (h.block b hb hd)
theorem Row.wrote {K:Foot} {w w':World} {b:Nat} {t:TypeId} {vs:List Value} (h:Row w b t vs) (k:Wrote K w w') (hn:¬ K b):Row w' b t vs:=h.of_block (k.block b h.lt hn)
theorem Wrote.below {K:Foot} {B:Nat} {a w w':World} (h:Below B a w) (k:Wrote K w w') (hK:∀ b,K b→B≤b) (hB:B≤w.heap.size):Below B a w' :=
 h.trans ⟨k.os,k.tape,k.output,k.size,fun i hi=>k.block i byOmega (fun hk=>by have:=hK i hk; omega)⟩
structure Tri where
 p:List Int
 d:List Int
 l:List Int
def dK (rec:Nat→Tri→Int×Tri):List Int→Int→Tri→Int×Tri
 | [],next,t=>(next,t)
 | c :: cs,next,t=>if c≠next then (-1,t) else if (rec next.toNat t).1 < 0 then (-1,(rec next.toNat t).2) else dK rec cs (rec next.toNat t).1 (rec next.toNat t).2
def bK (nodes:List Nd):Nat→Nat→Int→Int→Tri→Int×Tri
 | 0,_,_,_,t=>(-1,t)
 | f+1,a,par,dep,t=>match nodes[a]? with
  | none=>(-1,t)
  | some n =>
   let r:=dK (fun a' t=>bK nodes f a' a (dep+1) t) n.next ((a:Int)+1) ⟨t.p.set a par,t.d.set a dep,t.l⟩
   if r.1 < 0 then r else (r.1,⟨r.2.p,r.2.d,r.2.l.set a (r.1 - 1)⟩)
structure Tri.Len (N:Nat) (t:Tri):Prop where
 p:t.p.length=N
 d:t.d.length=N
 l:t.l.length=N
theorem abH {N:Nat} {rec:Nat→Tri→Int×Tri} (hrec:∀ a t,Tri.Len N t→Tri.Len N (rec a t).2):∀ (cs:List Int) (next:Int) (t:Tri),Tri.Len N t→Tri.Len N (dK rec cs next t).2
 | [],_,t,h=>h
 | c :: cs,next,t,h=>by
  unfold dK;split
  ·exact h
  ·split
   ·exact hrec _ _ h
   ·exact abH hrec cs _ _ (hrec _ _ h)
theorem kK {N:Nat} (nodes:List Nd):∀ (f a:Nat) (par dep:Int) (t:Tri),Tri.Len N t→Tri.Len N (bK nodes f a par dep t).2
 | 0,_,_,_,_,h=>h
 | f+1,a,par,dep,t,h=>by
  unfold bK;split
  ·exact h
  ·rename_i n hn
   have hk:=abH (rec:=fun a' t=>bK nodes f a' a (dep+1) t) (fun a' t h=>kK nodes f a' a (dep+1) t h) n.next ((a:Int)+1) ⟨t.p.set a par,t.d.set a dep,t.l⟩ ⟨by simp[h.p],by simp[h.d],h.l⟩;dsimp only;split
   ·exact hk
   ·exact⟨hk.p,hk.d,by simp[hk.l]⟩
theorem abI {rec:Nat→Tri→Int×Tri} {rec':Nat→Int→Int×Int} (h:∀ a t d,(rec a t).1=(rec' a d).1):∀ (cs:List Int) (next:Int) (t:Tri) (d:Int),(dK rec cs next t).1=(dJ rec' cs next d).1
 | [],_,_,_=>rfl
 | c :: cs,next,t,d=>by
  unfold dK dJ;rw[h _ t d];split
  ·rfl
  ·split
   ·rfl
   ·exact abI h cs _ _ _
theorem ug (nodes:List Nd):∀ (f a:Nat) (par dep:Int) (t:Tri) (d:Int),(bK nodes f a par dep t).1=(gy nodes f a dep d).1
 | 0,_,_,_,_,_=>rfl
 | f+1,a,par,dep,t,d=>by
  unfold bK gy;cases hn:nodes[a]? with
  | none=>rfl
  | some n =>
   have hk:=abI (rec:=fun a' t=>bK nodes f a' a (dep+1) t) (rec':=fun a' d=>gy nodes f a' (dep+1) d) (fun a' t d=>ug nodes f a' a (dep+1) t d) n.next ((a:Int)+1) ⟨t.p.set a par,t.d.set a dep,t.l⟩ (max d dep);dsimp only;rw[← hk];split <;> rfl
theorem mX (nodes:List Nd) (f a:Nat) (par dep:Int) (t:Tri):(bK nodes f a par dep t).1 = -1∨((a:Int) < (bK nodes f a par dep t).1∧(bK nodes f a par dep t).1≤nodes.length):=by
 rw[ug nodes f a par dep t 0];exact yG nodes f a dep 0
def kL (l:List Int):List Value:=l.map (Value.int .i64)
structure Bv (w:World) (p bp bd bl:Nat) (aA:Int) (A:Option Addr) (N c:Nat) (Ai:Option Addr) (ni ci:Nat) (t:Tri):Prop where
 head:Row w p 208 [.int .i64 aA,.slice A N c,.slice Ai ni ci,.slice (some ⟨bp,0,none⟩) N N,.slice (some ⟨bd,0,none⟩) N N,.slice (some ⟨bl,0,none⟩) N N]
 rp:Row w bp 3 (kL t.p)
 rd:Row w bd 3 (kL t.d)
 rl:Row w bl 3 (kL t.l)
def DI (v:Value) (b o N c a:Nat):Prop:=∃ A',v = .slice A' (N - a) (c - a)∧(a < N→A'=some ⟨b,o+6*a,none⟩)
theorem ag0 (g:Gm) (hsm:Small g) (p bp bd bl:Nat) (b o c:Nat) (Ai:Option Addr) (ci:Nat) (hd:p≠bp∧p≠bd∧p≠bl∧bp≠bd∧bp≠bl∧bd≠bl) (hc:g.nodes.length≤c)
  (F:Foot) (hF:∀ k,F k→k≠bp∧k≠bd∧k≠bl):∀ (f a:Nat) (par dep:Int) (t:Tri) (w:World) (u:Value),DI u b o g.nodes.length c a→Tri.Len g.nodes.length t →
  (a < g.nodes.length→Bl w F (.slice (some ⟨b,o,none⟩) g.nodes.length c) g.nodes)→Bv w p bp bd bl g.aA (some ⟨b,o,none⟩) g.nodes.length c Ai g.infos.length ci t→a≤g.nodes.length→g.nodes.length < a+f→0≤dep→dep+f≤100000 →
  Calls Tryz.prog 163 #[.pointer (some ⟨p,0,none⟩),.int .i64 par,.int .i64 dep,u] w fun e w'=>∃ vr,e = .returned (.tuple #[vr,.bool (decide (0≤(bK g.nodes f a par dep t).1))]) ∧
   (0≤(bK g.nodes f a par dep t).1→DI vr b o g.nodes.length c (bK g.nodes f a par dep t).1.toNat)∧Bv w' p bp bd bl g.aA (some ⟨b,o,none⟩) g.nodes.length c Ai g.infos.length ci (bK g.nodes f a par dep t).2∧Wrote (fun k=>k=bp∨k=bd∨k=bl) w w':=by
 intro f;induction f with
 | zero=>intro a par dep t w u hu ht hn hw ha hf hd0 hd1; omega
 | succ f ih =>
  intro a par dep t w u hu ht hn hw ha hf hd0 hd1;obtain⟨A',rfl,hA⟩:=hu;have IH:=Ag ih;clear ih;have hsn:=hsm.nodes;have HSM:=Ag hsm;clear hsm;have HFF:=Ag hF;clear hF;have HW:=Ag hw;clear hw;by_cases hlt:a < g.nodes.length
  ·have hz:((g.nodes.length - a:Nat):Int)≠0:=byOmega;have hz':(((g.nodes.length - a:Nat):Int)==0)=false:=aF;obtain rfl:=hA hlt;have HNA:=Ag (hn hlt);obtain⟨A'',c'',hev,_,hnn⟩:=hn hlt;injection hev with h1 h2 h3
   subst h1 h3;clear h2 hn;obtain⟨b',o',hbo,hFb,hbz,hcell⟩:=hnn byOmega;injection hbo with hbo
   injection hbo with h1 h2 h3
   subst h1 h2;clear h3 hnn hA;obtain⟨n,hn'⟩:=getSome hlt;obtain⟨v3,e3,A3,c3,rfl,hc3,i3⟩:=(hcell a n hn').c3;have HX:=Ag hn';have hl3:=HSM.out.next n (List.mem_of_getElem? hn');have H3:=Ag i3;clear i3 hcell hn';have x1:=HW.out.head.cell (i:=1) rfl;have x3:=HW.out.head.cell (i:=3) rfl;have x4:=HW.out.head.cell (i:=4) rfl;have hbF:=HFF.out b hFb;have sub1:((g.nodes.length:Int) - ((g.nodes.length - a:Nat):Int))=(a:Int):=byOmega;go_in;go_wp2_with fail
   refine wp_region_held_drew (S:=fun w'=>w'.cell? ⟨p,3,none⟩=some (.slice (some ⟨bp,0,none⟩) g.nodes.length g.nodes.length)∧w'.cell? ⟨p,4,none⟩=some (.slice (some ⟨bd,0,none⟩) g.nodes.length g.nodes.length)) ah ⟨x3,x4⟩ (fun hHeld=>?_);refine tkm [0,1,2,3,4,5,6,7,8,9,10,11,12] ?_;have fp:=HW.out.rp.frozen a;have fd:=HW.out.rd.frozen a;obtain⟨d1,d2,d3,d4,d5,d6⟩:=hd;obtain⟨yp,hyp⟩:=getSome (show a < t.p.length by rw[ht.p]; exact hlt);obtain⟨yd,hyd⟩:=getSome (show a < t.d.length by rw[ht.d]; exact hlt);have sp:w.cell? ⟨bp,a,none⟩=some (.int .i64 yp):=HW.out.rp.cell (by simp[kL,hyp]);have sd:w.cell? ⟨bd,a,none⟩=some (.int .i64 yd):=HW.out.rd.cell (by simp[kL,hyd]);clear hyp hyd;refine tk2 13 ah rfl fun K hK=>?_
   go_simp;refine hK.out _ _ ⟨(HW.out.head.other (a:=⟨bp,a,none⟩) d1 _).drew.cell rfl,(HW.out.head.other (a:=⟨bp,a,none⟩) d1 _).drew.cell rfl⟩ (fun hHeld=>?_);clear hK K;refine Zb ?_;refine tkm [14] ?_;refine tk2 15 ah rfl fun K hK=>?_
   go_simp;refine hK.out _ _ ⟨((HW.out.head.other (a:=⟨bp,a,none⟩) d1 _).other (a:=⟨bd,a,none⟩) d2 _).drew.cell rfl,((HW.out.head.other (a:=⟨bp,a,none⟩) d1 _).other (a:=⟨bd,a,none⟩) d2 _).drew.cell rfl⟩ (fun hHeld=>?_);clear hK K;refine Zb ?_;refine Yp ?_;obtain⟨W,agl⟩:∃ W:World,W=((w.setCell ⟨bp,a,none⟩ (.int .i64 par)).setCell ⟨bd,a,none⟩ (.int .i64 dep)).drew:=⟨_,rfl⟩;rw[← agl];have hWW:Wrote (fun k=>k=bp∨k=bd∨k=bl) w W:=by
    rw[agl];exact(((Wrote.refl _ _).setCell (.inl (.inl rfl)) _).setCell (.inl (.inr (.inl rfl))) _).drew
   have hWA:Bv W p bp bd bl g.aA (some ⟨b,o,none⟩) g.nodes.length c Ai g.infos.length ci ⟨t.p.set a par,t.d.set a dep,t.l⟩:=by
    have h:=HW.out;rw[agl];refine⟨((h.head.other d1 _).other d2 _).drew,?_,?_,?_⟩
    ·have:=((h.rp.set a (.int .i64 par)).other (a:=⟨bd,a,none⟩) d4 (.int .i64 dep)).drew;simpa [kL,List.map_set] using this
    ·have:=((h.rd.other (a:=⟨bp,a,none⟩) d4.symm (.int .i64 par)).set a (.int .i64 dep)).drew;simpa [kL,List.map_set] using this
    ·exact((h.rl.other (a:=⟨bp,a,none⟩) d5.symm _).other (a:=⟨bd,a,none⟩) d6.symm _).drew
   have HT:=Ag (show Tri.Len g.nodes.length ⟨t.p.set a par,t.d.set a dep,t.l⟩ from⟨by simp[ht.p],by simp[ht.d],ht.l⟩);have HR:=Ag (show bK g.nodes (f+1) a par dep t=if (dK (fun a' t=>bK g.nodes f a' a (dep+1) t) n.next ((a:Int)+1) ⟨t.p.set a par,t.d.set a dep,t.l⟩).1 < 0 then dK (fun a' t=>bK g.nodes f a' a (dep+1) t) n.next ((a:Int)+1) ⟨t.p.set a par,t.d.set a dep,t.l⟩
     else ((dK (fun a' t=>bK g.nodes f a' a (dep+1) t) n.next ((a:Int)+1) ⟨t.p.set a par,t.d.set a dep,t.l⟩).1,⟨(dK (fun a' t=>bK g.nodes f a' a (dep+1) t) n.next ((a:Int)+1) ⟨t.p.set a par,t.d.set a dep,t.l⟩).2.p,(dK (fun a' t=>bK g.nodes f a' a (dep+1) t) n.next ((a:Int)+1) ⟨t.p.set a par,t.d.set a dep,t.l⟩).2.d,(dK (fun a' t=>bK g.nodes f a' a (dep+1) t) n.next ((a:Int)+1) ⟨t.p.set a par,t.d.set a dep,t.l⟩).2.l.set a ((dK (fun a' t=>bK g.nodes f a' a (dep+1) t) n.next ((a:Int)+1) ⟨t.p.set a par,t.d.set a dep,t.l⟩).1 - 1)⟩) by
    rw[bK,HX.out])
   clear hHeld sp sd fp fd x1 x3 x4 ht HW agl;generalize (⟨t.p.set a par,t.d.set a dep,t.l⟩:Tri)=t0 at *;have x1:=hWA.head.cell (i:=1) rfl;have hold:=hWW.cell;have e3':W.cell? ⟨b,o+6*a+3,none⟩=some (.slice A3 n.next.length c3):=by
    rw[hold b _ hbz (by rintro(h | h | h) <;> simp_all)];rw[← e3];congr 2;omega
   clear hold;go_wp2_with fail
   ·go_loopw [11,48] (fun rs i wr=>∃ (j nx:Nat) (t':Tri),j≤n.next.length∧i = .int .i64 j∧DI rs b o g.nodes.length c nx∧a < nx∧nx≤g.nodes.length∧Tri.Len g.nodes.length t'∧Bv wr p bp bd bl g.aA (some ⟨b,o,none⟩) g.nodes.length c Ai g.infos.length ci t'∧Wrote (fun k=>k=bp∨k=bd∨k=bl) w wr∧dK (fun a' t=>bK g.nodes f a' a (dep+1) t) n.next ((a:Int)+1) t0=dK (fun a' t=>bK g.nodes f a' a (dep+1) t) (n.next.drop j) (nx:Int) t') (fun _ i _=>n.next.length - (intOf i).toNat)
    case atStart=>exact⟨0,a+1,t0,byOmega,rfl,⟨_,by congr 1 <;> omega,fun hq=>by omega⟩,byOmega,byOmega,HT.out,hWA,hWW,rfl⟩
    case round =>
     obtain⟨j,nx,t',hj,rfl,⟨A',rfl,hA'⟩,hnx0,hnx1,hlen,hwa,hgr,hval⟩:=hrel;have HV:=Ag hval;clear hval;have HWA:=Ag hwa;clear hwa;clear x1 e3';have x1:=HWA.out.head.cell (i:=1) rfl;have x5:=HWA.out.head.cell (i:=5) rfl;have sub2:((g.nodes.length:Int) - ((g.nodes.length - nx:Nat):Int))=(nx:Int):=byOmega;by_cases hjt:j < n.next.length
     ·obtain⟨ch,hch⟩:=getSome hjt;obtain⟨b3,o3,rfl,hb3,akF,hx3⟩:=H3.out byOmega;have hb3F:=HFF.out b3 hb3;have ec:=hx3 j ch hch;unfold o7 at ec;refine za8 ?_;clear ec;intro ec HD;clear hch hx3;by_cases hne:ch=nx
      ·subst hne;have hnn:((nx:Int) != (nx:Int))=false:=aB;have hbd2:=mX g.nodes f nx a (dep+1) t';have hlen2:=kK (N:=g.nodes.length) g.nodes f nx a (dep+1) t' hlen;have HV2:=Ag (show dK (fun a' t=>bK g.nodes f a' a (dep+1) t) n.next ((a:Int)+1) t0=if (bK g.nodes f nx a (dep+1) t').1 < 0 then (-1,(bK g.nodes f nx a (dep+1) t').2) else dK (fun a' t=>bK g.nodes f a' a (dep+1) t) (n.next.drop (j+1)) (bK g.nodes f nx a (dep+1) t').1 (bK g.nodes f nx a (dep+1) t').2 by
        rw[HV.out,HD.out]; simp[dK])
       have HBD:=Ag hbd2;clear hbd2;have HLN:=Ag hlen2;clear hlen2;go_wp2_with fail
       refine(IH.out nx a (dep+1) t' wr _ ⟨A',rfl,hA'⟩ hlen (fun _=>HNA.out.on (hgr.same (fun k hk hq=>by have:=HFF.out k hk; rcases hq with h | h | h <;> simp_all))) HWA.out hnx1 byOmega byOmega byOmega).mono ?_;rintro e w' ⟨vr,rfl,hrest,afj,lg⟩;have hgg:=hgr.trans lg;have hbb:=HBD.out;have hln:=HLN.out;generalize bK g.nodes f nx a (dep+1) t'=rr at *;obtain⟨rn,rd⟩:=rr;dsimp only at hrest afj hbb hln HV2 ⊢;clear HBD HLN x1 x5 hgr lg HWA ec;by_cases hng:rn < 0
       ·refine zcw ?_;intro HF hdn;go_wp2
        go_ret2;exact zcg
       ·have hdn:decide (0≤rn)=true:=decide_eq_true byOmega;obtain⟨q,rfl⟩:=Int.eq_ofNat_of_zero_le (show 0≤rn by omega);have HRS:=Ag (hrest byOmega);clear hrest;go_wp2
        go_roundw
        case rel=>exact⟨j+1,q,rd,byOmega,by go_num,by simpa using HRS.out,byOmega,byOmega,hln,afj,hgg,by rw[HV2.out,if_neg hng]⟩
        case measure=>simp[intOf]; omega
      ·have hdd:(ch != (nx:Int))=true:=by simp[hne]
       have HF:=Ag (show bK g.nodes (f+1) a par dep t=(-1,t') by rw[HR.out,HV.out,HD.out]; simp[dK,hne]);clear hne;go_wp2
       go_ret2;exact zb7
     ·have HF:=Ag (show bK g.nodes (f+1) a par dep t=((nx:Int),⟨t'.p,t'.d,t'.l.set a ((nx:Int) - 1)⟩) by
       rw[HR.out,HV.out,List.drop_eq_nil_of_le byOmega,if_neg (by simp only[dK]; omega)]; rfl)
      go_wp2_with fail
      refine YB ?_;intro wr0 wr2 hHeld;refine tkm [0,1,2,3,4,5,6,7,8,9,10,11,12,13,14,15] ?_;refine zbf ?_;intro fl yl sl K hK;go_simp;refine zax ?_;clear hK K;go_wp2
      go_ret2;refine YI ?_;intro h this;simpa [kL,List.map_set,wr0,wr2] using this
   ·go_loopw [11,48] (fun rs i wr=>∃ (j nx:Nat) (t':Tri),j≤n.next.length∧i = .int .i64 j∧DI rs b o g.nodes.length c nx∧a < nx∧nx≤g.nodes.length∧Tri.Len g.nodes.length t'∧Bv wr p bp bd bl g.aA (some ⟨b,o,none⟩) g.nodes.length c Ai g.infos.length ci t'∧Wrote (fun k=>k=bp∨k=bd∨k=bl) w wr∧dK (fun a' t=>bK g.nodes f a' a (dep+1) t) n.next ((a:Int)+1) t0=dK (fun a' t=>bK g.nodes f a' a (dep+1) t) (n.next.drop j) (nx:Int) t') (fun _ i _=>n.next.length - (intOf i).toNat)
    case atStart=>exact⟨0,a+1,t0,byOmega,rfl,⟨_,by congr 1 <;> omega,fun hq=>by congr 2 <;> omega⟩,byOmega,byOmega,HT.out,hWA,hWW,rfl⟩
    case round =>
     obtain⟨j,nx,t',hj,rfl,⟨A',rfl,hA'⟩,hnx0,hnx1,hlen,hwa,hgr,hval⟩:=hrel;have HV:=Ag hval;clear hval;have HWA:=Ag hwa;clear hwa;clear x1 e3';have x1:=HWA.out.head.cell (i:=1) rfl;have x5:=HWA.out.head.cell (i:=5) rfl;have sub2:((g.nodes.length:Int) - ((g.nodes.length - nx:Nat):Int))=(nx:Int):=byOmega;by_cases hjt:j < n.next.length
     ·obtain⟨ch,hch⟩:=getSome hjt;obtain⟨b3,o3,rfl,hb3,akF,hx3⟩:=H3.out byOmega;have hb3F:=HFF.out b3 hb3;have ec:=hx3 j ch hch;unfold o7 at ec;refine za8 ?_;clear ec;intro ec HD;clear hch hx3;by_cases hne:ch=nx
      ·subst hne;have hnn:((nx:Int) != (nx:Int))=false:=aB;have hbd2:=mX g.nodes f nx a (dep+1) t';have hlen2:=kK (N:=g.nodes.length) g.nodes f nx a (dep+1) t' hlen;have HV2:=Ag (show dK (fun a' t=>bK g.nodes f a' a (dep+1) t) n.next ((a:Int)+1) t0=if (bK g.nodes f nx a (dep+1) t').1 < 0 then (-1,(bK g.nodes f nx a (dep+1) t').2) else dK (fun a' t=>bK g.nodes f a' a (dep+1) t) (n.next.drop (j+1)) (bK g.nodes f nx a (dep+1) t').1 (bK g.nodes f nx a (dep+1) t').2 by
        rw[HV.out,HD.out]; simp[dK])
       have HBD:=Ag hbd2;clear hbd2;have HLN:=Ag hlen2;clear hlen2;go_wp2_with fail
       refine(IH.out nx a (dep+1) t' wr _ ⟨A',rfl,hA'⟩ hlen (fun _=>HNA.out.on (hgr.same (fun k hk hq=>by have:=HFF.out k hk; rcases hq with h | h | h <;> simp_all))) HWA.out hnx1 byOmega byOmega byOmega).mono ?_;rintro e w' ⟨vr,rfl,hrest,afj,lg⟩;have hgg:=hgr.trans lg;have hbb:=HBD.out;have hln:=HLN.out;generalize bK g.nodes f nx a (dep+1) t'=rr at *;obtain⟨rn,rd⟩:=rr;dsimp only at hrest afj hbb hln HV2 ⊢;clear HBD HLN x1 x5 hgr lg HWA ec;by_cases hng:rn < 0
       ·refine zcw ?_;intro HF hdn;go_wp2
        go_ret2;exact zcg
       ·have hdn:decide (0≤rn)=true:=decide_eq_true byOmega;obtain⟨q,rfl⟩:=Int.eq_ofNat_of_zero_le (show 0≤rn by omega);have HRS:=Ag (hrest byOmega);clear hrest;go_wp2
        go_roundw
        case rel=>exact⟨j+1,q,rd,byOmega,by go_num,by simpa using HRS.out,byOmega,byOmega,hln,afj,hgg,by rw[HV2.out,if_neg hng]⟩
        case measure=>simp[intOf]; omega
      ·have hdd:(ch != (nx:Int))=true:=by simp[hne]
       have HF:=Ag (show bK g.nodes (f+1) a par dep t=(-1,t') by rw[HR.out,HV.out,HD.out]; simp[dK,hne]);clear hne;go_wp2
       go_ret2;exact zb7
     ·have HF:=Ag (show bK g.nodes (f+1) a par dep t=((nx:Int),⟨t'.p,t'.d,t'.l.set a ((nx:Int) - 1)⟩) by
       rw[HR.out,HV.out,List.drop_eq_nil_of_le byOmega,if_neg (by simp only[dK]; omega)]; rfl)
      go_wp2_with fail
      refine YB ?_;intro wr0 wr2 hHeld;refine tkm [0,1,2,3,4,5,6,7,8,9,10,11,12,13,14,15] ?_;refine zbf ?_;intro fl yl sl K hK;go_simp;refine zax ?_;clear hK K;go_wp2
      go_ret2;refine YI ?_;intro h this;simpa [kL,List.map_set,wr0,wr2] using this
  ·have hz:(((g.nodes.length - a:Nat):Int)==0)=true:=aF;have HF:=Ag (show bK g.nodes (f+1) a par dep t=(-1,t) by
    rw[bK]; rw[List.getElem?_eq_none byOmega])
   clear hA hn;go_in;go_wp2
   go_ret2;refine⟨_,by rw[HF.out]; rfl,by rw[HF.out]; intro h; simp at h,by rw[HF.out]; exact HW.out,Wrote.refl _ _⟩
def iC:List Nd→Nat→List Int→List Int
 | [],_,f=>f
 | x :: l,i,f=>if x.kind=2 then (iC l (i+1) f).set x.info.toNat ((i:Int)+1) else iC l (i+1) f
theorem iU:∀ (l:List Nd) (i:Nat) (f:List Int),(iC l i f).length=f.length
 | [],_,_=>rfl
 | x :: l,i,f=>by
  unfold iC;split
  ·simp[iU l]
  ·exact iU l _ _
theorem wI {l:List Nd} {k:Nat} {x:Nd} (h:l[k]? = some x) (i:Nat) (f:List Int):iC (l.drop k) i f=if x.kind=2 then (iC (l.drop (k+1)) (i+1) f).set x.info.toNat ((i:Int)+1) else iC (l.drop (k+1)) (i+1) f:=by
 exact zbX
def fK (g:Gm):List Int:=iC g.nodes 0 (List.replicate g.infos.length 0)
def iI (g:Gm):Int:=if qM g then 10 else if (fK g).contains 0 then 18 else if gG (fK g) then 0 else 9
theorem ag1 (w:World) (F:Foot) (p:Nat) (g:Gm) (A Ai:Option Addr) (c ci:Nat) (h1:w.cell? ⟨p,1,none⟩=some (.slice A g.nodes.length c)) (h2:w.cell? ⟨p,2,none⟩=some (.slice Ai g.infos.length ci)) (hp:p < w.heap.size)
  (hn:Bl w F (.slice A g.nodes.length c) g.nodes) (hi:Bh w F (.slice Ai g.infos.length ci) g.infos) (hsm:Small g) (hin:BI g) (h0:0 < g.nodes.length) :
  Calls Tryz.prog 165 #[.pointer (some ⟨p,0,none⟩)] w (Ret w fun v _=>v = .int .i64 (iI g)):=by
 have hsn:=hsm.nodes;have hsi:=hsm.infos;have HS:=Ag hsm;clear hsm;have HIN:=Ag hin;clear hin;obtain⟨A',c',he,_,hN⟩:=hn;injection he with e1 e2 e3
 subst e1 e3;clear e2;obtain⟨b,o,rfl,hbF,hb,hcell⟩:=hN h0;clear hN;have HN:=Ag hcell;clear hcell;obtain⟨A',c',he,_,hI⟩:=hi;injection he with e1 e2 e3
 subst e1 e3;clear e2;have HI:=Ag hI;clear hI;have hsub:((g.nodes.length:Int) - 1)=((g.nodes.length - 1:Nat):Int):=byOmega;go_in;go_wp2_with (at_make; refine dQ _ rfl _ _ 22 rfl 3 (.int .i64 0) 8 Tryz.underlying22 Tryz.infoInt rfl g.infos.length rfl rfl byOmega byOmega ?_; intro w1 hb1 hz1 hrow1; have x1:=(aQ hb1 p 1 hp).trans h1; have x2:=(aQ hb1 p 2 hp).trans h2)
 go_loopw [4] (fun i wr=>∃ k:Nat,k≤g.nodes.length∧i = .int .i64 ((k:Int) - 1)∧Row wr w.heap.size 3 (kL (iC (g.nodes.drop k) k (List.replicate g.infos.length 0)))∧Below w.heap.size w wr) (fun i _=>(intOf i+1).toNat)
 case atStart =>
  refine⟨g.nodes.length,byOmega,by rw[← hsub],?_,hb1⟩;simpa [iC,kL] using hrow1
 case round =>
  clear hb1 hz1 hrow1 x1 x2 w1;obtain⟨k,hk,rfl,hrow,hbel⟩:=hrel;have x1:=(aQ hbel p 1 hp).trans h1;have x2:=(aQ hbel p 2 hp).trans h2;have hlr:=hrow.lt;by_cases hlt:0 < k
  ·obtain⟨q,rfl⟩:∃ q,k=q+1:=⟨k - 1,byOmega⟩;have i1:(((q+1:Nat):Int) - 1)=(q:Int):=byOmega;rw[i1];clear i1;obtain⟨n,hn'⟩:=getSome (l:=g.nodes) (k:=q) byOmega;obtain⟨e0,e1,e2,⟨v3,e3,A3,c3,rfl,hc3,i3⟩,⟨v4,e4,A4,c4,rfl,hc4,i4⟩,⟨v5,e5,A5,c5,rfl,hc5,i5⟩⟩:=HN.out q n hn';clear i3 i4 i5;have hold:=aQ hbel;have HFD:=Ag (wI hn' q (List.replicate g.infos.length 0));have HM:=Ag (List.mem_of_getElem? hn');clear hn';have hqn:q < g.nodes.length:=byOmega;by_cases hkd:n.kind=2
   ·obtain⟨hin0,hin1⟩:=HIN.out n HM.out hkd;have hd:(n.kind==2)=true:=by simp[hkd]
    have HF2:=Ag (show iC (g.nodes.drop q) q (List.replicate g.infos.length 0)=(iC (g.nodes.drop (q+1)) (q+1) (List.replicate g.infos.length 0)).set n.info.toNat ((q:Int)+1) by rw[HFD.out,if_pos hkd]);clear hkd;have hfl:=iU (g.nodes.drop (q+1)) (q+1) (List.replicate g.infos.length 0);rw[List.length_replicate] at hfl;generalize iC (g.nodes.drop (q+1)) (q+1) (List.replicate g.infos.length 0)=fs at *;obtain⟨y,hy⟩:=getSome (l:=fs) (k:=n.info.toNat) byOmega;have rc:=hrow.cell (i:=n.info.toNat) (v:=.int .i64 y) (by simp[kL,hy]);have fc:=hrow.frozen n.info.toNat;clear hy;have HFL:=Ag hfl;clear hfl;go_wp2
    go_roundw
    case rel =>
     refine⟨q,byOmega,rfl,?_,(hbel.setCell (Nat.le_refl _) _).alloc (by simpa using hbel.size) _⟩;rw[HF2.out];have:=(hrow.set n.info.toNat (.int .i64 ((q:Int)+1))).alloc (.cells #[.int .i64 n.kind,.int .i64 n.aC,.int .i64 n.info,.slice A3 n.next.length c3,.slice A4 n.weights.length c4,.slice A5 n.pay.length c5] 127);simpa [kL,List.map_set] using this
    case measure=>simp[intOf] <;> omega
   ·have hd:(n.kind==2)=false:=by simp[hkd]
    have HF2:=Ag (show iC (g.nodes.drop q) q (List.replicate g.infos.length 0)=iC (g.nodes.drop (q+1)) (q+1) (List.replicate g.infos.length 0) by rw[HFD.out,if_neg hkd]);clear hkd;go_wp2
    go_roundw
    case rel=>exact⟨q,byOmega,rfl,by rw[HF2.out]; exact hrow.alloc _,hbel.alloc hbel.size _⟩
    case measure=>simp[intOf] <;> omega
  ·obtain rfl:k=0:=byOmega;have hfs:iC (g.nodes.drop 0) 0 (List.replicate g.infos.length 0)=fK g:=by simp[fK]
   rw[hfs] at hrow;clear hfs;go_wp2
   go_loopw [49] (fun i wr'=>∃ k:Nat,k≤g.nodes.length∧i = .int .i64 k∧Row wr' w.heap.size 3 (kL (fK g))∧Below w.heap.size w wr'∧(g.nodes.take k).any (gB g.infos)=false) (fun i _=>g.nodes.length - (intOf i).toNat)
   case atStart=>exact⟨0,byOmega,rfl,hrow,hbel,aB⟩
   case round =>
    clear hrow hbel x1 x2 hlr;obtain⟨k,hk,rfl,hrow,hbel,hpre⟩:=hrel;have HP:=Ag hpre;clear hpre;have x2:=(aQ hbel p 2 hp).trans h2;have hlr:=hrow.lt;have hold:=aQ hbel;by_cases hlt:k < g.nodes.length
    ·obtain⟨n,hn'⟩:=getSome hlt;obtain⟨e0,e1,e2,⟨v3,e3,A3,c3,rfl,hc3,i3⟩,⟨v4,e4,A4,c4,rfl,hc4,i4⟩,⟨v5,e5,A5,c5,rfl,hc5,i5⟩⟩:=HN.out k n hn';clear i3 i4 i5;have HX:=Ag hn';have HM:=Ag (List.mem_of_getElem? hn');clear hn';by_cases hkd:n.kind=2
     ·obtain⟨hin0,hin1⟩:=HIN.out n HM.out hkd;have hd:(n.kind==2)=true:=by simp[hkd]
      obtain⟨bi,oi,rfl,hbiF,hbi,hic⟩:=HI.out byOmega;obtain⟨inf,gU⟩:=getSome (l:=g.infos) (k:=n.info.toNat) byOmega;obtain⟨f0,f1⟩:=hic n.info.toNat inf gU;have HTB:=Ag (show gB g.infos n=(decide (inf.aC≠n.aC)||decide (inf.actions≠(n.next.length:Int))) by unfold gB; simp[hkd,gU,List.getD_eq_getElem?_getD]);clear hkd hic gU;have hpw:p < wr.heap.size:=Nat.lt_of_lt_of_le hp hbel.size;have hbiw:bi < wr.heap.size:=Nat.lt_of_lt_of_le hbi hbel.size;by_cases t1:inf.aC=n.aC
      ·by_cases t2:inf.actions=(n.next.length:Int)
       ·have HT:=Ag (show gB g.infos n=false by rw[HTB.out]; simp[t1,t2]);have t1':(inf.aC==n.aC)=true:=by simp[t1]
        have t2':(inf.actions==(n.next.length:Int))=true:=by simp[t2]
        clear t1 t2;go_wp2
        go_quiet (fail)
        go_wp2
        go_roundw
        case rel=>exact⟨k+1,byOmega,by go_num,(hrow.alloc _).dN _,aI (hbel.alloc hbel.size _) _,aae HX.out HP.out HT.out⟩
        case measure=>simp[intOf]; omega
       ·have HF:=Ag (show iI g=10 by
         unfold iI; rw[if_pos]; unfold qM; rw[List.any_eq_true]; exact⟨n,HM.out,by rw[HTB.out]; simp[t2]⟩)
        have t1':(inf.aC==n.aC)=true:=by simp[t1]
        have t2':(inf.actions==(n.next.length:Int))=false:=by simp[t2]
        clear t1 t2;exact zbV
      ·have HF:=Ag (show iI g=10 by
        unfold iI; rw[if_pos]; unfold qM; rw[List.any_eq_true]; exact⟨n,HM.out,by rw[HTB.out]; simp[t1]⟩)
       have t1':(inf.aC==n.aC)=false:=by simp[t1]
       clear t1;exact zbV
     ·have hd:(n.kind==2)=false:=by simp[hkd]
      have HTB:=Ag (show gB g.infos n=false by unfold gB; simp[hkd]);clear hkd;go_wp2
      go_quiet (fail)
      go_wp2
      go_roundw
      case rel=>exact⟨k+1,byOmega,by go_num,(hrow.alloc _).dN _,aI (hbel.alloc hbel.size _) _,aae HX.out HP.out HTB.out⟩
      case measure=>simp[intOf]; omega
    ·have HT:=Ag (show qM g=false by
      have:=HP.out; rw[List.take_of_length_le byOmega] at this; exact this)
     have hfl:(fK g).length=g.infos.length:=by unfold fK;rw[iU];simp
     have HI2:=Ag (show AA wr (fun k=>k=w.heap.size) (.slice (some ⟨w.heap.size,0,none⟩) g.infos.length g.infos.length) (fK g) by
      have:=Row.ints (F:=fun k=>k=w.heap.size) hrow rfl (c:=g.infos.length) byOmega;rwa [hfl] at this)
     go_wp2_with fail
     refine(acs _ _ _ _ 0 HI2.out byOmega).mono ?_;rintro e w2 ⟨rfl,rfl⟩;have HFF:=Ag (show iI g=if (fK g).contains 0 then 18 else if gG (fK g) then 0 else 9 by unfold iI; rw[HT.out]; rfl);generalize hco:(fK g).contains 0=co at *;dsimp only;cases co
     ·go_wp2_with fail
      refine(acu _ _ _ _ HI2.out byOmega).mono ?_;rintro e w2 ⟨_,rfl,hb2,rfl⟩;generalize hso:gG (fK g)=so at *;dsimp only;cases so
      ·go_wp2
       go_ret;exact⟨_,rfl,hbel.trans (hb2.mono hbel.size),by rw[HFF.out]; rfl⟩
      ·go_wp2
       go_ret;exact⟨_,rfl,hbel.trans (hb2.mono hbel.size),by rw[HFF.out]; rfl⟩
     ·go_wp2
      go_ret;exact⟨_,rfl,hbel,by rw[HFF.out]; rfl⟩
end Go.Proofs.YtnmeejofpkhlkaaGreatDoor
