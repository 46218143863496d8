/- subgame.view.closure: what is inside the least roots of a node -/
import Derived.Test.YthmklhapjegfdaaGreatDoorV28
import Derived.Test.YthmklhapjegfdaaGreatDoorV30
import Derived.Deep.LoopGhost
set_option linter.all false
set_option maxRecDepth 100000
set_option maxHeartbeats 12800000
namespace Go.Proofs.YthmklhapjegfdaaGreatDoor
open Lib renaming hid → Ac
open List renaming getElem_toArray → lq1, getElem_cons_zero → lq2, getElem_cons_succ → lq3, setIfInBounds_toArray → lq4, set_cons_zero → lq5, set_cons_succ → lq6
open Go.RowKit
def kT (nodes:List Nd) (last:List Int) (sets:List (List Int)):Nat→Cl→Cl
 | 0,s=>s
 | f+1,s=>match s.q with
  | []=>s
  | x :: q=>kT nodes last sets f ((sets.getD x.toNat []).foldl (lK nodes last) ⟨s.inn,s.fnd,q⟩)
def kN (nodes:List Nd) (last:List Int) (sets:List (List Int)) (ni:Nat) (node:Int):List Bool :=
 (kT nodes last sets ni (lK nodes last ⟨List.replicate nodes.length false,List.replicate ni false,[]⟩ node)).inn
def Cl.left (ni:Nat) (s:Cl):Nat:=s.q.length+(ni - s.fnd.countP id)
theorem aeQ {nodes:List Nd} {last:List Int} {sets:List (List Int)} {f:Nat} {s:Cl} (h:s.q = []):kT nodes last sets f s=s:=by
 cases f with
 | zero=>rfl
 | succ f=>rw[kT,h]
theorem adh {nodes:List Nd} {last:List Int} {sets:List (List Int)} {f:Nat} {s:Cl} {x:Int} {q:List Int} (h:s.q=x :: q):kT nodes last sets (f+1) s=kT nodes last sets f ((sets.getD x.toNat []).foldl (lK nodes last) ⟨s.inn,s.fnd,q⟩):=by
 rw[kT,h]
theorem agv {N ni:Nat} {s:Cl} (h:Cl.Ok N ni s) {nodes:List Nd} (hin:∀ n∈nodes,n.kind=2→0≤n.info∧n.info < (ni:Int)) (i:Nat):(putAt nodes s i).left ni=s.left ni:=by
 unfold putAt;split
 ·rename_i n hn
  split
  ·rename_i hc
   have hb:=hin n (List.mem_of_getElem? hn) hc.1;have hf:s.fnd[n.info.toNat]? = some false:=by
    obtain⟨b,hb'⟩:=aC (l:=s.fnd) (k:=n.info.toNat) (by rw[h.fnd]; omega);have:=hc.2;simp[List.getD_eq_getElem?_getD,hb'] at this;rw[hb',this]
   have h1:=aeO hf;have h2:=h.fnd;unfold Cl.left;simp only[List.length_append,List.length_cons,List.length_nil];rw[count_set hf];omega
  ·rfl
 ·rfl
theorem acp {N ni:Nat} {s:Cl} (h:Cl.Ok N ni s) {nodes:List Nd} (hin:∀ n∈nodes,n.kind=2→0≤n.info∧n.info < (ni:Int)) (last:List Int) (r:Int):(lK nodes last s r).left ni=s.left ni:=by
 unfold lK;split
 ·rfl
 ·generalize (last.getD r.toNat 0+1 - r).toNat=j;induction j with
  | zero=>rfl
  | succ j ih =>
   show(putAt nodes (nN nodes s r.toNat j) (r.toNat+j)).left ni=_;rw[agv (h.nN hin _ _) hin,ih]
theorem yM {N ni:Nat} {nodes:List Nd} (hin:∀ n∈nodes,n.kind=2→0≤n.info∧n.info < (ni:Int)) (last:List Int):∀ (l:List Int) (s:Cl),Cl.Ok N ni s→Cl.Ok N ni (l.foldl (lK nodes last) s)∧(l.foldl (lK nodes last) s).left ni=s.left ni
 | [],s,h=>⟨h,rfl⟩
 | x :: l,s,h=>by
  obtain⟨h1,h2⟩:=yM hin last l (lK nodes last s x) (h.lK hin last x);exact⟨h1,by rw[List.foldl_cons,h2,acp h hin]⟩
theorem Cl.Ok.pop {N ni:Nat} {s:Cl} {x:Int} {q:List Int} (h:Cl.Ok N ni s) (hq:s.q=x :: q):Cl.Ok N ni ⟨s.inn,s.fnd,q⟩∧0≤x∧x < (ni:Int)∧Cl.left ni ⟨s.inn,s.fnd,q⟩+1=s.left ni:=by
 have h1:=h.few;rw[hq] at h1;refine⟨⟨h.inn,h.fnd,?_,fun y hy=>h.q y (by rw[hq]; exact List.mem_cons_of_mem _ hy)⟩,(h.q x (by rw[hq]; simp)).1,(h.q x (by rw[hq]; simp)).2,?_⟩
 ·simp at h1;simp;omega
 ·unfold Cl.left;rw[hq];simp;omega
theorem Cl.Ok.start (N ni:Nat):Cl.Ok N ni ⟨List.replicate N false,List.replicate ni false,[]⟩:=⟨ay,ay,ay,ay⟩
theorem ajG:∃ i,Tryz.prog.info? 3=some i∧i.bytes=8:=by
 have h:(Tryz.prog.info? 3).map (·.bytes)=some 8:=ak;obtain⟨i,hi,hb⟩:=Option.map_eq_some_iff.1 h;exact⟨i,hi,hb⟩
theorem adi (n:Nat) (hn:n≤1000) (w:World):(Instr.makeChan 195 (.int .i64 n)).run Tryz.prog w = .ok (.chan (some w.heap.size)) (w.alloc (.chan n #[] false 0 0 false)):=by
 obtain⟨i,hi,hb⟩:=ajG;exact Go.Conc.run_makeChan (P:=Tryz.prog) (w:=w) Tryz.underlying195 hi .i64 n byOmega (by rw[hb]; omega)
def fA (B n m:Nat):Says where
 uses i:=match i with | 11=>[9,4] | _=>[]
 F i l:=match i with
  | 4=>Hold.made B 4 n (List.replicate n (.bool false)) (l.getD 0 undef)
  | 8=>Hold.made B 4 m (List.replicate m (.bool false)) (l.getD 0 undef)
  | 9=>Hold.box B 70 (l.getD 0 undef)
  | 10=>Hold.box B 70 (l.getD 0 undef)
  | 11=>Hold.boxed B 70 (l.getD 1 undef) (l.getD 2 undef)
  | _=>Hold.tt
 cu:=[11]
 G j l w w':=match j with | 11=>∃ b,l.getD 1 undef = .pointer (some ⟨b,0,none⟩)∧w'=w.setCell ⟨b,0,none⟩ (l.getD 2 undef) | _=>False
 mks:=[4,8,9,10]
theorem aia (B n m:Nat):∀ k∈(fA B n m).mks,∀ e w,(fA B n m).R k e w→∀ b,nH (e k)=some b→b < w.heap.size:=by
 intro k hk e w h;simp only[fA,List.mem_cons,List.not_mem_nil,or_false] at hk;rcases hk with rfl | rfl | rfl | rfl
 ·exact pX (show(Hold.made B 4 n (List.replicate n (.bool false)) (e 4)).p w from h)
 ·exact pX (show(Hold.made B 4 m (List.replicate m (.bool false)) (e 8)).p w from h)
 ·exact aje (show(Hold.box B 70 (e 9)).p w from h)
 ·exact aje (show(Hold.box B 70 (e 10)).p w from h)
theorem adk {B n m x:Nat} {u v:Value} {w0:World} (j:Nat) (hj:j∈(fA B n m).cu) {E:List Nat} {e:Nat→Value} {w w':World} (hE:∀ k∈E,k∈[4,8,9,10,11]) (hu:∀ k∈(fA B n m).uses j,k∈E) (hnE:j ∉ E)
  (hf:∀ i∈E,(fA B n m).R i e w) (hA:(fA B n m).Apart E e) (hS:((Hold.cell x 1 u).and ((Hold.cell x 5 v).and (Hold.below B w0))).p w) (hx:x < B) (hG:(fA B n m).G j ((j :: (fA B n m).uses j).map e) w w') :
  ((Hold.cell x 1 u).and ((Hold.cell x 5 v).and (Hold.below B w0))).p w'∧∀ i∈E,(fA B n m).R i e w':=by
 simp only[fA,List.mem_cons,List.not_mem_nil,or_false] at hj;subst hj;obtain⟨b,hb,rfl⟩:∃ b,e 9 = .pointer (some ⟨b,0,none⟩)∧w'=w.setCell ⟨b,0,none⟩ (e 4):=hG;have h9:=hu 9 (by simp[fA]);obtain⟨b',y,hb',hBb,r9⟩:(Hold.box B 70 (e 9)).p w:=hf 9 h9;rw[hb] at hb';cases hb';have alA:nH (e 9)=some b:=by rw[hb];rfl
 obtain⟨s1,s2,s3,s4⟩:=hS;refine⟨⟨?_,?_,?_,?_⟩,fun i hi=>?_⟩
 ·exact(World.cell?_of_block (Below.heap_setCell _ _ _ _ (show x≠b by omega))).trans s1
 ·exact(World.cell?_of_block (Below.heap_setCell _ _ _ _ (show x≠b by omega))).trans s2
 ·simpa using s3
 ·exact s4.setCell (p:=⟨b,0,none⟩) hBb _
 ·have hi':=hE i hi;simp only[List.mem_cons,List.not_mem_nil,or_false] at hi';rcases hi' with rfl | rfl | rfl | rfl | rfl
  ·obtain⟨c,h1,h2,h3⟩:(Hold.made B 4 n (List.replicate n (.bool false)) (e 4)).p w:=hf 4 hi;have hne:=jM hA hi h9 (by simp[fA]) (by simp[fA]) aA (show nH (e 4)=some c by rw[h1]; rfl) alA;exact⟨c,h1,h2,h3.other (a:=⟨b,0,none⟩) hne _⟩
  ·obtain⟨c,h1,h2,h3⟩:(Hold.made B 4 m (List.replicate m (.bool false)) (e 8)).p w:=hf 8 hi;have hne:=jM hA hi h9 (by simp[fA]) (by simp[fA]) aA (show nH (e 8)=some c by rw[h1]; rfl) alA;exact⟨c,h1,h2,h3.other (a:=⟨b,0,none⟩) hne _⟩
  ·exact⟨b,e 4,hb,hBb,r9.set 0 _⟩
  ·obtain⟨c,y',h1,h2,h3⟩:(Hold.box B 70 (e 10)).p w:=hf 10 hi;have hne:=jM hA hi h9 (by simp[fA]) (by simp[fA]) aA (show nH (e 10)=some c by rw[h1]; rfl) alA;exact⟨c,y',h1,h2,h3.other (a:=⟨b,0,none⟩) hne _⟩
  ·exact absurd hi hnE
theorem aeR (w:World) (F:Ag) (u:Value) (r:Int) (g:Gm) (par last:List Int) (sets:List (List Int)) (hv:Bz w F u g par last sets) (hin:Bg g) (hN:g.nodes.length≤1000) (hni:g.infos.length≤1000)
  (hll:last.length=g.nodes.length) (hla:∀ x∈last,x < (g.nodes.length:Int)) (hsl:sets.length=g.infos.length) (hsm:∀ l∈sets,l.length≤1000) (hsx:∀ l∈sets,∀ x∈l,0≤x∧x < (g.nodes.length:Int)) (hr:0≤r∧r < (g.nodes.length:Int)) :
  Calls Tryz.prog 92 #[u,.int .i64 r] w (Ret w fun v w'=>AU w' (fun b=>w.heap.size≤b) v (kN g.nodes last sets g.infos.length r)):=by
 have HV:=Ac (hv.keep (G:=fun b=>F b∧b < w.heap.size) (fun b hb hl=>⟨hb,hl⟩) (Same.refl _ _));obtain⟨vn,vi,vp,vl,vs,rfl,⟨A,c,rfl,hc,hN'⟩,⟨Ai,ci,rfl,hci,hI⟩,⟨Ap,cp,rfl,hcp,hP⟩,⟨Al,cl,rfl,hcl,hL⟩,⟨As,cs,rfl,hcs,hS⟩⟩:=hv;have HNO:=Ac (show AP w (fun b=>F b∧b < w.heap.size) (.slice A g.nodes.length c) g.nodes from AP.keep ⟨_,_,rfl,hc,hN'⟩ (fun b hb hl=>⟨hb,hl⟩) (Same.refl F w));have HLO:=Ac (show Ah w (fun b=>F b∧b < w.heap.size) (.slice Al last.length cl) last from Ah.keep ⟨_,_,rfl,hcl,hL⟩ (fun b hb hl=>⟨hb,hl⟩) (Same.refl F w));clear hN' hI hP hL;rw[hsl] at hS hcs ⊢;have HS:=Ac hS;clear hS;have HLL:=Ac hll;clear hll;have HLA:=Ac hla;clear hla;have HIN:=Ac hin;clear hin;have HSL:=Ac hsl;clear hsl;have HSM:=Ac hsm;clear hsm;have HSX:=Ac hsx;clear hsx;refine Z9 ?_;intro hmf;have hmc:=adi g.infos.length hni;have hcf:=enters Tryz.func148 (by decide +kernel) (by decide +kernel);go_in
 go_upto_region 1 with fail
 obtain⟨w1,hw1,hbx,hb1,hz1⟩:=aT w 98 #[.int .i64 g.au,.slice A g.nodes.length c,.slice Ai g.infos.length ci,.slice Ap par.length cp,.slice Al last.length cl,.slice As g.infos.length cs];rw[← hw1];clear hw1 hz1;go_cut [5,6] from 11 to 19 (fun v5 v6 wx=>∃ bi di bf df,v5 = .pointer (some ⟨bi,0,none⟩)∧v6 = .pointer (some ⟨bf,0,none⟩)∧Row wx w.heap.size 98 [.int .i64 g.au,.slice A g.nodes.length c,.slice Ai g.infos.length ci,.slice Ap par.length cp,.slice Al last.length cl,.slice As g.infos.length cs]∧Row wx bi 70 [.slice (some ⟨di,0,none⟩) g.nodes.length g.nodes.length]∧Row wx bf 70 [.slice (some ⟨df,0,none⟩) g.infos.length g.infos.length]∧Row wx di 4 (List.replicate g.nodes.length (.bool false))∧Row wx df 4 (List.replicate g.infos.length (.bool false))∧Below w.heap.size w wx∧w.heap.size < bi∧w.heap.size < di∧w.heap.size < bf∧w.heap.size < df∧bi≠di∧bi≠df∧bf≠di∧bf≠df∧di≠df)
 case first =>
  refine bD (fun w'=>w'.cell? ⟨w.heap.size,1,none⟩=some (.slice A g.nodes.length c)∧w'.cell? ⟨w.heap.size,5,none⟩=some (.slice As g.infos.length cs)) 12 1 ak rfl ak ?_;have hHeld:(fun w':World=>w'.cell? ⟨w.heap.size,1,none⟩=some (.slice A g.nodes.length c)∧w'.cell? ⟨w.heap.size,5,none⟩=some (.slice As g.infos.length cs)) w1.drew:=⟨hbx.cell rfl,hbx.cell rfl⟩;refine ZB ?_;refine tkm [0,1,2,3,5,6,7] ?_;obtain⟨w0,hw0⟩:=named w1.drew;have hbx0:Row w0 _ _ _:=hw0▸hbx.drew;have hB0:Below w.heap.size w w0:=hw0▸hb1.drew;rw[← hw0] at hHeld ⊢;clear hw0 hbx hb1;have hz0:=hbx0.lt;refine qX (js:=[4,8,9,10,11]) ((Hold.cell (w.heap.size) 1 (.slice A g.nodes.length c)).and ((Hold.cell (w.heap.size) 5 (.slice As g.infos.length cs)).and (Hold.below w0.heap.size w0))) (fA w0.heap.size g.nodes.length g.infos.length) ak ak ⟨hHeld.1,hHeld.2,Nat.le_refl _,Below.refl _ _⟩ (fun _ h=>⟨h.1,h.2.1⟩) (aia _ _ _) (fun j hj E e _ w' hE hu hn hf hA hS hG=>adk j hj hE hu hn hf hA hS hz0 hG) ?_;refine AO.cons (o:=_) rfl (fun wk hS hf K hK=>?_) (fun v4=>?_)
  ·refine ifA rfl ?_;refine lD _ _ _ 70 rfl 4 (.bool false) 1 Tryz.underlying70 Tryz.infoBool rfl g.nodes.length rfl rfl byOmega byOmega ?_;exact zcg
  refine Zc ?_;refine AO.cons (o:=_) rfl (fun wk hS hf K hK=>?_) (fun v8=>?_)
  ·refine ifA rfl ?_;refine lD _ _ _ 70 rfl 4 (.bool false) 1 Tryz.underlying70 Tryz.infoBool rfl g.infos.length rfl rfl byOmega byOmega ?_;exact zcg
  refine Zc ?_;refine AO.cons (o:=_) rfl (fun wk hS hf K hK=>?_) (fun v9=>?_)
  ·go_simp;exact za7
  refine Zc ?_;refine AO.cons (o:=_) rfl (fun wk hS hf K hK=>?_) (fun v10=>?_)
  ·go_simp;exact za7
  refine Zc ?_;refine AO.cons (o:=_) rfl (fun wk hS hf K hK=>?_) (fun v11=>?_)
  ·have f9:Hold.p (Hold.box w0.heap.size 70 v9) wk:=hf 9 ay ak;have f4:Hold.p (Hold.made w0.heap.size 4 g.nodes.length (List.replicate g.nodes.length (.bool false)) v4) wk:=hf 4 ay ak;obtain⟨b9,x9,rfl,g9,r9⟩:=f9;obtain⟨b4,rfl,g4,r4⟩:=f4;have yy:=r9.cell (i:=0) rfl;have ff:=r9.frozen 0;go_simp;exact hK.out undef (wk.setCell ⟨b9,0,none⟩ (.slice (some ⟨b4,0,none⟩) g.nodes.length g.nodes.length)) ⟨⟨b9,rfl,rfl⟩,⟨b9,rfl,g9,r9.set 0 _⟩,fun h=>(by simp[fA] at h)⟩
  refine Zc ?_;refine AO.nil (fun wE hS hf hA=>?_);have f4:Hold.p (Hold.made w0.heap.size 4 g.nodes.length (List.replicate g.nodes.length (.bool false)) v4) wE:=hf 4 ay;have f8:Hold.p (Hold.made w0.heap.size 4 g.infos.length (List.replicate g.infos.length (.bool false)) v8) wE:=hf 8 ay;have f10:Hold.p (Hold.box w0.heap.size 70 v10) wE:=hf 10 ay;have f11:Hold.p (Hold.boxed w0.heap.size 70 v9 v4) wE:=hf 11 ay;obtain⟨b4,rfl,g4,r4⟩:=f4;obtain⟨b8,rfl,g8,r8⟩:=f8;obtain⟨b10,x10,rfl,g10,r10⟩:=f10;obtain⟨b9,rfl,g9,r9⟩:=f11;have alp:=jM hA (i:=4) (k:=8) ay ay (by simp[fA]) (by simp[fA]) aA rfl rfl;have n4_9:=jM hA (i:=4) (k:=9) ay ay (by simp[fA]) (by simp[fA]) aA rfl rfl;have al6:=jM hA (i:=4) (k:=10) ay ay (by simp[fA]) (by simp[fA]) aA rfl rfl;have n8_9:=jM hA (i:=8) (k:=9) ay ay (by simp[fA]) (by simp[fA]) aA rfl rfl;have al7:=jM hA (i:=8) (k:=10) ay ay (by simp[fA]) (by simp[fA]) aA rfl rfl;have n9_10:=jM hA (i:=9) (k:=10) ay ay (by simp[fA]) (by simp[fA]) aA rfl rfl;have hV:=hS.2.2;have aey:=hbx0.below hV.2 hbx0.lt;have hBE:=hB0.trans (hV.2.mono hB0.size);clear hS hV hHeld hbx0 hB0 hf hA;obtain⟨W,hW,c1,c2,c3,c4,c5,c6⟩:∃ W,W=wE.setCell ⟨b10,0,none⟩ (.slice (some ⟨b8,0,none⟩) g.infos.length g.infos.length)∧Row W w.heap.size _ _∧Row W b9 _ _∧Row W b10 _ _∧Row W b4 _ _∧Row W b8 _ _∧Below w.heap.size w W :=
   ⟨_,rfl,aey.other (a:=⟨b10,0,none⟩) aB _,r9.other (a:=⟨b10,0,none⟩) aB _,r10.set 0 _,r4.other (a:=⟨b10,0,none⟩) aB _,r8.other (a:=⟨b10,0,none⟩) aB _,hBE.setCell (p:=⟨b10,0,none⟩) aB _⟩
  have y10:=r10.cell (i:=0) rfl;have z10:=r10.frozen 0;have HR:=Ac (And.intro c1 (And.intro c2 (And.intro c3 (And.intro c4 (And.intro c5 c6)))));clear c1 c2 c3 c4 c5 c6 r4 r8 r9 r10 aey hBE;refine YX ?_;go_wp2_with fail
  rw[← hW];clear hW y10 z10;refine Y5 ?_;go_wp2_with fail
  go_meet
  exact⟨b9,b4,b10,b8,rfl,rfl,HR.out.1,HR.out.2.1,HR.out.2.2.1,HR.out.2.2.2.1,HR.out.2.2.2.2.1,HR.out.2.2.2.2.2,byOmega,byOmega,byOmega,byOmega,Ne.symm n4_9,Ne.symm n8_9,Ne.symm al6,Ne.symm al7,alp⟩
 case rest =>
  obtain⟨bi,di,bf,df,rfl,rfl,mF,aky,akz,hri,hrf,hB,g1,g2,g3,g4,g5,g6,g7,g8,g9⟩:=hcut;clear hbx hb1;have x5:=mF.cell (i:=5) rfl;have hlt:=mF.lt;go_wp2_with fail
  have hW1:Below wc.heap.size wc ((wc.alloc (.chan g.infos.length #[] false 0 0 false)).alloc (.cells #[.chan (some wc.heap.size)] 195)):=aY wc _ _ 0;have hbw:Row ((wc.alloc (.chan g.infos.length #[] false 0 0 false)).alloc (.cells #[.chan (some wc.heap.size)] 195)) (wc.heap.size+1) 195 [.chan (some wc.heap.size)]:=by
   have:=Row.new (wc.alloc (.chan g.infos.length #[] false 0 0 false)) 195 #[.chan (some wc.heap.size)];simpa using this
  have hchn:((wc.alloc (.chan g.infos.length #[] false 0 0 false)).alloc (.cells #[.chan (some wc.heap.size)] 195)).heap[wc.heap.size]? = some (.chan g.infos.length #[] false 0 0 false):=by
   rw[Below.heap_alloc _ _ _ ay];exact heap_alloc_new _ _
  generalize (wc.alloc (.chan g.infos.length #[] false 0 0 false)).alloc (.cells #[.chan (some wc.heap.size)] 195)=W at *;have hcl0:BK W bi di bf df (wc.heap.size+1) wc.heap.size g.nodes.length g.infos.length ⟨List.replicate g.nodes.length false,List.replicate g.infos.length false,[]⟩ :=
   ⟨aky.below hW1 aky.lt,akz.below hW1 akz.lt,hbw,by simpa [lV] using hri.below hW1 hri.lt,by simpa [lV] using hrf.below hW1 hrf.lt,0,0,by simpa [dX] using hchn⟩
  have l1:=aky.lt;have l2:=akz.lt;have l3:=hri.lt;have l4:=hrf.lt;have hap:Cb bi di bf df (wc.heap.size+1) wc.heap.size w.heap.size:=⟨g5,g6,byOmega,g7,g8,byOmega,byOmega,byOmega,byOmega,g9,byOmega,byOmega,byOmega,byOmega,byOmega⟩;have HAP:=Ac hap;clear hap;have HFF:=Ac (show ∀ k,(F k∧k < w.heap.size)→k≠di∧k≠df∧k≠wc.heap.size from fun k hk=>by omega);have fQ:=mF.below hW1 mF.lt;have hBW:=hB.trans (hW1.mono hB.size);have hws:w.heap.size < wc.heap.size:=hlt;clear aky akz hri hrf hbw hchn hW1 mF hB x5 hlt;generalize wc.heap.size=ch at *;refine(aeP g last bi di bf df (ch+1) ch w.heap.size HAP.out _ HFF.out HIN.out hN hni HLL.out HLA.out W _ r _ _ _ _ _ fQ (HNO.out.on (Below.same' hBW _)) (HLO.out.on (Below.same' hBW _)) hcl0 (Cl.Ok.start _ _) hr).mono ?_;rintro e w2 ⟨rfl,akA,hwr2⟩;have HOK:=Ac ((Cl.Ok.start g.nodes.length g.infos.length).lK HIN.out last r);have HLF:=Ac (acp (Cl.Ok.start g.nodes.length g.infos.length) HIN.out last r);have HCL:=Ac (show kN g.nodes last sets g.infos.length r=(kT g.nodes last sets g.infos.length (lK g.nodes last ⟨List.replicate g.nodes.length false,List.replicate g.infos.length false,[]⟩ r)).inn from rfl);generalize lK g.nodes last ⟨List.replicate g.nodes.length false,List.replicate g.infos.length false,[]⟩ r=s1 at *;have hbx2:=fQ.wrote hwr2 (by rintro(h | h | h) <;> omega);have hB2:Below w.heap.size w w2:=Wrote.below hBW hwr2 (fun k hk=>by omega) hBW.size;clear hcl0 hwr2 fQ hBW;dsimp only;go_wp2_with fail
  go_loopg [10] g.infos.length (fun f _ wr=>∃ s:Cl,s.left g.infos.length≤f∧Cl.Ok g.nodes.length g.infos.length s∧kN g.nodes last sets g.infos.length r=(kT g.nodes last sets f s).inn∧BK wr bi di bf df (ch+1) ch g.nodes.length g.infos.length s∧Row wr w.heap.size 98 [.int .i64 g.au,.slice A g.nodes.length c,.slice Ai g.infos.length ci,.slice Ap par.length cp,.slice Al last.length cl,.slice As g.infos.length cs]∧Below w.heap.size w wr)
  case atStart=>exact⟨s1,by rw[HLF.out]; unfold Cl.left; simp,HOK.out,HCL.out,akA,hbx2,hB2⟩
  case round =>
   clear akA hbx2 hB2;obtain⟨s,hleft,hok,hval,hcl,hbx,hB⟩:=hrel;have HV2:=Ac hval;clear hval;have HO:=Ac hok;clear hok;have HC:=Ac hcl;have cw0:=hcl.cw.cell (i:=0) rfl;obtain⟨sn,rc,hch⟩:=hcl.chn;have HCH:=Ac hch;have hlen:=fun ty=>Go.Conc.run_len_chan (P:=Tryz.prog) (w:=wr) 195 ty Tryz.underlying195 hch
   clear hch;simp only[List.size_toArray,dX,List.length_map] at hlen;cases hq:s.q with
   | nil =>
    rw[hq] at hlen;have HQ:=Ac hq;clear hq;have ci0:=hcl.ci.cell (i:=0) rfl;go_wp2
    go_ret;have h1:=Row.bools (F:=fun b=>w.heap.size≤b) HC.out.ri byOmega (c:=g.nodes.length) (by rw[HO.out.inn]; omega);rw[HO.out.inn] at h1;refine⟨_,rfl,hB,?_⟩;rw[HV2.out,aeQ HQ.out];exact h1
   | cons x q =>
    rw[hq] at hlen;obtain⟨hok2,hx0,hx1,hlf⟩:=HO.out.pop hq;have HQ:=Ac hq; clear hq;have HOK2:=Ac hok2; clear hok2;obtain⟨z,rfl⟩:=Int.eq_ofNat_of_zero_le hx0;have hz:z < g.infos.length:=byOmega;have x5:=hbx.cell (i:=5) rfl;obtain⟨f,rfl⟩:∃ f,gk=f+1:=⟨gk - 1,byOmega⟩;have HV3:=Ac (show kN g.nodes last sets g.infos.length r=(kT g.nodes last sets f ((sets.getD z []).foldl (lK g.nodes last) ⟨s.inn,s.fnd,q⟩)).inn by
     rw[HV2.out,adh HQ.out]; simp)
    obtain⟨l,hl'⟩:=aC (l:=sets) (k:=z) (by rw[HSL.out]; exact hz);have hs0:=HSL.out;obtain⟨bs,os,hAs,_,hbs,hxs⟩:=HS.out byOmega;subst hAs;obtain⟨vl',el,Av,cv,rfl,hcv,hAv⟩:=hxs z l hl';rw[Nat.mul_one,← aJ hB _ _ hbs] at el;have hl1:=HSM.out l (List.mem_of_getElem? hl');have HLX:=Ac (HSX.out l (List.mem_of_getElem? hl'));have HGD:=Ac (show sets.getD z []=l by simp[List.getD_eq_getElem?_getD,hl']);have HAV:=Ac hAv;have HLF2:=Ac hlf;clear hl' hxs hAv hs0 hlf;go_upto_region 6 with fail
    go_cut [36,37,38] from 28 to 45 (fun v36 v37 v38 wx=>v36 = .slice Av l.length cv∧v37 = .int .i64 l.length∧v38 = .int .i64 0∧BK wx bi di bf df (ch+1) ch g.nodes.length g.infos.length ⟨s.inn,s.fnd,q⟩∧Row wx w.heap.size 98 [.int .i64 g.au,.slice A g.nodes.length c,.slice Ai g.infos.length ci,.slice Ap par.length cp,.slice Al last.length cl,.slice (some ⟨bs,os,none⟩) g.infos.length cs]∧Below w.heap.size w wx)
    case first =>
     have alr:wr.drew.heap[ch]? = some (.chan g.infos.length (Value.int .i64 (z:Int) :: dX q).toArray false sn rc false):=by
      have:=HCH.out;rw[HQ.out] at this;exact this
     have hcl0:BK wr.drew bi di bf df (ch+1) ch g.nodes.length g.infos.length s:=hcl.drew;have hbx0:Row wr.drew w.heap.size _ _:=hbx.drew;have hB0:Below w.heap.size w wr.drew:=hB.drew;have el0:wr.drew.cell? ⟨bs,os+z,none⟩=some (.slice Av l.length cv):=el;clear el x5 hlen cw0 HC HCH hbx hB hcl;refine yL (js:=[0,1,2,3,4,5,6,7]) (c:=3) (W1:=wr.drew.setChan ch g.infos.length (dX q).toArray false sn (rc+1) false) ak ak aA ?_;generalize wr.drew=W0 at *;have akB:=hcl0.setC HAP.out q (buf:=(dX q).toArray) rfl sn (rc+1);have fQ:Row (W0.setChan ch g.infos.length (dX q).toArray false sn (rc+1) false) w.heap.size _ _:=hbx0.of_block (heap_setChan_ne _ _ _ _ _ _ _ _ byOmega);have hB1:Below w.heap.size w (W0.setChan ch g.infos.length (dX q).toArray false sn (rc+1) false):=Go.Conc.below_setChan hB0 byOmega _ _ _ _ _ _;have el1:(W0.setChan ch g.infos.length (dX q).toArray false sn (rc+1) false).cell? ⟨bs,os+z,none⟩=some (.slice Av l.length cv):=by
      rw[World.cell?_of_block (w:=W0) (heap_setChan_ne _ _ _ _ _ _ _ _ (show bs≠ch by omega))];exact el0
     obtain⟨W1,hW1⟩:=named (W0.setChan ch g.infos.length (dX q).toArray false sn (rc+1) false);rw[← hW1] at akB fQ hB1 el1 ⊢;have HW1:=Ac hW1;clear hW1;have HCH0:=Ac alr;clear alr;have x5:=hbx0.cell (i:=5) rfl;have x51:=fQ.cell (i:=5) rfl;have cw0:=hcl0.cw.cell (i:=0) rfl;have cw1:=akB.cw.cell (i:=0) rfl;have HHH:=Ac (And.intro akB (And.intro fQ hB1));clear hcl0 akB hbx0 fQ hB0 hB1;refine AY.val aA rfl (by rfl) (by go_simp; try (with_reducible rfl)) (by go_simp; try (with_reducible rfl)) ?_;refine Zc ?_;refine AY.val aA rfl (by rfl) (by go_simp; try (with_reducible rfl)) (by go_simp; try (with_reducible rfl)) ?_;refine Zc ?_;refine AY.val aA rfl (by rfl) (by go_simp; try (with_reducible rfl)) (by go_simp; try (with_reducible rfl)) ?_;refine Zc ?_;refine AY.recv (z:=.int .i64 0) rfl (by rfl) (by simp[go_sem,Go.Conc.rcase]) HCH0.out HW1.out ?_;refine Zc ?_;refine AY.val aA rfl (by rfl) (by go_simp; try (with_reducible rfl)) (by go_simp; try (with_reducible rfl)) ?_;refine Zc ?_;refine AY.val aA rfl (by rfl) (by go_simp; try (with_reducible rfl)) (by go_simp; try (with_reducible rfl)) ?_;refine Zc ?_;refine AY.val aA rfl (by rfl) (by go_simp; try (with_reducible rfl)) (by go_simp; try (with_reducible rfl)) ?_;refine Zc ?_;refine AY.val aA rfl (by rfl) (by go_simp; try (with_reducible rfl)) (by go_simp; try (with_reducible rfl)) ?_;refine Zc ?_;unfold AY;go_wp2_with fail
     go_meet
     exact⟨rfl,rfl,rfl,HHH.out.1,HHH.out.2.1,HHH.out.2.2⟩
    case rest =>
     obtain⟨rfl,rfl,rfl,hcl3,o7,hB3⟩:=hcut;clear el x5 hlen cw0 HC HCH hbx hB hcl;go_wp2
     go_loopg [10,38] l.length (fun k _ i wi=>∃ j:Nat,j≤l.length∧k=l.length - j∧i = .int .i64 j∧BK wi bi di bf df (ch+1) ch g.nodes.length g.infos.length ((l.take j).foldl (lK g.nodes last) ⟨s.inn,s.fnd,q⟩)∧Row wi w.heap.size 98 [.int .i64 g.au,.slice A g.nodes.length c,.slice Ai g.infos.length ci,.slice Ap par.length cp,.slice Al last.length cl,.slice (some ⟨bs,os,none⟩) g.infos.length cs]∧Below w.heap.size w wi)
     case atStart=>exact⟨0,byOmega,byOmega,rfl,hcl3,o7,hB3⟩
     case round =>
      clear hcl3 o7 hB3;obtain⟨j,hj,hgk,rfl,hcl,hbx,hB⟩:=hrel;have HGK:=Ac hgk;clear hgk;have HOJ:=Ac (yM HIN.out last (l.take j) _ HOK2.out).1;by_cases hjt:j < l.length
      ·obtain⟨bv,ov,rfl,_,hbv,hxv⟩:=HAV.out byOmega;obtain⟨h,hh⟩:=aC hjt;have eh:=hxv j h hh;unfold iE at eh;rw[Nat.mul_one,← aJ hB _ _ hbv] at eh;have hhr:=HLX.out h (List.mem_of_getElem? hh);have HTK:=Ac (show(l.take (j+1)).foldl (lK g.nodes last) ⟨s.inn,s.fnd,q⟩=lK g.nodes last ((l.take j).foldl (lK g.nodes last) ⟨s.inn,s.fnd,q⟩) h by rw[take_snoc hh]; simp[List.foldl_append]);clear hh hxv;generalize (l.take j).foldl (lK g.nodes last) ⟨s.inn,s.fnd,q⟩=t at *;go_wp2_with fail
       refine(aeP g last bi di bf df (ch+1) ch w.heap.size HAP.out _ HFF.out HIN.out hN hni HLL.out HLA.out _ _ h _ _ _ _ _ hbx (HNO.out.on (Below.same' hB _)) (HLO.out.on (Below.same' hB _)) hcl HOJ.out hhr).mono ?_;rintro e w5 ⟨rfl,hcl5,alB⟩;have hbx5:=hbx.wrote alB (by rintro(h | h | h) <;> omega);have hB5:Below w.heap.size w w5:=Wrote.below hB alB (fun k hk=>by omega) hB.size;clear hcl hbx hB alB eh;dsimp only;go_wp2
       go_roundg (l.length - (j+1))
       case measure=>rw[HGK.out]; omega
       case rel=>exact⟨j+1,byOmega,rfl,by go_num,by rw[HTK.out]; exact hcl5,hbx5,hB5⟩
      ·have HTK:=Ac (show l.take j=l from List.take_of_length_le byOmega);rw[HTK.out] at HOJ hcl;go_wp2
       go_roundg f
       case measure=>omega
       case rel =>
        refine⟨_,?_,HOJ.out,by rw[HV3.out,HGD.out],hcl,hbx,hB⟩;rw[(yM HIN.out last l _ HOK2.out).2];have:=HLF2.out;omega
def oZ (inn:List Bool) (par:List Int) (i:Nat):Bool:=inn.getD i false&&(decide (i=0) || !inn.getD (par.getD i 0).toNat false)
def kU (inn:List Bool) (par:List Int) (k:Nat):List Int:=((List.range k).filter (oZ inn par)).map fun i:Nat=>(i:Int)
theorem adl (inn:List Bool) (par:List Int) (k:Nat):kU inn par (k+1)=kU inn par k++(if oZ inn par k then [(k:Int)] else []):=by
 unfold kU;rw[List.range_succ,List.filter_append,List.map_append];cases h:oZ inn par k <;> simp[h]
theorem aa9 (inn:List Bool) (par:List Int) (k:Nat):(kU inn par k).length≤k:=by
 unfold kU;refine za1 ?_;simp
theorem aib (nodes:List Nd) (s:Cl) (i:Nat):(putAt nodes s i).inn.length=s.inn.length:=by
 unfold putAt;split
 ·split <;> simp
 ·rfl
theorem aeS (nodes:List Nd) (last:List Int) (s:Cl) (r:Int):(lK nodes last s r).inn.length=s.inn.length:=by
 unfold lK;split
 ·rfl
 ·generalize (last.getD r.toNat 0+1 - r).toNat=j;induction j with
  | zero=>rfl
  | succ j ih=>show(putAt nodes (nN nodes s r.toNat j) (r.toNat+j)).inn.length=_; rw[aib,ih]
theorem zq (nodes:List Nd) (last:List Int) (sets:List (List Int)):∀ (f:Nat) (s:Cl),(kT nodes last sets f s).inn.length=s.inn.length
 | 0,s=>rfl
 | f+1,s=>by
  rw[kT];split
  ·rfl
  ·rename_i x q _
   rw[zq nodes last sets f];suffices ∀ (l:List Int) (t:Cl),(l.foldl (lK nodes last) t).inn.length=t.inn.length by rw[this]
   intro l;induction l with
   | nil=>intro t; rfl
   | cons y l ih=>intro t; rw[List.foldl_cons,ih,aeS]
theorem zL (nodes:List Nd) (last:List Int) (sets:List (List Int)) (ni:Nat) (r:Int):(kN nodes last sets ni r).length=nodes.length:=by
 unfold kN;rw[zq,aeS];simp
theorem tC {N:Nat} (q:Nat) (hq:q < N):∀ (cs:List Int) (s:List Int×List Int),(∀ i x,s.1[i]? = some x→i≠0→0≤x∧x < (N:Int))→∀ i x,(fE q cs s).1[i]? = some x→i≠0→0≤x∧x < (N:Int)
 | [],s,h=>h
 | c :: cs,s,h=>by
  show ∀ i x,(fE q cs _).1[i]? = some x→_;refine tC q hq cs _ fun i x hi h0=>?_
  simp only at hi;rw[List.getElem?_set] at hi;split at hi
  ·split at hi
   ·cases hi; omega
   ·cases hi
  ·exact h i x hi h0
theorem adn (nodes:List Nd) (h0:0 < nodes.length) (m:Nat):∀ i x,(iW nodes m).1[i]? = some x→i≠0→0≤x∧x < (nodes.length:Int):=by
 induction m with
 | zero =>
  intro i x hi hne;unfold iW at hi;simp only at hi;rw[List.getElem?_set_ne byOmega] at hi;have:=aI hi;simp at this;simp[this] at hi;omega
 | succ m ih =>
  unfold iW sW;split
  ·exact tC _ byOmega _ _ ih
  ·exact ih
def jA (g:Gm) (node:Int):Int:=if bF g≠0 then bF g else if hasB g.nodes.length node then 0 else 2
def rF (g:Gm) (node:Int):List Int:=if jA g node=0 then kU (kN g.nodes (aQ g.nodes).2 (aW g) g.infos.length node) (aQ g.nodes).1 g.nodes.length else []
def Dz (B:Nat) (e:Int) (l:List Int) (v:Value) (w':World):Prop:=∃ v1,v = .tuple #[v1,.int .i64 e]∧Ah w' (fun b=>B≤b) v1 l
theorem aic (w:World) (F:Ag) (u:Value) (node:Int) (g:Gm) (hg:AB w F u g) (hsm:Small g) (fD:CO g) :
  Calls Tryz.prog 44 #[u,.int .i64 node] w (Ret w (Dz w.heap.size (jA g node) (rF g node))):=by
 have HG:=Ac hg;obtain⟨vn,vi,rfl,⟨A,c,rfl,hc,hN⟩,⟨Ai,ci,rfl,hci,hI⟩⟩:=hg;clear hN hI;have hn:=hsm.nodes;have hni:=hsm.infos;have HS:=Ac hsm;clear hsm;have HFI:=Ac fD;clear fD;go_in;go_wp2_with fail
 refine(xH _ F _ g (HG.out.on (Same.alloc _ _ _)) HS.out).mono ?_;rintro e w1 ⟨_,rfl,hb1,vv,rfl,hv1,hv2⟩;refine Ya ?_;intro hB;simp only[World.size_alloc] at hv2;clear hb1;have HV1:=Ac hv1;have HV2:=Ac hv2;clear hv1 hv2;have HLE:=Ac (show jA g node=if bF g≠0 then bF g else if hasB g.nodes.length node then 0 else 2 from rfl);have HLP:=Ac (show rF g node=if jA g node=0 then kU (kN g.nodes (aQ g.nodes).2 (aW g) g.infos.length node) (aQ g.nodes).1 g.nodes.length else [] from rfl);have HGD:=Ac (fun h:bF g=0=>And.intro (jd h) (HFI.out h));generalize bF g=er at *;dsimp only;by_cases he:er=0
 ·have HVX:=Ac (HV2.out he);obtain⟨hgd,hfl⟩:=HGD.out he;have HE2:=Ac (show jA g node=if hasB g.nodes.length node then 0 else 2 by rw[HLE.out,if_neg (by simpa using he)]);have HFL:=Ac hfl.last;have HIN:=Ac hgd.infos;have HPR:=Ac (adn g.nodes hgd.pos g.nodes.length);have hp:=hgd.pos;subst he;clear hgd hfl HV1 HV2 HGD HFI;have HVY:=Ac HVX.out;obtain⟨vn',vi',vp,vl,vs,rfl,⟨An,cn,rfl,hcn,hN'⟩,⟨Ax,cx,rfl,hcx,hI'⟩,⟨Ap,cp,rfl,hcp,hP'⟩,⟨Al,cl,rfl,hcl,hL'⟩,⟨As,cs,rfl,hcs,hS'⟩⟩:=HVX.out;clear hN' hI' hL' hS' HVX;have HPP:=Ac hP';clear hP';go_wp2_with fail
  refine YV ?_;intro W hW hbx hWb hWz;clear hW hWz;have hBW:=hB.trans (hWb.mono hB.size);have hlt1:=hbx.lt;refine(ac9 _ (fun b=>F b∨w.heap.size+1≤b) _ node g (aQ g.nodes).1 (aQ g.nodes).2 (aW g) (HVY.out.on (Below.same' hWb _))).mono ?_;rintro e w2 ⟨_,rfl,hb2,rfl⟩;have hbx2:=hbx.below hb2 hbx.lt;have hB2:=hBW.trans (hb2.mono hBW.size);have h12:=hWb.trans (hb2.mono hWb.size);have hlt2:=hbx2.lt;clear hbx hBW hb2 hB hWb;have HHB:=Ac (show hasB g.nodes.length node=(decide (0≤node)&&decide (node < (g.nodes.length:Int))) from rfl);generalize hasB g.nodes.length node=hb at *;dsimp only;cases hb
  ·have HF:=Ac (show jA g node=2 by rw[HE2.out]; rfl);go_wp2
   go_ret2;exact⟨_,rfl,hB2,.slice none 0 0,by rw[HF.out]; rfl,by rw[HLP.out,HF.out]; exact oM _ _⟩
  ·have HF:=Ac (show jA g node=0 by rw[HE2.out]; rfl);have hnr:0≤node∧node < (g.nodes.length:Int):=by have:=HHB.out;simp at this;omega
   refine zbG ?_;intro x0 x1 x2;have x3:=hbx2.cell (i:=3) rfl;have x4:=hbx2.cell (i:=4) rfl;have x5:=hbx2.cell (i:=5) rfl;go_wp2_with fail
   refine(aeR _ (fun b=>F b∨w.heap.size+1≤b) _ node g (aQ g.nodes).1 (aQ g.nodes).2 (aW g) (HVY.out.on (Below.same' h12 _)) HIN.out byOmega byOmega (fH _ _).2 HFL.out (bC _ _ _) (dZ HS.out).2 (fun l hl x hx=>mJ (Nat.le_refl _) l hl x hx) hnr).mono ?_;rintro e w3 ⟨vb,rfl,hb3,hvb⟩;have o7:=hbx2.below hb3 hbx2.lt;have hB3:=hB2.trans (hb3.mono hB2.size);have h13:=h12.trans (hb3.mono h12.size);have hil:=zL g.nodes (aQ g.nodes).2 (aW g) g.infos.length node;have HLP2:=Ac (show rF g node=kU (kN g.nodes (aQ g.nodes).2 (aW g) g.infos.length node) (aQ g.nodes).1 g.nodes.length by rw[HLP.out,HF.out]; rfl);have hpl:=(fH g.nodes g.nodes.length).1;have HPR2:=Ac (show ∀ i x,(aQ g.nodes).1[i]? = some x→i≠0→0≤x∧x < (g.nodes.length:Int) from HPR.out);have hpl:(aQ g.nodes).1.length=g.nodes.length:=hpl;clear x0 x1 x2 x3 x4 x5 hbx2 hB2 h12 hb3 HHB hnr;generalize kN g.nodes (aQ g.nodes).2 (aW g) g.infos.length node=inn at *;obtain⟨Ab,cb,rfl,hcb,hBb⟩:=hvb;have HBB:=Ac hBb;clear hBb;have hlt3:=o7.lt;have HIL:=Ac hil;have HPL:=Ac hpl;clear hil hpl;dsimp only;go_wp2
   have hi100:inn.length≤100:=by have:=HIL.out;omega
   go_loopw [9,10,11,29] (fun vo _ _ i wr=>∃ k:Nat,k≤inn.length∧i = .int .i64 k∧wr.ownsRow w3.heap.size 3 1 vo (kU inn (aQ g.nodes).1 k).length ((kU inn (aQ g.nodes).1 k).map (Value.int .i64))∧Below w3.heap.size w3 wr) (fun _ _ _ i _=>inn.length - (intOf i).toNat)
   case atStart=>exact⟨0,byOmega,rfl,World.ownsRow_nil _ _ _ _,Below.refl _ _⟩
   case round =>
    obtain⟨k,hk,rfl,hown,hbel⟩:=hrel;have HO:=Ac hown;clear hown;have hlen:=aa9 inn (aQ g.nodes).1 k;have HST:=Ac (adl inn (aQ g.nodes).1 k);by_cases hlt:k < inn.length
    ·obtain⟨bu,ou,rfl,_,hbu,hxu⟩:=HBB.out byOmega;obtain⟨y,hy⟩:=aC hlt;have ey:=hxu k y hy;unfold uJ at ey;rw[Nat.mul_one,← aJ hbel _ _ hbu] at ey;have HY:=Ac (show inn.getD k false=y by simp[List.getD_eq_getElem?_getD,hy]);clear hy;cases y
     ·have HR:=Ac (show oZ inn (aQ g.nodes).1 k=false by unfold oZ; rw[HY.out]; rfl);go_wp2
      go_roundw
      case rel=>exact⟨k+1,byOmega,by go_num,by rw[HST.out,HR.out]; simpa using HO.out,hbel⟩
      case measure=>simp[intOf] <;> omega
     ·by_cases hk0:k=0
      ·have HR:=Ac (show oZ inn (aQ g.nodes).1 k=true by unfold oZ; rw[HY.out]; simp[hk0]);have hd0:((k:Int)==0)=true:=by simp[hk0]
       clear hk0 hxu;go_wp2_with (at_builtin; refine nC rfl _ _ rfl w3.heap.size _ (kU inn (aQ g.nodes).1 k) rfl (HO.out.alloc _) wr.heap.size k rfl (heap_alloc_new _ _) byOmega (by have:=hbel.size; simp; omega) ?_; intro gg cap w4 hown4 hgrow hat hlt4; have aeT:Below w3.heap.size w3 w4:=(hbel.alloc hbel.size _).grown hgrow (by have:=hbel.size; simp; omega) (fun k hk=>(HO.out.lt k hk).1); have HO4:=Ac hown4; clear hown4 hgrow hat hlt4)
       go_roundw
       case rel=>exact⟨k+1,byOmega,by go_num,by rw[HST.out,HR.out]; simpa using HO4.out,aeT⟩
       case measure=>simp[intOf] <;> omega
      ·have hd0:((k:Int)==0)=false:=aB;obtain⟨x,hx⟩:=aC (l:=(aQ g.nodes).1) (k:=k) (by have:=HPL.out; have:=HIL.out; omega);obtain⟨bp,op,rfl,_,hbp,hxp⟩:=HPP.out (by have:=HPL.out; omega);have ep:=hxp k x hx;unfold iE at ep;rw[Nat.mul_one,← aJ h13 _ _ hbp,← aJ hbel _ _ (by have:=h13.size; omega)] at ep;obtain⟨hx0,hx1⟩:=HPR2.out k x hx hk0;obtain⟨z,rfl⟩:=Int.eq_ofNat_of_zero_le hx0;have hzi:z < inn.length:=by have:=HIL.out;omega
       have hkp:k < (aQ g.nodes).1.length:=by have:=HPL.out;have:=HIL.out;omega
       obtain⟨y2,hy2⟩:=aC hzi;have ez:=hxu z y2 hy2;unfold uJ at ez;rw[Nat.mul_one,← aJ hbel _ _ hbu] at ez;have HRR:=Ac (show oZ inn (aQ g.nodes).1 k = !y2 by unfold oZ; rw[HY.out]; simp[List.getD_eq_getElem?_getD,hx,hy2,hk0]);have x3:=(o7.below hbel o7.lt).cell (i:=3) rfl;clear hx hxp hy2 hxu hk0;cases y2
       ·have HR:=Ac (show oZ inn (aQ g.nodes).1 k=true by rw[HRR.out]; rfl);go_wp2_with (at_builtin; refine nC rfl _ _ rfl w3.heap.size _ (kU inn (aQ g.nodes).1 k) rfl (HO.out.alloc _) wr.heap.size k rfl (heap_alloc_new _ _) byOmega (by have:=hbel.size; simp; omega) ?_; intro gg cap w4 hown4 hgrow hat hlt4; have aeT:Below w3.heap.size w3 w4:=(hbel.alloc hbel.size _).grown hgrow (by have:=hbel.size; simp; omega) (fun k hk=>(HO.out.lt k hk).1); have HO4:=Ac hown4; clear hown4 hgrow hat hlt4)
        go_roundw
        case rel=>exact⟨k+1,byOmega,by go_num,by rw[HST.out,HR.out]; simpa using HO4.out,aeT⟩
        case measure=>simp[intOf] <;> omega
       ·have HR:=Ac (show oZ inn (aQ g.nodes).1 k=false by rw[HRR.out]; rfl);go_wp2
        go_roundw
        case rel=>exact⟨k+1,byOmega,by go_num,by rw[HST.out,HR.out]; simpa using HO.out,hbel⟩
        case measure=>simp[intOf] <;> omega
    ·go_wp2
     go_ret2;have hke:k=g.nodes.length:=by have:=HIL.out;omega
     have z3:=hB3.size;refine⟨_,rfl,hB3.trans (hbel.mono z3),u9,by rw[HF.out]; rfl,?_⟩;rw[HLP2.out,← hke];exact zc4
 ·refine zbI ?_;intro hd;have HF:=Ac (show jA g node=er by rw[HLE.out,if_pos he]);obtain rfl:=HV1.out he;have HNZ:=Ac he;clear he;unfold noView;go_wp2
  go_ret2;exact⟨_,rfl,hB.alloc hB.size _,.slice none 0 0,by rw[HF.out]; rfl,by rw[HLP.out,HF.out,if_neg HNZ.out]; exact oM _ _⟩
def gJ (a b h:Int):Bool:=decide (a≤h)&&decide (h≤b)
def xU (a b:Int) (l:List Int):Bool:=decide (0 < l.countP (gJ a b))&&decide (l.countP (gJ a b) < l.length)
def kK (last:List Int) (sets:List (List Int)) (node:Int):Bool:=sets.all fun l=>!xU node (last.getD node.toNat 0) l
theorem agw {l:List Int} {p:Int→Bool} {k:Nat} {x:Int} (h:l[k]? = some x):(l.take (k+1)).countP p=(l.take k).countP p+(if p x then 1 else 0):=by
 rw[take_snoc h,List.countP_append];cases hx:p x <;> simp[hx]
theorem acr (w:World) (F:Ag) (u:Value) (r:Int) (g:Gm) (par last:List Int) (sets:List (List Int)) (hv:Bz w F u g par last sets) (hs:sets.length≤1000) (hsl:∀ l∈sets,l.length≤1000) (hll:last.length=g.nodes.length) (hr:0≤r∧r < (g.nodes.length:Int)) :
  Calls Tryz.prog 84 #[u,.int .i64 r] w (Ret w fun v _=>v = .bool (kK last sets r)):=by
 obtain⟨vn,vi,vp,vl,vs,rfl,⟨A,c,rfl,hc,hN'⟩,⟨Ai,ci,rfl,hci,hI⟩,⟨Ap,cp,rfl,hcp,hP⟩,⟨Al,cl,rfl,hcl,hL⟩,⟨As,cs,rfl,hcs,hS⟩⟩:=hv;clear hN' hI hP;obtain⟨q,rfl⟩:=Int.eq_ofNat_of_zero_le hr.1;obtain⟨bl,ol,rfl,_,hbl,hxl⟩:=hL byOmega;obtain⟨y,hy⟩:=aC (l:=last) (k:=q) byOmega;have el:=hxl q y hy;unfold iE at el;rw[Nat.mul_one] at el;have hql:q < last.length:=byOmega;have HAL:=Ac (show kK last sets (q:Int)=sets.all fun l=>!xU q y l by unfold kK; simp[List.getD_eq_getElem?_getD,hy]);have HS:=Ac hS;clear hS hL hxl hy hll hr;have HSL:=Ac hsl;clear hsl;go_in;go_wp2
 obtain⟨W,hW,hbx,hWb,hWz⟩:=aT w 98 #[.int .i64 g.au,.slice A g.nodes.length c,.slice Ai g.infos.length ci,.slice Ap par.length cp,.slice (some ⟨bl,ol,none⟩) last.length cl,.slice As sets.length cs];rw[← hW];clear hW hWz;have x4:=hbx.cell (i:=4) rfl;rw[← aJ hWb _ _ hbl] at el;go_loop [6,7,9,13] (fun _ _ _ i=>∃ k:Nat,k≤sets.length∧i = .int .i64 k∧(sets.take k).all (fun l=>!xU q y l)=true) (fun _ _ _ i=>sets.length - (intOf i).toNat)
 case atStart=>exact⟨0,byOmega,rfl,rfl⟩
 case round =>
  obtain⟨k,hk,rfl,hpre⟩:=hrel;have HP:=Ac hpre;clear hpre;by_cases hlt:k < sets.length
  ·obtain⟨bs,os,rfl,_,hbs,hxs⟩:=HS.out byOmega;obtain⟨l,hl'⟩:=aC hlt;obtain⟨vl',ev,Av,cv,rfl,hcv,hAv⟩:=hxs k l hl';rw[Nat.mul_one,← aJ hWb _ _ hbs] at ev;have hl1:=HSL.out l (List.mem_of_getElem? hl');have HLK:=Ac hl';have HAV:=Ac hAv;clear hl' hxs hAv;go_wp2
   go_loop [7,9,19] (fun n _ i=>∃ j:Nat,j≤l.length∧i = .int .i64 j∧n = .int .i64 (((l.take j).countP (gJ q y):Nat):Int)) (fun _ _ i=>l.length - (intOf i).toNat)
   case atStart=>exact⟨0,byOmega,rfl,rfl⟩
   case round =>
    obtain⟨j,hj,rfl,rfl⟩:=hrel;have akA:(l.take j).countP (gJ q y)≤j:=Nat.le_trans List.countP_le_length aB;by_cases hjt:j < l.length
    ·obtain⟨bv,ov,rfl,_,hbv,hxv⟩:=HAV.out byOmega;obtain⟨h,hh⟩:=aC hjt;have eh:=hxv j h hh;unfold iE at eh;rw[Nat.mul_one,← aJ hWb _ _ hbv] at eh;have HCS:=Ac (agw (p:=gJ q y) hh);clear hh hxv;generalize (l.take j).countP (gJ q y)=cn at *;by_cases q1:(q:Int)≤h
     ·by_cases q2:h≤y
      ·have HC:=Ac (show(l.take (j+1)).countP (gJ q y)=cn+1 by rw[HCS.out]; simp[gJ,q1,q2]);go_wp2
       go_round
       case rel=>exact⟨j+1,byOmega,by go_num,by rw[HC.out]; go_num⟩
       case measure=>simp[intOf] <;> omega
      ·have HC:=Ac (show(l.take (j+1)).countP (gJ q y)=cn by rw[HCS.out]; simp[gJ,q2]);have d2:decide (h≤y)=false:=decide_eq_false q2;go_wp2
       go_round
       case rel=>exact⟨j+1,byOmega,by go_num,by rw[HC.out]⟩
       case measure=>simp[intOf] <;> omega
     ·have HC:=Ac (show(l.take (j+1)).countP (gJ q y)=cn by rw[HCS.out]; simp[gJ,q1]);have d1:decide ((q:Int)≤h)=false:=decide_eq_false q1;go_wp2
      go_round
      case rel=>exact⟨j+1,byOmega,by go_num,by rw[HC.out]⟩
      case measure=>simp[intOf] <;> omega
    ·have HTK:=Ac (show l.take j=l from List.take_of_length_le byOmega);rw[HTK.out] at akA ⊢;have HMX:=Ac (show xU q y l=(decide (0 < l.countP (gJ q y))&&decide (l.countP (gJ q y) < l.length)) from rfl);generalize l.countP (gJ q y)=cn at *;by_cases q1:0 < cn
     ·by_cases q2:cn < l.length
      ·have HF:=Ac (show kK last sets (q:Int)=false by
        rw[HAL.out]; exact all_false (List.mem_of_getElem? HLK.out) (by rw[HMX.out]; simp[q1,q2]))
       go_wp2
       go_ret;exact⟨_,rfl,hWb,by rw[HF.out]; rfl⟩
      ·have d2:decide (cn < l.length)=false:=decide_eq_false q2;go_wp2
       go_round
       case rel=>exact⟨k+1,byOmega,by go_num,xM HLK.out HP.out (by rw[HMX.out]; simp[q2])⟩
       case measure=>simp[intOf] <;> omega
     ·obtain rfl:cn=0:=byOmega;go_wp2
      go_round
      case rel=>exact⟨k+1,byOmega,by go_num,xM HLK.out HP.out (by rw[HMX.out]; simp)⟩
      case measure=>simp[intOf] <;> omega
  ·have HF:=Ac (show kK last sets (q:Int)=true by rw[HAL.out]; have:=HP.out; rwa [List.take_of_length_le byOmega] at this);go_wp2
   go_ret;exact⟨_,rfl,hWb,by rw[HF.out]; rfl⟩
def kP (nodes:List Nd) (last:List Int) (sets:List (List Int)) (i:Nat):Bool:=match nodes[i]? with | some n=>decide (n.kind≠3)&&kK last sets i | none=>false
def gV (nodes:List Nd) (last:List Int) (sets:List (List Int)) (k:Nat):List Int:=((List.range k).filter (kP nodes last sets)).map fun i:Nat=>(i:Int)
theorem abE (nodes:List Nd) (last:List Int) (sets:List (List Int)) (k:Nat):gV nodes last sets (k+1)=gV nodes last sets k++(if kP nodes last sets k then [(k:Int)] else []):=by
 unfold gV;rw[List.range_succ,List.filter_append,List.map_append];cases h:kP nodes last sets k <;> simp[h]
theorem rU (nodes:List Nd) (last:List Int) (sets:List (List Int)) (k:Nat):(gV nodes last sets k).length≤k:=by
 unfold gV;refine za1 ?_;simp
def jB (g:Gm):List Int:=if bF g=0 then gV g.nodes (aQ g.nodes).2 (aW g) g.nodes.length else []
theorem wI (w:World) (F:Ag) (u:Value) (g:Gm) (hg:AB w F u g) (hsm:Small g) :
  Calls Tryz.prog 38 #[u] w (Ret w (Dz w.heap.size (bF g) (jB g))):=by
 have HG:=Ac hg;obtain⟨vn,vi,rfl,⟨A,c,rfl,hc,hN⟩,⟨Ai,ci,rfl,hci,hI⟩⟩:=hg;clear hI;have HN:=Ac hN;clear hN;have hn:=hsm.nodes;have hni:=hsm.infos;have HS:=Ac hsm;clear hsm;go_in;go_wp2_with fail
 refine(xH _ F _ g (HG.out.on (Same.alloc _ _ _)) HS.out).mono ?_;rintro e w1 ⟨_,rfl,hb1,vv,rfl,hv1,hv2⟩;have hgx:=(Row.new w 25 #[.int .i64 g.au,.slice A g.nodes.length c,.slice Ai g.infos.length ci]).below hb1 ay;refine Ya ?_;intro hB;simp only[World.size_alloc] at hv2;clear hb1;have HV1:=Ac hv1;have HV2:=Ac hv2;clear hv1 hv2;have HPP:=Ac (show jB g=if bF g=0 then gV g.nodes (aQ g.nodes).2 (aW g) g.nodes.length else [] from rfl);generalize hfe:bF g=er at *;have HFE:=Ac hfe;clear hfe;dsimp only;by_cases he:er=0
 ·have HVX:=Ac (HV2.out he);have HP2:=Ac (show jB g=gV g.nodes (aQ g.nodes).2 (aW g) g.nodes.length by rw[HPP.out,if_pos he]);subst he;clear HV1 HV2;have HVY:=Ac HVX.out;obtain⟨vn',vi',vp,vl,vs,rfl,⟨An,cn,rfl,hcn,hN'⟩,⟨Ax,cx,rfl,hcx,hI'⟩,⟨Ap,cp,rfl,hcp,hP'⟩,⟨Al,cl,rfl,hcl,hL'⟩,⟨As,cs,rfl,hcs,hS'⟩⟩:=HVX.out;clear hN' hI' hL' hS' hP' HVX;have g1:=hgx.cell (i:=1) rfl;have hlt1:=hgx.lt;go_wp2_with fail
  refine YV ?_;intro W hW hbx hWb hWz;clear hW hWz;have hBW:=hB.trans (hWb.mono hB.size);have hltW:=hbx.lt;clear hgx g1;go_loopw [6,7,8,20] (fun vo _ _ i wr=>∃ k:Nat,k≤g.nodes.length∧i = .int .i64 k∧wr.ownsRow W.heap.size 3 1 vo (gV g.nodes (aQ g.nodes).2 (aW g) k).length ((gV g.nodes (aQ g.nodes).2 (aW g) k).map (Value.int .i64))∧Below W.heap.size W wr) (fun _ _ _ i _=>g.nodes.length - (intOf i).toNat)
  case atStart=>exact⟨0,byOmega,rfl,World.ownsRow_nil _ _ _ _,Below.refl _ _⟩
  case round =>
   obtain⟨k,hk,rfl,hown,hbel⟩:=hrel;have HO:=Ac hown;clear hown;have hlen:=rU g.nodes (aQ g.nodes).2 (aW g) k;have HST:=Ac (abE g.nodes (aQ g.nodes).2 (aW g) k);by_cases hlt:k < g.nodes.length
   ·obtain⟨b,o,rfl,_,hb,hcell⟩:=HN.out byOmega;obtain⟨n,hn'⟩:=aC hlt;obtain⟨e0,e1,e2,⟨v3,e3,A3,c3,rfl,hc3,i3⟩,⟨v4,e4,A4,c4,rfl,hc4,i4⟩,⟨v5,e5,A5,c5,rfl,hc5,i5⟩⟩:=hcell k n hn';clear i3 i4 i5 hcell;have hwr:=hBW.trans (hbel.mono hBW.size);rw[← aJ hwr _ _ hb] at e0 e1 e2 e3 e4 e5;have HPA:=Ac (show kP g.nodes (aQ g.nodes).2 (aW g) k=(decide (n.kind≠3)&&kK (aQ g.nodes).2 (aW g) k) by unfold kP; rw[hn']);clear hn';by_cases hkd:n.kind=3
    ·have HR:=Ac (show kP g.nodes (aQ g.nodes).2 (aW g) k=false by rw[HPA.out]; simp[hkd]);have hd:(n.kind != 3)=false:=by simp[hkd]
     clear hkd;go_wp2
     go_roundw
     case rel=>exact⟨k+1,byOmega,by go_num,by rw[HST.out,HR.out]; simpa using HO.out.alloc _,hbel.alloc hbel.size _⟩
     case measure=>simp[intOf] <;> omega
    ·have hd:(n.kind != 3)=true:=by simp[hkd]
     have HR:=Ac (show kP g.nodes (aQ g.nodes).2 (aW g) k=kK (aQ g.nodes).2 (aW g) k by rw[HPA.out]; simp[hkd]);clear hkd;have hbx2:=hbx.below hbel hbx.lt;refine zbG ?_;intro x0 x1 x2;have x3:=hbx2.cell (i:=3) rfl;have x4:=hbx2.cell (i:=4) rfl;have x5:=hbx2.cell (i:=5) rfl;have hlt2:=hbx2.lt;go_wp2_with fail
     obtain⟨W2,hW2,hbn,nX,af6⟩:=aT wr 61 #[.int .i64 n.kind,.int .i64 n.aF,.int .i64 n.info,.slice A3 n.next.length c3,.slice A4 n.weights.length c4,.slice A5 n.pay.length c5];rw[← hW2];have HO2:=Ac (show W2.ownsRow W.heap.size 3 1 u6 (gV g.nodes (aQ g.nodes).2 (aW g) k).length ((gV g.nodes (aQ g.nodes).2 (aW g) k).map (Value.int .i64)) by rw[hW2]; exact HO.out.alloc _);clear hW2 af6 HO;have fZ:=hbel.trans (nX.mono hbel.size);have h12:=hWb.trans (fZ.mono hWb.size);refine(acr _ (fun b=>F b∨w.heap.size+1≤b) _ k g (aQ g.nodes).1 (aQ g.nodes).2 (aW g) (HVY.out.on (Below.same' h12 _)) (dZ HS.out).1 (dZ HS.out).2 (fH _ _).2 byOmega).mono ?_;rintro e w3 ⟨_,rfl,hb3,rfl⟩;have rO:=fZ.trans (hb3.mono fZ.size);have HO3:=Ac (show w3.ownsRow W.heap.size 3 1 u6 (gV g.nodes (aQ g.nodes).2 (aW g) k).length ((gV g.nodes (aQ g.nodes).2 (aW g) k).map (Value.int .i64)) from⟨HO2.out.1,HO2.out.2.imp id (fun ⟨gg,cap,cur,h1,h2,h3,h4⟩=>⟨gg,cap,cur,h1,h2,by rw[hb3.block gg (Array.getElem?_eq_some_iff.1 h3).1]; exact h3,h4⟩)⟩);clear HO2 fZ h12 hb3 nX hbn x0 x1 x2 x3 x4 x5 hbx2 e0 e1 e2 e3 e4 e5 hwr hbel;generalize kK (aQ g.nodes).2 (aW g) k=al at *;dsimp only;cases al
     ·go_wp2
      go_roundw
      case rel=>exact⟨k+1,byOmega,by go_num,by rw[HST.out,HR.out]; simpa using HO3.out,rO⟩
      case measure=>simp[intOf] <;> omega
     ·go_wp2_with (at_builtin; refine nC rfl _ _ rfl W.heap.size _ (gV g.nodes (aQ g.nodes).2 (aW g) k) rfl (HO3.out.alloc _) w3.heap.size k rfl (heap_alloc_new _ _) byOmega (by have:=rO.size; simp; omega) ?_; intro gg cap w4 hown4 hgrow hat hlt4; have aeT:Below W.heap.size W w4:=(rO.alloc rO.size _).grown hgrow (by have:=rO.size; simp; omega) (fun k hk=>(HO3.out.lt k hk).1); have HO4:=Ac hown4; clear hown4 hgrow hat hlt4)
      go_roundw
      case rel=>exact⟨k+1,byOmega,by go_num,by rw[HST.out,HR.out]; simpa using HO4.out,aeT⟩
      case measure=>simp[intOf] <;> omega
   ·go_wp2
    go_ret2;have hke:k=g.nodes.length:=byOmega;have zW:=hBW.size;refine⟨_,rfl,hBW.trans (hbel.mono zW),u6,by first | rfl | (rw[HFE.out]; rfl),?_⟩;rw[HP2.out,← hke];exact zc4
 ·refine zbI ?_;intro hd;obtain rfl:=HV1.out he;have HNZ:=Ac he;clear he;unfold noView;go_wp2
  go_ret2;exact⟨_,rfl,hB.alloc hB.size _,.slice none 0 0,by first | rfl | (rw[HFE.out]; rfl),by rw[HPP.out,if_neg HNZ.out]; exact oM _ _⟩
structure Shut (g:Gm) (X:Nat→Prop):Prop where
 kids:∀ (p:Nat) (n:Nd) (c:Nat),g.nodes[p]? = some n→X p→(c:Int)∈n.next→X c
 sets:∀ s i j,mv g.nodes s i=true→mv g.nodes s j=true→X i→X j
theorem zu {nodes:List Nd} {s i:Nat} (h:mv nodes s i=true):i < nodes.length:=by
 unfold mv at h;cases hn:nodes[i]? with
 | none=>rw[hn] at h; cases h
 | some n=>exact aI hn
theorem akC {g:Gm} (hin:Bg g) {s i:Nat} (h:mv g.nodes s i=true):s < g.infos.length:=by
 unfold mv at h;cases hn:g.nodes[i]? with
 | none=>rw[hn] at h; cases h
 | some n =>
  rw[hn] at h;simp at h;have:=hin n (List.mem_of_getElem? hn) h.1;omega
theorem alC {g:Gm} {r i:Nat}:In g.nodes [(r:Int)] i↔∃ e,Span g.nodes [(r:Int)] r e∧r≤i∧i < e:=by
 constructor
 ·rintro⟨q,hq,h⟩;simp at hq;have:q=r:=byOmega;subst this;exact h
 ·intro h;exact⟨r,ay,h⟩
theorem abb (p:Nat→Bool) (N:Nat):(((List.range N).filter p).map fun i:Nat=>(i:Int)).Pairwise (· < ·):=by
 rw[List.pairwise_map];refine List.Pairwise.filter p ?_;have:=List.pairwise_lt_range (n:=N);exact this.imp (fun h=>by omega)
theorem ag7:∀ {l m:List Int},l.Pairwise (· < ·)→m.Pairwise (· < ·)→(∀ x,x∈l↔x∈m)→l=m
 | [],[],_,_,_=>rfl
 | [],y :: m,_,_,h=>by have:=(h y).2 ay; cases this
 | x :: l,[],_,_,h=>by have:=(h x).1 ay; cases this
 | x :: l,y :: m,hl,hm,h=>by
  rw[List.pairwise_cons] at hl hm;have hxy:x=y:=by
   rcases List.mem_cons.1 ((h x).1 ay) with h1 | h1
   ·exact h1
   ·rcases List.mem_cons.1 ((h y).2 ay) with h2 | h2
    ·exact h2.symm
    ·have:=hm.1 x h1;have:=hl.1 y h2;omega
  subst hxy;congr 1;refine ag7 hl.2 hm.2 fun z=>?_
  constructor
  ·intro hz;rcases List.mem_cons.1 ((h z).1 (List.mem_cons_of_mem _ hz)) with h1 | h1
   ·have:=hl.1 z hz;omega
   ·exact h1
  ·intro hz;rcases List.mem_cons.1 ((h z).2 (List.mem_cons_of_mem _ hz)) with h1 | h1
   ·have:=hm.1 z hz;omega
   ·exact h1
theorem aeU {g:Gm} (hg:Good g) {R:List Int} (hr:∀ r∈R,0≤r∧r < (g.nodes.length:Int)) (hc:pK g R=true):Shut g (In g.nodes R):=by
 refine⟨fun p n c hp hX hcn=>?_,fun s i j hi hj hX=>?_⟩
 ·have hcl:=(hg.acS n (List.mem_of_getElem? hp) c hcn);exact(ag2 hg byOmega hp hcn).2 (.inr hX)
 ·have hs:=akC hg.infos hi;have hget:=fM hg.infos hs;unfold pK zQ at hc;rw[List.all_eq_true] at hc;have hsl:(aW g).length=g.infos.length:=bC _ _ _;have h1:=hc _ (by rw[← hsl,List.take_length]; exact List.mem_of_getElem? hget);rw[xO,aeJ] at h1;have mem:∀ k,mv g.nodes s k=true→(k:Int)∈bQ g.nodes s g.nodes.length:=fun k hk=>gq.2 ⟨k,rfl,zu hk,hk⟩
  refine zcH ?_;intro inn;have ha:(bQ g.nodes s g.nodes.length).any (jr (iR g.nodes R))=true:=List.any_eq_true.2 ⟨i,mem i hi,(inn i).2 ⟨zu hi,hX⟩⟩;rw[ha] at h1;simp only[Bool.not_true,Bool.false_or] at h1;exact((inn j).1 (List.all_eq_true.1 h1 j (mem j hj))).2
theorem alD {g:Gm} (hg:Good g) {j:Nat} (hj:j < g.nodes.length):In g.nodes [(0:Int)] j:=⟨0,ay,_,hg.span,Nat.zero_le _,hj⟩
theorem aeV {g:Gm} (hg:Good g) {R:List Int} (hr:∀ r∈R,0≤r∧r < (g.nodes.length:Int)) (h:∀ s i j,mv g.nodes s i=true→mv g.nodes s j=true→In g.nodes R i→In g.nodes R j):pK g R=true:=by
 unfold pK zQ;rw[List.all_eq_true];intro l hl;have hl:=List.mem_of_mem_take hl;obtain⟨q,hq⟩:=List.getElem?_of_mem hl;have hqs:q < g.infos.length:=by have:=aI hq;rwa [show(aW g).length=g.infos.length from bC _ _ _] at this
 rw[fM hg.infos hqs] at hq;cases hq;rw[xO,aeJ];cases ha:(bQ g.nodes q g.nodes.length).any (jr (iR g.nodes R)) with
 | false=>rfl
 | true =>
  obtain⟨x,hx1,hx2⟩:=List.any_eq_true.1 ha;obtain⟨z,rfl,hz2,hz3⟩:=gq.1 hx1;refine zcH ?_;intro inn;rw[Bool.not_true,Bool.false_or,List.all_eq_true];intro y hy;obtain⟨k,rfl,hk2,hk3⟩:=gq.1 hy;exact(inn k).2 ⟨hk2,h q z k hz3 hk3 ((inn z).1 hx2).2⟩
theorem yN {g:Gm} (hg:Good g) {r:Nat} (hr:r < g.nodes.length) {y:Int} (hy:(aQ g.nodes).2[r]? = some y) (k:Nat):(iR g.nodes [(r:Int)]).getD k false=gJ r y k:=by
 obtain⟨e,h1,h2,h3,h4⟩:=qB hg hr;rw[hy] at h4;cases h4;rw[Bool.eq_iff_iff,uG hg (fun x hx=>by simp at hx; omega)];unfold gJ;simp only[Bool.and_eq_true,decide_eq_true_eq];constructor
 ·rintro⟨_,q,hq,e',h5,h6,h7⟩;simp at hq;have:q=r:=byOmega;subst this;have:=h5.unique h1;omega
 ·rintro⟨h5,h6⟩;exact⟨byOmega,r,ay,e,h1,byOmega,byOmega⟩
theorem xW {g:Gm} (hg:Good g) {r:Nat} (hr:r < g.nodes.length):kK (aQ g.nodes).2 (aW g) (r:Int)=pK g [(r:Int)]:=by
 obtain⟨e,h1,h2,h3,h4⟩:=qB hg hr;unfold kK pK zQ;have hsl:(aW g).length=g.infos.length:=bC _ _ _;rw[← hsl,List.take_length];rw[Bool.eq_iff_iff,List.all_eq_true,List.all_eq_true];refine forall_congr' fun l=>forall_congr' fun hl=>?_
 have hy:(aQ g.nodes).2.getD (r:Int).toNat 0=(e:Int) - 1:=by simp[List.getD_eq_getElem?_getD,h4]
 rw[hy];have hc:l.countP (gJ (r:Int) ((e:Int) - 1))=oL (iR g.nodes [(r:Int)]) l:=by
  unfold oL;apply List.countP_congr;intro x hx;have hx2:=mJ (Nat.le_refl _) l hl x hx;obtain⟨z,rfl⟩:=Int.eq_ofNat_of_zero_le hx2.1;rw[Int.toNat_natCast,yN hg hr h4]
 unfold xU;rw[hc];have hle:=ahr (iR g.nodes [(r:Int)]) l;generalize oL (iR g.nodes [(r:Int)]) l=c at *;simp;omega
end Go.Proofs.YthmklhapjegfdaaGreatDoor
