/- (*recall.walker).chance, move, end, node: the error of a node by itself, by the program. -/
import Derived.Test.YthmklhapjegfdaaGreatDoorL27
import Derived.Test.YthmklhapjegfdaaGreatDoorL03
import Derived.Test.YthmklhapjegfdaaGreatDoorL04
set_option linter.all false
set_option maxRecDepth 100000
set_option maxHeartbeats 12800000
namespace Go.Proofs.YthmklhapjegfdaaGreatDoor
open Lib renaming hid → Aa
open List renaming getElem_toArray → lq1, getElem_cons_zero → lq2, getElem_cons_succ → lq3, setIfInBounds_toArray → lq4, set_cons_zero → lq5, set_cons_succ → lq6
open Go.RowKit
structure BU (w:World) (p:Nat) (aj:Int) (ni:Nat):Prop where
 aj:w.cell? ⟨p,0,none⟩=some (.int .i64 aj)
 infos:∃ A c,w.cell? ⟨p,2,none⟩=some (.slice A ni c)
theorem aeP (w:World) (F:Ac) (u ux:Value) (x:Nd) (hx:Bf w F ux x) (hl:x.next.length < 1000000∧x.weights.length < 1000000∧x.pay.length < 1000000) :
  Calls Tryz.prog 199 #[u,ux] w (Ret w fun v _=>v = .int .i64 (dw x)):=by
 obtain⟨v3,v4,v5,rfl,⟨A3,c3,rfl,hc3,h3⟩,⟨A4,c4,rfl,hc4,h4⟩,⟨A5,c5,rfl,hc5,h5⟩⟩:=hx;obtain⟨hl3,hl4,hl5⟩:=hl;have H4:=Aa (show Ae w F (.slice A4 x.weights.length c4) x.weights from⟨A4,c4,rfl,hc4,h4⟩);clear h3 h4 h5;by_cases q0:x.ak≠0
 ·have HF:=Aa (show dw x=3 by unfold dw; rw[if_pos (by omega)]);have d0:(x.ak != 0)=true:=neT (by omega);go_enter Tryz.func199,Tryz.ntmps199;go_wp2
  go_ret;exact⟨_,rfl,(Below.refl _ _).alloc (Nat.le_refl _) _,by rw[HF.out]; rfl⟩
 have d0:(x.ak != 0)=false:=neF (by omega);by_cases q1:x.info≠0
 ·have HF:=Aa (show dw x=3 by unfold dw; rw[if_pos (by omega)]);have d1:(x.info != 0)=true:=neT (by omega);go_enter Tryz.func199,Tryz.ntmps199;go_wp2
  go_ret;exact⟨_,rfl,(Below.refl _ _).alloc (Nat.le_refl _) _,by rw[HF.out]; rfl⟩
 have d1:(x.info != 0)=false:=neF (by omega);by_cases q2:0 < x.pay.length
 ·have HF:=Aa (show dw x=3 by unfold dw; rw[if_pos (by omega)]);go_enter Tryz.func199,Tryz.ntmps199;go_wp2
  go_ret;exact⟨_,rfl,(Below.refl _ _).alloc (Nat.le_refl _) _,by rw[HF.out]; rfl⟩
 have d2:decide ((0:Int) < (x.pay.length:Int))=false:=decide_eq_false (by omega);by_cases q3:x.next.length < 1
 ·have HF:=Aa (show dw x=3 by unfold dw; rw[if_pos (by omega)]);go_enter Tryz.func199,Tryz.ntmps199;go_wp2
  go_ret;exact⟨_,rfl,(Below.refl _ _).alloc (Nat.le_refl _) _,by rw[HF.out]; rfl⟩
 have d3:decide ((x.next.length:Int) < 1)=false:=decide_eq_false (by omega);by_cases q4:60 < x.next.length
 ·have HF:=Aa (show dw x=3 by unfold dw; rw[if_pos (by omega)]);go_enter Tryz.func199,Tryz.ntmps199;go_wp2
  go_ret;exact⟨_,rfl,(Below.refl _ _).alloc (Nat.le_refl _) _,by rw[HF.out]; rfl⟩
 have d4:decide ((60:Int) < (x.next.length:Int))=false:=decide_eq_false (by omega);by_cases q5:x.weights.length≠x.next.length
 ·have HF:=Aa (show dw x=3 by unfold dw; rw[if_pos (by omega)]);have d5:((x.weights.length:Int) != (x.next.length:Int))=true:=neT (by omega);go_enter Tryz.func199,Tryz.ntmps199;go_wp2
  go_ret;exact⟨_,rfl,(Below.refl _ _).alloc (Nat.le_refl _) _,by rw[HF.out]; rfl⟩
 have d5:((x.weights.length:Int) != (x.next.length:Int))=false:=neF (by omega);have HF:=Aa (show dw x=jk 1 1000 x.weights by unfold dw; rw[if_neg (by omega)]; rfl);clear q0 q1 q5;go_enter Tryz.func199,Tryz.ntmps199;go_wp2_with fail
 refine(pU _ F _ 1 1000 x.weights (H4.out.on (Same.alloc _ _ _)) (by omega)).mono ?_;rintro e w' ⟨v,rfl,hb,rfl⟩;dsimp only;go_wp2
 go_ret;exact⟨_,rfl,((Below.refl _ _).alloc (Nat.le_refl _) _).trans (hb.mono (by simp)),by rw[HF.out]; rfl⟩
theorem aH (w:World) (t:TypeId) (c:Array Value):∃ W:World,W=w.alloc (.cells c t)∧Row W w.heap.size t c.toList∧Below w.heap.size w W∧w.heap.size+1=W.heap.size :=
 ⟨_,rfl,Row.new w _ _,(Below.refl _ _).alloc (Nat.le_refl _) _,by simp⟩
theorem aeQ (aj:Int) (ni:Nat) (x:Nd) (h:¬ (0 < x.pay.length∨0 < x.weights.length∨x.next.length < 1∨10 < x.next.length)) :
  fM aj ni x=if jk 0 (aj - 1) [x.ak]≠0 then jk 0 (aj - 1) [x.ak] else jk 0 ((ni:Int) - 1) [x.info]:=by
 unfold fM jk outside;rw[if_neg h];simp only[List.any_cons,List.any_nil,Bool.or_false,Bool.or_eq_true,decide_eq_true_eq];repeat' split
 all_goals first | rfl | omega
theorem move_any (w:World) (F:Ac) (p:Nat) (ux:Value) (aj:Int) (ni:Nat) (x:Nd) (hw:BU w p aj ni) (hx:Bf w F ux x) (hl:x.next.length < 1000000∧x.weights.length < 1000000∧x.pay.length < 1000000)
  (hp:0≤aj∧aj < 1000000) (hni:ni < 1000000) (hpl:p < w.heap.size) :
  Calls Tryz.prog 200 #[.pointer (some ⟨p,0,none⟩),ux] w (Ret w fun v _=>v = .int .i64 (fM aj ni x)):=by
 obtain⟨v3,v4,v5,rfl,⟨A3,c3,rfl,hc3,h3⟩,⟨A4,c4,rfl,hc4,h4⟩,⟨A5,c5,rfl,hc5,h5⟩⟩:=hx;obtain⟨hl3,hl4,hl5⟩:=hl;clear h3 h4 h5;obtain⟨hwp,Ai,ci,hwi⟩:=hw;by_cases q0:0 < x.weights.length
 ·have HF:=Aa (show fM aj ni x=3 by unfold fM; rw[if_pos (by omega)]);go_enter Tryz.func200,Tryz.ntmps200;go_wp2
  go_ret;exact⟨_,rfl,(Below.refl _ _).alloc (Nat.le_refl _) _,by rw[HF.out]; rfl⟩
 have d0:decide ((0:Int) < (x.weights.length:Int))=false:=decide_eq_false (by omega);by_cases q1:0 < x.pay.length
 ·have HF:=Aa (show fM aj ni x=3 by unfold fM; rw[if_pos (by omega)]);go_enter Tryz.func200,Tryz.ntmps200;go_wp2
  go_ret;exact⟨_,rfl,(Below.refl _ _).alloc (Nat.le_refl _) _,by rw[HF.out]; rfl⟩
 have d1:decide ((0:Int) < (x.pay.length:Int))=false:=decide_eq_false (by omega);by_cases q2:x.next.length < 1
 ·have HF:=Aa (show fM aj ni x=3 by unfold fM; rw[if_pos (by omega)]);go_enter Tryz.func200,Tryz.ntmps200;go_wp2
  go_ret;exact⟨_,rfl,(Below.refl _ _).alloc (Nat.le_refl _) _,by rw[HF.out]; rfl⟩
 have d2:decide ((x.next.length:Int) < 1)=false:=decide_eq_false (by omega);by_cases q3:10 < x.next.length
 ·have HF:=Aa (show fM aj ni x=3 by unfold fM; rw[if_pos (by omega)]);go_enter Tryz.func200,Tryz.ntmps200;go_wp2
  go_ret;exact⟨_,rfl,(Below.refl _ _).alloc (Nat.le_refl _) _,by rw[HF.out]; rfl⟩
 have d3:decide ((10:Int) < (x.next.length:Int))=false:=decide_eq_false (by omega);have HF:=Aa (aeQ aj ni x (by omega));go_enter Tryz.func200,Tryz.ntmps200;go_wp2_with fail
 obtain⟨W,hW,hbx,hWb,hWz⟩:=aH w 61 #[.int .i64 x.kind,.int .i64 x.ak,.int .i64 x.info,.slice A3 x.next.length c3,.slice A4 x.weights.length c4,.slice A5 x.pay.length c5];rw[← hW];clear hW;have hold:=aA hWb;have wr1:IntKind.i64.wrap (aj - 1)=aj - 1:=IntWalk.i64_in _ (by omega);have wr2:IntKind.i64.wrap ((ni:Int) - 1)=(ni:Int) - 1:=IntWalk.i64_in _ (by omega);refine wp_region_held_drew (S:=fun w'=>w'.cell? ⟨w.heap.size,1,none⟩=some (.int .i64 x.ak)∧w'.cell? ⟨p,0,none⟩=some (.int .i64 aj)) (by kernel_rfl) ⟨hbx.cell rfl,(hold p 0 hpl).trans hwp⟩ (fun hHeld=>?_);refine tk0 [0,1,2,3,4,5,6,7] ?_;iterate 8 (refine tk (v:=?_) rfl (by kernel_rfl) (by kernel_rfl) (by kernel_rfl) (fun _ _ _ h=>h) (Or.inl ⟨by rfl,?_⟩) hHeld ?_;rotate_left;(focus intro wx hSx;(try dsimp only at hSx);go_split_ands;go_simp;try with_reducible rfl);try simp only[Act.put,lq1,lq2,lq3,lq4,lq5,lq6])
 refine tk1 ?_;refine tk2 8 (by kernel_rfl) rfl fun K hK=>?_
 go_simp;obtain⟨W1,hW1,hbr,uJ,agw⟩:=aH W 3 #[.int .i64 x.ak];rw[← hW1];clear hW1;have dS:=hbx.below uJ (by omega);have hB1:Below w.heap.size w W1:=hWb.trans (uJ.mono (by omega));clear hbx uJ hWb;refine hK.out _ _ ⟨dS.drew.cell rfl,(aA hB1.drew p 0 hpl).trans hwp⟩ (fun hHeld=>?_);clear hK K;try simp only[Act.put,lq1,lq2,lq3,lq4,lq5,lq6]
 refine tk2 9 (by kernel_rfl) rfl fun K hK=>?_
 go_simp;refine(pU _ (fun b=>b=W.heap.size) _ 0 (aj - 1) [x.ak] (Row.ints (l:=[x.ak]) hbr.drew (F:=fun b=>b=W.heap.size) rfl (c:=1) (by simp)) (by simp)).mono ?_;rintro e w1 ⟨_,rfl,hb1,rfl⟩;have hbx2:=dS.drew.below hb1 (by simp; omega);have hB2:Below w.heap.size w w1:=hB1.drew.trans (hb1.mono (by simp; omega));clear dS hb1 hB1 hbr;dsimp only;refine hK.out _ _ ⟨hbx2.cell rfl,(aA hB2 p 0 hpl).trans hwp⟩ (fun hHeld=>?_);clear hK K;try simp only[Act.put,lq1,lq2,lq3,lq4,lq5,lq6]
 refine tk0 [10] ?_;(refine tk (v:=?_) rfl (by kernel_rfl) (by kernel_rfl) (by kernel_rfl) (fun _ _ _ h=>h) (Or.inl ⟨by rfl,?_⟩) hHeld ?_;rotate_left;(focus intro wx hSx;(try dsimp only at hSx);go_split_ands;go_simp;try with_reducible rfl);try simp only[Act.put,lq1,lq2,lq3,lq4,lq5,lq6])
 refine tk1 ?_;refine wpAnyH_done (by kernel_rfl) ?_ _;have hx1:=hbx2.lt;generalize jk 0 (aj - 1) [x.ak]=er at *;by_cases he:er=0
 ·subst he;have HF2:=Aa (show fM aj ni x=jk 0 ((ni:Int) - 1) [x.info] by rw[HF.out]; simp);go_wp2_with fail
  refine wp_region_held_drew (S:=fun w'=>w'.cell? ⟨w.heap.size,2,none⟩=some (.int .i64 x.info)∧w'.cell? ⟨p,2,none⟩=some (.slice Ai ni ci)) (by kernel_rfl) ⟨hbx2.cell rfl,(aA hB2 p 2 hpl).trans hwi⟩ (fun hHeld=>?_);refine tk0 [0,1,2,3,4,5,6,7,8] ?_;iterate 9 (refine tk (v:=?_) rfl (by kernel_rfl) (by kernel_rfl) (by kernel_rfl) (fun _ _ _ h=>h) (Or.inl ⟨by rfl,?_⟩) hHeld ?_;rotate_left;(focus intro wx hSx;(try dsimp only at hSx);go_split_ands;go_simp;try with_reducible rfl);try simp only[Act.put,lq1,lq2,lq3,lq4,lq5,lq6])
  refine tk1 ?_;refine tk2 9 (by kernel_rfl) rfl fun K hK=>?_
  go_simp;obtain⟨W3,hW3,hbr,ajN,hW3z⟩:=aH w1 3 #[.int .i64 x.info];rw[← hW3];clear hW3;have uK:=hbx2.below ajN (by omega);have hB3:Below w.heap.size w W3:=hB2.trans (ajN.mono (by omega));clear hbx2 ajN hB2;refine hK.out _ _ ⟨uK.drew.cell rfl,(aA hB3.drew p 2 hpl).trans hwi⟩ (fun hHeld=>?_);clear hK K;try simp only[Act.put,lq1,lq2,lq3,lq4,lq5,lq6]
  refine tk2 10 (by kernel_rfl) rfl fun K hK=>?_
  go_simp;refine(pU _ (fun b=>b=w1.heap.size) _ 0 ((ni:Int) - 1) [x.info] (Row.ints (l:=[x.info]) hbr.drew (F:=fun b=>b=w1.heap.size) rfl (c:=1) (by simp)) (by simp)).mono ?_;rintro e w2 ⟨_,rfl,hb2,rfl⟩;have adE:=uK.drew.below hb2 (by simp; omega);have hB4:Below w.heap.size w w2:=hB3.drew.trans (hb2.mono (by simp; omega));clear uK hb2 hB3 hbr;dsimp only;refine hK.out _ _ ⟨adE.cell rfl,(aA hB4 p 2 hpl).trans hwi⟩ (fun hHeld=>?_);clear hK K;try simp only[Act.put,lq1,lq2,lq3,lq4,lq5,lq6]
  refine tk0 [11] ?_;(refine tk (v:=?_) rfl (by kernel_rfl) (by kernel_rfl) (by kernel_rfl) (fun _ _ _ h=>h) (Or.inl ⟨by rfl,?_⟩) hHeld ?_;rotate_left;(focus intro wx hSx;(try dsimp only at hSx);go_split_ands;go_simp;try with_reducible rfl);try simp only[Act.put,lq1,lq2,lq3,lq4,lq5,lq6])
  refine tk1 ?_;refine wpAnyH_done (by kernel_rfl) ?_ _;go_wp2
  go_ret;exact⟨_,rfl,hB4,by rw[HF2.out]; rfl⟩
 ·have hd:(er != 0)=true:=by simp[he]
  have HF2:=Aa (show fM aj ni x=er by rw[HF.out]; simp[he]);clear he;go_wp2
  go_ret;exact⟨_,rfl,hB2,by rw[HF2.out]; rfl⟩
theorem aiU (w:World) (F:Ac) (p:Nat) (ux:Value) (aj:Int) (ni:Nat) (x:Nd) (hw:BU w p aj ni) (hx:Bf w F ux x) (hl:x.next.length < 1000000∧x.weights.length < 1000000∧x.pay.length < 1000000) (hpl:p < w.heap.size) :
  Calls Tryz.prog 201 #[.pointer (some ⟨p,0,none⟩),ux] w (Ret w fun v _=>v = .int .i64 (jB aj x)):=by
 obtain⟨v3,v4,v5,rfl,⟨A3,c3,rfl,hc3,h3⟩,⟨A4,c4,rfl,hc4,h4⟩,⟨A5,c5,rfl,hc5,h5⟩⟩:=hx;obtain⟨hl3,hl4,hl5⟩:=hl;have H5:=Aa (show Ae w F (.slice A5 x.pay.length c5) x.pay from⟨A5,c5,rfl,hc5,h5⟩);clear h3 h4 h5;obtain⟨hwp,Ai,ci,hwi⟩:=hw;by_cases q0:x.ak≠0
 ·have HF:=Aa (show jB aj x=3 by unfold jB; rw[if_pos (by omega)]);have d0:(x.ak != 0)=true:=neT (by omega);go_enter Tryz.func201,Tryz.ntmps201;go_wp2
  go_quiet (fail)
  go_wp2
  go_ret;exact⟨_,rfl,aG ((Below.refl _ _).alloc (Nat.le_refl _) _) _,by rw[HF.out]; rfl⟩
 have d0:(x.ak != 0)=false:=neF (by omega);by_cases q1:x.info≠0
 ·have HF:=Aa (show jB aj x=3 by unfold jB; rw[if_pos (by omega)]);have d1:(x.info != 0)=true:=neT (by omega);go_enter Tryz.func201,Tryz.ntmps201;go_wp2
  go_quiet (fail)
  go_wp2
  go_ret;exact⟨_,rfl,aG ((Below.refl _ _).alloc (Nat.le_refl _) _) _,by rw[HF.out]; rfl⟩
 have d1:(x.info != 0)=false:=neF (by omega);by_cases q2:0 < x.next.length
 ·have HF:=Aa (show jB aj x=3 by unfold jB; rw[if_pos (by omega)]);have d2:decide ((0:Int) < (x.next.length:Int))=true:=decide_eq_true (by omega);go_enter Tryz.func201,Tryz.ntmps201;go_wp2
  go_quiet (fail)
  go_wp2
  go_ret;exact⟨_,rfl,aG ((Below.refl _ _).alloc (Nat.le_refl _) _) _,by rw[HF.out]; rfl⟩
 have d2:decide ((0:Int) < (x.next.length:Int))=false:=decide_eq_false (by omega);by_cases q3:0 < x.weights.length
 ·have HF:=Aa (show jB aj x=3 by unfold jB; rw[if_pos (by omega)]);have d3:decide ((0:Int) < (x.weights.length:Int))=true:=decide_eq_true (by omega);go_enter Tryz.func201,Tryz.ntmps201;go_wp2
  go_quiet (fail)
  go_wp2
  go_ret;exact⟨_,rfl,aG ((Below.refl _ _).alloc (Nat.le_refl _) _) _,by rw[HF.out]; rfl⟩
 have d3:decide ((0:Int) < (x.weights.length:Int))=false:=decide_eq_false (by omega);by_cases q4:(x.pay.length:Int)≠aj
 ·have HF:=Aa (show jB aj x=3 by unfold jB; rw[if_pos (by omega)]);have d4:((x.pay.length:Int) != aj)=true:=neT (by omega);go_enter Tryz.func201,Tryz.ntmps201;go_wp2
  go_quiet (fail)
  go_wp2
  go_ret;exact⟨_,rfl,aG ((Below.refl _ _).alloc (Nat.le_refl _) _) _,by rw[HF.out]; rfl⟩
 have d4:((x.pay.length:Int) != aj)=false:=neF (by omega);have HF:=Aa (show jB aj x=jk (-1000000) 1000000 x.pay by unfold jB; rw[if_neg (by omega)]; rfl);clear q0 q1 q4;go_enter Tryz.func201,Tryz.ntmps201;go_wp2
 go_quiet (fail)
 go_wp2_with fail
 refine(pU _ F _ (-1000000) 1000000 x.pay ((H5.out.on (Same.alloc _ _ _)).on (Same.drewN _ _ _)) (by omega)).mono ?_;rintro e w' ⟨v,rfl,hb,rfl⟩;dsimp only;go_wp2
 go_ret;exact⟨_,rfl,(aG ((Below.refl _ _).alloc (Nat.le_refl _) _) _).trans (hb.mono (by simp)),by rw[HF.out]; rfl⟩
def eY:List Int→Bool
 | a :: b :: r=>decide (a≤b)&&eY (b :: r)
 | _=>true
theorem qj:∀ (l:List Int) (k:Nat),eY l=true→eY (l.drop k)=true
 | l,0,h=>h
 | [],k+1,h=>by simp[eY]
 | [a],k+1,h=>by simp[eY]
 | a :: b :: r,k+1,h=>by
  simp only[eY,Bool.and_eq_true] at h;simp only[List.drop_succ_cons];exact qj (b :: r) k h.2
theorem vS {l:List Int} {k:Nat} {x y:Int} (hx:l[k]? = some x) (hy:l[k+1]? = some y):eY (l.drop k)=(decide (x≤y)&&eY (l.drop (k+1))):=by
 have h1:=aB hx;have h2:=aB hy;have e1:l[k]=x:=by simpa [h1] using hx
 have e2:l[k+1]=y:=by simpa [h2] using hy
 rw[List.drop_eq_getElem_cons h1,List.drop_eq_getElem_cons h2,e1,e2];rfl
theorem adF (l:List Int):eY l=true↔∀ k x y,l[k]? = some x→l[k+1]? = some y→x≤y:=by
 constructor
 ·intro h k x y hx hy;have:=qj l k h;rw[vS hx hy] at this;simp at this; exact this.1
 ·induction l with
  | nil=>intro _; rfl
  | cons a r ih=>match r with
   | []=>intro _; rfl
   | b :: r=>intro h; simp only[eY,Bool.and_eq_true,decide_eq_true_eq]; exact⟨h 0 a b rfl rfl,ih (fun k x y hx hy=>h (k+1) x y (by simpa using hx) (by simpa using hy))⟩
theorem acw (w:World) (F:Ac) (v:Value) (l:List Int) (hv:Ae w F v l) (hl:l.length≤1000000) :
  Calls Tryz.prog 203 #[v] w (Ret w fun v _=>v = .bool (eY l)):=by
 obtain⟨A,c,rfl,hc,hN⟩:=hv;have HN:=Aa hN; clear hN;go_enter Tryz.func203,Tryz.ntmps203;go_wp2
 go_loopw [3] (fun i wr=>∃ k:Nat,k≤l.length∧i = .int .i64 ((k:Int) - 1)∧eY (l.drop (k - 1))=true∧∃ n,wr=w.drewN n) (fun i _=>(intOf i+1).toNat)
 case atStart=>exact⟨l.length,by omega,rfl,by cases h:l.length with | zero=>simp[List.length_eq_zero_iff.1 h,eY] | succ m=>(have hm:m < l.length:=by omega); simp[List.drop_eq_getElem_cons hm,List.drop_eq_nil_of_le (show l.length≤m+1 by omega),eY],0,rfl⟩
 case round =>
  obtain⟨k,hk,rfl,hp,nn,rfl⟩:=hrel;have HP:=Aa hp; clear hp;by_cases hlt:2≤k
  ·obtain⟨b,o,rfl,_,hb,hx⟩:=HN.out (by omega);obtain⟨q,rfl⟩:∃ q,k=q+2:=⟨k - 2,by omega⟩;obtain⟨p,hpq⟩:∃ p,p=q+1:=⟨_,rfl⟩;have hpl:p < l.length:=by omega
   have hql:q < l.length:=by omega
   obtain⟨x,hx'⟩:=au (l:=l) (k:=q) (by omega);obtain⟨y,hy'⟩:=au (l:=l) (k:=p) (by omega);have ex:=hx q x hx';have ey:=hx p y hy';unfold iH at ex ey; rw[Nat.mul_one] at ex ey;have HS:=Aa (vS hx' (by rw[← hpq]; exact hy'));clear hx hx' hy';have i1:(((q+2:Nat):Int) - 1)=(p:Int):=by omega
   have i2:((p:Int) - 1)=(q:Int):=by omega
   have wr2:IntKind.i64.wrap (q:Int)=(q:Int):=IntWalk.i64_in _ (by omega);have hp0:(0:Int) < (p:Int):=by omega
   rw[i1];have HPQ:=Aa hpq; clear hpq i1;go_wp2_with fail
   refine wp_region_held_drew (S:=fun w'=>w'.cell? ⟨b,o+q,none⟩=some (.int .i64 x)∧w'.cell? ⟨b,o+p,none⟩=some (.int .i64 y)) (by kernel_rfl) ⟨ex,ey⟩ (fun hHeld=>?_);refine tk0 [0,1,2,3,4,5,6,7,8] ?_;iterate 9 (refine tk (v:=?_) rfl (by kernel_rfl) (by kernel_rfl) (by kernel_rfl) (fun _ _ _ h=>h) (Or.inl ⟨by rfl,?_⟩) hHeld ?_;rotate_left;(focus intro wx hSx;(try dsimp only at hSx);go_split_ands;go_simp;try with_reducible rfl);try simp only[Act.put,lq1,lq2,lq3,lq4,lq5,lq6])
   refine tk1 ?_;refine tk2 9 (by kernel_rfl) rfl fun K hK=>?_
   go_simp;refine(ahn _ y x).mono ?_;rintro e w1 ⟨rfl,rfl⟩;dsimp only;refine hK.out _ _ ⟨ex,ey⟩ (fun hHeld=>?_);clear hK K;try simp only[Act.put,lq1,lq2,lq3,lq4,lq5,lq6]
   refine wpAnyH_done (by kernel_rfl) ?_ _;clear hHeld ex ey;by_cases hyx:y < x
   ·have HF:=Aa (show eY l=false by
     cases h:eY l with
     | false=>rfl
     | true=>have:=qj l q h; rw[HS.out] at this; simp at this; omega)
    go_wp2
    go_ret;exact⟨_,rfl,aG (Below.refl _ _) _,by first | rfl | (rw[HF.out]; rfl)⟩
   ·have hd:decide (y < x)=false:=decide_eq_false hyx;go_wp2
    go_roundw
    case rel =>
     have e:=HPQ.out;refine⟨q+1,by omega,by first | rfl | (congr 1; omega),?_,_,rfl⟩;have:=HP.out;rw[Nat.add_sub_cancel,HS.out];simp only[Bool.and_eq_true,decide_eq_true_eq];exact⟨by omega,this⟩
    case measure=>simp[intOf]; omega
  ·go_wp2
   go_ret;refine⟨_,rfl,aG (Below.refl _ _) _,?_⟩;have:=HP.out;rw[show k - 1=0 by omega] at this;simp at this;rw[this]; rfl
def jR (g:Gm):Prop:=g.aj < 1∨4 < g.aj∨g.nodes.length < 1∨2000 < g.nodes.length∨200 < g.infos.length
instance (g:Gm):Decidable (jR g):=by unfold jR; infer_instance
def bV (aj:Int) (ni:Nat):List Nd→Int
 | []=>0
 | x :: l=>if dK aj ni x≠0 then dK aj ni x else bV aj ni l
def fA (infos:List Inf) (x:Nd):Bool:=decide (x.kind=2)&&(decide ((infos.getD x.info.toNat default).ak≠x.ak)||decide ((infos.getD x.info.toNat default).actions≠(x.next.length:Int)))
def qm (g:Gm):Bool:=g.nodes.any (fA g.infos)
def mF (sets:List (List Int)):Bool:=sets.any fun l=>decide (l.length=0)
def qo (sets:List (List Int)) (i:Nat):Bool:=decide ((sets.getD i []).getD 0 0 < (sets.getD (i - 1) []).getD 0 0)
def kZ (sets:List (List Int)) (m:Nat):Bool:=(List.range' 1 (m - 1)).any (qo sets)
def oH (g:Gm):Int:=if qm g then 10 else if mF (aN g) then 18 else if kZ (aN g) g.infos.length then 9 else 0
def bg (g:Gm):Int :=
 if jR g then 2 else if bV g.aj g.infos.length g.nodes≠0 then bV g.aj g.infos.length g.nodes
 else if (eX g.nodes (g.nodes.length+1) 0 0 0).1≠g.nodes.length then 9 else if 40 < (eX g.nodes (g.nodes.length+1) 0 0 0).2 then 5 else oH g
theorem abd {aj:Int} {ni:Nat} {l:List Nd} {k:Nat} {x:Nd} (h:l[k]? = some x):bV aj ni (l.drop k)=if dK aj ni x≠0 then dK aj ni x else bV aj ni (l.drop (k+1)):=by
 have hl:=aB h;rw[List.drop_eq_getElem_cons hl];have:l[k]=x:=by simpa [hl] using h
 rw[this]; rfl
theorem iC {aj:Int} {ni:Nat}:∀ {l:List Nd},bV aj ni l=0→∀ x∈l,dK aj ni x=0
 | [],_,_,h=>by cases h
 | y :: l,h,x,hx=>by
  unfold bV at h;split at h
  ·rename_i h1; exact absurd h h1
  ·rename_i h1
   rcases List.mem_cons.1 hx with rfl | hx
   ·simpa using h1
   ·exact iC h x hx
theorem qw {g:Gm} (h:bV g.aj g.infos.length g.nodes=0):AZ g:=by
 intro x hx hk;have:=iC h x hx;unfold dK fM at this;rw[if_neg (by omega),if_pos hk] at this;split at this
 ·omega
 ·split at this
  ·omega
  ·omega
inductive Span (nodes:List Nd):List Int→Nat→Nat→Prop
 | nil (a:Nat):Span nodes [] a a
 | cons {a m b:Nat} {n:Nd} {cs:List Int}:nodes[a]? = some n→Span nodes n.next (a+1) m→Span nodes cs m b→Span nodes ((a:Int) :: cs) a b
theorem Span.le {nodes:List Nd} {cs:List Int} {a b:Nat} (h:Span nodes cs a b):a≤b:=by
 induction h with
 | nil a=>exact Nat.le_refl _
 | cons _ _ _ ih1 ih2=>omega
theorem Span.bound {nodes:List Nd} {cs:List Int} {a b:Nat} (h:Span nodes cs a b) (ha:a≤nodes.length):b≤nodes.length:=by
 induction h with
 | nil a=>exact ha
 | cons hn _ _ ih1 ih2=>exact ih2 (ih1 (aB hn))
theorem Span.mem {nodes:List Nd} {cs:List Int} {a b:Nat} (h:Span nodes cs a b):∀ c∈cs,(a:Int)≤c∧c < b:=by
 induction h with
 | nil a=>intro c hc; cases hc
 | cons hn h1 h2 ih1 ih2 =>
  intro c hc;have l1:=h1.le;have l2:=h2.le;rcases List.mem_cons.1 hc with rfl | hc
  ·omega
  ·have:=ih2 c hc; omega
theorem Span.kids {nodes:List Nd} {cs:List Int} {a b:Nat} (h:Span nodes cs a b):∀ p n,a≤p→p < b→nodes[p]? = some n→∀ c∈n.next,(p:Int) < c∧c < b:=by
 induction h with
 | nil a=>intro p n h1 h2; omega
 | @cons a m b n cs hn h1 h2 ih1 ih2 =>
  intro p n' ha hb hp c hc;have l1:=h1.le;have l2:=h2.le;by_cases e:p=a
  ·subst e;rw[hn] at hp; cases hp;have:=h1.mem c hc;omega
  ·by_cases hm:p < m
   ·have:=ih1 p n' (by omega) hm hp c hc; omega
   ·exact ih2 p n' (by omega) hb hp c hc
theorem Span.parent {nodes:List Nd} {cs:List Int} {a b:Nat} (h:Span nodes cs a b):∀ j:Nat,a≤j→j < b→(j:Int)∈cs∨∃ p n,a≤p∧p < j∧nodes[p]? = some n∧(j:Int)∈n.next:=by
 induction h with
 | nil a=>intro j h1 h2; omega
 | @cons a m b n cs hn h1 h2 ih1 ih2 =>
  intro j ha hb;by_cases e:j=a
  ·subst e; exact .inl (by simp)
  ·by_cases hm:j < m
   ·rcases ih1 j (by omega) hm with h | ⟨p,n',hp1,hp2,hp3,hp4⟩
    ·exact .inr ⟨a,n,Nat.le_refl _,by omega,hn,h⟩
    ·exact .inr ⟨p,n',by omega,hp2,hp3,hp4⟩
   ·rcases ih2 j (by omega) hb with h | ⟨p,n',hp1,hp2,hp3,hp4⟩
    ·exact .inl (by simp[h])
    ·have:=h1.le;exact .inr ⟨p,n',by omega,hp2,hp3,hp4⟩
theorem Span.once {nodes:List Nd} {cs:List Int} {a b:Nat} (h:Span nodes cs a b):(∀ c∈cs,∀ p n,a≤p→p < b→nodes[p]? = some n→c ∉ n.next) ∧
  (∀ c p q n n',a≤p→p < b→a≤q→q < b→nodes[p]? = some n→nodes[q]? = some n'→c∈n.next→c∈n'.next→p=q):=by
 induction h with
 | nil a=>exact⟨(fun c hc=>(by cases hc)),(fun c p q n n' h1 h2=>(by omega))⟩
 | @cons a m b n cs hn h1 h2 ih1 ih2 =>
  have l1:=h1.le;have l2:=h2.le;have k1:=h1.kids;have k2:=h2.kids;have m1:=h1.mem;have m2:=h2.mem;constructor
  ·intro c hc p n' hp1 hp2 hp3 hp4;rcases List.mem_cons.1 hc with rfl | hc'
   ·by_cases e:p=a
    ·subst e; rw[hn] at hp3; cases hp3; have:=m1 _ hp4; omega
    ·by_cases hm:p < m
     ·have:=k1 p n' (by omega) hm hp3 _ hp4; omega
     ·have:=k2 p n' (by omega) hp2 hp3 _ hp4; omega
   ·by_cases e:p=a
    ·subst e; rw[hn] at hp3; cases hp3; have:=m1 _ hp4; have:=m2 _ hc'; omega
    ·by_cases hm:p < m
     ·have:=k1 p n' (by omega) hm hp3 _ hp4; have:=m2 _ hc'; omega
     ·exact ih2.1 c hc' p n' (by omega) hp2 hp3 hp4
  ·have key:∀ c p q n1 n2,a≤p→p < q→q < b→nodes[p]? = some n1→nodes[q]? = some n2→c∈n1.next→c∈n2.next→False:=by
    intro c p q n1 n2 hp1 hpq hq hn1 hn2 hc1 hc2;by_cases e:p=a
    ·subst e; rw[hn] at hn1; cases hn1;by_cases hm:q < m
     ·exact ih1.1 c hc1 q n2 (by omega) hm hn2 hc2
     ·have:=m1 c hc1; have:=k2 q n2 (by omega) hq hn2 c hc2; omega
    ·by_cases hm:q < m
     ·have:=ih1.2 c p q n1 n2 (by omega) (by omega) (by omega) hm hn1 hn2 hc1 hc2; omega
     ·by_cases hmp:p < m
      ·have:=k1 p n1 (by omega) hmp hn1 c hc1; have:=k2 q n2 (by omega) hq hn2 c hc2; omega
      ·have:=ih2.2 c p q n1 n2 (by omega) (by omega) (by omega) hq hn1 hn2 hc1 hc2; omega
   intro c p q n1 n2 hp1 hp2 hq1 hq2 hn1 hn2 hc1 hc2;rcases Nat.lt_trichotomy p q with h | h | h
   ·exact(key c p q n1 n2 hp1 h hq2 hn1 hn2 hc1 hc2).elim
   ·exact h
   ·exact(key c q p n2 n1 hq1 h hp2 hn2 hn1 hc2 hc1).elim
theorem Span.sub {nodes:List Nd} {cs:List Int} {a b:Nat} (h:Span nodes cs a b):∀ i:Nat,a≤i→i < b→∃ e,Span nodes [(i:Int)] i e∧i < e∧e≤b:=by
 induction h with
 | nil a=>intro i h1 h2; omega
 | @cons a m b n cs hn h1 h2 ih1 ih2 =>
  intro i ha hb;have l1:=h1.le;have l2:=h2.le;by_cases e:i=a
  ·subst e; exact⟨m,.cons hn h1 (.nil m),by omega,by omega⟩
  ·by_cases hm:i < m
   ·obtain⟨e,h,h3,h4⟩:=ih1 i (by omega) hm; exact⟨e,h,h3,by omega⟩
   ·obtain⟨e,h,h3,h4⟩:=ih2 i (by omega) hb; exact⟨e,h,h3,h4⟩
theorem Span.unique {nodes:List Nd} {cs:List Int} {a b:Nat} (h:Span nodes cs a b):∀ {b'},Span nodes cs a b'→b=b':=by
 induction h with
 | nil a=>intro b' h; cases h; rfl
 | cons hn h1 h2 ih1 ih2 =>
  intro b' h;generalize hx:((_:Int) :: _)=l at h;cases h with
  | nil=>cases hx
  | cons hn' h1' h2' =>
   injection hx with e1 e2
   rw[hn] at hn'; cases hn';have:=ih1 h1';subst this;subst e2;exact ih2 h2'
theorem tY {nodes:List Nd} {rec:Nat→Int→Int×Int} (hrec:∀ a d,(rec a d).1≠-1→∃ b:Nat,(rec a d).1=b∧Span nodes [(a:Int)] a b) :
  ∀ (cs:List Int) (x:Nat) (deep:Int),(dA rec cs x deep).1≠-1→∃ b:Nat,(dA rec cs x deep).1=b∧Span nodes cs x b
 | [],x,deep,_=>⟨x,rfl,.nil x⟩
 | c :: cs,x,deep,h=>by
  unfold dA at h ⊢;by_cases hc:c=x
  ·subst hc;simp only[ne_eq,not_true_eq_false,↓reduceIte,Int.toNat_natCast] at h ⊢;by_cases hng:(rec x deep).1 < 0
   ·rw[if_pos hng] at h; exact absurd rfl h
   ·rw[if_neg hng] at h ⊢;obtain⟨m,hm,hs⟩:=hrec x deep (by omega);rw[hm] at h ⊢;obtain⟨b,hb,hs2⟩:=tY hrec cs m _ h;refine⟨b,hb,?_⟩;generalize hl:[(x:Int)]=l at hs;cases hs with
    | nil=>cases hl
    | cons hn h1 h2 =>
     injection hl with e1 e2
     subst e2;cases h2
     exact .cons hn h1 hs2
  ·rw[if_pos hc] at h; exact absurd rfl h
theorem aao (nodes:List Nd):∀ (f a:Nat) (depth deep:Int),(eX nodes f a depth deep).1≠-1→∃ b:Nat,(eX nodes f a depth deep).1=b∧Span nodes [(a:Int)] a b
 | 0,_,_,_,h=>absurd rfl h
 | f+1,a,depth,deep,h=>by
  unfold eX at h ⊢;cases hn:nodes[a]? with
  | none=>rw[hn] at h; exact absurd rfl h
  | some n =>
   rw[hn] at h;simp only at h ⊢;have:=tY (nodes:=nodes) (rec:=fun a d=>eX nodes f a (depth+1) d) (fun a' d h'=>aao nodes f a' (depth+1) d h') n.next (a+1) (max deep depth) h;obtain⟨b,hb,hs⟩:=this;exact⟨b,hb,.cons hn hs (.nil b)⟩
structure Good (g:Gm):Prop where
 pos:0 < g.nodes.length
 span:Span g.nodes [(0:Int)] 0 g.nodes.length
 infos:AZ g
theorem dZ {g:Gm} (h:bg g=0):Good g:=by
 unfold bg at h;split at h
 ·omega
 ·rename_i h1
  split at h
  ·rename_i h2; exact absurd h h2
  ·rename_i h2
   split at h
   ·omega
   ·rename_i h3
    have hp:0 < g.nodes.length:=by unfold jR at h1; omega
    have h3':(eX g.nodes (g.nodes.length+1) 0 0 0).1=(g.nodes.length:Int):=by simpa using h3
    obtain⟨b,hb,hs⟩:=aao g.nodes (g.nodes.length+1) 0 0 0 (by omega);have:b=g.nodes.length:=by omega
    subst this;exact⟨hp,hs,qw (by simpa using h2)⟩
theorem Good.uM {g:Gm} (h:Good g):DT g.nodes:=by
 intro n hn c hc;obtain⟨i,hi⟩:=List.getElem?_of_mem hn;have:=h.span.kids i n (Nat.zero_le _) (aB hi) hi c hc;omega
def uN (inn:List Bool) (l:List Int):Nat:=l.countP fun x=>inn.getD x.toNat false
def aap (inn:List Bool) (sets:List (List Int)) (k:Nat):List Int:=((sets.take k).zipIdx.filter fun p=>decide (0 < uN inn p.1)).map fun p=>(p.2:Int)
def sK (inn:List Bool) (sets:List (List Int)) (k:Nat):Bool:=(sets.take k).all fun l=>!decide (0 < uN inn l)||decide (uN inn l=l.length)
theorem yB {α:Type} {l:List α} {k:Nat} {x:α} (h:l[k]? = some x):(l.take (k+1)).zipIdx=(l.take k).zipIdx ++ [(x,k)]:=by
 rw[take_snoc h,List.zipIdx_append];have:=aB h;simp[List.length_take,Nat.min_eq_left (Nat.le_of_lt this)]
def acy (g:Gm) (roots:List Int):List Int:=aap (fK g.nodes roots) (aN g) g.infos.length
def jS (g:Gm) (roots:List Int):Bool:=sK (fK g.nodes roots) (aN g) g.infos.length
theorem lg {nodes:List Nd} {ni k:Nat} (hk:k≤nodes.length):∀ l∈dM nodes ni k,∀ x∈l,0≤x∧x < (nodes.length:Int):=by
 induction k with
 | zero=>intro l hl; simp[dM] at hl; simp[hl.2]
 | succ k ih =>
  intro l hl x hx;unfold dM at hl;split at hl
  ·split at hl
   ·rcases List.mem_or_eq_of_mem_set hl with h | h
    ·exact ih (by omega) l h x hx
    ·rename_i n _ _
     subst h;rw[List.mem_append] at hx;rcases hx with hx | hx
     ·rcases Nat.lt_or_ge n.info.toNat (dM nodes ni k).length with hlt | hge
      ·exact ih (by omega) ((dM nodes ni k).getD n.info.toNat []) (by rw[List.getD_eq_getElem?_getD]; simp[hlt]) x hx
      ·rw[List.getD_eq_getElem?_getD,List.getElem?_eq_none hge] at hx; simp at hx
     ·simp at hx; omega
   ·exact ih (by omega) l hl x hx
  ·exact ih (by omega) l hl x hx
theorem fQ (nodes:List Nd) (roots:List Int):(fK nodes roots).length=nodes.length:=by unfold fK; rw[ac4,iV]; simp
theorem Ae.take {w:World} {F:Ac} {A:Option Addr} {c k:Nat} {l:List Int} (h:Ae w F (.slice A l.length c) l) (hk:k≤l.length):Ae w F (.slice A k c) (l.take k):=by
 obtain⟨A',c',e,hc,hr⟩:=h;simp only[Value.slice.injEq] at e;obtain⟨rfl,_,rfl⟩:=e;have hl:(l.take k).length=k:=by simp; omega
 refine⟨A,c,by rw[hl],by omega,fun h0=>?_⟩;obtain⟨b,o,rfl,hb,hlt,hx⟩:=hr (by omega);refine⟨b,o,rfl,hb,hlt,fun j x hj=>hx j x ?_⟩;rw[List.getElem?_take] at hj;split at hj
 ·exact hj
 ·cases hj
def jP (n:Nat) (l:List Int):Bool:=l.any fun r=>decide (r < 0)||decide ((n:Int)≤r)
def qx (nodes:List Nd) (roots:List Int) (i:Nat):Bool:=decide (roots.getD i 0≤roots.getD (i - 1) 0)||(fK nodes (roots.take i)).getD (roots.getD i 0).toNat false
def nJ (nodes:List Nd) (roots:List Int) (m:Nat):Bool:=(List.range' 1 (m - 1)).any (qx nodes roots)
def uO (nodes:List Nd) (roots:List Int):Int :=
 if roots = [] then 3 else if jP nodes.length roots then 2 else if nJ nodes roots roots.length then 9 else 0
theorem kJ {n:Nat} {l:List Int} (h:jP n l=false):∀ r∈l,0≤r∧r < (n:Int):=by
 intro r hr;unfold jP at h;have:=List.any_eq_false.1 h r hr;simp at this; omega
def qy (g:Gm) (roots:List Int):Int:=if bg g≠0 then bg g else uO g.nodes roots
def kK (inn:List Bool) (k:Nat):List Int:=((inn.take k).zipIdx.filter fun p=>p.1).map fun p=>(p.2:Int)
def aaq (inn:List Bool):List Int:=kK inn inn.length
theorem acz {inn:List Bool} {k:Nat} {b:Bool} (h:inn[k]? = some b):kK inn (k+1)=kK inn k++(if b then [(k:Int)] else []):=by
 unfold kK;rw[yB h,List.filter_append,List.map_append];cases b <;> simp
theorem rE (inn:List Bool) (k:Nat):(kK inn k).length≤k:=by
 unfold kK;rw[List.length_map];refine Nat.le_trans (List.length_filter_le _ _) ?_;simp; omega
def oW (g:Gm) (roots:List Int):Bool:=decide (qy g roots=0)&&jS g roots
def D8 (B:Nat) (e:Int) (l1 l2:List Int) (v:Value) (w':World):Prop:=∃ v1 v2,v = .tuple #[v1,v2,.int .i64 e]∧Ae w' (fun b=>B≤b) v1 l1∧Ae w' (fun b=>B≤b) v2 l2
theorem nK (w:World) (F:Ac):Ae w F (.slice none 0 0) []:=⟨none,0,rfl,Nat.le_refl _,fun h=>absurd h (by simp)⟩
theorem ahN {nodes:List Nd} {roots:List Int} (h:uO nodes roots=0):∀ r∈roots,0≤r∧r < (nodes.length:Int):=by
 unfold uO at h;split at h
 ·omega
 ·split at h
  ·omega
  ·rename_i h2
   exact kJ (by simpa using h2)
theorem aeR {g:Gm} {roots:List Int} (h:qy g roots=0):Good g∧uO g.nodes roots=0:=by
 unfold qy at h;split at h
 ·rename_i h1; exact absurd h h1
 ·rename_i h1; exact⟨dZ (by simpa using h1),h⟩
theorem rF {l:List Int} {i:Int} {p:List Int} {j:Nat} (hj:j < p.length) (hl:∀ c∈l,0≤c):(iT l i p)[j]? = if (j:Int)∈l then some i else p[j]?:=by
 unfold iT;induction l generalizing p with
 | nil=>simp
 | cons c l ih =>
  simp only[List.foldl_cons];rw[ih (by simpa using hj) (fun d hd=>hl d (List.mem_cons_of_mem _ hd))];have hc:=hl c (by simp);by_cases h1:(j:Int)∈l
  ·rw[if_pos h1,if_pos (List.mem_cons_of_mem _ h1)]
  ·rw[if_neg h1];by_cases h2:(j:Int)=c
   ·rw[if_pos (by rw[h2]; simp),List.getElem?_set,if_pos (by omega),if_pos (by omega)]
   ·rw[if_neg (by simp[h1,h2]),List.getElem?_set_ne (by omega)]
theorem agx {g:Gm} (hg:Good g) {j p:Nat} {n:Nd} (hj:j < g.nodes.length) (hp:g.nodes[p]? = some n) (hc:(j:Int)∈n.next) (k:Nat):k≤g.nodes.length→p < k→(lT g.nodes k)[j]? = some (p:Int):=by
 induction k with
 | zero=>intro _ h; omega
 | succ k ih =>
  intro hk hpk;obtain⟨m,hm⟩:=au (l:=g.nodes) (k:=k) (by omega);rw[zI hm,rF (by rw[iU]; exact hj) (fun c hc=>(hg.uM m (List.mem_of_getElem? hm) c hc).1)];by_cases h1:(j:Int)∈m.next
  ·have hpk':p=k:=hg.span.once.2 _ p k n m (by omega) (aB hp) (by omega) (by omega) hp hm hc h1;rw[if_pos h1,hpk']
  ·rw[if_neg h1];by_cases h2:p=k
   ·subst h2; rw[hp] at hm; cases hm; exact absurd hc h1
   ·exact ih (by omega) (by omega)
theorem lV {g:Gm} (hg:Good g) {j p:Nat} {n:Nd} (hj:j < g.nodes.length) (hp:g.nodes[p]? = some n) (hc:(j:Int)∈n.next):(aW g.nodes)[j]? = some (p:Int) :=
 agx hg hj hp hc _ (Nat.le_refl _) (aB hp)
theorem jD {g:Gm} (hg:Good g) {j:Nat} (h0:0 < j) (hj:j < g.nodes.length):∃ p n,p < j∧g.nodes[p]? = some n∧(j:Int)∈n.next:=by
 rcases hg.span.parent j (by omega) hj with h | ⟨p,n,_,h1,h2,h3⟩
 ·simp at h; omega
 ·exact⟨p,n,h1,h2,h3⟩
def Falls (N:Nat) (par:List Int):Prop:=∀ (i:Nat) (x:Int),i < N→par[i]? = some x→-1≤x∧x < (i:Int)
theorem aeS (nodes:List Nd) (hk:∀ n∈nodes,∀ c∈n.next,0 < c) (k:Nat):nodes.length≠0→(lT nodes k)[0]? = some (-1):=by
 intro h0;induction k with
 | zero=>unfold lT; rw[List.getElem?_set_self (by simp; omega)]
 | succ k ih =>
  unfold lT;split
  ·rename_i n hn
   rw[rF (by rw[iU]; omega) (fun c hc=>by have:=hk n (List.mem_of_getElem? hn) c hc; omega),if_neg,ih];intro hm;have:=hk n (List.mem_of_getElem? hn) _ hm;omega
  ·exact ih
theorem lJ {g:Gm} (hg:Good g):Falls g.nodes.length (aW g.nodes):=by
 intro i x hi hx;by_cases h0:i=0
 ·subst h0;have h1:=aeS g.nodes (fun n hn c hc=>by
   obtain⟨k,hk⟩:=List.getElem?_of_mem hn;have:=hg.span.kids k n (Nat.zero_le _) (aB hk) hk c hc;omega) g.nodes.length (by have:=hg.pos; omega)
  unfold aW at hx;rw[h1] at hx; cases hx; omega
 ·obtain⟨p,n,h1,h2,h3⟩:=jD hg (by omega) hi;rw[lV hg hi h2 h3] at hx;cases hx; omega
theorem gU (nodes:List Nd):(aW nodes).length=nodes.length:=iU _ _
theorem Good.par {g:Gm} (hg:Good g) {c:Nat} (hc:c < g.nodes.length):∃ p:Int,(aW g.nodes)[c]? = some p∧((c=0∧p = -1)∨∃ (q:Nat) (n:Nd),p=(q:Int)∧q < c∧g.nodes[q]? = some n∧(c:Int)∈n.next):=by
 obtain⟨p,hp⟩:=au (l:=aW g.nodes) (k:=c) (by rw[gU]; exact hc);refine⟨p,hp,?_⟩;by_cases h0:c=0
 ·subst h0;have:=lJ hg 0 p hc hp;exact .inl ⟨rfl,by omega⟩
 ·obtain⟨q,n,h1,h2,h3⟩:=jD hg (by omega) hc;rw[lV hg hc h2 h3] at hp;cases hp
  exact .inr ⟨q,n,rfl,h1,h2,h3⟩
def Kid (nodes:List Nd) (i k c:Nat):Prop:=∃ n,nodes[i]? = some n∧n.next[k]? = some (c:Int)
theorem Span.inj {nodes:List Nd} {cs:List Int} {a b:Nat} (h:Span nodes cs a b):∀ (k k':Nat) (c:Int),cs[k]? = some c→cs[k']? = some c→k=k':=by
 induction h with
 | nil a=>intro k k' c h1; simp at h1
 | @cons a m b n cs hn h1 h2 ih1 ih2 =>
  intro k k' c hk hk';have l1:=h1.le;have m2:=h2.mem;cases k with
  | zero =>
   cases k' with
   | zero=>rfl
   | succ k' =>
    simp at hk hk';have:=m2 c (List.mem_of_getElem? hk');omega
  | succ k =>
   cases k' with
   | zero =>
    simp at hk hk';have:=m2 c (List.mem_of_getElem? hk);omega
   | succ k' =>
    simp at hk hk';rw[ih2 k k' c hk hk']
theorem Span.ajO {nodes:List Nd} {cs:List Int} {a b:Nat} (h:Span nodes cs a b):∀ p n,a≤p→p < b→nodes[p]? = some n→∃ e,Span nodes n.next (p+1) e∧e≤b:=by
 intro p n ha hb hn;obtain⟨e,hs,h1,h2⟩:=h.sub p ha hb;generalize hl:[(p:Int)]=l at hs;cases hs with
 | nil=>cases hl
 | cons hn' h3 h4 =>
  injection hl with e1 e2
  subst e2;rw[hn] at hn'; cases hn';cases h4
  exact⟨e,h3,h2⟩
theorem Good.acA {g:Gm} (h:Good g) {i k c:Nat} (hk:Kid g.nodes i k c):i < c∧c < g.nodes.length∧i < g.nodes.length:=by
 obtain⟨n,hn,hc⟩:=hk;have hl:=aB hn;have:=h.span.kids i n (Nat.zero_le _) hl hn c (List.mem_of_getElem? hc);omega
theorem Good.aiV {g:Gm} (h:Good g) {i k i' k' c:Nat} (h1:Kid g.nodes i k c) (h2:Kid g.nodes i' k' c):i=i'∧k=k':=by
 obtain⟨n,hn,hc⟩:=h1;obtain⟨n',hn',hc'⟩:=h2;have e:=h.span.once.2 c i i' n n' (Nat.zero_le _) (aB hn) (Nat.zero_le _) (aB hn') hn hn' (List.mem_of_getElem? hc) (List.mem_of_getElem? hc');subst e;rw[hn] at hn'; cases hn';obtain⟨e,hs,_⟩:=h.span.ajO i n (Nat.zero_le _) (aB hn) hn;exact⟨rfl,hs.inj k k' c hc hc'⟩
theorem Good.afP {g:Gm} (h:Good g) {c:Nat} (h0:0 < c) (hc:c < g.nodes.length):∃ i k,Kid g.nodes i k c:=by
 rcases h.span.parent c (Nat.zero_le _) hc with h | ⟨p,n,_,h1,h2,h3⟩
 ·simp at h; omega
 ·obtain⟨k,hk⟩:=List.getElem?_of_mem h3;exact⟨p,k,n,h2,hk⟩
def upTo (nodes:List Nd) (c:Nat):Nat→Option (Nat×Nat)
 | 0=>none
 | i+1=>match (nodes[i]?).bind fun n=>n.next.findIdx? fun x=>decide (x=(c:Int)) with
  | some k=>some (i,k)
  | none=>upTo nodes c i
def aiW (l:List Int):Int:=l.foldl (· + ·) 0
def oZ (m:List (List Rat)) (n:Nd):List Rat:=if n.kind=2 then m.getD n.info.toNat [] else n.weights.map fun x:Int=>(x:Rat) / ((aiW n.weights:Int):Rat)
def agy (cnt:Nd→Bool) (nodes:List Nd) (m:List (List Rat)) (l:List Rat) (c:Nat):Rat :=
 match upTo nodes c c with
 | some (i,k)=>match nodes[i]? with
  | some n=>if cnt n then l.getD i 0*(oZ m n).getD k 0 else l.getD i 0
  | none=>1
 | none=>1
def acB (cnt:Nd→Bool) (nodes:List Nd) (m:List (List Rat)):Nat→List Rat
 | 0=>[]
 | c+1=>acB cnt nodes m c ++ [agy cnt nodes m (acB cnt nodes m c) c]
def jE (cnt:Nd→Bool) (nodes:List Nd) (m:List (List Rat)) (c:Nat):Rat:=(acB cnt nodes m (c+1)).getD c 0
def aeT (acc:List Rat) (b:Rat) (x:List Rat):List Rat:=List.zipWith (fun a y=>a+b*y) acc x
def qL (look:Nat→List Rat) (acc:List Rat) (l:List (Rat×Int)):List Rat:=l.foldl (fun acc bc=>aeT acc bc.1 (look bc.2.toNat)) acc
def valOf (aj:Nat) (m:List (List Rat)) (n:Nd) (look:Nat→List Rat):List Rat :=
 if n.kind=3 then n.pay.map (fun x:Int=>(x:Rat)) else qL look (List.replicate aj 0) ((oZ m n).zip n.next)
def aar (g:Gm) (m:List (List Rat)):Nat→List (List Rat)
 | 0=>[]
 | j+1=>(match g.nodes[g.nodes.length - 1 - j]? with
  | some n=>valOf g.aj.toNat m n (fun c=>(aar g m j).getD (c - (g.nodes.length - j)) [])
  | none=>[]) :: aar g m j
def kN (g:Gm) (m:List (List Rat)) (i:Nat):List Rat:=(aar g m (g.nodes.length - i)).headD []
theorem wS (g:Gm) (m:List (List Rat)):∀ (j i:Nat),j≤g.nodes.length→g.nodes.length - j≤i→i < g.nodes.length→(aar g m j)[i - (g.nodes.length - j)]? = some (kN g m i)
 | 0,i,_,h1,h2=>absurd h2 (by omega)
 | j+1,i,hj,h1,h2=>by
  by_cases e:i=g.nodes.length - (j+1)
  ·have e1:i - (g.nodes.length - (j+1))=0:=by omega
   have e2:g.nodes.length - i=j+1:=by omega
   rw[e1]; unfold kN; rw[e2]; unfold aar; rfl
  ·have e1:i - (g.nodes.length - (j+1))=(i - (g.nodes.length - j))+1:=by omega
   rw[e1]; unfold aar;rw[List.getElem?_cons_succ];exact wS g m j i (by omega) (by omega) h2
theorem yC {look look':Nat→List Rat}:∀ {l:List (Rat×Int)} {acc:List Rat},(∀ bc∈l,look bc.2.toNat=look' bc.2.toNat)→qL look acc l=qL look' acc l
 | [],_,_=>rfl
 | bc :: l,acc,h=>by
  have h1:=h bc (List.mem_cons_self);have h2:=yC (look:=look) (look':=look') (l:=l) (acc:=aeT acc bc.1 (look bc.2.toNat)) (fun b hb=>h b (List.mem_cons_of_mem _ hb));show qL look (aeT acc bc.1 (look bc.2.toNat)) l=qL look' (aeT acc bc.1 (look' bc.2.toNat)) l;rw[h2,h1]
theorem acC {g:Gm} (hg:Good g) (m:List (List Rat)) {i:Nat} {n:Nd} (hn:g.nodes[i]? = some n):kN g m i=valOf g.aj.toNat m n (kN g m):=by
 have hl:=aB hn;have h1:=wS g m (g.nodes.length - i) i (by omega) (by omega) hl;obtain⟨j,hj⟩:∃ j,g.nodes.length - i=j+1:=⟨g.nodes.length - i - 1,by omega⟩;have e0:i - (g.nodes.length - (g.nodes.length - i))=0:=by omega
 rw[e0,hj] at h1;unfold aar at h1;have e1:g.nodes.length - 1 - j=i:=by omega
 rw[e1,hn,List.getElem?_cons_zero,Option.some.injEq] at h1;rw[← h1];show valOf _ m n _=valOf _ m n _;unfold valOf;by_cases hk:n.kind=3
 ·rw[if_pos hk,if_pos hk]
 ·rw[if_neg hk,if_neg hk];refine yC fun bc hbc=>?_
  have hm:bc.2∈n.next:=(List.of_mem_zip (a:=bc.1) (b:=bc.2) hbc).2;have:=hg.span.kids i n (Nat.zero_le _) hl hn bc.2 hm;have h3:=wS g m j bc.2.toNat (by omega) (by omega) (by omega);rw[List.getD_eq_getElem?_getD,h3]; rfl
structure Fit (g:Gm) (m:List (List Rat)):Prop where
 good:Good g
 nodes:bV g.aj g.infos.length g.nodes=0
 aj:1≤g.aj∧g.aj≤4
 rows:m.length=g.infos.length
 chan:∀ n∈g.nodes,n.kind≠3→(oZ m n).length=n.next.length∧∀ x∈oZ m n,rl x≤4
theorem afQ {aj:Int} {ni:Nat} {nodes:List Nd} (h:bV aj ni nodes=0) {n:Nd} (hn:n∈nodes) (hk:n.kind=3):(n.pay.length:Int)=aj∧(∀ x∈n.pay,-1000000≤x∧x≤1000000)∧n.next = []:=by
 have h1:=iC h n hn;unfold dK at h1;rw[if_neg (by omega),if_neg (by omega),if_pos hk] at h1;unfold jB at h1;split at h1
 ·omega
 ·rename_i h2
  split at h1
  ·omega
  ·rename_i h3
   refine⟨by omega,fun x hx=>?_,List.eq_nil_of_length_eq_zero (by omega)⟩;have h4:outside (-1000000) 1000000 n.pay=false:=by simpa using h3
   unfold outside at h4;have:=List.any_eq_false.1 h4 x hx;simp at this;omega
theorem aiX {acc x:List Rat} {b:Rat} {A B:Nat} (h1:∀ y∈acc,rl y≤A) (h2:∀ y∈x,rl y≤B) (hb:rl b≤4):∀ y∈aeT acc b x,rl y≤A+B+5:=by
 intro y hy;unfold aeT at hy;obtain⟨k,hk⟩:=List.getElem?_of_mem hy;rw[List.getElem?_zipWith] at hk;cases ha:acc[k]? with
 | none=>rw[ha] at hk; simp at hk
 | some u =>
  cases hx:x[k]? with
  | none=>rw[ha,hx] at hk; simp at hk
  | some v =>
   rw[ha,hx] at hk;simp at hk;subst hk;have e1:=h1 u (List.mem_of_getElem? ha);have e2:=h2 v (List.mem_of_getElem? hx);have e3:=aeo u (b*v);have e4:=ahi b v;omega
theorem ahO {x:Int} (h:-1000000≤x∧x≤1000000):rl (x:Rat)≤1:=by
 rw[aep];have:(dig x.natAbs).length≤1:=dH (by unfold LB; omega);omega
theorem Fit.aiY {g:Gm} {m:List (List Rat)} (h:Fit g m) {cs:List Int} {a b:Nat} (hs:Span g.nodes cs a b):∀ (bs acc:List Rat) (A:Nat),(∀ x∈bs,rl x≤4)→(∀ x∈acc,rl x≤A)→∀ x∈qL (kN g m) acc (bs.zip cs),rl x≤A+7*(b - a):=by
 induction hs with
 | nil a =>
  intro bs acc A _ ha x hx;rw[List.zip_nil_right] at hx;have:=ha x hx; omega
 | @cons a k b n cs hn h1 h2 ih1 ih2 =>
  intro bs acc A hb ha x hx;have l1:=h1.le;have l2:=h2.le;cases bs with
  | nil =>
   have:=ha x (by simpa [qL] using hx); omega
  | cons c bs =>
   rw[List.zip_cons_cons] at hx;have hmem:=List.mem_of_getElem? hn;have hv:∀ y∈kN g m a,rl y≤2+7*(k - a - 1):=by
    rw[acC h.good m hn];unfold valOf;by_cases hk:n.kind=3
    ·rw[if_pos hk];intro y hy;obtain⟨z,hz,rfl⟩:=List.mem_map.1 hy;have:=ahO ((afQ h.nodes hmem hk).2.1 z hz);omega
    ·rw[if_neg hk];intro y hy;have:=ih1 _ _ 1 (h.chan n hmem hk).2 (fun z hz=>by rw[List.eq_of_mem_replicate hz,ab2]; omega) y hy;omega
   have hacc:=aiX (b:=c) ha hv (hb c (List.mem_cons_self));have:=ih2 bs _ _ (fun y hy=>hb y (List.mem_cons_of_mem _ hy)) hacc x hx;omega
theorem tZ {α β:Type}:∀ (l:List α) (r:List β) (k:Nat),(l.zip r).take k=(l.take k).zip r
 | [],r,k=>by simp
 | x :: l,[],k=>by simp
 | x :: l,y :: r,0=>by simp
 | x :: l,y :: r,k+1=>by rw[List.zip_cons_cons,List.take_succ_cons,List.take_succ_cons,List.zip_cons_cons,tZ]
theorem Fit.aiZ {g:Gm} {m:List (List Rat)} (h:Fit g m) {i:Nat} {n:Nd} (hn:g.nodes[i]? = some n) (hk:n.kind≠3) (k:Nat) :
  ∀ x∈qL (kN g m) (List.replicate g.aj.toNat 0) (((oZ m n).zip n.next).take k),rl x≤1+7*g.nodes.length:=by
 intro x hx;have hl:=aB hn;obtain⟨e,hs,he⟩:=h.good.span.ajO i n (Nat.zero_le _) hl hn;rw[tZ] at hx;have:=h.aiY hs _ _ 1 (fun y hy=>(h.chan n (List.mem_of_getElem? hn) hk).2 y (List.mem_of_mem_take hy)) (fun z hz=>by rw[List.eq_of_mem_replicate hz,ab2]; omega) x hx;omega
theorem Fit.ajP {g:Gm} {m:List (List Rat)} (h:Fit g m) {i:Nat} (hi:i < g.nodes.length):∀ x∈kN g m i,rl x≤1+7*g.nodes.length:=by
 intro x hx;obtain⟨n,hn⟩:=au (l:=g.nodes) (k:=i) hi;have hmem:=List.mem_of_getElem? hn;rw[acC h.good m hn] at hx;unfold valOf at hx;by_cases hk:n.kind=3
 ·rw[if_pos hk] at hx;obtain⟨z,hz,rfl⟩:=List.mem_map.1 hx;have:=ahO ((afQ h.nodes hmem hk).2.1 z hz);omega
 ·rw[if_neg hk] at hx;have:=h.aiZ hn hk ((oZ m n).zip n.next).length x (by rw[List.take_of_length_le (Nat.le_refl _)]; exact hx);exact this
theorem aas {look:Nat→List Rat}:∀ {l:List (Rat×Int)},(∀ bc∈l,∃ b,look bc.2.toNat = [b,-b])→∀ a:Rat,∃ s,qL look [a,-a] l = [s,-s]
 | [],_,a=>⟨a,rfl⟩
 | bc :: l,h,a=>by
  obtain⟨b,hb⟩:=h bc List.mem_cons_self;have e:qL look [a,-a] (bc :: l)=qL look [a+bc.1*b,-(a+bc.1*b)] l:=by
   show qL look (aeT [a,-a] bc.1 (look bc.2.toNat)) l=_;rw[hb];congr 1
   show[a+bc.1*b,-a+bc.1 * -b]=_;rw[Rat.mul_neg,Rat.neg_add]
  rw[e];exact aas (fun x hx=>h x (List.mem_cons_of_mem _ hx)) _
theorem Fit.anti {g:Gm} {m:List (List Rat)} (h:Fit g m) (h2:g.aj=2) (hz:∀ n∈g.nodes,n.kind=3→∃ x,n.pay = [x,-x]):∀ (f i:Nat),g.nodes.length - i≤f→i < g.nodes.length→∃ a,kN g m i = [a,-a]
 | 0,i,h1,h2=>absurd h2 (by omega)
 | f+1,i,h1,hi=>by
  obtain⟨n,hn⟩:=au (l:=g.nodes) (k:=i) hi;have hmem:=List.mem_of_getElem? hn;rw[acC h.good m hn];unfold valOf;by_cases hk:n.kind=3
  ·rw[if_pos hk];obtain⟨x,hx⟩:=hz n hmem hk;exact⟨(x:Rat),by rw[hx]; simp⟩
  ·rw[if_neg hk,h2];have e:(List.replicate (2:Int).toNat (0:Rat)) = [0,-0]:=by rfl
   rw[e];refine aas (fun bc hbc=>?_) 0;have hm:bc.2∈n.next:=(List.of_mem_zip (a:=bc.1) (b:=bc.2) hbc).2;have:=h.good.span.kids i n (Nat.zero_le _) hi hn bc.2 hm;exact Fit.anti h h2 hz f _ (by omega) (by omega)
end Go.Proofs.YthmklhapjegfdaaGreatDoor
