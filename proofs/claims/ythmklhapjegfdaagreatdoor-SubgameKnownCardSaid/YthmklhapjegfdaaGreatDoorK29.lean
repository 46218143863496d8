/- (*recall.walker).chance, move, end, node: the error of a node by itself, by the program. -/
import Derived.Test.YthmklhapjegfdaaGreatDoorK27
import Derived.Test.YthmklhapjegfdaaGreatDoorK03
import Derived.Test.YthmklhapjegfdaaGreatDoorK04
set_option linter.all false
set_option maxRecDepth 100000
set_option maxHeartbeats 12800000
namespace Go.Proofs.YthmklhapjegfdaaGreatDoor
open Lib renaming hid → Ac
open List renaming getElem_toArray → lq1, getElem_cons_zero → lq2, getElem_cons_succ → lq3, setIfInBounds_toArray → lq4, set_cons_zero → lq5, set_cons_succ → lq6
open Go.RowKit
structure BP (w:World) (p:Nat) (aj:Int) (ni:Nat):Prop where
 aj:w.cell? ⟨p,0,none⟩=some (.int .i64 aj)
 infos:∃ A c,w.cell? ⟨p,2,none⟩=some (.slice A ni c)
theorem aeb (w:World) (F:Ag) (u ux:Value) (x:Nd) (hx:Bf w F ux x) (hl:x.next.length < 1000000∧x.weights.length < 1000000∧x.pay.length < 1000000) :
  Calls Tryz.prog 199 #[u,ux] w (Ret w fun v _=>v = .int .i64 (bQ x)):=by
 obtain⟨v3,v4,v5,rfl,⟨A3,c3,rfl,hc3,h3⟩,⟨A4,c4,rfl,hc4,h4⟩,⟨A5,c5,rfl,hc5,h5⟩⟩:=hx;obtain⟨hl3,hl4,hl5⟩:=hl;have H4:=Ac (show Ak w F (.slice A4 x.weights.length c4) x.weights from⟨A4,c4,rfl,hc4,h4⟩);clear h3 h4 h5;by_cases q0:x.aI≠0
 ·have HF:=Ac (show bQ x=3 by unfold bQ; rw[if_pos (by omega)]);have d0:(x.aI != 0)=true:=neT (by omega);go_enter Tryz.func199,Tryz.ntmps199;go_wp2
  go_ret;exact⟨_,rfl,(Below.refl _ _).alloc (Nat.le_refl _) _,by rw[HF.out]; rfl⟩
 have d0:(x.aI != 0)=false:=neF (by omega);by_cases q1:x.info≠0
 ·have HF:=Ac (show bQ x=3 by unfold bQ; rw[if_pos (by omega)]);have d1:(x.info != 0)=true:=neT (by omega);go_enter Tryz.func199,Tryz.ntmps199;go_wp2
  go_ret;exact⟨_,rfl,(Below.refl _ _).alloc (Nat.le_refl _) _,by rw[HF.out]; rfl⟩
 have d1:(x.info != 0)=false:=neF (by omega);by_cases q2:0 < x.pay.length
 ·have HF:=Ac (show bQ x=3 by unfold bQ; rw[if_pos (by omega)]);go_enter Tryz.func199,Tryz.ntmps199;go_wp2
  go_ret;exact⟨_,rfl,(Below.refl _ _).alloc (Nat.le_refl _) _,by rw[HF.out]; rfl⟩
 have d2:decide ((0:Int) < (x.pay.length:Int))=false:=decide_eq_false (by omega);by_cases q3:x.next.length < 1
 ·have HF:=Ac (show bQ x=3 by unfold bQ; rw[if_pos (by omega)]);go_enter Tryz.func199,Tryz.ntmps199;go_wp2
  go_ret;exact⟨_,rfl,(Below.refl _ _).alloc (Nat.le_refl _) _,by rw[HF.out]; rfl⟩
 have d3:decide ((x.next.length:Int) < 1)=false:=decide_eq_false (by omega);by_cases q4:60 < x.next.length
 ·have HF:=Ac (show bQ x=3 by unfold bQ; rw[if_pos (by omega)]);go_enter Tryz.func199,Tryz.ntmps199;go_wp2
  go_ret;exact⟨_,rfl,(Below.refl _ _).alloc (Nat.le_refl _) _,by rw[HF.out]; rfl⟩
 have d4:decide ((60:Int) < (x.next.length:Int))=false:=decide_eq_false (by omega);by_cases q5:x.weights.length≠x.next.length
 ·have HF:=Ac (show bQ x=3 by unfold bQ; rw[if_pos (by omega)]);have d5:((x.weights.length:Int) != (x.next.length:Int))=true:=neT (by omega);go_enter Tryz.func199,Tryz.ntmps199;go_wp2
  go_ret;exact⟨_,rfl,(Below.refl _ _).alloc (Nat.le_refl _) _,by rw[HF.out]; rfl⟩
 have d5:((x.weights.length:Int) != (x.next.length:Int))=false:=neF (by omega);have HF:=Ac (show bQ x=iL 1 1000 x.weights by unfold bQ; rw[if_neg (by omega)]; rfl);clear q0 q1 q5;go_enter Tryz.func199,Tryz.ntmps199;go_wp2_with fail
 refine(oW _ F _ 1 1000 x.weights (H4.out.on (Same.alloc _ _ _)) (by omega)).mono ?_;rintro e w' ⟨v,rfl,hb,rfl⟩;dsimp only;go_wp2
 go_ret;exact⟨_,rfl,((Below.refl _ _).alloc (Nat.le_refl _) _).trans (hb.mono (by simp)),by rw[HF.out]; rfl⟩
theorem aJ (w:World) (t:TypeId) (c:Array Value):∃ W:World,W=w.alloc (.cells c t)∧Row W w.heap.size t c.toList∧Below w.heap.size w W∧w.heap.size+1=W.heap.size :=
 ⟨_,rfl,Row.new w _ _,(Below.refl _ _).alloc (Nat.le_refl _) _,by simp⟩
theorem aec (aj:Int) (ni:Nat) (x:Nd) (h:¬ (0 < x.pay.length∨0 < x.weights.length∨x.next.length < 1∨10 < x.next.length)) :
  dF aj ni x=if iL 0 (aj - 1) [x.aI]≠0 then iL 0 (aj - 1) [x.aI] else iL 0 ((ni:Int) - 1) [x.info]:=by
 unfold dF iL outside;rw[if_neg h];simp only[List.any_cons,List.any_nil,Bool.or_false,Bool.or_eq_true,decide_eq_true_eq];repeat' split
 all_goals first | rfl | omega
theorem move_any (w:World) (F:Ag) (p:Nat) (ux:Value) (aj:Int) (ni:Nat) (x:Nd) (hw:BP w p aj ni) (hx:Bf w F ux x) (hl:x.next.length < 1000000∧x.weights.length < 1000000∧x.pay.length < 1000000)
  (hp:0≤aj∧aj < 1000000) (hni:ni < 1000000) (hpl:p < w.heap.size) :
  Calls Tryz.prog 200 #[.pointer (some ⟨p,0,none⟩),ux] w (Ret w fun v _=>v = .int .i64 (dF aj ni x)):=by
 obtain⟨v3,v4,v5,rfl,⟨A3,c3,rfl,hc3,h3⟩,⟨A4,c4,rfl,hc4,h4⟩,⟨A5,c5,rfl,hc5,h5⟩⟩:=hx;obtain⟨hl3,hl4,hl5⟩:=hl;clear h3 h4 h5;obtain⟨hwp,Ai,ci,hwi⟩:=hw;by_cases q0:0 < x.weights.length
 ·have HF:=Ac (show dF aj ni x=3 by unfold dF; rw[if_pos (by omega)]);go_enter Tryz.func200,Tryz.ntmps200;go_wp2
  go_ret;exact⟨_,rfl,(Below.refl _ _).alloc (Nat.le_refl _) _,by rw[HF.out]; rfl⟩
 have d0:decide ((0:Int) < (x.weights.length:Int))=false:=decide_eq_false (by omega);by_cases q1:0 < x.pay.length
 ·have HF:=Ac (show dF aj ni x=3 by unfold dF; rw[if_pos (by omega)]);go_enter Tryz.func200,Tryz.ntmps200;go_wp2
  go_ret;exact⟨_,rfl,(Below.refl _ _).alloc (Nat.le_refl _) _,by rw[HF.out]; rfl⟩
 have d1:decide ((0:Int) < (x.pay.length:Int))=false:=decide_eq_false (by omega);by_cases q2:x.next.length < 1
 ·have HF:=Ac (show dF aj ni x=3 by unfold dF; rw[if_pos (by omega)]);go_enter Tryz.func200,Tryz.ntmps200;go_wp2
  go_ret;exact⟨_,rfl,(Below.refl _ _).alloc (Nat.le_refl _) _,by rw[HF.out]; rfl⟩
 have d2:decide ((x.next.length:Int) < 1)=false:=decide_eq_false (by omega);by_cases q3:10 < x.next.length
 ·have HF:=Ac (show dF aj ni x=3 by unfold dF; rw[if_pos (by omega)]);go_enter Tryz.func200,Tryz.ntmps200;go_wp2
  go_ret;exact⟨_,rfl,(Below.refl _ _).alloc (Nat.le_refl _) _,by rw[HF.out]; rfl⟩
 have d3:decide ((10:Int) < (x.next.length:Int))=false:=decide_eq_false (by omega);have HF:=Ac (aec aj ni x (by omega));go_enter Tryz.func200,Tryz.ntmps200;go_wp2_with fail
 obtain⟨W,hW,hbx,hWb,hWz⟩:=aJ w 61 #[.int .i64 x.kind,.int .i64 x.aI,.int .i64 x.info,.slice A3 x.next.length c3,.slice A4 x.weights.length c4,.slice A5 x.pay.length c5];rw[← hW];clear hW;have hold:=aA hWb;have wr1:IntKind.i64.wrap (aj - 1)=aj - 1:=IntWalk.i64_in _ (by omega);have wr2:IntKind.i64.wrap ((ni:Int) - 1)=(ni:Int) - 1:=IntWalk.i64_in _ (by omega);refine wp_region_held_drew (S:=fun w'=>w'.cell? ⟨w.heap.size,1,none⟩=some (.int .i64 x.aI)∧w'.cell? ⟨p,0,none⟩=some (.int .i64 aj)) (by kernel_rfl) ⟨hbx.cell rfl,(hold p 0 hpl).trans hwp⟩ (fun hHeld=>?_);refine tk0 [0,1,2,3,4,5,6,7] ?_;iterate 8 (refine tk (v:=?_) rfl (by kernel_rfl) (by kernel_rfl) (by kernel_rfl) (fun _ _ _ h=>h) (Or.inl ⟨by rfl,?_⟩) hHeld ?_;rotate_left;(focus intro wx hSx;(try dsimp only at hSx);go_split_ands;go_simp;try with_reducible rfl);try simp only[Act.put,lq1,lq2,lq3,lq4,lq5,lq6])
 refine tk1 ?_;refine tk2 8 (by kernel_rfl) rfl fun K hK=>?_
 go_simp;obtain⟨W1,hW1,hbr,uo,afK⟩:=aJ W 3 #[.int .i64 x.aI];rw[← hW1];clear hW1;have dL:=hbx.below uo (by omega);have hB1:Below w.heap.size w W1:=hWb.trans (uo.mono (by omega));clear hbx uo hWb;refine hK.out _ _ ⟨dL.drew.cell rfl,(aA hB1.drew p 0 hpl).trans hwp⟩ (fun hHeld=>?_);clear hK K;try simp only[Act.put,lq1,lq2,lq3,lq4,lq5,lq6]
 refine tk2 9 (by kernel_rfl) rfl fun K hK=>?_
 go_simp;refine(oW _ (fun b=>b=W.heap.size) _ 0 (aj - 1) [x.aI] (Row.ints (l:=[x.aI]) hbr.drew (F:=fun b=>b=W.heap.size) rfl (c:=1) (by simp)) (by simp)).mono ?_;rintro e w1 ⟨_,rfl,hb1,rfl⟩;have hbx2:=dL.drew.below hb1 (by simp; omega);have hB2:Below w.heap.size w w1:=hB1.drew.trans (hb1.mono (by simp; omega));clear dL hb1 hB1 hbr;dsimp only;refine hK.out _ _ ⟨hbx2.cell rfl,(aA hB2 p 0 hpl).trans hwp⟩ (fun hHeld=>?_);clear hK K;try simp only[Act.put,lq1,lq2,lq3,lq4,lq5,lq6]
 refine tk0 [10] ?_;(refine tk (v:=?_) rfl (by kernel_rfl) (by kernel_rfl) (by kernel_rfl) (fun _ _ _ h=>h) (Or.inl ⟨by rfl,?_⟩) hHeld ?_;rotate_left;(focus intro wx hSx;(try dsimp only at hSx);go_split_ands;go_simp;try with_reducible rfl);try simp only[Act.put,lq1,lq2,lq3,lq4,lq5,lq6])
 refine tk1 ?_;refine wpAnyH_done (by kernel_rfl) ?_ _;have hx1:=hbx2.lt;generalize iL 0 (aj - 1) [x.aI]=er at *;by_cases he:er=0
 ·subst he;have HF2:=Ac (show dF aj ni x=iL 0 ((ni:Int) - 1) [x.info] by rw[HF.out]; simp);go_wp2_with fail
  refine wp_region_held_drew (S:=fun w'=>w'.cell? ⟨w.heap.size,2,none⟩=some (.int .i64 x.info)∧w'.cell? ⟨p,2,none⟩=some (.slice Ai ni ci)) (by kernel_rfl) ⟨hbx2.cell rfl,(aA hB2 p 2 hpl).trans hwi⟩ (fun hHeld=>?_);refine tk0 [0,1,2,3,4,5,6,7,8] ?_;iterate 9 (refine tk (v:=?_) rfl (by kernel_rfl) (by kernel_rfl) (by kernel_rfl) (fun _ _ _ h=>h) (Or.inl ⟨by rfl,?_⟩) hHeld ?_;rotate_left;(focus intro wx hSx;(try dsimp only at hSx);go_split_ands;go_simp;try with_reducible rfl);try simp only[Act.put,lq1,lq2,lq3,lq4,lq5,lq6])
  refine tk1 ?_;refine tk2 9 (by kernel_rfl) rfl fun K hK=>?_
  go_simp;obtain⟨W3,hW3,hbr,aiS,hW3z⟩:=aJ w1 3 #[.int .i64 x.info];rw[← hW3];clear hW3;have nK:=hbx2.below aiS (by omega);have hB3:Below w.heap.size w W3:=hB2.trans (aiS.mono (by omega));clear hbx2 aiS hB2;refine hK.out _ _ ⟨nK.drew.cell rfl,(aA hB3.drew p 2 hpl).trans hwi⟩ (fun hHeld=>?_);clear hK K;try simp only[Act.put,lq1,lq2,lq3,lq4,lq5,lq6]
  refine tk2 10 (by kernel_rfl) rfl fun K hK=>?_
  go_simp;refine(oW _ (fun b=>b=w1.heap.size) _ 0 ((ni:Int) - 1) [x.info] (Row.ints (l:=[x.info]) hbr.drew (F:=fun b=>b=w1.heap.size) rfl (c:=1) (by simp)) (by simp)).mono ?_;rintro e w2 ⟨_,rfl,hb2,rfl⟩;have ac3:=nK.drew.below hb2 (by simp; omega);have hB4:Below w.heap.size w w2:=hB3.drew.trans (hb2.mono (by simp; omega));clear nK hb2 hB3 hbr;dsimp only;refine hK.out _ _ ⟨ac3.cell rfl,(aA hB4 p 2 hpl).trans hwi⟩ (fun hHeld=>?_);clear hK K;try simp only[Act.put,lq1,lq2,lq3,lq4,lq5,lq6]
  refine tk0 [11] ?_;(refine tk (v:=?_) rfl (by kernel_rfl) (by kernel_rfl) (by kernel_rfl) (fun _ _ _ h=>h) (Or.inl ⟨by rfl,?_⟩) hHeld ?_;rotate_left;(focus intro wx hSx;(try dsimp only at hSx);go_split_ands;go_simp;try with_reducible rfl);try simp only[Act.put,lq1,lq2,lq3,lq4,lq5,lq6])
  refine tk1 ?_;refine wpAnyH_done (by kernel_rfl) ?_ _;go_wp2
  go_ret;exact⟨_,rfl,hB4,by rw[HF2.out]; rfl⟩
 ·have hd:(er != 0)=true:=by simp[he]
  have HF2:=Ac (show dF aj ni x=er by rw[HF.out]; simp[he]);clear he;go_wp2
  go_ret;exact⟨_,rfl,hB2,by rw[HF2.out]; rfl⟩
theorem ahS (w:World) (F:Ag) (p:Nat) (ux:Value) (aj:Int) (ni:Nat) (x:Nd) (hw:BP w p aj ni) (hx:Bf w F ux x) (hl:x.next.length < 1000000∧x.weights.length < 1000000∧x.pay.length < 1000000) (hpl:p < w.heap.size) :
  Calls Tryz.prog 201 #[.pointer (some ⟨p,0,none⟩),ux] w (Ret w fun v _=>v = .int .i64 (fZ aj x)):=by
 obtain⟨v3,v4,v5,rfl,⟨A3,c3,rfl,hc3,h3⟩,⟨A4,c4,rfl,hc4,h4⟩,⟨A5,c5,rfl,hc5,h5⟩⟩:=hx;obtain⟨hl3,hl4,hl5⟩:=hl;have H5:=Ac (show Ak w F (.slice A5 x.pay.length c5) x.pay from⟨A5,c5,rfl,hc5,h5⟩);clear h3 h4 h5;obtain⟨hwp,Ai,ci,hwi⟩:=hw;by_cases q0:x.aI≠0
 ·have HF:=Ac (show fZ aj x=3 by unfold fZ; rw[if_pos (by omega)]);have d0:(x.aI != 0)=true:=neT (by omega);go_enter Tryz.func201,Tryz.ntmps201;go_wp2
  go_quiet (fail)
  go_wp2
  go_ret;exact⟨_,rfl,aF ((Below.refl _ _).alloc (Nat.le_refl _) _) _,by rw[HF.out]; rfl⟩
 have d0:(x.aI != 0)=false:=neF (by omega);by_cases q1:x.info≠0
 ·have HF:=Ac (show fZ aj x=3 by unfold fZ; rw[if_pos (by omega)]);have d1:(x.info != 0)=true:=neT (by omega);go_enter Tryz.func201,Tryz.ntmps201;go_wp2
  go_quiet (fail)
  go_wp2
  go_ret;exact⟨_,rfl,aF ((Below.refl _ _).alloc (Nat.le_refl _) _) _,by rw[HF.out]; rfl⟩
 have d1:(x.info != 0)=false:=neF (by omega);by_cases q2:0 < x.next.length
 ·have HF:=Ac (show fZ aj x=3 by unfold fZ; rw[if_pos (by omega)]);have d2:decide ((0:Int) < (x.next.length:Int))=true:=decide_eq_true (by omega);go_enter Tryz.func201,Tryz.ntmps201;go_wp2
  go_quiet (fail)
  go_wp2
  go_ret;exact⟨_,rfl,aF ((Below.refl _ _).alloc (Nat.le_refl _) _) _,by rw[HF.out]; rfl⟩
 have d2:decide ((0:Int) < (x.next.length:Int))=false:=decide_eq_false (by omega);by_cases q3:0 < x.weights.length
 ·have HF:=Ac (show fZ aj x=3 by unfold fZ; rw[if_pos (by omega)]);have d3:decide ((0:Int) < (x.weights.length:Int))=true:=decide_eq_true (by omega);go_enter Tryz.func201,Tryz.ntmps201;go_wp2
  go_quiet (fail)
  go_wp2
  go_ret;exact⟨_,rfl,aF ((Below.refl _ _).alloc (Nat.le_refl _) _) _,by rw[HF.out]; rfl⟩
 have d3:decide ((0:Int) < (x.weights.length:Int))=false:=decide_eq_false (by omega);by_cases q4:(x.pay.length:Int)≠aj
 ·have HF:=Ac (show fZ aj x=3 by unfold fZ; rw[if_pos (by omega)]);have d4:((x.pay.length:Int) != aj)=true:=neT (by omega);go_enter Tryz.func201,Tryz.ntmps201;go_wp2
  go_quiet (fail)
  go_wp2
  go_ret;exact⟨_,rfl,aF ((Below.refl _ _).alloc (Nat.le_refl _) _) _,by rw[HF.out]; rfl⟩
 have d4:((x.pay.length:Int) != aj)=false:=neF (by omega);have HF:=Ac (show fZ aj x=iL (-1000000) 1000000 x.pay by unfold fZ; rw[if_neg (by omega)]; rfl);clear q0 q1 q4;go_enter Tryz.func201,Tryz.ntmps201;go_wp2
 go_quiet (fail)
 go_wp2_with fail
 refine(oW _ F _ (-1000000) 1000000 x.pay ((H5.out.on (Same.alloc _ _ _)).on (Same.drewN _ _ _)) (by omega)).mono ?_;rintro e w' ⟨v,rfl,hb,rfl⟩;dsimp only;go_wp2
 go_ret;exact⟨_,rfl,(aF ((Below.refl _ _).alloc (Nat.le_refl _) _) _).trans (hb.mono (by simp)),by rw[HF.out]; rfl⟩
def fB:List Int→Bool
 | a :: b :: r=>decide (a≤b)&&fB (b :: r)
 | _=>true
theorem pR:∀ (l:List Int) (k:Nat),fB l=true→fB (l.drop k)=true
 | l,0,h=>h
 | [],k+1,h=>by simp[fB]
 | [a],k+1,h=>by simp[fB]
 | a :: b :: r,k+1,h=>by
  simp only[fB,Bool.and_eq_true] at h;simp only[List.drop_succ_cons];exact pR (b :: r) k h.2
theorem uZ {l:List Int} {k:Nat} {x y:Int} (hx:l[k]? = some x) (hy:l[k+1]? = some y):fB (l.drop k)=(decide (x≤y)&&fB (l.drop (k+1))):=by
 have h1:=aG hx;have h2:=aG hy;have e1:l[k]=x:=by simpa [h1] using hx
 have e2:l[k+1]=y:=by simpa [h2] using hy
 rw[List.drop_eq_getElem_cons h1,List.drop_eq_getElem_cons h2,e1,e2];rfl
theorem ac4 (l:List Int):fB l=true↔∀ k x y,l[k]? = some x→l[k+1]? = some y→x≤y:=by
 constructor
 ·intro h k x y hx hy;have:=pR l k h;rw[uZ hx hy] at this;simp at this; exact this.1
 ·induction l with
  | nil=>intro _; rfl
  | cons a r ih=>match r with
   | []=>intro _; rfl
   | b :: r=>intro h; simp only[fB,Bool.and_eq_true,decide_eq_true_eq]; exact⟨h 0 a b rfl rfl,ih (fun k x y hx hy=>h (k+1) x y (by simpa using hx) (by simpa using hy))⟩
theorem abI (w:World) (F:Ag) (v:Value) (l:List Int) (hv:Ak w F v l) (hl:l.length≤1000000) :
  Calls Tryz.prog 203 #[v] w (Ret w fun v _=>v = .bool (fB l)):=by
 obtain⟨A,c,rfl,hc,hN⟩:=hv;have HN:=Ac hN; clear hN;go_enter Tryz.func203,Tryz.ntmps203;go_wp2
 go_loopw [3] (fun i wr=>∃ k:Nat,k≤l.length∧i = .int .i64 ((k:Int) - 1)∧fB (l.drop (k - 1))=true∧∃ n,wr=w.drewN n) (fun i _=>(intOf i+1).toNat)
 case atStart=>exact⟨l.length,by omega,rfl,by cases h:l.length with | zero=>simp[List.length_eq_zero_iff.1 h,fB] | succ m=>(have hm:m < l.length:=by omega); simp[List.drop_eq_getElem_cons hm,List.drop_eq_nil_of_le (show l.length≤m+1 by omega),fB],0,rfl⟩
 case round =>
  obtain⟨k,hk,rfl,hp,nn,rfl⟩:=hrel;have HP:=Ac hp; clear hp;by_cases hlt:2≤k
  ·obtain⟨b,o,rfl,_,hb,hx⟩:=HN.out (by omega);obtain⟨q,rfl⟩:∃ q,k=q+2:=⟨k - 2,by omega⟩;obtain⟨p,hpq⟩:∃ p,p=q+1:=⟨_,rfl⟩;have hpl:p < l.length:=by omega
   have hql:q < l.length:=by omega
   obtain⟨x,hx'⟩:=ak (l:=l) (k:=q) (by omega);obtain⟨y,hy'⟩:=ak (l:=l) (k:=p) (by omega);have ex:=hx q x hx';have ey:=hx p y hy';unfold fF at ex ey; rw[Nat.mul_one] at ex ey;have HS:=Ac (uZ hx' (by rw[← hpq]; exact hy'));clear hx hx' hy';have i1:(((q+2:Nat):Int) - 1)=(p:Int):=by omega
   have i2:((p:Int) - 1)=(q:Int):=by omega
   have wr2:IntKind.i64.wrap (q:Int)=(q:Int):=IntWalk.i64_in _ (by omega);have hp0:(0:Int) < (p:Int):=by omega
   rw[i1];have HPQ:=Ac hpq; clear hpq i1;go_wp2_with fail
   refine wp_region_held_drew (S:=fun w'=>w'.cell? ⟨b,o+q,none⟩=some (.int .i64 x)∧w'.cell? ⟨b,o+p,none⟩=some (.int .i64 y)) (by kernel_rfl) ⟨ex,ey⟩ (fun hHeld=>?_);refine tk0 [0,1,2,3,4,5,6,7,8] ?_;iterate 9 (refine tk (v:=?_) rfl (by kernel_rfl) (by kernel_rfl) (by kernel_rfl) (fun _ _ _ h=>h) (Or.inl ⟨by rfl,?_⟩) hHeld ?_;rotate_left;(focus intro wx hSx;(try dsimp only at hSx);go_split_ands;go_simp;try with_reducible rfl);try simp only[Act.put,lq1,lq2,lq3,lq4,lq5,lq6])
   refine tk1 ?_;refine tk2 9 (by kernel_rfl) rfl fun K hK=>?_
   go_simp;refine(agC _ y x).mono ?_;rintro e w1 ⟨rfl,rfl⟩;dsimp only;refine hK.out _ _ ⟨ex,ey⟩ (fun hHeld=>?_);clear hK K;try simp only[Act.put,lq1,lq2,lq3,lq4,lq5,lq6]
   refine wpAnyH_done (by kernel_rfl) ?_ _;clear hHeld ex ey;by_cases hyx:y < x
   ·have HF:=Ac (show fB l=false by
     cases h:fB l with
     | false=>rfl
     | true=>have:=pR l q h; rw[HS.out] at this; simp at this; omega)
    go_wp2
    go_ret;exact⟨_,rfl,aF (Below.refl _ _) _,by first | rfl | (rw[HF.out]; rfl)⟩
   ·have hd:decide (y < x)=false:=decide_eq_false hyx;go_wp2
    go_roundw
    case rel =>
     have e:=HPQ.out;refine⟨q+1,by omega,by first | rfl | (congr 1; omega),?_,_,rfl⟩;have:=HP.out;rw[Nat.add_sub_cancel,HS.out];simp only[Bool.and_eq_true,decide_eq_true_eq];exact⟨by omega,this⟩
    case measure=>simp[intOf]; omega
  ·go_wp2
   go_ret;refine⟨_,rfl,aF (Below.refl _ _) _,?_⟩;have:=HP.out;rw[show k - 1=0 by omega] at this;simp at this;rw[this]; rfl
theorem zu (w:World) (F:Ag) (u:Value) (g:Gm) (hg:Az w F u g) (hsm:Small g) (hin:Bd g) :
  Calls Tryz.prog 97 #[u] w (Ret w fun v w'=>Bq w' (fun b=>w.heap.size≤b) v (aT g)):=by
 obtain⟨vn,vi,rfl,⟨A,c,rfl,hc,hN⟩,⟨Ai,ci,rfl,hci,hI⟩⟩:=hg;have HN:=Ac hN; clear hN hI;have hn:=hsm.nodes;have hni:=hsm.infos;have HIN:=Ac hin; clear hin;go_enter Tryz.func97,Tryz.ntmps97;go_wp2_with (at_make; refine eX _ rfl _ _ 96 rfl 26 (.slice none 0 0) 24 Tryz.underlying96 Tryz.infoInts rfl g.infos.length rfl rfl (by omega) (by omega) ?_; intro w1 hb1 hz1 hrow1)
 simp only[World.size_alloc] at hb1 hz1 hrow1;go_loopw [4] (fun i wr=>∃ (k:Nat) (vs:List Value),k≤g.nodes.length∧i = .int .i64 k∧Row wr w.heap.size 25 [.int .i64 g.aj,.slice A g.nodes.length c,.slice Ai g.infos.length ci]∧Row wr (w.heap.size+1) 26 vs∧OwnRows wr (w.heap.size+2) 3 vs (dG g.nodes g.infos.length k)∧Below w.heap.size w wr) (fun i _=>g.nodes.length - (intOf i).toNat)
 case atStart =>
  refine⟨0,_,by omega,rfl,?_,hrow1,?_,?_⟩
  ·exact(Row.new w _ _).below hb1 (by simp)
  ·exact OwnRows.start _ _ _ _
  ·exact((Below.refl w.heap.size w).alloc (Nat.le_refl _) _).trans (hb1.mono (by omega))
 case round =>
  obtain⟨k,vs,hk,rfl,hr,hrow,hown,hbel⟩:=hrel;have x1:=hr.cell (i:=1) rfl;by_cases hlt:k < g.nodes.length
  ·obtain⟨b,o,rfl,_,hb,hcell⟩:=HN.out (by omega);obtain⟨n,hn'⟩:=ak hlt;obtain⟨e0,e1,e2,⟨v3,e3,A3,c3,rfl,hc3,i3⟩,⟨v4,e4,A4,c4,rfl,hc4,i4⟩,⟨v5,e5,A5,c5,rfl,hc5,i5⟩⟩:=hcell k n hn';clear i3 i4 i5 hcell;have HX:=Ac hn'; clear hn';have hold:=aA hbel;have hlr:=hrow.lt;by_cases hkd:n.kind=2
   ·obtain⟨hin0,hin1⟩:=HIN.out n (List.mem_of_getElem? HX.out) hkd;have hd:(n.kind==2)=true:=by simp[hkd]
    have HKD:=Ac hkd; clear hkd;obtain⟨l,hl⟩:=ak (l:=dG g.nodes g.infos.length k) (k:=n.info.toNat) (by rw[bC]; omega);obtain⟨v,hv⟩:=ak (l:=vs) (k:=n.info.toNat) (by rw[hown.len,bC]; omega);have rv:=hrow.cell hv;have fv:=hrow.frozen n.info.toNat;have ho:=hown.own _ v l hv hl;have hll:=mQ l (List.mem_of_getElem? hl);have HO:=Ac ho; clear ho;have HL:=Ac hl; clear hl;have HV:=Ac hv; clear hv;go_wp2
    obtain⟨W,hW⟩:∃ W:World,W=wr.alloc (.cells #[.int .i64 n.kind,.int .i64 n.aI,.int .i64 n.info,.slice A3 n.next.length c3,.slice A4 n.weights.length c4,.slice A5 n.pay.length c5] 61):=⟨_,rfl⟩;rw[← hW];have cx:W.cell? ⟨wr.heap.size,2,none⟩=some (.int .i64 n.info):=by rw[hW]; simp
    have hWz:W.heap.size=wr.heap.size+1:=by rw[hW]; simp
    have hWo:OwnRows W (w.heap.size+2) 3 vs (dG g.nodes g.infos.length k):=by rw[hW]; exact hown.alloc _
    have hWr:Row W w.heap.size 25 [.int .i64 g.aj,.slice (some ⟨b,o,none⟩) g.nodes.length c,.slice Ai g.infos.length ci]:=by rw[hW]; exact hr.alloc _
    have hWw:Row W (w.heap.size+1) 26 vs:=by rw[hW]; exact hrow.alloc _
    have hWb:Below w.heap.size w W:=by rw[hW]; exact hbel.alloc hbel.size _
    have rv:=hWw.cell HV.out;have fv:=hWw.frozen n.info.toNat;have HOW:=Ac (hWo.own _ v l HV.out HL.out);have hWlt:wr.heap.size < W.heap.size:=by omega
    have HHW:=Ac hWz; have hWle:w.heap.size+2 < W.heap.size:=by omega
    clear hW hWz hr hrow hown hbel x1 hold e0 e1 e2 e3 e4 e5 hlr;have HWR:=Ac (And.intro hWr (And.intro hWw (And.intro hWo hWb))); clear hWr hWw hWo hWb;refine acj (fun w'=>w'.cell? ⟨wr.heap.size,2,none⟩=some (.int .i64 n.info)∧w'.cell? ⟨w.heap.size+1,n.info.toNat,none⟩=some v) 11 (by kernel_rfl) rfl rfl (by kernel_rfl) (by kernel_rfl) (by kernel_rfl) (by kernel_rfl) ⟨cx,rv⟩ ?_;have hHeld:(fun w':World=>w'.cell? ⟨wr.heap.size,2,none⟩=some (.int .i64 n.info)∧w'.cell? ⟨w.heap.size+1,n.info.toNat,none⟩=some v) W.drew:=⟨cx,rv⟩;simp only[List.take_succ_cons,List.take_zero];refine tk0 [0,1,2,3,4,5,6,7,8] ?_;iterate 9 (refine tk (v:=?_) rfl (by kernel_rfl) (by kernel_rfl) (by kernel_rfl) (fun _ _ _ h=>h) (Or.inl ⟨by rfl,?_⟩) hHeld ?_;rotate_left;(focus intro wx hSx;(try dsimp only at hSx);go_split_ands;go_simp;try with_reducible rfl);try simp only[Act.put,lq1,lq2,lq3,lq4,lq5,lq6])
    refine tk1 ?_;refine tk2 9 (by kernel_rfl) rfl fun K hK=>?_
    go_simp;refine hK.out _ _ ⟨by rw[World.cell?_drew,World.cell?_alloc_lt _ _ _ (by simp; omega)]; exact cx,by rw[World.cell?_drew,World.cell?_alloc_lt _ _ _ (by simp; omega)]; exact rv⟩ (fun hHeld=>?_);clear hK K;try simp only[Act.put,List.setIfInBounds_toArray,List.set_cons_zero,List.set_cons_succ]
    refine tk2 10 (by kernel_rfl) rfl fun K hK=>?_
    refine uO (by rfl) _ _ (by rfl) (w.heap.size+2) v l (by rfl) (HOW.out.alloc _) W.heap.size k (by rfl) (heap_alloc_new W _) (by omega) (by simp; omega) ?_;intro gg cap w1 hown1 hgrow hat hlt1;have hnb:∀ b,v.ownBlock=some b→w.heap.size+2≤b:=fun b hb=>(HOW.out.lt b hb).1
    have hHG:∀ b,b < w.heap.size+2→w1.heap[b]? = W.heap[b]?:=fun b hb=>by
     rw[hgrow.block b (by simp; omega) (fun e=>by have:=hnb b e.symm; omega)];exact Below.heap_alloc W _ b (by omega)
    obtain⟨hWr,hWw,hWo,hWb⟩:=HWR.out;have k1:Row w1 w.heap.size _ _:=hWr.of_block (hHG _ (by omega));have k2:Row w1 (w.heap.size+1) _ _:=hWw.of_block (hHG _ (by omega));have k3:=((hWo.alloc _).drew).put HV.out hown1 hgrow rfl hat;have k4:Below w.heap.size w w1:=((hWb.alloc (by omega) _).drew).grown hgrow (by simp; omega) (fun k hk=>by have:=hnb k hk; omega);have rv1:=k2.cell HV.out;have fv1:=k2.frozen n.info.toNat;have KK:=Ac (And.intro k1 (And.intro k2 (And.intro k3 k4)));refine hK.out _ _ ⟨?_,rv1⟩ (fun hHeld=>?_)
    ·rw[hgrow.cell_far _ (by simp; omega) (fun e=>by have:=(HO.out.lt _ e.symm).2; simp at this),World.cell?_drew,World.cell?_alloc_lt _ _ _ (by simp; omega)]; exact cx
    clear hK K k1 k2 k3 k4 hWr hWw hWo hWb hHG hgrow hown1 hat cx rv fv;try simp only[Act.put,List.setIfInBounds_toArray,List.set_cons_zero,List.set_cons_succ]
    refine wpAnyH_done (by kernel_rfl) ?_ _;show wpList _ _ _ _ _ _;go_wp2
    show wpList _ _ _ _ _ _;go_wp2
    go_roundw
    case rel =>
     obtain⟨k1,k2,k3,k4⟩:=KK.out;refine⟨k+1,_,by omega,by go_num,k1.other (by simp) _,k2.set _ _,?_,k4.setCell (by simp) _⟩;rw[qH HX.out HKD.out HL.out];exact k3.setCell (by simp) _
    case measure=>simp[intOf]; omega
   ·have hd:(n.kind==2)=false:=by simp[hkd]
    have HKD:=Ac hkd; clear hkd;go_wp2
    go_roundw
    case rel =>
     refine⟨k+1,vs,by omega,by go_num,by repeat (first | exact hr | refine Row.alloc ?_ _ | refine Row.other ?_ (by have:=hr.lt; simp; omega) _),by repeat (first | exact hrow | refine Row.alloc ?_ _ | refine Row.other ?_ (by simp; omega) _),?_,by repeat (first | exact hbel | refine Below.alloc ?_ hbel.size _ | refine Below.setCell ?_ hbel.size _)⟩;rw[qI HX.out HKD.out];repeat (first | exact hown | refine OwnRows.alloc ?_ _)
    case measure=>simp[intOf]; omega
  ·go_wp2
   go_ret;refine⟨_,rfl,hbel,?_⟩;have hke:k=g.nodes.length:=by omega
   subst hke;have h1:(aT g).length=g.infos.length:=bC _ _ _;have:=OwnRows.rows (F:=fun b=>w.heap.size≤b) hown hrow (by omega) (fun _ _=>by omega) (c:=g.infos.length) (by rw[bC]; omega);rw[bC] at this;exact this
def iw (g:Gm):Prop:=g.aj < 1∨4 < g.aj∨g.nodes.length < 1∨2000 < g.nodes.length∨200 < g.infos.length
instance (g:Gm):Decidable (iw g):=by unfold iw; infer_instance
def bY (aj:Int) (ni:Nat):List Nd→Int
 | []=>0
 | x :: l=>if aO aj ni x≠0 then aO aj ni x else bY aj ni l
def cZ (infos:List Inf) (x:Nd):Bool:=decide (x.kind=2)&&(decide ((infos.getD x.info.toNat default).aI≠x.aI)||decide ((infos.getD x.info.toNat default).actions≠(x.next.length:Int)))
def pU (g:Gm):Bool:=g.nodes.any (cZ g.infos)
def jZ (sets:List (List Int)):Bool:=sets.any fun l=>decide (l.length=0)
def jF (sets:List (List Int)) (i:Nat):Bool:=decide ((sets.getD i []).getD 0 0 < (sets.getD (i - 1) []).getD 0 0)
def eH (sets:List (List Int)) (m:Nat):Bool:=(List.range' 1 (m - 1)).any (jF sets)
def jA (g:Gm):Int:=if pU g then 10 else if jZ (aT g) then 18 else if eH (aT g) g.infos.length then 9 else 0
def bD (g:Gm):Int :=
 if iw g then 2 else if bY g.aj g.infos.length g.nodes≠0 then bY g.aj g.infos.length g.nodes
 else if (bH g.nodes (g.nodes.length+1) 0 0 0).1≠g.nodes.length then 9 else if 40 < (bH g.nodes (g.nodes.length+1) 0 0 0).2 then 5 else jA g
theorem sU {aj:Int} {ni:Nat} {l:List Nd} {k:Nat} {x:Nd} (h:l[k]? = some x):bY aj ni (l.drop k)=if aO aj ni x≠0 then aO aj ni x else bY aj ni (l.drop (k+1)):=by
 have hl:=aG h;rw[List.drop_eq_getElem_cons hl];have:l[k]=x:=by simpa [hl] using h
 rw[this]; rfl
theorem iP {aj:Int} {ni:Nat}:∀ {l:List Nd},bY aj ni l=0→∀ x∈l,aO aj ni x=0
 | [],_,_,h=>by cases h
 | y :: l,h,x,hx=>by
  unfold bY at h;split at h
  ·rename_i h1; exact absurd h h1
  ·rename_i h1
   rcases List.mem_cons.1 hx with rfl | hx
   ·simpa using h1
   ·exact iP h x hx
theorem ny {g:Gm} (h:bY g.aj g.infos.length g.nodes=0):Bd g:=by
 intro x hx hk;have:=iP h x hx;unfold aO dF at this;rw[if_neg (by omega),if_pos hk] at this;split at this
 ·omega
 ·split at this
  ·omega
  ·omega
theorem xJ (sets:List (List Int)) (m:Nat) (h:1≤m):eH sets (m+1)=(eH sets m||jF sets m):=by
 unfold eH;have:m+1 - 1=(m - 1)+1:=by omega
 rw[this,List.range'_concat,List.any_append];simp
 rw[show 1+(m - 1)=m by omega]
theorem aas {sets:List (List Int)} {m k:Nat} (h:1≤m) (hm:m < k) (hb:jF sets m=true):eH sets k=true:=by
 unfold eH;rw[List.any_eq_true];exact⟨m,by rw[List.mem_range'_1]; omega,hb⟩
theorem afL (w:World) (F:Ag) (u:Value) (g:Gm) (hg:Az w F u g) (hsm:Small g) :
  Calls Tryz.prog 49 #[u] w (Ret w fun v _=>v = .int .i64 (bD g)):=by
 have HG:=Ac hg;obtain⟨vn,vi,rfl,⟨A,c,rfl,hc,hN⟩,⟨Ai,ci,rfl,hci,hI⟩⟩:=hg;have HN:=Ac hN; have HI:=Ac hI; clear hN hI;have hn:=hsm.nodes;have hni:=hsm.infos;have HS:=Ac hsm; clear hsm;by_cases q0:g.aj < 1
 ·have HF:=Ac (show bD g=2 by unfold bD; rw[if_pos (by unfold iw; omega)]);go_enter Tryz.func49,Tryz.ntmps49;go_wp2
  go_ret;exact⟨_,rfl,(Below.refl _ _).alloc (Nat.le_refl _) _,by rw[HF.out]; rfl⟩
 have d0:decide (g.aj < 1)=false:=decide_eq_false (by omega);by_cases q1:4 < g.aj
 ·have HF:=Ac (show bD g=2 by unfold bD; rw[if_pos (by unfold iw; omega)]);go_enter Tryz.func49,Tryz.ntmps49;go_wp2
  go_ret;exact⟨_,rfl,(Below.refl _ _).alloc (Nat.le_refl _) _,by rw[HF.out]; rfl⟩
 have d1:decide ((4:Int) < g.aj)=false:=decide_eq_false (by omega);by_cases q2:g.nodes.length < 1
 ·have HF:=Ac (show bD g=2 by unfold bD; rw[if_pos (by unfold iw; omega)]);go_enter Tryz.func49,Tryz.ntmps49;go_wp2
  go_ret;exact⟨_,rfl,(Below.refl _ _).alloc (Nat.le_refl _) _,by rw[HF.out]; rfl⟩
 have d2:decide ((g.nodes.length:Int) < 1)=false:=decide_eq_false (by omega);have HV:=Ac (show bD g=if bY g.aj g.infos.length g.nodes≠0 then bY g.aj g.infos.length g.nodes
   else if (bH g.nodes (g.nodes.length+1) 0 0 0).1≠g.nodes.length then 9 else if 40 < (bH g.nodes (g.nodes.length+1) 0 0 0).2 then 5 else jA g by
  unfold bD; rw[if_neg (by unfold iw; omega)])
 obtain⟨b,o,rfl,hbF,hb,hcell⟩:=HN.out (by omega);have HC:=Ac hcell; clear hcell;go_enter Tryz.func49,Tryz.ntmps49;go_wp2
 go_loopw [3] (fun i wr=>∃ k:Nat,k≤g.nodes.length∧i = .int .i64 k∧Row wr w.heap.size 25 [.int .i64 g.aj,.slice (some ⟨b,o,none⟩) g.nodes.length c,.slice Ai g.infos.length ci]∧Below w.heap.size w wr∧bY g.aj g.infos.length g.nodes=bY g.aj g.infos.length (g.nodes.drop k)) (fun i _=>g.nodes.length - (intOf i).toNat)
 case atStart=>exact⟨0,by omega,rfl,Row.new w _ _,(Below.refl _ _).alloc (Nat.le_refl _) _,rfl⟩
 case round =>
  obtain⟨k,hk,rfl,hbx,hbel,hval⟩:=hrel;have HV1:=Ac hval; clear hval;have x0:=hbx.cell (i:=0) rfl;have x1:=hbx.cell (i:=1) rfl;have x2:=hbx.cell (i:=2) rfl;have hold:=aA hbel;by_cases hlt:k < g.nodes.length
  ·obtain⟨x,hx⟩:=ak hlt;obtain⟨e0,e1,e2,⟨v3,e3,i3⟩,⟨v4,e4,i4⟩,⟨v5,e5,i5⟩⟩:=HC.out k x hx;have V:=Ac (show Bf w F _ x from⟨v3,v4,v5,rfl,i3,i4,i5⟩);clear i3 i4 i5;have M:=List.mem_of_getElem? hx;have L:x.next.length < 1000000∧x.weights.length < 1000000∧x.pay.length < 1000000:=⟨by have:=HS.out.next x M; omega,by have:=HS.out.weights x M; omega,by have:=HS.out.pay x M; omega⟩;have HL:=Ac L; clear L M;have HV2:=Ac (HV1.out.trans (sU hx)); clear hx;have hbw:b < wr.heap.size:=by have:=hbel.size; omega
   have hBw:w.heap.size < wr.heap.size:=hbx.lt;go_wp2
   refine wp_region_held_drew (S:=fun w'=>∀ b o,b < wr.heap.size→w'.cell? ⟨b,o,none⟩=wr.cell? ⟨b,o,none⟩) (by kernel_rfl) (fun _ _ _=>rfl) (fun hHeld=>?_);refine tk0 [0,1,2,3,4,5] ?_;iterate 6 (refine tk (v:=?_) rfl (by kernel_rfl) (by kernel_rfl) (by kernel_rfl) (fun _ _ _ h=>h) (Or.inl ⟨by rfl,?_⟩) hHeld ?_;rotate_left;(focus intro wx hSx;(try dsimp only at hSx);go_split_ands;go_simp;try with_reducible rfl);try simp only[Act.put,lq1,lq2,lq3,lq4,lq5,lq6])
   refine tk1 ?_;refine tk2 6 (by kernel_rfl) rfl fun K hK=>?_
   go_simp;refine(agA _ F _ _ g x (HG.out.on (Below.same' hbel.drew F)) (V.out.on (Below.same' hbel.drew F)) HL.out (by omega)).mono ?_;rintro e w1 ⟨_,rfl,hb1,rfl⟩;have hb1':Below wr.heap.size wr w1:=(Below.refl _ _).drew.trans hb1;dsimp only;refine hK.out _ _ (aA hb1') (fun hHeld=>?_);clear hK K;try simp only[Act.put,lq1,lq2,lq3,lq4,lq5,lq6]
   refine tk0 [7] ?_;(refine tk (v:=?_) rfl (by kernel_rfl) (by kernel_rfl) (by kernel_rfl) (fun _ _ _ h=>h) (Or.inl ⟨by rfl,?_⟩) hHeld ?_;rotate_left;(focus intro wx hSx;(try dsimp only at hSx);go_split_ands;go_simp;try with_reducible rfl);try simp only[Act.put,lq1,lq2,lq3,lq4,lq5,lq6])
   refine tk1 ?_;refine wpAnyH_done (by kernel_rfl) ?_ _;generalize aO g.aj g.infos.length x=er at *;by_cases he:er=0
   ·subst he;go_wp2
    go_roundw
    case rel =>
     refine⟨k+1,by omega,by go_num,hbx.below hb1' hbx.lt,hbel.trans (hb1'.mono hbel.size),?_⟩;rw[HV2.out]; simp
    case measure=>simp[intOf]; omega
   ·have hd:(er != 0)=true:=by simp[he]
    have HF:=Ac (show bD g=er by rw[HV.out,HV2.out]; simp[he]);clear he;go_wp2
    go_ret;exact⟨_,rfl,hbel.trans (hb1'.mono hbel.size),by rw[HF.out]; rfl⟩
  ·have HNE:=Ac (show bY g.aj g.infos.length g.nodes=0 by
    rw[HV1.out,List.drop_eq_nil_of_le (by omega)]; rfl)
   go_wp2
   obtain⟨W,hW⟩:∃ W:World,W=wr.alloc (.cells #[.int .i64 0] 3):=⟨_,rfl⟩;rw[← hW];have hbd:Row W wr.heap.size 3 [.int .i64 0]:=by rw[hW]; exact Row.new wr _ _
   have hbx2:=hbx.alloc (.cells #[.int .i64 0] 3);rw[← hW] at hbx2;have hWb:Below w.heap.size w W:=by rw[hW]; exact hbel.alloc hbel.size _
   have hBw:w.heap.size < wr.heap.size:=hbx.lt;clear hW hbx x0 x1 x2 hold hbel;have hGW:Az W (fun b=>b≠wr.heap.size) _ g:=HG.out.keep (fun b _ hl=>by omega) (Below.same' hWb F);have HGW:=Ac hGW; clear hGW;have x0:=hbx2.cell (i:=0) rfl;have x1:=hbx2.cell (i:=1) rfl;have x2:=hbx2.cell (i:=2) rfl;refine wp_region_held_drew (S:=fun w'=>w'.cell? ⟨w.heap.size,0,none⟩=some (.int .i64 g.aj)∧w'.cell? ⟨w.heap.size,1,none⟩=some (.slice (some ⟨b,o,none⟩) g.nodes.length c)∧w'.cell? ⟨w.heap.size,2,none⟩=some (.slice Ai g.infos.length ci)) (by kernel_rfl) ⟨x0,x1,x2⟩ (fun hHeld=>?_);refine tk0 [0,2,3,4] ?_;iterate 4 (refine tk (v:=?_) rfl (by kernel_rfl) (by kernel_rfl) (by kernel_rfl) (fun _ _ _ h=>h) (Or.inl ⟨by rfl,?_⟩) hHeld ?_;rotate_left;(focus intro wx hSx;(try dsimp only at hSx);go_split_ands;go_simp;try with_reducible rfl);try simp only[Act.put,lq1,lq2,lq3,lq4,lq5,lq6])
   refine tk1 ?_;refine tk2 1 (by kernel_rfl) rfl fun K hK=>?_
   go_simp;refine(afh g HS.out (g.nodes.length+1) 0 0 0 W.drew wr.heap.size _ (HGW.out.on (Same.drewN _ W 1)) hbd.drew (by omega) (by omega) (by omega) (by omega) (by omega)).mono ?_;rintro e w1 ⟨rfl,hrw,hgr⟩;have nK:Row w1 w.heap.size _ _:=hbx2.drew.of_block (hgr.block _ (by have:=hbx2.lt; simpa using this) (by simp; omega));have hb1:Below w.heap.size w w1:=hWb.drew.grown hgr (by have:=hWb.size; simpa using this) (fun k hk=>by simp at hk; omega);dsimp only;refine hK.out _ _ ⟨nK.cell rfl,nK.cell rfl,nK.cell rfl⟩ (fun hHeld=>?_);clear hK K;try simp only[Act.put,lq1,lq2,lq3,lq4,lq5,lq6]
   refine tk0 [5] ?_;(refine tk (v:=?_) rfl (by kernel_rfl) (by kernel_rfl) (by kernel_rfl) (fun _ _ _ h=>h) (Or.inl ⟨by rfl,?_⟩) hHeld ?_;rotate_left;(focus intro wx hSx;(try dsimp only at hSx);go_split_ands;go_simp;try with_reducible rfl);try simp only[Act.put,lq1,lq2,lq3,lq4,lq5,lq6])
   refine tk1 ?_;refine wpAnyH_done (by kernel_rfl) ?_ _;have hdd:=oV g.nodes 1000 (g.nodes.length+1) 0 0 0 (by omega) (by omega) (by omega);have HV2:=Ac (HV.out.trans (by rw[HNE.out]; simp only[ne_eq,not_true_eq_false,↓reduceIte]):bD g=if (bH g.nodes (g.nodes.length+1) 0 0 0).1≠g.nodes.length then 9 else if 40 < (bH g.nodes (g.nodes.length+1) 0 0 0).2 then 5 else jA g);generalize bH g.nodes (g.nodes.length+1) 0 0 0=rr at *;obtain⟨rn,rd⟩:=rr;dsimp only at hrw hdd HV2;clear hbd hbx2 x0 x1 x2 hWb hgr hHeld HGW;by_cases he:rn=(g.nodes.length:Int)
   case neg =>
    have hd:(rn != (g.nodes.length:Int))=true:=by simp[he]
    have HF:=Ac (show bD g=9 by rw[HV2.out,if_pos he]);clear he;go_wp2
    go_ret;exact⟨_,rfl,hb1,by rw[HF.out]; rfl⟩
   have hd:(rn != (g.nodes.length:Int))=false:=by simp[he]
   have HRN:=Ac he; clear he;have y0:=hrw.cell (i:=0) rfl;by_cases h40:40 < rd
   ·have HF:=Ac (show bD g=5 by rw[HV2.out,if_neg (by simpa using HRN.out),if_pos h40]);go_wp2
    go_ret;exact⟨_,rfl,hb1,by rw[HF.out]; rfl⟩
   have HV3:=Ac (show bD g=jA g by rw[HV2.out,if_neg (by simpa using HRN.out),if_neg h40]);have x1:=nK.cell (i:=1) rfl;go_wp2
   clear hrw y0 x1 hdd;go_loopw [6] (fun i wi=>∃ k:Nat,k≤g.nodes.length∧i = .int .i64 k∧(g.nodes.take k).any (cZ g.infos)=false∧Row wi w.heap.size 25 [.int .i64 g.aj,.slice (some ⟨b,o,none⟩) g.nodes.length c,.slice Ai g.infos.length ci]∧Below w.heap.size w wi) (fun i _=>g.nodes.length - (intOf i).toNat)
   case atStart=>exact⟨0,by omega,rfl,rfl,nK,hb1⟩
   case round =>
    clear nK hb1;obtain⟨k2,hk2,rfl,hpre,hbx,hbel⟩:=hrel;have HP:=Ac hpre; clear hpre;have x0:=hbx.cell (i:=0) rfl;have x1:=hbx.cell (i:=1) rfl;have x2:=hbx.cell (i:=2) rfl;have hold:=aA hbel;have hBw:w.heap.size < wr.heap.size:=hbx.lt;by_cases hlt2:k2 < g.nodes.length
    ·obtain⟨x,hx⟩:=ak hlt2;obtain⟨e0,e1,e2,⟨v3,e3,A3,c3,rfl,hc3,i3⟩,⟨v4,e4,A4,c4,rfl,hc4,i4⟩,⟨v5,e5,A5,c5,rfl,hc5,i5⟩⟩:=HC.out k2 x hx;clear i3 i4 i5;have hl3:=HS.out.next x (List.mem_of_getElem? hx);have HX:=Ac hx;have BAD:=Ac (show cZ g.infos x=true→bD g=10 by
      intro h;have:pU g=true:=List.any_eq_true.2 ⟨x,List.mem_of_getElem? HX.out,h⟩;rw[HV3.out]; unfold jA; rw[this]; rfl)
     have HII:=Ac (ny HNE.out x (List.mem_of_getElem? hx));clear hx;by_cases hkd:x.kind=2
     ·obtain⟨hin0,hin1⟩:=HII.out hkd;have hd2:(x.kind==2)=true:=by simp[hkd]
      obtain⟨bi,oi,rfl,_,hbi,hxi⟩:=HI.out (by omega);obtain⟨inf,pz⟩:=ak (l:=g.infos) (k:=x.info.toNat) (by omega);obtain⟨c0,c1⟩:=hxi _ inf pz;have HT:=Ac (show cZ g.infos x=(decide (inf.aI≠x.aI)||decide (inf.actions≠(x.next.length:Int))) by
       unfold cZ; simp[hkd,List.getD_eq_getElem?_getD,pz])
      have hbiw:bi < wr.heap.size:=by have:=hbel.size; omega
      clear pz hxi hkd;by_cases p1:inf.aI=x.aI
      ·have f1:(inf.aI != x.aI)=false:=neF p1;by_cases p2:inf.actions=(x.next.length:Int)
       ·have f2:(inf.actions != (x.next.length:Int))=false:=neF p2;have HF:=Ac (show cZ g.infos x=false by rw[HT.out]; simp[p1,p2]);clear p1 p2;go_wp2
        go_quiet (fail)
        go_wp2
        go_roundw
        case rel=>exact⟨k2+1,by omega,by go_num,iY HX.out HP.out HF.out,(hbx.alloc _).dN _,aF (hbel.alloc hbel.size _) _⟩
        case measure=>simp[intOf]; omega
       ·have f2:(inf.actions != (x.next.length:Int))=true:=neT p2;have HF:=Ac (BAD.out (by rw[HT.out]; simp[p2]));clear p1 p2;go_wp2
        go_quiet (fail)
        go_wp2
        go_ret;exact⟨_,rfl,aF (hbel.alloc hbel.size _) _,by rw[HF.out]; rfl⟩
      ·have f1:(inf.aI != x.aI)=true:=neT p1;have HF:=Ac (BAD.out (by rw[HT.out]; simp[p1]));clear p1;go_wp2
       go_quiet (fail)
       go_wp2
       go_ret;exact⟨_,rfl,aF (hbel.alloc hbel.size _) _,by rw[HF.out]; rfl⟩
     ·have hd2:(x.kind==2)=false:=by simp[hkd]
      have HF:=Ac (show cZ g.infos x=false by unfold cZ; simp[hkd]);clear hkd;go_wp2
      go_quiet (fail)
      go_wp2
      go_roundw
      case rel=>exact⟨k2+1,by omega,by go_num,iY HX.out HP.out HF.out,(hbx.alloc _).dN _,aF (hbel.alloc hbel.size _) _⟩
      case measure=>simp[intOf]; omega
    ·have HTB:=Ac (show pU g=false by
      have:=HP.out; rw[List.take_of_length_le (by omega)] at this; exact this)
     go_wp2_with fail
     refine(zu _ F _ g (HG.out.on (Below.same' hbel F)) HS.out (ny HNE.out)).mono ?_;rintro e w2 ⟨vss,rfl,hb2,hse⟩;have hB2:Below w.heap.size w w2:=hbel.trans (hb2.mono hbel.size);have HV4:=Ac (show bD g=if jZ (aT g) then 18 else if eH (aT g) g.infos.length then 9 else 0 by
      rw[HV3.out]; unfold jA; rw[HTB.out]; rfl)
     have hsl:(aT g).length=g.infos.length:=bC _ _ _;have ahe:∀ l∈aT g,l.length≤g.nodes.length:=mQ;generalize aT g=sets at *;obtain⟨As,cs,rfl,hcs,hS⟩:=hse;have HSE:=Ac hS; clear hS;have Ea:=Ac ahe; clear ahe;have HSL:=Ac hsl; have hsl0:sets.length≤100:=by omega
     clear hsl hbx x0 x1 x2 hold hbel hb2;dsimp only;go_wp2
     go_loop [9] (fun i=>∃ k:Nat,k≤sets.length∧i = .int .i64 k∧jZ (sets.take k)=false) (fun i=>sets.length - (intOf i).toNat)
     case atStart=>exact⟨0,by omega,rfl,rfl⟩
     case round =>
      obtain⟨k3,hk3,rfl,hpre⟩:=hrel;have HP3:=Ac hpre; clear hpre;by_cases hlt3:k3 < sets.length
      ·obtain⟨bs,os,rfl,_,hbs,hxs⟩:=HSE.out (by omega);obtain⟨l,hl⟩:=ak hlt3;obtain⟨vl,el,Al,cl,rfl,hcl,hLl⟩:=hxs k3 l hl;rw[Nat.mul_one] at el;have HX:=Ac hl;have hll:=Ea.out l (List.mem_of_getElem? hl);clear hl hxs hLl;by_cases hz:l.length=0
       ·have hd:((l.length:Int)==0)=true:=eqT (by omega);have HF:=Ac (show bD g=18 by
         have:jZ sets=true:=List.any_eq_true.2 ⟨l,List.mem_of_getElem? HX.out,by simp; exact List.eq_nil_of_length_eq_zero hz⟩;rw[HV4.out,this]; rfl)
        clear hz;go_wp2
        go_ret;exact⟨_,rfl,hB2,by rw[HF.out]; rfl⟩
       ·have hd:((l.length:Int)==0)=false:=eqF (by omega);go_wp2
        go_round
        case rel=>exact⟨k3+1,by omega,by go_num,iY HX.out HP3.out (by simp; intro h; rw[h] at hz; simp at hz)⟩
        case measure=>simp[intOf]; omega
      ·have HNB:=Ac (show jZ sets=false by
        have:=HP3.out; rw[List.take_of_length_le (by omega)] at this; exact this)
       have HNZ:=Ac (show ∀ l∈sets,0 < l.length by
        intro l hl;have:=List.any_eq_false.1 HNB.out l hl;simp at this;exact List.length_pos_iff.2 this)
       go_wp2
       go_loopw [10] (fun i wi=>∃ m n:Nat,1≤m∧(m≤sets.length∨m=1)∧i = .int .i64 m∧eH sets m=false∧wi=w2.drewN n) (fun i _=>sets.length - (intOf i).toNat)
       case atStart=>exact⟨1,0,by omega,.inr rfl,rfl,rfl,rfl⟩
       case round =>
        obtain⟨m,nd,hm1,hm,rfl,hpre,rfl⟩:=hrel;have HPM:=Ac hpre; clear hpre;by_cases hmt:m < sets.length
        ·obtain⟨bs,os,rfl,_,hbs,hxs⟩:=HSE.out (by omega);obtain⟨l,hl⟩:=ak hmt;obtain⟨vl,el,Al,cl,rfl,hcl,hLl⟩:=hxs m l hl;obtain⟨l',hl'⟩:=ak (l:=sets) (k:=m - 1) (by omega);obtain⟨vl',el',Al',cl',rfl,hcl',hLl'⟩:=hxs (m - 1) l' hl';have p0:=HNZ.out l (List.mem_of_getElem? hl);have p1:=HNZ.out l' (List.mem_of_getElem? hl');obtain⟨bl,ol,rfl,_,hbl,hxl⟩:=hLl p0;obtain⟨bl',ol',rfl,_,hbl',hxl'⟩:=hLl' p1;obtain⟨x,hx⟩:=ak p0;obtain⟨y,hy⟩:=ak p1;have ex:=hxl 0 x hx;have ey:=hxl' 0 y hy;unfold fF at ex ey;simp only[Nat.zero_mul,Nat.add_zero] at ex ey;rw[Nat.mul_one] at el el';have HAT:=Ac (show jF sets m=decide (x < y) by
          unfold jF; simp[List.getD_eq_getElem?_getD,hl,hl',hx,hy])
         clear hl hl' hx hy hxl hxl' hLl hLl' hxs;have hmd:m - 1 < sets.length:=by omega
         by_cases q:x < y
         ·have HF:=Ac (show bD g=9 by
           rw[HV4.out,HNB.out];have:=aas hm1 hmt (by rw[HAT.out]; simp[q]);rw[← HSL.out,this]; rfl)
          go_wp2
          have hw1:IntKind.i64.wrap ((m:Int) - 1)=((m - 1:Nat):Int):=by rw[IntWalk.i64_in _ (by omega)]; omega
          go_quiet (fail)
          go_wp2
          go_ret;exact⟨_,rfl,aF (aF hB2 _) _,by rw[HF.out]; rfl⟩
         ·have hq:decide (x < y)=false:=decide_eq_false q;go_wp2
          have hw1:IntKind.i64.wrap ((m:Int) - 1)=((m - 1:Nat):Int):=by rw[IntWalk.i64_in _ (by omega)]; omega
          go_quiet (fail)
          clear hw1;go_wp2
          go_roundw
          case rel=>exact⟨m+1,nd+nq,by omega,.inl (by omega),by go_num,by rw[xJ _ _ hm1,HPM.out,HAT.out,hq]; rfl,rfl⟩
          case measure=>simp[intOf]; omega
        ·go_wp2
         go_ret;refine⟨_,rfl,aF hB2 _,?_⟩;have:bD g=0:=by
          rw[HV4.out,HNB.out];have h1:=HPM.out;have h2:=HSL.out;rcases hm with hm | hm
          ·have:m=sets.length:=by omega
           rw[← h2,← this,h1]; rfl
          ·subst hm;have:eH sets g.infos.length=false:=by
            unfold eH; rw[show g.infos.length - 1=0 by omega]; rfl
           rw[this]; rfl
         rw[this]; rfl
inductive Span (nodes:List Nd):List Int→Nat→Nat→Prop
 | nil (a:Nat):Span nodes [] a a
 | cons {a m b:Nat} {n:Nd} {cs:List Int}:nodes[a]? = some n→Span nodes n.next (a+1) m→Span nodes cs m b→Span nodes ((a:Int) :: cs) a b
theorem Span.le {nodes:List Nd} {cs:List Int} {a b:Nat} (h:Span nodes cs a b):a≤b:=by
 induction h with
 | nil a=>exact Nat.le_refl _
 | cons _ _ _ ih1 ih2=>omega
theorem Span.mem {nodes:List Nd} {cs:List Int} {a b:Nat} (h:Span nodes cs a b):∀ c∈cs,(a:Int)≤c∧c < b:=by
 induction h with
 | nil a=>intro c hc; cases hc
 | cons hn h1 h2 ih1 ih2 =>
  intro c hc;have l1:=h1.le;have l2:=h2.le;rcases List.mem_cons.1 hc with rfl | hc
  ·omega
  ·have:=ih2 c hc; omega
theorem Span.kids {nodes:List Nd} {cs:List Int} {a b:Nat} (h:Span nodes cs a b):∀ p n,a≤p→p < b→nodes[p]? = some n→∀ c∈n.next,(p:Int) < c∧c < b:=by
 induction h with
 | nil a=>intro p n h1 h2; omega
 | @cons a m b n cs hn h1 h2 ih1 ih2 =>
  intro p n' ha hb hp c hc;have l1:=h1.le;have l2:=h2.le;by_cases e:p=a
  ·subst e;rw[hn] at hp; cases hp;have:=h1.mem c hc;omega
  ·by_cases hm:p < m
   ·have:=ih1 p n' (by omega) hm hp c hc; omega
   ·exact ih2 p n' (by omega) hb hp c hc
theorem Span.parent {nodes:List Nd} {cs:List Int} {a b:Nat} (h:Span nodes cs a b):∀ j:Nat,a≤j→j < b→(j:Int)∈cs∨∃ p n,a≤p∧p < j∧nodes[p]? = some n∧(j:Int)∈n.next:=by
 induction h with
 | nil a=>intro j h1 h2; omega
 | @cons a m b n cs hn h1 h2 ih1 ih2 =>
  intro j ha hb;by_cases e:j=a
  ·subst e; exact .inl (by simp)
  ·by_cases hm:j < m
   ·rcases ih1 j (by omega) hm with h | ⟨p,n',hp1,hp2,hp3,hp4⟩
    ·exact .inr ⟨a,n,Nat.le_refl _,by omega,hn,h⟩
    ·exact .inr ⟨p,n',by omega,hp2,hp3,hp4⟩
   ·rcases ih2 j (by omega) hb with h | ⟨p,n',hp1,hp2,hp3,hp4⟩
    ·exact .inl (by simp[h])
    ·have:=h1.le;exact .inr ⟨p,n',by omega,hp2,hp3,hp4⟩
theorem Span.once {nodes:List Nd} {cs:List Int} {a b:Nat} (h:Span nodes cs a b):(∀ c∈cs,∀ p n,a≤p→p < b→nodes[p]? = some n→c ∉ n.next) ∧
  (∀ c p q n n',a≤p→p < b→a≤q→q < b→nodes[p]? = some n→nodes[q]? = some n'→c∈n.next→c∈n'.next→p=q):=by
 induction h with
 | nil a=>exact⟨(fun c hc=>(by cases hc)),(fun c p q n n' h1 h2=>(by omega))⟩
 | @cons a m b n cs hn h1 h2 ih1 ih2 =>
  have l1:=h1.le;have l2:=h2.le;have k1:=h1.kids;have k2:=h2.kids;have m1:=h1.mem;have m2:=h2.mem;constructor
  ·intro c hc p n' hp1 hp2 hp3 hp4;rcases List.mem_cons.1 hc with rfl | hc'
   ·by_cases e:p=a
    ·subst e; rw[hn] at hp3; cases hp3; have:=m1 _ hp4; omega
    ·by_cases hm:p < m
     ·have:=k1 p n' (by omega) hm hp3 _ hp4; omega
     ·have:=k2 p n' (by omega) hp2 hp3 _ hp4; omega
   ·by_cases e:p=a
    ·subst e; rw[hn] at hp3; cases hp3; have:=m1 _ hp4; have:=m2 _ hc'; omega
    ·by_cases hm:p < m
     ·have:=k1 p n' (by omega) hm hp3 _ hp4; have:=m2 _ hc'; omega
     ·exact ih2.1 c hc' p n' (by omega) hp2 hp3 hp4
  ·have key:∀ c p q n1 n2,a≤p→p < q→q < b→nodes[p]? = some n1→nodes[q]? = some n2→c∈n1.next→c∈n2.next→False:=by
    intro c p q n1 n2 hp1 hpq hq hn1 hn2 hc1 hc2;by_cases e:p=a
    ·subst e; rw[hn] at hn1; cases hn1;by_cases hm:q < m
     ·exact ih1.1 c hc1 q n2 (by omega) hm hn2 hc2
     ·have:=m1 c hc1; have:=k2 q n2 (by omega) hq hn2 c hc2; omega
    ·by_cases hm:q < m
     ·have:=ih1.2 c p q n1 n2 (by omega) (by omega) (by omega) hm hn1 hn2 hc1 hc2; omega
     ·by_cases hmp:p < m
      ·have:=k1 p n1 (by omega) hmp hn1 c hc1; have:=k2 q n2 (by omega) hq hn2 c hc2; omega
      ·have:=ih2.2 c p q n1 n2 (by omega) (by omega) (by omega) hq hn1 hn2 hc1 hc2; omega
   intro c p q n1 n2 hp1 hp2 hq1 hq2 hn1 hn2 hc1 hc2;rcases Nat.lt_trichotomy p q with h | h | h
   ·exact(key c p q n1 n2 hp1 h hq2 hn1 hn2 hc1 hc2).elim
   ·exact h
   ·exact(key c q p n2 n1 hq1 h hp2 hn2 hn1 hc2 hc1).elim
theorem Span.sub {nodes:List Nd} {cs:List Int} {a b:Nat} (h:Span nodes cs a b):∀ i:Nat,a≤i→i < b→∃ e,Span nodes [(i:Int)] i e∧i < e∧e≤b:=by
 induction h with
 | nil a=>intro i h1 h2; omega
 | @cons a m b n cs hn h1 h2 ih1 ih2 =>
  intro i ha hb;have l1:=h1.le;have l2:=h2.le;by_cases e:i=a
  ·subst e; exact⟨m,.cons hn h1 (.nil m),by omega,by omega⟩
  ·by_cases hm:i < m
   ·obtain⟨e,h,h3,h4⟩:=ih1 i (by omega) hm; exact⟨e,h,h3,by omega⟩
   ·obtain⟨e,h,h3,h4⟩:=ih2 i (by omega) hb; exact⟨e,h,h3,h4⟩
theorem Span.unique {nodes:List Nd} {cs:List Int} {a b:Nat} (h:Span nodes cs a b):∀ {b'},Span nodes cs a b'→b=b':=by
 induction h with
 | nil a=>intro b' h; cases h; rfl
 | cons hn h1 h2 ih1 ih2 =>
  intro b' h;generalize hx:((_:Int) :: _)=l at h;cases h with
  | nil=>cases hx
  | cons hn' h1' h2' =>
   injection hx with e1 e2
   rw[hn] at hn'; cases hn';have:=ih1 h1';subst this;subst e2;exact ih2 h2'
theorem sV {nodes:List Nd} {rec:Nat→Int→Int×Int} (hrec:∀ a d,(rec a d).1≠-1→∃ b:Nat,(rec a d).1=b∧Span nodes [(a:Int)] a b) :
  ∀ (cs:List Int) (x:Nat) (deep:Int),(bU rec cs x deep).1≠-1→∃ b:Nat,(bU rec cs x deep).1=b∧Span nodes cs x b
 | [],x,deep,_=>⟨x,rfl,.nil x⟩
 | c :: cs,x,deep,h=>by
  unfold bU at h ⊢;by_cases hc:c=x
  ·subst hc;simp only[ne_eq,not_true_eq_false,↓reduceIte,Int.toNat_natCast] at h ⊢;by_cases hng:(rec x deep).1 < 0
   ·rw[if_pos hng] at h; exact absurd rfl h
   ·rw[if_neg hng] at h ⊢;obtain⟨m,hm,hs⟩:=hrec x deep (by omega);rw[hm] at h ⊢;obtain⟨b,hb,hs2⟩:=sV hrec cs m _ h;refine⟨b,hb,?_⟩;generalize hl:[(x:Int)]=l at hs;cases hs with
    | nil=>cases hl
    | cons hn h1 h2 =>
     injection hl with e1 e2
     subst e2;cases h2
     exact .cons hn h1 hs2
  ·rw[if_pos hc] at h; exact absurd rfl h
theorem zx (nodes:List Nd):∀ (f a:Nat) (depth deep:Int),(bH nodes f a depth deep).1≠-1→∃ b:Nat,(bH nodes f a depth deep).1=b∧Span nodes [(a:Int)] a b
 | 0,_,_,_,h=>absurd rfl h
 | f+1,a,depth,deep,h=>by
  unfold bH at h ⊢;cases hn:nodes[a]? with
  | none=>rw[hn] at h; exact absurd rfl h
  | some n =>
   rw[hn] at h;simp only at h ⊢;have:=sV (nodes:=nodes) (rec:=fun a d=>bH nodes f a (depth+1) d) (fun a' d h'=>zx nodes f a' (depth+1) d h') n.next (a+1) (max deep depth) h;obtain⟨b,hb,hs⟩:=this;exact⟨b,hb,.cons hn hs (.nil b)⟩
structure Good (g:Gm):Prop where
 pos:0 < g.nodes.length
 span:Span g.nodes [(0:Int)] 0 g.nodes.length
 infos:Bd g
theorem ku {g:Gm} (h:bD g=0):Good g:=by
 unfold bD at h;split at h
 ·omega
 ·rename_i h1
  split at h
  ·rename_i h2; exact absurd h h2
  ·rename_i h2
   split at h
   ·omega
   ·rename_i h3
    have hp:0 < g.nodes.length:=by unfold iw at h1; omega
    have h3':(bH g.nodes (g.nodes.length+1) 0 0 0).1=(g.nodes.length:Int):=by simpa using h3
    obtain⟨b,hb,hs⟩:=zx g.nodes (g.nodes.length+1) 0 0 0 (by omega);have:b=g.nodes.length:=by omega
    subst this;exact⟨hp,hs,ny (by simpa using h2)⟩
theorem Good.zy {g:Gm} (h:Good g):CQ g.nodes:=by
 intro n hn c hc;obtain⟨i,hi⟩:=List.getElem?_of_mem hn;have:=h.span.kids i n (Nat.zero_le _) (aG hi) hi c hc;omega
def gG (inn:List Bool) (l:List Int):Nat:=l.countP fun x=>inn.getD x.toNat false
theorem ac5 {inn:List Bool} {l:List Int} {k:Nat} {x:Int} {b:Bool} (h:l[k]? = some x) (hb:inn[x.toNat]? = some b):gG inn (l.take (k+1))=gG inn (l.take k)+(if b then 1 else 0):=by
 rw[take_snoc h]; unfold gG;rw[List.countP_append];cases b <;> simp[List.getD_eq_getElem?_getD,hb]
theorem afM (inn:List Bool) (l:List Int):gG inn l≤l.length:=List.countP_le_length
def fG (inn:List Bool) (sets:List (List Int)) (k:Nat):List Int:=((sets.take k).zipIdx.filter fun p=>decide (0 < gG inn p.1)).map fun p=>(p.2:Int)
def lX (inn:List Bool) (sets:List (List Int)) (k:Nat):Bool:=(sets.take k).all fun l=>!decide (0 < gG inn l)||decide (gG inn l=l.length)
theorem qQ {α:Type} {l:List α} {k:Nat} {x:α} (h:l[k]? = some x):(l.take (k+1)).zipIdx=(l.take k).zipIdx ++ [(x,k)]:=by
 rw[take_snoc h,List.zipIdx_append];have:=aG h;simp[List.length_take,Nat.min_eq_left (Nat.le_of_lt this)]
theorem aat {inn:List Bool} {sets:List (List Int)} {k:Nat} {l:List Int} (h:sets[k]? = some l):fG inn sets (k+1)=fG inn sets k++(if 0 < gG inn l then [(k:Int)] else []):=by
 unfold fG;rw[qQ h,List.filter_append,List.map_append];by_cases hm:0 < gG inn l <;> simp[hm]
theorem abJ {inn:List Bool} {sets:List (List Int)} {k:Nat} {l:List Int} (h:sets[k]? = some l):lX inn sets (k+1)=(lX inn sets k&&(!decide (0 < gG inn l)||decide (gG inn l=l.length))):=by
 unfold lX;rw[take_snoc h,List.all_append];simp
theorem qo (inn:List Bool) (sets:List (List Int)) (k:Nat):(fG inn sets k).length≤k:=by
 unfold fG;rw[List.length_map];refine Nat.le_trans (List.length_filter_le _ _) ?_;simp; omega
def jg (g:Gm) (roots:List Int):List Int:=fG (jo g.nodes roots) (aT g) g.infos.length
def pV (g:Gm) (roots:List Int):Bool:=lX (jo g.nodes roots) (aT g) g.infos.length
theorem mF {nodes:List Nd} {ni k:Nat} (hk:k≤nodes.length):∀ l∈dG nodes ni k,∀ x∈l,0≤x∧x < (nodes.length:Int):=by
 induction k with
 | zero=>intro l hl; simp[dG] at hl; simp[hl.2]
 | succ k ih =>
  intro l hl x hx;unfold dG at hl;split at hl
  ·split at hl
   ·rcases List.mem_or_eq_of_mem_set hl with h | h
    ·exact ih (by omega) l h x hx
    ·rename_i n _ _
     subst h;rw[List.mem_append] at hx;rcases hx with hx | hx
     ·rcases Nat.lt_or_ge n.info.toNat (dG nodes ni k).length with hlt | hge
      ·exact ih (by omega) ((dG nodes ni k).getD n.info.toNat []) (by rw[List.getD_eq_getElem?_getD]; simp[hlt]) x hx
      ·rw[List.getD_eq_getElem?_getD,List.getElem?_eq_none hge] at hx; simp at hx
     ·simp at hx; omega
   ·exact ih (by omega) l hl x hx
  ·exact ih (by omega) l hl x hx
theorem oD (nodes:List Nd) (roots:List Int):(jo nodes roots).length=nodes.length:=by unfold jo; rw[qE,lU]; simp
theorem aed (w:World) (F:Ag) (u vr:Value) (g:Gm) (roots:List Int) (hg:Az w F u g) (hr:Ak w F vr roots) (hsm:Small g) (h0:0 < g.nodes.length) (hk:CQ g.nodes) (hii:Bd g)
  (hl:roots.length≤1000) (hin:∀ r∈roots,0≤r∧r < (g.nodes.length:Int)) :
  Calls Tryz.prog 68 #[u,vr] w (Ret w fun v w'=>∃ vs,v = .tuple #[vs,.bool (pV g roots)]∧Ak w' (fun b=>w.heap.size≤b) vs (jg g roots)):=by
 have HG:=Ac hg;obtain⟨vn,vi,rfl,⟨A,c,rfl,hc,hN⟩,⟨Ai,ci,rfl,hci,hI⟩⟩:=hg;clear hN hI;have HR:=Ac hr; clear hr;have HK:=Ac hk; clear hk;have hn:=hsm.nodes;have hni:=hsm.infos;have HS:=Ac hsm; clear hsm;have HIN:=Ac hin; clear hin;have HII:=Ac hii; clear hii;go_enter Tryz.func68,Tryz.ntmps68;go_wp2_with fail
 obtain⟨W,hW⟩:∃ W:World,W=w.alloc (.cells #[.int .i64 g.aj,.slice A g.nodes.length c,.slice Ai g.infos.length ci] 25):=⟨_,rfl⟩;rw[← hW];have hbx:Row W w.heap.size 25 [.int .i64 g.aj,.slice A g.nodes.length c,.slice Ai g.infos.length ci]:=by rw[hW]; exact Row.new w _ _
 have hWb:Below w.heap.size w W:=by rw[hW]; exact(Below.refl _ _).alloc (Nat.le_refl _) _
 have hWz:w.heap.size < W.heap.size:=by rw[hW]; simp
 clear hW;refine wp_region_held_drew (S:=fun w'=>w'.cell? ⟨w.heap.size,0,none⟩=some (.int .i64 g.aj)∧w'.cell? ⟨w.heap.size,1,none⟩=some (.slice A g.nodes.length c)∧w'.cell? ⟨w.heap.size,2,none⟩=some (.slice Ai g.infos.length ci)) (by kernel_rfl) ⟨hbx.cell rfl,hbx.cell rfl,hbx.cell rfl⟩ (fun hHeld=>?_);refine tk0 [0,1,3] ?_;iterate 3 (refine tk (v:=?_) rfl (by kernel_rfl) (by kernel_rfl) (by kernel_rfl) (fun _ _ _ h=>h) (Or.inl ⟨by rfl,?_⟩) hHeld ?_;rotate_left;(focus intro wx hSx;(try dsimp only at hSx);go_split_ands;go_simp;try with_reducible rfl);try simp only[Act.put,lq1,lq2,lq3,lq4,lq5,lq6])
 refine tk1 ?_;refine tk2 2 (by kernel_rfl) rfl fun K hK=>?_
 go_simp;refine(aaO _ F _ _ g roots ((HG.out.on (Below.same' hWb F)).on (Same.drewN F W 1)) ((HR.out.on (Below.same' hWb F)).on (Same.drewN F W 1)) HS.out h0 HK.out hl HIN.out).mono ?_;rintro e w1 ⟨vu,rfl,hb1,hun⟩;have dL:=hbx.drew.below hb1 hbx.lt;dsimp only;refine hK.out _ _ ⟨dL.cell rfl,dL.cell rfl,dL.cell rfl⟩ (fun hHeld=>?_);clear hK K;try simp only[Act.put,lq1,lq2,lq3,lq4,lq5,lq6]
 refine tk2 4 (by kernel_rfl) rfl fun K hK=>?_
 go_simp;refine(zu _ F _ g (((HG.out.on (Below.same' hWb F)).on (Same.drewN F W 1)).on (Below.same' hb1 F)) HS.out HII.out).mono ?_;rintro e w2 ⟨vss,rfl,hb2,hse⟩;have hbx2:=dL.below hb2 dL.lt;dsimp only;refine hK.out _ _ ⟨hbx2.cell rfl,hbx2.cell rfl,hbx2.cell rfl⟩ (fun hHeld=>?_);clear hK K;try simp only[Act.put,lq1,lq2,lq3,lq4,lq5,lq6]
 refine tk0 [5,6] ?_;iterate 2 (refine tk (v:=?_) rfl (by kernel_rfl) (by kernel_rfl) (by kernel_rfl) (fun _ _ _ h=>h) (Or.inl ⟨by rfl,?_⟩) hHeld ?_;rotate_left;(focus intro wx hSx;(try dsimp only at hSx);go_split_ands;go_simp;try with_reducible rfl);try simp only[Act.put,lq1,lq2,lq3,lq4,lq5,lq6])
 refine tk1 ?_;refine wpAnyH_done (by kernel_rfl) ?_ _;have hz12:w1.heap.size≤w2.heap.size:=hb2.size;have hzW:W.heap.size≤w1.heap.size:=hb1.size;have hun2:=hun.on (Below.same' hb2 _);have hBB:Below w.heap.size w w2:=hWb.drew.trans ((hb1.mono (by simp; omega)).trans (hb2.mono (by omega)));have HBB:=Ac hBB;clear hBB hun dL hbx hb1 hb2 hWb hHeld HG HR;have hx1:=hbx2.lt;clear hbx2;have hul:=oD g.nodes roots;generalize afN:jo g.nodes roots=inn at *;have hsl:(aT g).length=g.infos.length:=bC _ _ _;have hsin:∀ l∈aT g,∀ x∈l,0≤x∧x < (g.nodes.length:Int):=mF (Nat.le_refl _);have ahe:∀ l∈aT g,l.length≤g.nodes.length:=mQ;have hR1:jg g roots=fG inn (aT g) g.infos.length:=by unfold jg; rw[afN]
 have hR2:pV g roots=lX inn (aT g) g.infos.length:=by unfold pV; rw[afN]
 have HR1:=Ac hR1; have HR2:=Ac hR2;clear hR1 hR2 afN;generalize aT g=sets at *;obtain⟨As,cs,rfl,hcs,hS⟩:=hse;obtain⟨Au,cu,rfl,hcu,hU⟩:=hun2;have HSE:=Ac hS; clear hS;have HUN:=Ac hU; clear hU;have HSIN:=Ac hsin; clear hsin;have Ea:=Ac ahe; clear ahe;have HUL:=Ac hul; have hul0:inn.length≤100:=by omega
 clear hul;have HSL:=Ac hsl; have hsl0:sets.length≤100:=by omega
 clear hsl;go_wp2
 go_loopw [8,9,10] (fun vo cl i wr=>∃ k:Nat,k≤sets.length∧i = .int .i64 k∧cl = .bool (lX inn sets k)∧wr.ownsRow w2.heap.size 3 1 vo (fG inn sets k).length ((fG inn sets k).map (Value.int .i64))∧Below w2.heap.size w2 wr) (fun _ _ i _=>sets.length - (intOf i).toNat)
 case atStart=>exact⟨0,by omega,rfl,rfl,World.ownsRow_nil _ _ _ _,Below.refl _ _⟩
 case round =>
  obtain⟨k,hk,rfl,rfl,hown,hbel⟩:=hrel;have hold:=aA hbel;by_cases hlt:k < sets.length
  ·obtain⟨bs,os,rfl,_,hbs,hxs⟩:=HSE.out (by omega);obtain⟨l,hl⟩:=ak hlt;obtain⟨vl,el,Al,cl,rfl,hcl,hLl⟩:=hxs k l hl;rw[Nat.mul_one] at el;have HX:=Ac hl;have hll:=Ea.out l (List.mem_of_getElem? hl);have hlin:=HSIN.out l (List.mem_of_getElem? hl);have HLIN:=Ac hlin;have HLl:=Ac hLl;clear hl hxs hlin hLl;have HO:=Ac hown; clear hown;have hlen:=qo inn sets k;generalize hal:lX inn sets k=al at *;have HAL:=Ac hal; clear hal;go_wp2
   go_loop [11,12] (fun m i=>∃ j:Nat,j≤l.length∧i = .int .i64 j∧m = .int .i64 (gG inn (l.take j))) (fun _ i=>l.length - (intOf i).toNat)
   case atStart=>exact⟨0,by omega,rfl,by simp[gG]⟩
   case round =>
    obtain⟨j,hj,rfl,rfl⟩:=hrel;have hmj:=afM inn (l.take j);rw[List.length_take] at hmj;have hmj':gG inn (l.take j)≤1000:=by omega
    clear hmj;by_cases hjt:j < l.length
    ·obtain⟨bl,ol,rfl,_,hbl,hxl⟩:=HLl.out (by omega);obtain⟨x,hx⟩:=ak hjt;have ex:=hxl j x hx;unfold fF at ex;rw[Nat.mul_one] at ex;obtain⟨hx0,hx1'⟩:=HLIN.out x (List.mem_of_getElem? hx);have hul:=HUL.out;obtain⟨bu,ou,rfl,_,hbu,hxu⟩:=HUN.out (by omega);obtain⟨y,hy⟩:=ak (l:=inn) (k:=x.toNat) (by omega);have ey:=hxu _ y hy;unfold qm at ey;rw[Nat.mul_one] at ey;have hxn:x < (inn.length:Int):=by omega
     clear hul hxl hxu;have HST:=Ac (ac5 hx hy);clear hx hy;cases y
     ·go_wp2
      go_round
      case rel=>exact⟨j+1,by omega,by go_num,by rw[HST.out]; simp⟩
      case measure=>simp[intOf]; omega
     ·go_wp2
      go_round
      case rel=>exact⟨j+1,by omega,by go_num,by rw[HST.out]; simp⟩
      case measure=>simp[intOf]; omega
    ·have hje:j=l.length:=by omega
     have hmm:gG inn (l.take j)=gG inn l:=by rw[List.take_of_length_le (by omega)]
     rw[hmm] at hmj' ⊢;clear hmm;have HSI:=Ac (aat (inn:=inn) HX.out);have HAI:=Ac (abJ (inn:=inn) HX.out);generalize gG inn l=m at *;by_cases hm0:0 < m
     ·cases al
      ·go_wp2_with (at_builtin; refine gX rfl _ _ rfl w2.heap.size _ (fG inn sets k) rfl (HO.out.alloc _) wr.heap.size k rfl (heap_alloc_new _ _) (by omega) (by have:=hbel.size; simp; omega) ?_; intro gg cap w3 hown3 hgrow hat hlt3; have jr:Below w2.heap.size w2 w3:=(hbel.alloc hbel.size _).grown hgrow (by have:=hbel.size; simp; omega) (fun k hk=>(HO.out.lt k hk).1); have HO3:=Ac hown3; clear hown3 hgrow hat hlt3; have aio:=aA jr)
       go_roundw
       case rel =>
        refine⟨k+1,by omega,by go_num,?_,?_,jr⟩
        ·rw[HAI.out,HAL.out]; rfl
        ·rw[HSI.out,if_pos hm0]; simpa using HO3.out
       case measure=>simp[intOf]; omega
      ·by_cases hml:m=l.length
       ·have hd:((m:Int)==(l.length:Int))=true:=by simp; omega
        go_wp2_with (at_builtin; refine gX rfl _ _ rfl w2.heap.size _ (fG inn sets k) rfl (HO.out.alloc _) wr.heap.size k rfl (heap_alloc_new _ _) (by omega) (by have:=hbel.size; simp; omega) ?_; intro gg cap w3 hown3 hgrow hat hlt3; have jr:Below w2.heap.size w2 w3:=(hbel.alloc hbel.size _).grown hgrow (by have:=hbel.size; simp; omega) (fun k hk=>(HO.out.lt k hk).1); have HO3:=Ac hown3; clear hown3 hgrow hat hlt3; have aio:=aA jr)
        go_roundw
        case rel =>
         refine⟨k+1,by omega,by go_num,?_,?_,jr⟩
         ·rw[HAI.out,HAL.out]; simp[hml]
         ·rw[HSI.out,if_pos hm0]; simpa using HO3.out
        case measure=>simp[intOf]; omega
       ·have hd:((m:Int)==(l.length:Int))=false:=by simp; omega
        go_wp2_with (at_builtin; refine gX rfl _ _ rfl w2.heap.size _ (fG inn sets k) rfl (HO.out.alloc _) wr.heap.size k rfl (heap_alloc_new _ _) (by omega) (by have:=hbel.size; simp; omega) ?_; intro gg cap w3 hown3 hgrow hat hlt3; have jr:Below w2.heap.size w2 w3:=(hbel.alloc hbel.size _).grown hgrow (by have:=hbel.size; simp; omega) (fun k hk=>(HO.out.lt k hk).1); have HO3:=Ac hown3; clear hown3 hgrow hat hlt3; have aio:=aA jr)
        go_roundw
        case rel =>
         refine⟨k+1,by omega,by go_num,?_,?_,jr⟩
         ·rw[HAI.out,HAL.out]; simp[hml,hm0]
         ·rw[HSI.out,if_pos hm0]; simpa using HO3.out
        case measure=>simp[intOf]; omega
     ·go_wp2
      go_roundw
      case rel =>
       refine⟨k+1,by omega,by go_num,?_,?_,hbel⟩
       ·rw[HAI.out,HAL.out]; simp[hm0]
       ·rw[HSI.out,if_neg hm0]; simpa using HO.out
      case measure=>simp[intOf]; omega
  ·go_wp2
   go_ret2;have hke:k=sets.length:=by omega
   subst hke;have h1:=HSL.out;refine⟨_,rfl,HBB.out.trans (hbel.mono (by omega)),u8,?_,?_⟩
   ·rw[HR2.out,← h1]; rfl
   ·rw[HR1.out,← h1];exact Own.ints (by simpa [Own] using hown) (fun b hb=>by have:=(hown.lt b hb).1; omega)
theorem Ak.take {w:World} {F:Ag} {A:Option Addr} {c k:Nat} {l:List Int} (h:Ak w F (.slice A l.length c) l) (hk:k≤l.length):Ak w F (.slice A k c) (l.take k):=by
 obtain⟨A',c',e,hc,hr⟩:=h;simp only[Value.slice.injEq] at e;obtain⟨rfl,_,rfl⟩:=e;have hl:(l.take k).length=k:=by simp; omega
 refine⟨A,c,by rw[hl],by omega,fun h0=>?_⟩;obtain⟨b,o,rfl,hb,hlt,hx⟩:=hr (by omega);refine⟨b,o,rfl,hb,hlt,fun j x hj=>hx j x ?_⟩;rw[List.getElem?_take] at hj;split at hj
 ·exact hj
 ·cases hj
def jc (n:Nat) (l:List Int):Bool:=l.any fun r=>decide (r < 0)||decide ((n:Int)≤r)
def iy (nodes:List Nd) (roots:List Int) (i:Nat):Bool:=decide (roots.getD i 0≤roots.getD (i - 1) 0)||(jo nodes (roots.take i)).getD (roots.getD i 0).toNat false
def iC (nodes:List Nd) (roots:List Int) (m:Nat):Bool:=(List.range' 1 (m - 1)).any (iy nodes roots)
theorem xK (nodes:List Nd) (roots:List Int) (m:Nat) (h:1≤m):iC nodes roots (m+1)=(iC nodes roots m||iy nodes roots m):=by
 unfold iC;have:m+1 - 1=(m - 1)+1:=by omega
 rw[this,List.range'_concat,List.any_append];simp
 rw[show 1+(m - 1)=m by omega]
theorem aau {nodes:List Nd} {roots:List Int} {m k:Nat} (h:1≤m) (hm:m < k) (hb:iy nodes roots m=true):iC nodes roots k=true:=by
 unfold iC;rw[List.any_eq_true];exact⟨m,by rw[List.mem_range'_1]; omega,hb⟩
def kE (nodes:List Nd) (roots:List Int):Int :=
 if roots = [] then 3 else if jc nodes.length roots then 2 else if iC nodes roots roots.length then 9 else 0
theorem gV {n:Nat} {l:List Int} (h:jc n l=false):∀ r∈l,0≤r∧r < (n:Int):=by
 intro r hr;unfold jc at h;have:=List.any_eq_false.1 h r hr;simp at this; omega
theorem afO (w:World) (F:Ag) (u vr:Value) (g:Gm) (roots:List Int) (hg:Az w F u g) (hr:Ak w F vr roots) (hsm:Small g) (h0:0 < g.nodes.length) (hk:CQ g.nodes) (hl:roots.length≤1000) :
  Calls Tryz.prog 126 #[u,vr] w (Ret w fun v _=>v = .int .i64 (kE g.nodes roots)):=by
 have HG:=Ac hg;have HR:=Ac hr;obtain⟨vn,vi,rfl,⟨A,c,rfl,hc,hN⟩,⟨Ai,ci,rfl,hci,hI⟩⟩:=hg;clear hN hI;obtain⟨Ar,cr,rfl,hcr,hRr⟩:=hr;have HRr:=Ac hRr; clear hRr;have HK:=Ac hk; clear hk;have hn:=hsm.nodes;have HS:=Ac hsm; clear hsm;by_cases hnil:roots = []
 ·subst hnil;go_enter Tryz.func126,Tryz.ntmps126;go_wp2
  go_ret;exact⟨_,rfl,(Below.refl _ _).alloc (Nat.le_refl _) _,rfl⟩
 have hpos:0 < roots.length:=List.length_pos_iff.2 hnil;have hd0:((roots.length:Int)==0)=false:=by simp; omega
 have Dl:=Ac hnil; clear hnil;go_enter Tryz.func126,Tryz.ntmps126;go_wp2
 obtain⟨W,hW⟩:∃ W:World,W=w.alloc (.cells #[.int .i64 g.aj,.slice A g.nodes.length c,.slice Ai g.infos.length ci] 25):=⟨_,rfl⟩;rw[← hW];have hbx:Row W w.heap.size 25 [.int .i64 g.aj,.slice A g.nodes.length c,.slice Ai g.infos.length ci]:=by rw[hW]; exact Row.new w _ _
 have hWb:Below w.heap.size w W:=by rw[hW]; exact(Below.refl _ _).alloc (Nat.le_refl _) _
 have hWz:w.heap.size < W.heap.size:=by rw[hW]; simp
 clear hW;have x1:=hbx.cell (i:=1) rfl;have hold:=aA hWb;go_loopw [5] (fun i wr=>∃ (k n:Nat),k≤roots.length∧i = .int .i64 k∧jc g.nodes.length (roots.take k)=false∧wr=W.drewN n) (fun i _=>roots.length - (intOf i).toNat)
 case atStart=>exact⟨0,0,by omega,rfl,rfl,rfl⟩
 case round =>
  obtain⟨k,n,hk,rfl,hpre,rfl⟩:=hrel;have HP:=Ac hpre; clear hpre;by_cases hlt:k < roots.length
  ·obtain⟨b,o,rfl,_,hb,hx⟩:=HRr.out (by omega);obtain⟨r,hr⟩:=ak hlt;have er:=hx k r hr;unfold fF at er;rw[Nat.mul_one] at er;have HX:=Ac hr; clear hr hx;have BAD:=Ac (show(r < 0∨(g.nodes.length:Int)≤r)→kE g.nodes roots=2 by
    intro hb;have:jc g.nodes.length roots=true:=List.any_eq_true.2 ⟨r,List.mem_of_getElem? HX.out,by simpa using hb⟩;unfold kE; rw[if_neg Dl.out,if_pos this])
   by_cases q0:r < 0
   ·have hd:decide (r < 0)=true:=by simp[q0]
    have HF:=Ac (BAD.out (.inl q0));go_wp2
    go_quiet (fail)
    go_wp2
    go_ret;refine⟨_,rfl,?_,by rw[HF.out]; rfl⟩;exact⟨hWb.os,hWb.tape,hWb.output,hWb.size,hWb.block⟩
   ·have hd:decide (r < 0)=false:=by simp[q0]
    by_cases q1:(g.nodes.length:Int)≤r
    ·have HF:=Ac (BAD.out (.inr q1));go_wp2
     go_quiet (fail)
     go_wp2
     go_ret;refine⟨_,rfl,?_,by rw[HF.out]; rfl⟩;exact⟨hWb.os,hWb.tape,hWb.output,hWb.size,hWb.block⟩
    ·have hd1:decide ((g.nodes.length:Int)≤r)=false:=by simp; omega
     go_wp2
     go_quiet (fail)
     go_wp2
     go_roundw
     case rel =>
      refine⟨k+1,n+nq,by omega,by go_num,?_,rfl⟩;exact iY HX.out HP.out (by simp; omega)
     case measure=>simp[intOf]; omega
  ·have hrb:jc g.nodes.length roots=false:=by
    have:=HP.out; rw[List.take_of_length_le (by omega)] at this; exact this
   have HRB:=Ac hrb; clear hrb;have x0:=hbx.cell (i:=0) rfl;have x2:=hbx.cell (i:=2) rfl;go_wp2
   go_loopw [6] (fun i wr=>∃ m:Nat,1≤m∧m≤roots.length∧i = .int .i64 m∧iC g.nodes roots m=false∧Below W.heap.size W wr) (fun i _=>roots.length - (intOf i).toNat)
   case atStart=>exact⟨1,by omega,by omega,rfl,rfl,⟨rfl,rfl,rfl,Nat.le_refl _,fun _ _=>rfl⟩⟩
   case round =>
    obtain⟨m,hm1,hm,rfl,hpre,hbel⟩:=hrel;have HPM:=Ac hpre; clear hpre;by_cases hmt:m < roots.length
    ·obtain⟨b,o,rfl,_,hb,hx⟩:=HRr.out (by omega);obtain⟨r,hr⟩:=ak hmt;obtain⟨p,hp⟩:=ak (l:=roots) (k:=m - 1) (by omega);have er:=hx m r hr;have ep:=hx (m - 1) p hp;unfold fF at er ep;rw[Nat.mul_one] at er ep;have hbW:b < W.heap.size:=by omega
     obtain⟨hr0,hr1⟩:=gV HRB.out r (List.mem_of_getElem? hr);have HAT:=Ac (show iy g.nodes roots m=(decide (r≤p)||(jo g.nodes (roots.take m)).getD r.toNat false) by
      unfold iy; simp[List.getD_eq_getElem?_getD,hr,hp])
     have BAD:=Ac (show iy g.nodes roots m=true→kE g.nodes roots=9 by
      intro hb;unfold kE; rw[if_neg Dl.out,HRB.out,aau hm1 hmt hb]; rfl)
     clear hr hp hx;have ai8:=aA hbel;by_cases q0:r≤p
     ·have hd:decide (r≤p)=true:=by simp[q0]
      have HF:=Ac (BAD.out (by rw[HAT.out,hd]; rfl));go_wp2
      go_quiet (fail)
      go_wp2
      go_ret;refine⟨_,rfl,hWb.trans ((hbel.mono (by omega)).trans ?_),by rw[HF.out]; rfl⟩;exact⟨rfl,rfl,rfl,Nat.le_refl _,fun _ _=>rfl⟩
     ·have hd:decide (r≤p)=false:=by simp; omega
      have hmI:(m:Int)≤(roots.length:Int):=by omega
      go_wp2
      have hw1:IntKind.i64.wrap ((m:Int) - 1)=((m - 1:Nat):Int):=by rw[IntWalk.i64_in _ (by omega)]; omega
      have hm2:m - 1 < roots.length:=by omega
      have hm3:m≤cr:=by omega
      have hbd:Below wr.heap.size wr wr.drew:=⟨rfl,rfl,rfl,Nat.le_refl _,fun _ _=>rfl⟩;refine wp_region_held_drew (S:=fun w'=>∀ b o,b < W.heap.size→w'.cell? ⟨b,o,none⟩=W.cell? ⟨b,o,none⟩) (by kernel_rfl) ai8 (fun hHeld=>?_);refine tk0 [0,1,2,3,4,5,6,7,8,9,10,11,12,13,14,16,17,18,19] ?_;iterate 19 (refine tk (v:=?_) rfl (by kernel_rfl) (by kernel_rfl) (by kernel_rfl) (fun _ _ _ h=>h) (Or.inl ⟨by rfl,?_⟩) hHeld ?_;rotate_left;(focus intro wx hSx;(try dsimp only at hSx);go_split_ands;go_simp;try with_reducible rfl);try simp only[Act.put,lq1,lq2,lq3,lq4,lq5,lq6])
      refine tk1 ?_;refine tk2 15 (by kernel_rfl) rfl fun K hK=>?_
      go_simp;have hGd:=(((HG.out.on (Below.same' hWb F)).on (Below.same' hbel F)).on (Below.same' hbd F));have hRd:=(((HR.out.on (Below.same' hWb F)).on (Below.same' hbel F)).on (Below.same' hbd F));refine(aaO _ F _ _ g (roots.take m) hGd (hRd.take hm) HS.out h0 HK.out (by simp; omega) (fun x hx=>gV HRB.out x (List.mem_of_mem_take hx))).mono ?_;rintro e w1 ⟨vu,rfl,hb1,hun⟩;clear hGd hRd;have hb1':Below W.heap.size W w1:=hbel.drew.trans (hb1.mono hbel.size);dsimp only;refine hK.out _ _ (aA hb1') (fun hHeld=>?_);clear hK K;try simp only[Act.put,lq1,lq2,lq3,lq4,lq5,lq6]
      have hul:=oD g.nodes (roots.take m);obtain⟨Au,cu,rfl,hcu,hU⟩:=hun;obtain⟨bu,ou,rfl,_,hbu,hxu⟩:=hU (by omega);obtain⟨y,hy⟩:=ak (l:=jo g.nodes (roots.take m)) (k:=r.toNat) (by omega);have ey:=hxu _ y hy;unfold qm at ey;rw[Nat.mul_one] at ey;have hrn:r < ((jo g.nodes (roots.take m)).length:Int):=by omega
      have HAT2:=Ac (show iy g.nodes roots m=y by rw[HAT.out,hd]; simp[List.getD_eq_getElem?_getD,hy]);clear hU hxu hy hul;refine tk0 [20] ?_;(refine tk (v:=?_) rfl (by kernel_rfl) (by kernel_rfl) (by kernel_rfl) (fun _ _ _ h=>h) (Or.inl ⟨by rfl,?_⟩) hHeld ?_;rotate_left;(focus intro wx hSx;(try dsimp only at hSx);go_split_ands;go_simp;try with_reducible rfl);try simp only[Act.put,lq1,lq2,lq3,lq4,lq5,lq6])
      refine tk1 ?_;refine tk2 21 (by kernel_rfl) rfl fun K hK=>?_
      go_simp;refine hK.out _ _ (aA hb1') (fun hHeld=>?_);clear hK K;try simp only[Act.put,lq1,lq2,lq3,lq4,lq5,lq6]
      refine tk0 [22] ?_;(refine tk (v:=?_) rfl (by kernel_rfl) (by kernel_rfl) (by kernel_rfl) (fun _ _ _ h=>h) (Or.inl ⟨by rfl,?_⟩) hHeld ?_;rotate_left;(focus intro wx hSx;(try dsimp only at hSx);go_split_ands;go_simp;try with_reducible rfl);try simp only[Act.put,lq1,lq2,lq3,lq4,lq5,lq6])
      refine tk1 ?_;refine wpAnyH_done (by kernel_rfl) ?_ _;cases y
      ·go_wp2
       go_roundw
       case rel =>
        refine⟨m+1,by omega,by omega,by go_num,?_,hb1'⟩;rw[xK _ _ _ hm1,HPM.out,HAT2.out]; rfl
       case measure=>simp[intOf]; omega
      ·have HF:=Ac (BAD.out HAT2.out);go_wp2
       go_ret;exact⟨_,rfl,hWb.trans (hb1'.mono (by omega)),by rw[HF.out]; rfl⟩
    ·go_wp2
     go_ret;have hme:m=roots.length:=by omega
     refine⟨_,rfl,hWb.trans (hbel.mono (by omega)),?_⟩;have:kE g.nodes roots=0:=by
      unfold kE; rw[if_neg Dl.out,HRB.out];have:=HPM.out; rw[hme] at this; rw[this]; rfl
     rw[this]; rfl
def iD (g:Gm) (roots:List Int):Int:=if bD g≠0 then bD g else kE g.nodes roots
def lq (inn:List Bool) (k:Nat):List Int:=((inn.take k).zipIdx.filter fun p=>p.1).map fun p=>(p.2:Int)
def aee (inn:List Bool):List Int:=lq inn inn.length
theorem abK {inn:List Bool} {k:Nat} {b:Bool} (h:inn[k]? = some b):lq inn (k+1)=lq inn k++(if b then [(k:Int)] else []):=by
 unfold lq;rw[qQ h,List.filter_append,List.map_append];cases b <;> simp
theorem zA (inn:List Bool) (k:Nat):(lq inn k).length≤k:=by
 unfold lq;rw[List.length_map];refine Nat.le_trans (List.length_filter_le _ _) ?_;simp; omega
def DV (B:Nat) (e:Int) (l1 l2:List Int) (v:Value) (w':World):Prop:=∃ v1 v2,v = .tuple #[v1,v2,.int .i64 e]∧Ak w' (fun b=>B≤b) v1 l1∧Ak w' (fun b=>B≤b) v2 l2
theorem nC (w:World) (F:Ag):Ak w F (.slice none 0 0) []:=⟨none,0,rfl,Nat.le_refl _,fun h=>absurd h (by simp)⟩
theorem zB {nodes:List Nd} {roots:List Int} (h:kE nodes roots=0):∀ r∈roots,0≤r∧r < (nodes.length:Int):=by
 unfold kE at h;split at h
 ·omega
 ·split at h
  ·omega
  ·rename_i h2
   exact gV (by simpa using h2)
theorem uq {g:Gm} {roots:List Int} (h:iD g roots=0):Good g∧kE g.nodes roots=0:=by
 unfold iD at h;split at h
 ·rename_i h1; exact absurd h h1
 ·rename_i h1; exact⟨ku (by simpa using h1),h⟩
theorem check_any (w:World) (F:Ag) (u vr:Value) (g:Gm) (roots:List Int) (hg:Az w F u g) (hr:Ak w F vr roots) (hsm:Small g) (hl:roots.length≤1000) :
  Calls Tryz.prog 67 #[u,vr] w (Ret w fun v _=>v = .int .i64 (iD g roots)):=by
 have HG:=Ac hg;have HR:=Ac hr; clear hr;obtain⟨vn,vi,rfl,⟨A,c,rfl,hc,hN⟩,⟨Ai,ci,rfl,hci,hI⟩⟩:=hg;clear hN hI;have HS:=Ac hsm; clear hsm;go_enter Tryz.func67,Tryz.ntmps67;go_wp2_with fail
 refine(afL _ F _ g (HG.out.on (Same.alloc _ _ _)) HS.out).mono ?_;rintro e w1 ⟨_,rfl,hb1,rfl⟩;have hbx:=(Row.new w 25 #[.int .i64 g.aj,.slice A g.nodes.length c,.slice Ai g.infos.length ci]).below hb1 (by simp);have hB:Below w.heap.size w w1:=((Below.refl w.heap.size w).alloc (Nat.le_refl _) _).trans (hb1.mono (by simp));have x0:=hbx.cell (i:=0) rfl;have x1:=hbx.cell (i:=1) rfl;have x2:=hbx.cell (i:=2) rfl;have HC:=Ac (show iD g roots=if bD g≠0 then bD g else kE g.nodes roots from rfl);have HGD:=Ac (fun h:bD g=0=>ku h);generalize bD g=er at *;dsimp only;by_cases he:er=0
 ·have hgd:=HGD.out he;have HK:=Ac hgd.zy;have hp:=hgd.pos;have HC2:=Ac (show iD g roots=kE g.nodes roots by rw[HC.out,if_neg (by simpa using he)]);subst he;clear hgd;go_wp2_with fail
  refine(afO _ F _ _ g roots ((HG.out.on (Same.alloc _ _ _)).on (Below.same' hb1 F)) ((HR.out.on (Same.alloc _ _ _)).on (Below.same' hb1 F)) HS.out hp HK.out hl).mono ?_;rintro e w2 ⟨_,rfl,hb2,rfl⟩;dsimp only;go_wp2
  go_ret;exact⟨_,rfl,hB.trans (hb2.mono hB.size),by rw[HC2.out]; rfl⟩
 ·have hd:(er != 0)=true:=by simp[he]
  have HF:=Ac (show iD g roots=er by rw[HC.out,if_pos he]);clear he;go_wp2
  go_ret;exact⟨_,rfl,hB,by rw[HF.out]; rfl⟩
theorem xg {l:List Int} {i:Int} {p:List Int} {j:Nat} (hj:j < p.length) (hl:∀ c∈l,0≤c):(iV l i p)[j]? = if (j:Int)∈l then some i else p[j]?:=by
 unfold iV;induction l generalizing p with
 | nil=>simp
 | cons c l ih =>
  simp only[List.foldl_cons];rw[ih (by simpa using hj) (fun d hd=>hl d (List.mem_cons_of_mem _ hd))];have hc:=hl c (by simp);by_cases h1:(j:Int)∈l
  ·rw[if_pos h1,if_pos (List.mem_cons_of_mem _ h1)]
  ·rw[if_neg h1];by_cases h2:(j:Int)=c
   ·rw[if_pos (by rw[h2]; simp),List.getElem?_set,if_pos (by omega),if_pos (by omega)]
   ·rw[if_neg (by simp[h1,h2]),List.getElem?_set_ne (by omega)]
theorem afP {g:Gm} (hg:Good g) {j p:Nat} {n:Nd} (hj:j < g.nodes.length) (hp:g.nodes[p]? = some n) (hc:(j:Int)∈n.next) (k:Nat):k≤g.nodes.length→p < k→(jW g.nodes k)[j]? = some (p:Int):=by
 induction k with
 | zero=>intro _ h; omega
 | succ k ih =>
  intro hk hpk;obtain⟨m,hm⟩:=ak (l:=g.nodes) (k:=k) (by omega);rw[tJ hm,xg (by rw[fP]; exact hj) (fun c hc=>(hg.zy m (List.mem_of_getElem? hm) c hc).1)];by_cases h1:(j:Int)∈m.next
  ·have hpk':p=k:=hg.span.once.2 _ p k n m (by omega) (aG hp) (by omega) (by omega) hp hm hc h1;rw[if_pos h1,hpk']
  ·rw[if_neg h1];by_cases h2:p=k
   ·subst h2; rw[hp] at hm; cases hm; exact absurd hc h1
   ·exact ih (by omega) (by omega)
theorem qR {g:Gm} (hg:Good g) {j p:Nat} {n:Nd} (hj:j < g.nodes.length) (hp:g.nodes[p]? = some n) (hc:(j:Int)∈n.next):(dV g.nodes)[j]? = some (p:Int) :=
 afP hg hj hp hc _ (Nat.le_refl _) (aG hp)
theorem uw {g:Gm} (hg:Good g) {j:Nat} (h0:0 < j) (hj:j < g.nodes.length):∃ p n,p < j∧g.nodes[p]? = some n∧(j:Int)∈n.next:=by
 rcases hg.span.parent j (by omega) hj with h | ⟨p,n,_,h1,h2,h3⟩
 ·simp at h; omega
 ·exact⟨p,n,h1,h2,h3⟩
def Falls (N:Nat) (par:List Int):Prop:=∀ (i:Nat) (x:Int),i < N→par[i]? = some x→-1≤x∧x < (i:Int)
theorem aef (nodes:List Nd) (hk:∀ n∈nodes,∀ c∈n.next,0 < c) (k:Nat):nodes.length≠0→(jW nodes k)[0]? = some (-1):=by
 intro h0;induction k with
 | zero=>unfold jW; rw[List.getElem?_set_self (by simp; omega)]
 | succ k ih =>
  unfold jW;split
  ·rename_i n hn
   rw[xg (by rw[fP]; omega) (fun c hc=>by have:=hk n (List.mem_of_getElem? hn) c hc; omega),if_neg,ih];intro hm;have:=hk n (List.mem_of_getElem? hn) _ hm;omega
  ·exact ih
theorem aav {g:Gm} (hg:Good g):Falls g.nodes.length (dV g.nodes):=by
 intro i x hi hx;by_cases h0:i=0
 ·subst h0;have h1:=aef g.nodes (fun n hn c hc=>by
   obtain⟨k,hk⟩:=List.getElem?_of_mem hn;have:=hg.span.kids k n (Nat.zero_le _) (aG hk) hk c hc;omega) g.nodes.length (by have:=hg.pos; omega)
  unfold dV at hx;rw[h1] at hx; cases hx; omega
 ·obtain⟨p,n,h1,h2,h3⟩:=uw hg (by omega) hi;rw[qR hg hi h2 h3] at hx;cases hx; omega
theorem xM (nodes:List Nd):(dV nodes).length=nodes.length:=fP _ _
theorem Good.par {g:Gm} (hg:Good g) {c:Nat} (hc:c < g.nodes.length):∃ p:Int,(dV g.nodes)[c]? = some p∧((c=0∧p = -1)∨∃ (q:Nat) (n:Nd),p=(q:Int)∧q < c∧g.nodes[q]? = some n∧(c:Int)∈n.next):=by
 obtain⟨p,hp⟩:=ak (l:=dV g.nodes) (k:=c) (by rw[xM]; exact hc);refine⟨p,hp,?_⟩;by_cases h0:c=0
 ·subst h0;have:=aav hg 0 p hc hp;exact .inl ⟨rfl,by omega⟩
 ·obtain⟨q,n,h1,h2,h3⟩:=uw hg (by omega) hc;rw[qR hg hc h2 h3] at hp;cases hp
  exact .inr ⟨q,n,rfl,h1,h2,h3⟩
def Kid (nodes:List Nd) (i k c:Nat):Prop:=∃ n,nodes[i]? = some n∧n.next[k]? = some (c:Int)
theorem Span.inj {nodes:List Nd} {cs:List Int} {a b:Nat} (h:Span nodes cs a b):∀ (k k':Nat) (c:Int),cs[k]? = some c→cs[k']? = some c→k=k':=by
 induction h with
 | nil a=>intro k k' c h1; simp at h1
 | @cons a m b n cs hn h1 h2 ih1 ih2 =>
  intro k k' c hk hk';have l1:=h1.le;have m2:=h2.mem;cases k with
  | zero =>
   cases k' with
   | zero=>rfl
   | succ k' =>
    simp at hk hk';have:=m2 c (List.mem_of_getElem? hk');omega
  | succ k =>
   cases k' with
   | zero =>
    simp at hk hk';have:=m2 c (List.mem_of_getElem? hk);omega
   | succ k' =>
    simp at hk hk';rw[ih2 k k' c hk hk']
theorem Span.sub1 {nodes:List Nd} {cs:List Int} {a b:Nat} (h:Span nodes cs a b):∀ p n,a≤p→p < b→nodes[p]? = some n→∃ e,Span nodes n.next (p+1) e∧e≤b:=by
 intro p n ha hb hn;obtain⟨e,hs,h1,h2⟩:=h.sub p ha hb;generalize hl:[(p:Int)]=l at hs;cases hs with
 | nil=>cases hl
 | cons hn' h3 h4 =>
  injection hl with e1 e2
  subst e2;rw[hn] at hn'; cases hn';cases h4
  exact⟨e,h3,h2⟩
theorem Good.abL {g:Gm} (h:Good g) {i k c:Nat} (hk:Kid g.nodes i k c):i < c∧c < g.nodes.length∧i < g.nodes.length:=by
 obtain⟨n,hn,hc⟩:=hk;have hl:=aG hn;have:=h.span.kids i n (Nat.zero_le _) hl hn c (List.mem_of_getElem? hc);omega
theorem Good.ahT {g:Gm} (h:Good g) {i k i' k' c:Nat} (h1:Kid g.nodes i k c) (h2:Kid g.nodes i' k' c):i=i'∧k=k':=by
 obtain⟨n,hn,hc⟩:=h1;obtain⟨n',hn',hc'⟩:=h2;have e:=h.span.once.2 c i i' n n' (Nat.zero_le _) (aG hn) (Nat.zero_le _) (aG hn') hn hn' (List.mem_of_getElem? hc) (List.mem_of_getElem? hc');subst e;rw[hn] at hn'; cases hn';obtain⟨e,hs,_⟩:=h.span.sub1 i n (Nat.zero_le _) (aG hn) hn;exact⟨rfl,hs.inj k k' c hc hc'⟩
theorem Good.ae4 {g:Gm} (h:Good g) {c:Nat} (h0:0 < c) (hc:c < g.nodes.length):∃ i k,Kid g.nodes i k c:=by
 rcases h.span.parent c (Nat.zero_le _) hc with h | ⟨p,n,_,h1,h2,h3⟩
 ·simp at h; omega
 ·obtain⟨k,hk⟩:=List.getElem?_of_mem h3;exact⟨p,k,n,h2,hk⟩
def upTo (nodes:List Nd) (c:Nat):Nat→Option (Nat×Nat)
 | 0=>none
 | i+1=>match (nodes[i]?).bind fun n=>n.next.findIdx? fun x=>decide (x=(c:Int)) with
  | some k=>some (i,k)
  | none=>upTo nodes c i
def ahU (l:List Int):Int:=l.foldl (· + ·) 0
def qU (m:List (List Rat)) (n:Nd):List Rat:=if n.kind=2 then m.getD n.info.toNat [] else n.weights.map fun x:Int=>(x:Rat) / ((ahU n.weights:Int):Rat)
def afQ (cnt:Nd→Bool) (nodes:List Nd) (m:List (List Rat)) (l:List Rat) (c:Nat):Rat :=
 match upTo nodes c c with
 | some (i,k)=>match nodes[i]? with
  | some n=>if cnt n then l.getD i 0*(qU m n).getD k 0 else l.getD i 0
  | none=>1
 | none=>1
def abM (cnt:Nd→Bool) (nodes:List Nd) (m:List (List Rat)):Nat→List Rat
 | 0=>[]
 | c+1=>abM cnt nodes m c ++ [afQ cnt nodes m (abM cnt nodes m c) c]
def jd (cnt:Nd→Bool) (nodes:List Nd) (m:List (List Rat)) (c:Nat):Rat:=(abM cnt nodes m (c+1)).getD c 0
def addS (acc:List Rat) (b:Rat) (x:List Rat):List Rat:=List.zipWith (fun a y=>a+b*y) acc x
def ai9 (look:Nat→List Rat) (acc:List Rat) (l:List (Rat×Int)):List Rat:=l.foldl (fun acc bc=>addS acc bc.1 (look bc.2.toNat)) acc
def valOf (aj:Nat) (m:List (List Rat)) (n:Nd) (look:Nat→List Rat):List Rat :=
 if n.kind=3 then n.pay.map (fun x:Int=>(x:Rat)) else ai9 look (List.replicate aj 0) ((qU m n).zip n.next)
def ahf (g:Gm) (m:List (List Rat)):Nat→List (List Rat)
 | 0=>[]
 | j+1=>(match g.nodes[g.nodes.length - 1 - j]? with
  | some n=>valOf g.aj.toNat m n (fun c=>(ahf g m j).getD (c - (g.nodes.length - j)) [])
  | none=>[]) :: ahf g m j
def ahg (g:Gm) (m:List (List Rat)) (i:Nat):List Rat:=(ahf g m (g.nodes.length - i)).headD []
structure Fit (g:Gm) (m:List (List Rat)):Prop where
 good:Good g
 nodes:bY g.aj g.infos.length g.nodes=0
 aj:1≤g.aj∧g.aj≤4
 rows:m.length=g.infos.length
 chan:∀ n∈g.nodes,n.kind≠3→(qU m n).length=n.next.length∧∀ x∈qU m n,rl x≤4
end Go.Proofs.YthmklhapjegfdaaGreatDoor
