/- (*recall.walker).chance, move, end, node: the error of a node by itself, by the program. -/
import Derived.Test.YtkcheepafifjaaaGreatDoorF23
import Derived.Test.YtkcheepafifjaaaGreatDoorF03
import Derived.Test.YtkcheepafifjaaaGreatDoorF04
set_option linter.all false
set_option maxRecDepth 100000
set_option maxHeartbeats 12800000
namespace Go.Proofs.YtkcheepafifjaaaGreatDoor
open Lib renaming hid → Ac
open List renaming getElem_toArray → lq1, getElem_cons_zero → lq2, getElem_cons_succ → lq3, setIfInBounds_toArray → lq4, set_cons_zero → lq5, set_cons_succ → lq6
open Go.RowKit
structure Cj (w:World) (p:Nat) (au:Int) (ni:Nat):Prop where
 au:w.cell? ⟨p,0,none⟩=some (.int .i64 au)
 infos:∃ A c,w.cell? ⟨p,2,none⟩=some (.slice A ni c)
theorem aeL (w:World) (F:Ag) (u ux:Value) (x:Nd) (hx:Bf w F ux x) (hl:x.next.length < 1000000∧x.weights.length < 1000000∧x.pay.length < 1000000) :
  Calls Tryz.prog 165 #[u,ux] w (Ret w fun v _=>v = .int .i64 (dJ x)):=by
 obtain⟨v3,v4,v5,rfl,⟨A3,c3,rfl,hc3,h3⟩,⟨A4,c4,rfl,hc4,h4⟩,⟨A5,c5,rfl,hc5,h5⟩⟩:=hx;obtain⟨hl3,hl4,hl5⟩:=hl;have H4:=Ac (show AA w F (.slice A4 x.weights.length c4) x.weights from⟨A4,c4,rfl,hc4,h4⟩);clear h3 h4 h5;by_cases q0:x.aA≠0
 ·have HF:=Ac (show dJ x=3 by unfold dJ; rw[if_pos (by omega)]);have d0:(x.aA != 0)=true:=neT (by omega);go_enter Tryz.func165,Tryz.ntmps165;go_wp2
  go_ret;exact⟨_,rfl,(Below.refl _ _).alloc (Nat.le_refl _) _,by rw[HF.out]; rfl⟩
 have d0:(x.aA != 0)=false:=neF (by omega);by_cases q1:x.info≠0
 ·have HF:=Ac (show dJ x=3 by unfold dJ; rw[if_pos (by omega)]);have d1:(x.info != 0)=true:=neT (by omega);go_enter Tryz.func165,Tryz.ntmps165;go_wp2
  go_ret;exact⟨_,rfl,(Below.refl _ _).alloc (Nat.le_refl _) _,by rw[HF.out]; rfl⟩
 have d1:(x.info != 0)=false:=neF (by omega);by_cases q2:0 < x.pay.length
 ·have HF:=Ac (show dJ x=3 by unfold dJ; rw[if_pos (by omega)]);go_enter Tryz.func165,Tryz.ntmps165;go_wp2
  go_ret;exact⟨_,rfl,(Below.refl _ _).alloc (Nat.le_refl _) _,by rw[HF.out]; rfl⟩
 have d2:decide ((0:Int) < (x.pay.length:Int))=false:=decide_eq_false (by omega);by_cases q3:x.next.length < 1
 ·have HF:=Ac (show dJ x=3 by unfold dJ; rw[if_pos (by omega)]);go_enter Tryz.func165,Tryz.ntmps165;go_wp2
  go_ret;exact⟨_,rfl,(Below.refl _ _).alloc (Nat.le_refl _) _,by rw[HF.out]; rfl⟩
 have d3:decide ((x.next.length:Int) < 1)=false:=decide_eq_false (by omega);by_cases q4:60 < x.next.length
 ·have HF:=Ac (show dJ x=3 by unfold dJ; rw[if_pos (by omega)]);go_enter Tryz.func165,Tryz.ntmps165;go_wp2
  go_ret;exact⟨_,rfl,(Below.refl _ _).alloc (Nat.le_refl _) _,by rw[HF.out]; rfl⟩
 have d4:decide ((60:Int) < (x.next.length:Int))=false:=decide_eq_false (by omega);by_cases q5:x.weights.length≠x.next.length
 ·have HF:=Ac (show dJ x=3 by unfold dJ; rw[if_pos (by omega)]);have d5:((x.weights.length:Int) != (x.next.length:Int))=true:=neT (by omega);go_enter Tryz.func165,Tryz.ntmps165;go_wp2
  go_ret;exact⟨_,rfl,(Below.refl _ _).alloc (Nat.le_refl _) _,by rw[HF.out]; rfl⟩
 have d5:((x.weights.length:Int) != (x.next.length:Int))=false:=neF (by omega);have HF:=Ac (show dJ x=jA 1 1000 x.weights by unfold dJ; rw[if_neg (by omega)]; rfl);clear q0 q1 q5;go_enter Tryz.func165,Tryz.ntmps165;go_wp2_with fail
 refine(qO _ F _ 1 1000 x.weights (H4.out.on (Same.alloc _ _ _)) (by omega)).mono ?_;rintro e w' ⟨v,rfl,hb,rfl⟩;dsimp only;go_wp2
 go_ret;exact⟨_,rfl,((Below.refl _ _).alloc (Nat.le_refl _) _).trans (hb.mono (by simp)),by rw[HF.out]; rfl⟩
theorem fH (w:World) (t:TypeId) (c:Array Value):∃ W:World,W=w.alloc (.cells c t)∧Row W w.heap.size t c.toList∧Below w.heap.size w W∧w.heap.size+1=W.heap.size :=
 ⟨_,rfl,Row.new w _ _,(Below.refl _ _).alloc (Nat.le_refl _) _,by simp⟩
theorem aeM (au:Int) (ni:Nat) (x:Nd) (h:¬ (0 < x.pay.length∨0 < x.weights.length∨x.next.length < 1∨10 < x.next.length)) :
  gG au ni x=if jA 0 (au - 1) [x.aA]≠0 then jA 0 (au - 1) [x.aA] else jA 0 ((ni:Int) - 1) [x.info]:=by
 unfold gG jA outside;rw[if_neg h];simp only[List.any_cons,List.any_nil,Bool.or_false,Bool.or_eq_true,decide_eq_true_eq];repeat' split
 all_goals first | rfl | omega
theorem move_any (w:World) (F:Ag) (p:Nat) (ux:Value) (au:Int) (ni:Nat) (x:Nd) (hw:Cj w p au ni) (hx:Bf w F ux x) (hl:x.next.length < 1000000∧x.weights.length < 1000000∧x.pay.length < 1000000)
  (hp:0≤au∧au < 1000000) (hni:ni < 1000000) (hpl:p < w.heap.size) :
  Calls Tryz.prog 166 #[.pointer (some ⟨p,0,none⟩),ux] w (Ret w fun v _=>v = .int .i64 (gG au ni x)):=by
 obtain⟨v3,v4,v5,rfl,⟨A3,c3,rfl,hc3,h3⟩,⟨A4,c4,rfl,hc4,h4⟩,⟨A5,c5,rfl,hc5,h5⟩⟩:=hx;obtain⟨hl3,hl4,hl5⟩:=hl;clear h3 h4 h5;obtain⟨hwp,Ai,ci,hwi⟩:=hw;by_cases q0:0 < x.weights.length
 ·have HF:=Ac (show gG au ni x=3 by unfold gG; rw[if_pos (by omega)]);go_enter Tryz.func166,Tryz.ntmps166;go_wp2
  go_ret;exact⟨_,rfl,(Below.refl _ _).alloc (Nat.le_refl _) _,by rw[HF.out]; rfl⟩
 have d0:decide ((0:Int) < (x.weights.length:Int))=false:=decide_eq_false (by omega);by_cases q1:0 < x.pay.length
 ·have HF:=Ac (show gG au ni x=3 by unfold gG; rw[if_pos (by omega)]);go_enter Tryz.func166,Tryz.ntmps166;go_wp2
  go_ret;exact⟨_,rfl,(Below.refl _ _).alloc (Nat.le_refl _) _,by rw[HF.out]; rfl⟩
 have d1:decide ((0:Int) < (x.pay.length:Int))=false:=decide_eq_false (by omega);by_cases q2:x.next.length < 1
 ·have HF:=Ac (show gG au ni x=3 by unfold gG; rw[if_pos (by omega)]);go_enter Tryz.func166,Tryz.ntmps166;go_wp2
  go_ret;exact⟨_,rfl,(Below.refl _ _).alloc (Nat.le_refl _) _,by rw[HF.out]; rfl⟩
 have d2:decide ((x.next.length:Int) < 1)=false:=decide_eq_false (by omega);by_cases q3:10 < x.next.length
 ·have HF:=Ac (show gG au ni x=3 by unfold gG; rw[if_pos (by omega)]);go_enter Tryz.func166,Tryz.ntmps166;go_wp2
  go_ret;exact⟨_,rfl,(Below.refl _ _).alloc (Nat.le_refl _) _,by rw[HF.out]; rfl⟩
 have d3:decide ((10:Int) < (x.next.length:Int))=false:=decide_eq_false (by omega);have HF:=Ac (aeM au ni x (by omega));go_enter Tryz.func166,Tryz.ntmps166;go_wp2_with fail
 obtain⟨W,hW,hbx,hWb,hWz⟩:=fH w 67 #[.int .i64 x.kind,.int .i64 x.aA,.int .i64 x.info,.slice A3 x.next.length c3,.slice A4 x.weights.length c4,.slice A5 x.pay.length c5];rw[← hW];clear hW;have hold:=aO hWb;have wr1:IntKind.i64.wrap (au - 1)=au - 1:=IntWalk.i64_in _ (by omega);have wr2:IntKind.i64.wrap ((ni:Int) - 1)=(ni:Int) - 1:=IntWalk.i64_in _ (by omega);refine wp_region_held_drew (S:=fun w'=>w'.cell? ⟨w.heap.size,1,none⟩=some (.int .i64 x.aA)∧w'.cell? ⟨p,0,none⟩=some (.int .i64 au)) (by kernel_rfl) ⟨hbx.cell rfl,(hold p 0 hpl).trans hwp⟩ (fun hHeld=>?_);refine tk0 [0,1,2,3,4,5,6,7] ?_;iterate 8 (refine tk (v:=?_) rfl (by kernel_rfl) (by kernel_rfl) (by kernel_rfl) (fun _ _ _ h=>h) (Or.inl ⟨by rfl,?_⟩) hHeld ?_;rotate_left;(focus intro wx hSx;(try dsimp only at hSx);go_split_ands;go_simp;try with_reducible rfl);try simp only[Act.put,lq1,lq2,lq3,lq4,lq5,lq6])
 refine tk1 ?_;refine tk2 8 (by kernel_rfl) rfl fun K hK=>?_
 go_simp;obtain⟨W1,hW1,hbr,vG,agk⟩:=fH W 3 #[.int .i64 x.aA];rw[← hW1];clear hW1;have dV:=hbx.below vG (by omega);have hB1:Below w.heap.size w W1:=hWb.trans (vG.mono (by omega));clear hbx vG hWb;refine hK.out _ _ ⟨dV.drew.cell rfl,(aO hB1.drew p 0 hpl).trans hwp⟩ (fun hHeld=>?_);clear hK K;try simp only[Act.put,lq1,lq2,lq3,lq4,lq5,lq6]
 refine tk2 9 (by kernel_rfl) rfl fun K hK=>?_
 go_simp;refine(qO _ (fun b=>b=W.heap.size) _ 0 (au - 1) [x.aA] (Row.ints (l:=[x.aA]) hbr.drew (F:=fun b=>b=W.heap.size) rfl (c:=1) (by simp)) (by simp)).mono ?_;rintro e w1 ⟨_,rfl,hb1,rfl⟩;have hbx2:=dV.drew.below hb1 (by simp; omega);have hB2:Below w.heap.size w w1:=hB1.drew.trans (hb1.mono (by simp; omega));clear dV hb1 hB1 hbr;dsimp only;refine hK.out _ _ ⟨hbx2.cell rfl,(aO hB2 p 0 hpl).trans hwp⟩ (fun hHeld=>?_);clear hK K;try simp only[Act.put,lq1,lq2,lq3,lq4,lq5,lq6]
 refine tk0 [10] ?_;(refine tk (v:=?_) rfl (by kernel_rfl) (by kernel_rfl) (by kernel_rfl) (fun _ _ _ h=>h) (Or.inl ⟨by rfl,?_⟩) hHeld ?_;rotate_left;(focus intro wx hSx;(try dsimp only at hSx);go_split_ands;go_simp;try with_reducible rfl);try simp only[Act.put,lq1,lq2,lq3,lq4,lq5,lq6])
 refine tk1 ?_;refine wpAnyH_done (by kernel_rfl) ?_ _;have hx1:=hbx2.lt;generalize jA 0 (au - 1) [x.aA]=er at *;by_cases he:er=0
 ·subst he;have HF2:=Ac (show gG au ni x=jA 0 ((ni:Int) - 1) [x.info] by rw[HF.out]; simp);go_wp2_with fail
  refine wp_region_held_drew (S:=fun w'=>w'.cell? ⟨w.heap.size,2,none⟩=some (.int .i64 x.info)∧w'.cell? ⟨p,2,none⟩=some (.slice Ai ni ci)) (by kernel_rfl) ⟨hbx2.cell rfl,(aO hB2 p 2 hpl).trans hwi⟩ (fun hHeld=>?_);refine tk0 [0,1,2,3,4,5,6,7,8] ?_;iterate 9 (refine tk (v:=?_) rfl (by kernel_rfl) (by kernel_rfl) (by kernel_rfl) (fun _ _ _ h=>h) (Or.inl ⟨by rfl,?_⟩) hHeld ?_;rotate_left;(focus intro wx hSx;(try dsimp only at hSx);go_split_ands;go_simp;try with_reducible rfl);try simp only[Act.put,lq1,lq2,lq3,lq4,lq5,lq6])
  refine tk1 ?_;refine tk2 9 (by kernel_rfl) rfl fun K hK=>?_
  go_simp;obtain⟨W3,hW3,hbr,aju,hW3z⟩:=fH w1 3 #[.int .i64 x.info];rw[← hW3];clear hW3;have gU:=hbx2.below aju (by omega);have hB3:Below w.heap.size w W3:=hB2.trans (aju.mono (by omega));clear hbx2 aju hB2;refine hK.out _ _ ⟨gU.drew.cell rfl,(aO hB3.drew p 2 hpl).trans hwi⟩ (fun hHeld=>?_);clear hK K;try simp only[Act.put,lq1,lq2,lq3,lq4,lq5,lq6]
  refine tk2 10 (by kernel_rfl) rfl fun K hK=>?_
  go_simp;refine(qO _ (fun b=>b=w1.heap.size) _ 0 ((ni:Int) - 1) [x.info] (Row.ints (l:=[x.info]) hbr.drew (F:=fun b=>b=w1.heap.size) rfl (c:=1) (by simp)) (by simp)).mono ?_;rintro e w2 ⟨_,rfl,hb2,rfl⟩;have gI:=gU.drew.below hb2 (by simp; omega);have hB4:Below w.heap.size w w2:=hB3.drew.trans (hb2.mono (by simp; omega));clear gU hb2 hB3 hbr;dsimp only;refine hK.out _ _ ⟨gI.cell rfl,(aO hB4 p 2 hpl).trans hwi⟩ (fun hHeld=>?_);clear hK K;try simp only[Act.put,lq1,lq2,lq3,lq4,lq5,lq6]
  refine tk0 [11] ?_;(refine tk (v:=?_) rfl (by kernel_rfl) (by kernel_rfl) (by kernel_rfl) (fun _ _ _ h=>h) (Or.inl ⟨by rfl,?_⟩) hHeld ?_;rotate_left;(focus intro wx hSx;(try dsimp only at hSx);go_split_ands;go_simp;try with_reducible rfl);try simp only[Act.put,lq1,lq2,lq3,lq4,lq5,lq6])
  refine tk1 ?_;refine wpAnyH_done (by kernel_rfl) ?_ _;go_wp2
  go_ret;exact⟨_,rfl,hB4,by rw[HF2.out]; rfl⟩
 ·have hd:(er != 0)=true:=by simp[he]
  have HF2:=Ac (show gG au ni x=er by rw[HF.out]; simp[he]);clear he;go_wp2
  go_ret;exact⟨_,rfl,hB2,by rw[HF2.out]; rfl⟩
theorem aiI (w:World) (F:Ag) (p:Nat) (ux:Value) (au:Int) (ni:Nat) (x:Nd) (hw:Cj w p au ni) (hx:Bf w F ux x) (hl:x.next.length < 1000000∧x.weights.length < 1000000∧x.pay.length < 1000000) (hpl:p < w.heap.size) :
  Calls Tryz.prog 167 #[.pointer (some ⟨p,0,none⟩),ux] w (Ret w fun v _=>v = .int .i64 (jJ au x)):=by
 obtain⟨v3,v4,v5,rfl,⟨A3,c3,rfl,hc3,h3⟩,⟨A4,c4,rfl,hc4,h4⟩,⟨A5,c5,rfl,hc5,h5⟩⟩:=hx;obtain⟨hl3,hl4,hl5⟩:=hl;have H5:=Ac (show AA w F (.slice A5 x.pay.length c5) x.pay from⟨A5,c5,rfl,hc5,h5⟩);clear h3 h4 h5;obtain⟨hwp,Ai,ci,hwi⟩:=hw;by_cases q0:x.aA≠0
 ·have HF:=Ac (show jJ au x=3 by unfold jJ; rw[if_pos (by omega)]);have d0:(x.aA != 0)=true:=neT (by omega);go_enter Tryz.func167,Tryz.ntmps167;go_wp2
  go_quiet (fail)
  go_wp2
  go_ret;exact⟨_,rfl,aG ((Below.refl _ _).alloc (Nat.le_refl _) _) _,by rw[HF.out]; rfl⟩
 have d0:(x.aA != 0)=false:=neF (by omega);by_cases q1:x.info≠0
 ·have HF:=Ac (show jJ au x=3 by unfold jJ; rw[if_pos (by omega)]);have d1:(x.info != 0)=true:=neT (by omega);go_enter Tryz.func167,Tryz.ntmps167;go_wp2
  go_quiet (fail)
  go_wp2
  go_ret;exact⟨_,rfl,aG ((Below.refl _ _).alloc (Nat.le_refl _) _) _,by rw[HF.out]; rfl⟩
 have d1:(x.info != 0)=false:=neF (by omega);by_cases q2:0 < x.next.length
 ·have HF:=Ac (show jJ au x=3 by unfold jJ; rw[if_pos (by omega)]);have d2:decide ((0:Int) < (x.next.length:Int))=true:=decide_eq_true (by omega);go_enter Tryz.func167,Tryz.ntmps167;go_wp2
  go_quiet (fail)
  go_wp2
  go_ret;exact⟨_,rfl,aG ((Below.refl _ _).alloc (Nat.le_refl _) _) _,by rw[HF.out]; rfl⟩
 have d2:decide ((0:Int) < (x.next.length:Int))=false:=decide_eq_false (by omega);by_cases q3:0 < x.weights.length
 ·have HF:=Ac (show jJ au x=3 by unfold jJ; rw[if_pos (by omega)]);have d3:decide ((0:Int) < (x.weights.length:Int))=true:=decide_eq_true (by omega);go_enter Tryz.func167,Tryz.ntmps167;go_wp2
  go_quiet (fail)
  go_wp2
  go_ret;exact⟨_,rfl,aG ((Below.refl _ _).alloc (Nat.le_refl _) _) _,by rw[HF.out]; rfl⟩
 have d3:decide ((0:Int) < (x.weights.length:Int))=false:=decide_eq_false (by omega);by_cases q4:(x.pay.length:Int)≠au
 ·have HF:=Ac (show jJ au x=3 by unfold jJ; rw[if_pos (by omega)]);have d4:((x.pay.length:Int) != au)=true:=neT (by omega);go_enter Tryz.func167,Tryz.ntmps167;go_wp2
  go_quiet (fail)
  go_wp2
  go_ret;exact⟨_,rfl,aG ((Below.refl _ _).alloc (Nat.le_refl _) _) _,by rw[HF.out]; rfl⟩
 have d4:((x.pay.length:Int) != au)=false:=neF (by omega);have HF:=Ac (show jJ au x=jA (-1000000) 1000000 x.pay by unfold jJ; rw[if_neg (by omega)]; rfl);clear q0 q1 q4;go_enter Tryz.func167,Tryz.ntmps167;go_wp2
 go_quiet (fail)
 go_wp2_with fail
 refine(qO _ F _ (-1000000) 1000000 x.pay ((H5.out.on (Same.alloc _ _ _)).on (Same.drewN _ _ _)) (by omega)).mono ?_;rintro e w' ⟨v,rfl,hb,rfl⟩;dsimp only;go_wp2
 go_ret;exact⟨_,rfl,(aG ((Below.refl _ _).alloc (Nat.le_refl _) _) _).trans (hb.mono (by simp)),by rw[HF.out]; rfl⟩
def kQ (g:Gm):Prop:=g.au < 1∨4 < g.au∨g.nodes.length < 1∨2000 < g.nodes.length∨200 < g.infos.length
instance (g:Gm):Decidable (kQ g):=by unfold kQ; infer_instance
def cZ (au:Int) (ni:Nat):List Nd→Int
 | []=>0
 | x :: l=>if dU au ni x≠0 then dU au ni x else cZ au ni l
def fU (infos:List Inf) (x:Nd):Bool:=decide (x.kind=2)&&(decide ((infos.getD x.info.toNat default).aA≠x.aA)||decide ((infos.getD x.info.toNat default).actions≠(x.next.length:Int)))
def qV (g:Gm):Bool:=g.nodes.any (fU g.infos)
def qW (sets:List (List Int)):Bool:=sets.any fun l=>decide (l.length=0)
def qX (sets:List (List Int)) (i:Nat):Bool:=decide ((sets.getD i []).getD 0 0 < (sets.getD (i - 1) []).getD 0 0)
def mO (sets:List (List Int)) (m:Nat):Bool:=(List.range' 1 (m - 1)).any (qX sets)
def qY (g:Gm):Int:=if qV g then 10 else if qW (pq g) then 18 else if mO (pq g) g.infos.length then 9 else 0
def jG (g:Gm):Int :=
 if kQ g then 2 else if cZ g.au g.infos.length g.nodes≠0 then cZ g.au g.infos.length g.nodes
 else if (fQ g.nodes (g.nodes.length+1) 0 0 0).1≠g.nodes.length then 9 else if 40 < (fQ g.nodes (g.nodes.length+1) 0 0 0).2 then 5 else qY g
theorem aa2 {au:Int} {ni:Nat} {l:List Nd} {k:Nat} {x:Nd} (h:l[k]? = some x):cZ au ni (l.drop k)=if dU au ni x≠0 then dU au ni x else cZ au ni (l.drop (k+1)):=by
 have hl:=aF h;rw[List.drop_eq_getElem_cons hl];have:l[k]=x:=by simpa [hl] using h
 rw[this]; rfl
theorem iQ {au:Int} {ni:Nat}:∀ {l:List Nd},cZ au ni l=0→∀ x∈l,dU au ni x=0
 | [],_,_,h=>by cases h
 | y :: l,h,x,hx=>by
  unfold cZ at h;split at h
  ·rename_i h1; exact absurd h h1
  ·rename_i h1
   rcases List.mem_cons.1 hx with rfl | hx
   ·simpa using h1
   ·exact iQ h x hx
theorem qZ {g:Gm} (h:cZ g.au g.infos.length g.nodes=0):BP g:=by
 intro x hx hk;have:=iQ h x hx;unfold dU gG at this;rw[if_neg (by omega),if_pos hk] at this;split at this
 ·omega
 ·split at this
  ·omega
  ·omega
inductive Span (nodes:List Nd):List Int→Nat→Nat→Prop
 | nil (a:Nat):Span nodes [] a a
 | cons {a m b:Nat} {n:Nd} {cs:List Int}:nodes[a]? = some n→Span nodes n.next (a+1) m→Span nodes cs m b→Span nodes ((a:Int) :: cs) a b
theorem Span.le {nodes:List Nd} {cs:List Int} {a b:Nat} (h:Span nodes cs a b):a≤b:=by
 induction h with
 | nil a=>exact Nat.le_refl _
 | cons _ _ _ ih1 ih2=>omega
theorem Span.bound {nodes:List Nd} {cs:List Int} {a b:Nat} (h:Span nodes cs a b) (ha:a≤nodes.length):b≤nodes.length:=by
 induction h with
 | nil a=>exact ha
 | cons hn _ _ ih1 ih2=>exact ih2 (ih1 (aF hn))
theorem Span.mem {nodes:List Nd} {cs:List Int} {a b:Nat} (h:Span nodes cs a b):∀ c∈cs,(a:Int)≤c∧c < b:=by
 induction h with
 | nil a=>intro c hc; cases hc
 | cons hn h1 h2 ih1 ih2 =>
  intro c hc;have l1:=h1.le;have l2:=h2.le;rcases List.mem_cons.1 hc with rfl | hc
  ·omega
  ·have:=ih2 c hc; omega
theorem Span.kids {nodes:List Nd} {cs:List Int} {a b:Nat} (h:Span nodes cs a b):∀ p n,a≤p→p < b→nodes[p]? = some n→∀ c∈n.next,(p:Int) < c∧c < b:=by
 induction h with
 | nil a=>intro p n h1 h2; omega
 | @cons a m b n cs hn h1 h2 ih1 ih2 =>
  intro p n' ha hb hp c hc;have l1:=h1.le;have l2:=h2.le;by_cases e:p=a
  ·subst e;rw[hn] at hp; cases hp;have:=h1.mem c hc;omega
  ·by_cases hm:p < m
   ·have:=ih1 p n' (by omega) hm hp c hc; omega
   ·exact ih2 p n' (by omega) hb hp c hc
theorem Span.parent {nodes:List Nd} {cs:List Int} {a b:Nat} (h:Span nodes cs a b):∀ j:Nat,a≤j→j < b→(j:Int)∈cs∨∃ p n,a≤p∧p < j∧nodes[p]? = some n∧(j:Int)∈n.next:=by
 induction h with
 | nil a=>intro j h1 h2; omega
 | @cons a m b n cs hn h1 h2 ih1 ih2 =>
  intro j ha hb;by_cases e:j=a
  ·subst e; exact .inl (by simp)
  ·by_cases hm:j < m
   ·rcases ih1 j (by omega) hm with h | ⟨p,n',hp1,hp2,hp3,hp4⟩
    ·exact .inr ⟨a,n,Nat.le_refl _,by omega,hn,h⟩
    ·exact .inr ⟨p,n',by omega,hp2,hp3,hp4⟩
   ·rcases ih2 j (by omega) hb with h | ⟨p,n',hp1,hp2,hp3,hp4⟩
    ·exact .inl (by simp[h])
    ·have:=h1.le;exact .inr ⟨p,n',by omega,hp2,hp3,hp4⟩
theorem Span.once {nodes:List Nd} {cs:List Int} {a b:Nat} (h:Span nodes cs a b):(∀ c∈cs,∀ p n,a≤p→p < b→nodes[p]? = some n→c ∉ n.next) ∧
  (∀ c p q n n',a≤p→p < b→a≤q→q < b→nodes[p]? = some n→nodes[q]? = some n'→c∈n.next→c∈n'.next→p=q):=by
 induction h with
 | nil a=>exact⟨(fun c hc=>(by cases hc)),(fun c p q n n' h1 h2=>(by omega))⟩
 | @cons a m b n cs hn h1 h2 ih1 ih2 =>
  have l1:=h1.le;have l2:=h2.le;have k1:=h1.kids;have k2:=h2.kids;have m1:=h1.mem;have m2:=h2.mem;constructor
  ·intro c hc p n' hp1 hp2 hp3 hp4;rcases List.mem_cons.1 hc with rfl | hc'
   ·by_cases e:p=a
    ·subst e; rw[hn] at hp3; cases hp3; have:=m1 _ hp4; omega
    ·by_cases hm:p < m
     ·have:=k1 p n' (by omega) hm hp3 _ hp4; omega
     ·have:=k2 p n' (by omega) hp2 hp3 _ hp4; omega
   ·by_cases e:p=a
    ·subst e; rw[hn] at hp3; cases hp3; have:=m1 _ hp4; have:=m2 _ hc'; omega
    ·by_cases hm:p < m
     ·have:=k1 p n' (by omega) hm hp3 _ hp4; have:=m2 _ hc'; omega
     ·exact ih2.1 c hc' p n' (by omega) hp2 hp3 hp4
  ·have key:∀ c p q n1 n2,a≤p→p < q→q < b→nodes[p]? = some n1→nodes[q]? = some n2→c∈n1.next→c∈n2.next→False:=by
    intro c p q n1 n2 hp1 hpq hq hn1 hn2 hc1 hc2;by_cases e:p=a
    ·subst e; rw[hn] at hn1; cases hn1;by_cases hm:q < m
     ·exact ih1.1 c hc1 q n2 (by omega) hm hn2 hc2
     ·have:=m1 c hc1; have:=k2 q n2 (by omega) hq hn2 c hc2; omega
    ·by_cases hm:q < m
     ·have:=ih1.2 c p q n1 n2 (by omega) (by omega) (by omega) hm hn1 hn2 hc1 hc2; omega
     ·by_cases hmp:p < m
      ·have:=k1 p n1 (by omega) hmp hn1 c hc1; have:=k2 q n2 (by omega) hq hn2 c hc2; omega
      ·have:=ih2.2 c p q n1 n2 (by omega) (by omega) (by omega) hq hn1 hn2 hc1 hc2; omega
   intro c p q n1 n2 hp1 hp2 hq1 hq2 hn1 hn2 hc1 hc2;rcases Nat.lt_trichotomy p q with h | h | h
   ·exact(key c p q n1 n2 hp1 h hq2 hn1 hn2 hc1 hc2).elim
   ·exact h
   ·exact(key c q p n2 n1 hq1 h hp2 hn2 hn1 hc2 hc1).elim
theorem Span.sub {nodes:List Nd} {cs:List Int} {a b:Nat} (h:Span nodes cs a b):∀ i:Nat,a≤i→i < b→∃ e,Span nodes [(i:Int)] i e∧i < e∧e≤b:=by
 induction h with
 | nil a=>intro i h1 h2; omega
 | @cons a m b n cs hn h1 h2 ih1 ih2 =>
  intro i ha hb;have l1:=h1.le;have l2:=h2.le;by_cases e:i=a
  ·subst e; exact⟨m,.cons hn h1 (.nil m),by omega,by omega⟩
  ·by_cases hm:i < m
   ·obtain⟨e,h,h3,h4⟩:=ih1 i (by omega) hm; exact⟨e,h,h3,by omega⟩
   ·obtain⟨e,h,h3,h4⟩:=ih2 i (by omega) hb; exact⟨e,h,h3,h4⟩
theorem Span.unique {nodes:List Nd} {cs:List Int} {a b:Nat} (h:Span nodes cs a b):∀ {b'},Span nodes cs a b'→b=b':=by
 induction h with
 | nil a=>intro b' h; cases h; rfl
 | cons hn h1 h2 ih1 ih2 =>
  intro b' h;generalize hx:((_:Int) :: _)=l at h;cases h with
  | nil=>cases hx
  | cons hn' h1' h2' =>
   injection hx with e1 e2
   rw[hn] at hn'; cases hn';have:=ih1 h1';subst this;subst e2;exact ih2 h2'
theorem uJ {nodes:List Nd} {rec:Nat→Int→Int×Int} (hrec:∀ a d,(rec a d).1≠-1→∃ b:Nat,(rec a d).1=b∧Span nodes [(a:Int)] a b) :
  ∀ (cs:List Int) (x:Nat) (deep:Int),(dL rec cs x deep).1≠-1→∃ b:Nat,(dL rec cs x deep).1=b∧Span nodes cs x b
 | [],x,deep,_=>⟨x,rfl,.nil x⟩
 | c :: cs,x,deep,h=>by
  unfold dL at h ⊢;by_cases hc:c=x
  ·subst hc;simp only[ne_eq,not_true_eq_false,↓reduceIte,Int.toNat_natCast] at h ⊢;by_cases hng:(rec x deep).1 < 0
   ·rw[if_pos hng] at h; exact absurd rfl h
   ·rw[if_neg hng] at h ⊢;obtain⟨m,hm,hs⟩:=hrec x deep (by omega);rw[hm] at h ⊢;obtain⟨b,hb,hs2⟩:=uJ hrec cs m _ h;refine⟨b,hb,?_⟩;generalize hl:[(x:Int)]=l at hs;cases hs with
    | nil=>cases hl
    | cons hn h1 h2 =>
     injection hl with e1 e2
     subst e2;cases h2
     exact .cons hn h1 hs2
  ·rw[if_pos hc] at h; exact absurd rfl h
theorem aam (nodes:List Nd):∀ (f a:Nat) (depth deep:Int),(fQ nodes f a depth deep).1≠-1→∃ b:Nat,(fQ nodes f a depth deep).1=b∧Span nodes [(a:Int)] a b
 | 0,_,_,_,h=>absurd rfl h
 | f+1,a,depth,deep,h=>by
  unfold fQ at h ⊢;cases hn:nodes[a]? with
  | none=>rw[hn] at h; exact absurd rfl h
  | some n =>
   rw[hn] at h;simp only at h ⊢;have:=uJ (nodes:=nodes) (rec:=fun a d=>fQ nodes f a (depth+1) d) (fun a' d h'=>aam nodes f a' (depth+1) d h') n.next (a+1) (max deep depth) h;obtain⟨b,hb,hs⟩:=this;exact⟨b,hb,.cons hn hs (.nil b)⟩
structure Good (g:Gm):Prop where
 pos:0 < g.nodes.length
 span:Span g.nodes [(0:Int)] 0 g.nodes.length
 infos:BP g
theorem aci {g:Gm} (h:jG g=0):Good g:=by
 unfold jG at h;split at h
 ·omega
 ·rename_i h1
  split at h
  ·rename_i h2; exact absurd h h2
  ·rename_i h2
   split at h
   ·omega
   ·rename_i h3
    have hp:0 < g.nodes.length:=by unfold kQ at h1; omega
    have h3':(fQ g.nodes (g.nodes.length+1) 0 0 0).1=(g.nodes.length:Int):=by simpa using h3
    obtain⟨b,hb,hs⟩:=aam g.nodes (g.nodes.length+1) 0 0 0 (by omega);have:b=g.nodes.length:=by omega
    subst this;exact⟨hp,hs,qZ (by simpa using h2)⟩
def Kid (nodes:List Nd) (i k c:Nat):Prop:=∃ n,nodes[i]? = some n∧n.next[k]? = some (c:Int)
theorem Span.inj {nodes:List Nd} {cs:List Int} {a b:Nat} (h:Span nodes cs a b):∀ (k k':Nat) (c:Int),cs[k]? = some c→cs[k']? = some c→k=k':=by
 induction h with
 | nil a=>intro k k' c h1; simp at h1
 | @cons a m b n cs hn h1 h2 ih1 ih2 =>
  intro k k' c hk hk';have l1:=h1.le;have m2:=h2.mem;cases k with
  | zero =>
   cases k' with
   | zero=>rfl
   | succ k' =>
    simp at hk hk';have:=m2 c (List.mem_of_getElem? hk');omega
  | succ k =>
   cases k' with
   | zero =>
    simp at hk hk';have:=m2 c (List.mem_of_getElem? hk);omega
   | succ k' =>
    simp at hk hk';rw[ih2 k k' c hk hk']
theorem Span.aiJ {nodes:List Nd} {cs:List Int} {a b:Nat} (h:Span nodes cs a b):∀ p n,a≤p→p < b→nodes[p]? = some n→∃ e,Span nodes n.next (p+1) e∧e≤b:=by
 intro p n ha hb hn;obtain⟨e,hs,h1,h2⟩:=h.sub p ha hb;generalize hl:[(p:Int)]=l at hs;cases hs with
 | nil=>cases hl
 | cons hn' h3 h4 =>
  injection hl with e1 e2
  subst e2;rw[hn] at hn'; cases hn';cases h4
  exact⟨e,h3,h2⟩
theorem Good.sK {g:Gm} (h:Good g) {i k c:Nat} (hk:Kid g.nodes i k c):i < c∧c < g.nodes.length∧i < g.nodes.length:=by
 obtain⟨n,hn,hc⟩:=hk;have hl:=aF hn;have:=h.span.kids i n (Nat.zero_le _) hl hn c (List.mem_of_getElem? hc);omega
theorem Good.acj {g:Gm} (h:Good g) {i k i' k' c:Nat} (h1:Kid g.nodes i k c) (h2:Kid g.nodes i' k' c):i=i'∧k=k':=by
 obtain⟨n,hn,hc⟩:=h1;obtain⟨n',hn',hc'⟩:=h2;have e:=h.span.once.2 c i i' n n' (Nat.zero_le _) (aF hn) (Nat.zero_le _) (aF hn') hn hn' (List.mem_of_getElem? hc) (List.mem_of_getElem? hc');subst e;rw[hn] at hn'; cases hn';obtain⟨e,hs,_⟩:=h.span.aiJ i n (Nat.zero_le _) (aF hn) hn;exact⟨rfl,hs.inj k k' c hc hc'⟩
theorem Good.wG {g:Gm} (h:Good g) {c:Nat} (h0:0 < c) (hc:c < g.nodes.length):∃ i k,Kid g.nodes i k c:=by
 rcases h.span.parent c (Nat.zero_le _) hc with h | ⟨p,n,_,h1,h2,h3⟩
 ·simp at h; omega
 ·obtain⟨k,hk⟩:=List.getElem?_of_mem h3;exact⟨p,k,n,h2,hk⟩
def upTo (nodes:List Nd) (c:Nat):Nat→Option (Nat×Nat)
 | 0=>none
 | i+1=>match (nodes[i]?).bind fun n=>n.next.findIdx? fun x=>decide (x=(c:Int)) with
  | some k=>some (i,k)
  | none=>upTo nodes c i
theorem aeN {l:List Int} {c:Int} {k:Nat} (hinj:∀ (k k':Nat),l[k]? = some c→l[k']? = some c→k=k') (hk:l[k]? = some c):(l.findIdx? fun x=>decide (x=c))=some k:=by
 cases hf:l.findIdx? fun x=>decide (x=c) with
 | none =>
  rw[List.findIdx?_eq_none_iff] at hf;have:=hf c (List.mem_of_getElem? hk);simp at this
 | some k' =>
  rw[List.findIdx?_eq_some_iff_getElem] at hf;obtain⟨h1,h2,_⟩:=hf;have h3:=of_decide_eq_true h2;rw[hinj k' k (by rw[← h3]; simp) hk]
theorem ahL {l:List Int} {c:Int} (h:c ∉ l):(l.findIdx? fun x=>decide (x=c))=none:=by
 rw[List.findIdx?_eq_none_iff];intro x hx;simp
 rintro rfl;exact h hx
theorem Good.ajv {g:Gm} (h:Good g) {i k c:Nat} (hk:Kid g.nodes i k c):∀ j,i < j→j≤g.nodes.length→upTo g.nodes c j=some (i,k):=by
 intro j;induction j with
 | zero=>intro h1; omega
 | succ j ih =>
  intro h1 h2;obtain⟨n,hn⟩:=aB (l:=g.nodes) (k:=j) (by omega);unfold upTo;rw[hn,Option.bind_some];by_cases e:j=i
  ·subst e;have hk':=hk;obtain⟨n',hn',hc⟩:=hk';rw[hn] at hn'; cases hn';rw[aeN (k:=k) (fun a b ha hb=>(h.acj ⟨n,hn,ha⟩ ⟨n,hn,hb⟩).2) hc]
  ·rw[ahL (fun hm=>by
    obtain⟨k',hk'⟩:=List.getElem?_of_mem hm;exact e (h.acj ⟨n,hn,hk'⟩ hk).1)]
   exact ih (by omega) (by omega)
theorem aiK:rl 1=1:=by
 unfold rl; rw[show(1:Rat).num=1 from rfl,show(1:Rat).den=1 from rfl,show(1:Int).natAbs=1 from rfl,iD]; rfl
def lK (l:List Int):Int:=l.foldl (· + ·) 0
theorem abx (l:List Int) (x:Int):lK (l ++ [x])=lK l+x:=by unfold lK; rw[List.foldl_append]; rfl
def bU (m:List (List Rat)) (n:Nd):List Rat:=if n.kind=2 then m.getD n.info.toNat [] else n.weights.map fun x:Int=>(x:Rat) / ((lK n.weights:Int):Rat)
def xO (cnt:Nd→Bool) (nodes:List Nd) (m:List (List Rat)) (l:List Rat) (c:Nat):Rat :=
 match upTo nodes c c with
 | some (i,k)=>match nodes[i]? with
  | some n=>if cnt n then l.getD i 0*(bU m n).getD k 0 else l.getD i 0
  | none=>1
 | none=>1
def mY (cnt:Nd→Bool) (nodes:List Nd) (m:List (List Rat)):Nat→List Rat
 | 0=>[]
 | c+1=>mY cnt nodes m c ++ [xO cnt nodes m (mY cnt nodes m c) c]
def bC (cnt:Nd→Bool) (nodes:List Nd) (m:List (List Rat)) (c:Nat):Rat:=(mY cnt nodes m (c+1)).getD c 0
theorem jM (cnt:Nd→Bool) (nodes:List Nd) (m:List (List Rat)):∀ j,(mY cnt nodes m j).length=j
 | 0=>rfl
 | j+1=>by unfold mY; rw[List.length_append,jM cnt nodes m j]; rfl
theorem sN (cnt:Nd→Bool) (nodes:List Nd) (m:List (List Rat)) {c:Nat}:∀ {j},c < j→(mY cnt nodes m j)[c]? = some (bC cnt nodes m c)
 | 0,h=>absurd h (by omega)
 | j+1,h=>by
  have hl:=jM cnt nodes m j;by_cases e:c=j
  ·subst e;have hl1:=jM cnt nodes m (c+1);obtain⟨x,hx⟩:=aB (l:=mY cnt nodes m (c+1)) (k:=c) (by omega);unfold bC;rw[List.getD_eq_getElem?_getD,hx]; rfl
  ·unfold mY;rw[List.getElem?_append_left (by omega)];exact sN cnt nodes m (by omega)
theorem agl (cnt:Nd→Bool) (nodes:List Nd) (m:List (List Rat)) (c:Nat):bC cnt nodes m c=xO cnt nodes m (mY cnt nodes m c) c:=by
 have h:=sN cnt nodes m (c:=c) (j:=c+1) (by omega);unfold mY at h;rw[List.getElem?_append_right (by rw[jM]; omega),jM,Nat.sub_self] at h;simpa using h.symm
theorem nG (cnt:Nd→Bool) (nodes:List Nd) (m:List (List Rat)):bC cnt nodes m 0=1:=rfl
theorem mP {g:Gm} (hg:Good g) (cnt:Nd→Bool) (m:List (List Rat)) {i k c:Nat} {n:Nd} (hn:g.nodes[i]? = some n) (hc:n.next[k]? = some (c:Int)) :
  bC cnt g.nodes m c=if cnt n then bC cnt g.nodes m i*(bU m n).getD k 0 else bC cnt g.nodes m i:=by
 have hk:Kid g.nodes i k c:=⟨n,hn,hc⟩;have hl:=hg.sK hk;rw[agl];unfold xO;rw[hg.ajv hk c hl.1 (by omega)];simp only[hn];rw[List.getD_eq_getElem?_getD,sN cnt g.nodes m hl.1]; rfl
theorem agm {g:Gm} (hg:Good g) (cnt:Nd→Bool) (m:List (List Rat)) (hb:∀ n∈g.nodes,cnt n=true→∀ x∈bU m n,rl x≤4):∀ c,c < g.nodes.length→rl (bC cnt g.nodes m c)≤1+4*c:=by
 intro c;induction c using Nat.strongRecOn with
 | _ c ih =>
  intro hc;by_cases h0:c=0
  ·subst h0; rw[nG]; rw[aiK]; omega
  ·obtain⟨i,k,n,hn,hk⟩:=hg.wG (Nat.pos_of_ne_zero h0) hc;have hl:=hg.sK ⟨n,hn,hk⟩;have h1:=ih i hl.1 hl.2.2;rw[mP hg cnt m hn hk];cases hcn:cnt n with
   | false=>simp only[Bool.false_eq_true,↓reduceIte]; omega
   | true =>
    simp only[↓reduceIte];have h2:=rQ (bC cnt g.nodes m i) ((bU m n).getD k 0);have h3:rl ((bU m n).getD k 0)≤4:=by
     rw[List.getD_eq_getElem?_getD];cases hx:(bU m n)[k]? with
     | none=>show rl 0≤4; rw[nU]; omega
     | some x=>exact hb n (List.mem_of_getElem? hn) hcn x (List.mem_of_getElem? hx)
    omega
def nN (acc:List Rat) (b:Rat) (x:List Rat):List Rat:=List.zipWith (fun a y=>a+b*y) acc x
def kH (look:Nat→List Rat) (acc:List Rat) (l:List (Rat×Int)):List Rat:=l.foldl (fun acc bc=>nN acc bc.1 (look bc.2.toNat)) acc
def valOf (au:Nat) (m:List (List Rat)) (n:Nd) (look:Nat→List Rat):List Rat :=
 if n.kind=3 then n.pay.map (fun x:Int=>(x:Rat)) else kH look (List.replicate au 0) ((bU m n).zip n.next)
def aan (g:Gm) (m:List (List Rat)):Nat→List (List Rat)
 | 0=>[]
 | j+1=>(match g.nodes[g.nodes.length - 1 - j]? with
  | some n=>valOf g.au.toNat m n (fun c=>(aan g m j).getD (c - (g.nodes.length - j)) [])
  | none=>[]) :: aan g m j
def bW (g:Gm) (m:List (List Rat)) (i:Nat):List Rat:=(aan g m (g.nodes.length - i)).headD []
theorem xP (g:Gm) (m:List (List Rat)):∀ (j i:Nat),j≤g.nodes.length→g.nodes.length - j≤i→i < g.nodes.length→(aan g m j)[i - (g.nodes.length - j)]? = some (bW g m i)
 | 0,i,_,h1,h2=>absurd h2 (by omega)
 | j+1,i,hj,h1,h2=>by
  by_cases e:i=g.nodes.length - (j+1)
  ·have e1:i - (g.nodes.length - (j+1))=0:=by omega
   have e2:g.nodes.length - i=j+1:=by omega
   rw[e1]; unfold bW; rw[e2]; unfold aan; rfl
  ·have e1:i - (g.nodes.length - (j+1))=(i - (g.nodes.length - j))+1:=by omega
   rw[e1]; unfold aan;rw[List.getElem?_cons_succ];exact xP g m j i (by omega) (by omega) h2
theorem yQ {look look':Nat→List Rat}:∀ {l:List (Rat×Int)} {acc:List Rat},(∀ bc∈l,look bc.2.toNat=look' bc.2.toNat)→kH look acc l=kH look' acc l
 | [],_,_=>rfl
 | bc :: l,acc,h=>by
  have h1:=h bc (List.mem_cons_self);have h2:=yQ (look:=look) (look':=look') (l:=l) (acc:=nN acc bc.1 (look bc.2.toNat)) (fun b hb=>h b (List.mem_cons_of_mem _ hb));show kH look (nN acc bc.1 (look bc.2.toNat)) l=kH look' (nN acc bc.1 (look' bc.2.toNat)) l;rw[h2,h1]
theorem aeO (look:Nat→List Rat) (acc:List Rat) (l:List (Rat×Int)) (bc:Rat×Int):kH look acc (l ++ [bc])=nN (kH look acc l) bc.1 (look bc.2.toNat):=by unfold kH; rw[List.foldl_append]; rfl
theorem pJ {g:Gm} (hg:Good g) (m:List (List Rat)) {i:Nat} {n:Nd} (hn:g.nodes[i]? = some n):bW g m i=valOf g.au.toNat m n (bW g m):=by
 have hl:=aF hn;have h1:=xP g m (g.nodes.length - i) i (by omega) (by omega) hl;obtain⟨j,hj⟩:∃ j,g.nodes.length - i=j+1:=⟨g.nodes.length - i - 1,by omega⟩;have e0:i - (g.nodes.length - (g.nodes.length - i))=0:=by omega
 rw[e0,hj] at h1;unfold aan at h1;have e1:g.nodes.length - 1 - j=i:=by omega
 rw[e1,hn,List.getElem?_cons_zero,Option.some.injEq] at h1;rw[← h1];show valOf _ m n _=valOf _ m n _;unfold valOf;by_cases hk:n.kind=3
 ·rw[if_pos hk,if_pos hk]
 ·rw[if_neg hk,if_neg hk];refine yQ fun bc hbc=>?_
  have hm:bc.2∈n.next:=(List.of_mem_zip (a:=bc.1) (b:=bc.2) hbc).2;have:=hg.span.kids i n (Nat.zero_le _) hl hn bc.2 hm;have h3:=xP g m j bc.2.toNat (by omega) (by omega) (by omega);rw[List.getD_eq_getElem?_getD,h3]; rfl
structure Fit (g:Gm) (m:List (List Rat)):Prop where
 good:Good g
 nodes:cZ g.au g.infos.length g.nodes=0
 au:1≤g.au∧g.au≤4
 rows:m.length=g.infos.length
 chan:∀ n∈g.nodes,n.kind≠3→(bU m n).length=n.next.length∧∀ x∈bU m n,rl x≤4
theorem adG {acc:List Rat} {b:Rat} {x:List Rat} {p:Nat} (h:acc.length=p) (h2:x.length=p):(nN acc b x).length=p:=by unfold nN; rw[List.length_zipWith]; omega
theorem rC {look:Nat→List Rat} {p:Nat}:∀ {l:List (Rat×Int)} {acc:List Rat},acc.length=p→(∀ bc∈l,(look bc.2.toNat).length=p)→(kH look acc l).length=p
 | [],_,h,_=>h
 | bc :: l,acc,h,hl=>rC (l:=l) (acc:=nN acc bc.1 (look bc.2.toNat)) (adG h (hl bc (List.mem_cons_self))) (fun b hb=>hl b (List.mem_cons_of_mem _ hb))
theorem nY {au:Int} {ni:Nat} {nodes:List Nd} (h:cZ au ni nodes=0) {n:Nd} (hn:n∈nodes) (hk:n.kind=3):(n.pay.length:Int)=au∧(∀ x∈n.pay,-1000000≤x∧x≤1000000)∧n.next = []:=by
 have h1:=iQ h n hn;unfold dU at h1;rw[if_neg (by omega),if_neg (by omega),if_pos hk] at h1;unfold jJ at h1;split at h1
 ·omega
 ·rename_i h2
  split at h1
  ·omega
  ·rename_i h3
   refine⟨by omega,fun x hx=>?_,List.eq_nil_of_length_eq_zero (by omega)⟩;have h4:outside (-1000000) 1000000 n.pay=false:=by simpa using h3
   unfold outside at h4;have:=List.any_eq_false.1 h4 x hx;simp at this;omega
theorem Fit.jO {g:Gm} {m:List (List Rat)} (h:Fit g m):∀ (f i:Nat),g.nodes.length - i≤f→i < g.nodes.length→(bW g m i).length=g.au.toNat
 | 0,i,h1,h2=>absurd h2 (by omega)
 | f+1,i,h1,h2=>by
  obtain⟨n,hn⟩:=aB (l:=g.nodes) (k:=i) h2;have hmem:=List.mem_of_getElem? hn;rw[pJ h.good m hn];unfold valOf;by_cases hk:n.kind=3
  ·rw[if_pos hk,List.length_map];have:=(nY h.nodes hmem hk).1;omega
  ·rw[if_neg hk];refine rC (by simp) fun bc hbc=>?_
   have hm:bc.2∈n.next:=(List.of_mem_zip (a:=bc.1) (b:=bc.2) hbc).2;have:=h.good.span.kids i n (Nat.zero_le _) h2 hn bc.2 hm;exact Fit.jO h f _ (by omega) (by omega)
theorem aiL {acc x:List Rat} {b:Rat} {A B:Nat} (h1:∀ y∈acc,rl y≤A) (h2:∀ y∈x,rl y≤B) (hb:rl b≤4):∀ y∈nN acc b x,rl y≤A+B+5:=by
 intro y hy;unfold nN at hy;obtain⟨k,hk⟩:=List.getElem?_of_mem hy;rw[List.getElem?_zipWith] at hk;cases ha:acc[k]? with
 | none=>rw[ha] at hk; simp at hk
 | some u =>
  cases hx:x[k]? with
  | none=>rw[ha,hx] at hk; simp at hk
  | some v =>
   rw[ha,hx] at hk;simp at hk;subst hk;have e1:=h1 u (List.mem_of_getElem? ha);have e2:=h2 v (List.mem_of_getElem? hx);have e3:=zH u (b*v);have e4:=rQ b v;omega
theorem aao {x:Int} (h:-1000000≤x∧x≤1000000):rl (x:Rat)≤1:=by
 rw[zI];have:(dig x.natAbs).length≤1:=aS (by unfold LB; omega);omega
theorem Fit.aiM {g:Gm} {m:List (List Rat)} (h:Fit g m) {cs:List Int} {a b:Nat} (hs:Span g.nodes cs a b):∀ (bs acc:List Rat) (A:Nat),(∀ x∈bs,rl x≤4)→(∀ x∈acc,rl x≤A)→∀ x∈kH (bW g m) acc (bs.zip cs),rl x≤A+7*(b - a):=by
 induction hs with
 | nil a =>
  intro bs acc A _ ha x hx;rw[List.zip_nil_right] at hx;have:=ha x hx; omega
 | @cons a k b n cs hn h1 h2 ih1 ih2 =>
  intro bs acc A hb ha x hx;have l1:=h1.le;have l2:=h2.le;cases bs with
  | nil =>
   have:=ha x (by simpa [kH] using hx); omega
  | cons c bs =>
   rw[List.zip_cons_cons] at hx;have hmem:=List.mem_of_getElem? hn;have hv:∀ y∈bW g m a,rl y≤2+7*(k - a - 1):=by
    rw[pJ h.good m hn];unfold valOf;by_cases hk:n.kind=3
    ·rw[if_pos hk];intro y hy;obtain⟨z,hz,rfl⟩:=List.mem_map.1 hy;have:=aao ((nY h.nodes hmem hk).2.1 z hz);omega
    ·rw[if_neg hk];intro y hy;have:=ih1 _ _ 1 (h.chan n hmem hk).2 (fun z hz=>by rw[List.eq_of_mem_replicate hz,nU]; omega) y hy;omega
   have hacc:=aiL (b:=c) ha hv (hb c (List.mem_cons_self));have:=ih2 bs _ _ (fun y hy=>hb y (List.mem_cons_of_mem _ hy)) hacc x hx;omega
theorem uK {α β:Type}:∀ (l:List α) (r:List β) (k:Nat),(l.zip r).take k=(l.take k).zip r
 | [],r,k=>by simp
 | x :: l,[],k=>by simp
 | x :: l,y :: r,0=>by simp
 | x :: l,y :: r,k+1=>by rw[List.zip_cons_cons,List.take_succ_cons,List.take_succ_cons,List.zip_cons_cons,uK]
theorem Fit.afH {g:Gm} {m:List (List Rat)} (h:Fit g m) {i:Nat} {n:Nd} (hn:g.nodes[i]? = some n) (hk:n.kind≠3) (k:Nat) :
  ∀ x∈kH (bW g m) (List.replicate g.au.toNat 0) (((bU m n).zip n.next).take k),rl x≤1+7*g.nodes.length:=by
 intro x hx;have hl:=aF hn;obtain⟨e,hs,he⟩:=h.good.span.aiJ i n (Nat.zero_le _) hl hn;rw[uK] at hx;have:=h.aiM hs _ _ 1 (fun y hy=>(h.chan n (List.mem_of_getElem? hn) hk).2 y (List.mem_of_mem_take hy)) (fun z hz=>by rw[List.eq_of_mem_replicate hz,nU]; omega) x hx;omega
theorem Fit.xQ {g:Gm} {m:List (List Rat)} (h:Fit g m) {i:Nat} (hi:i < g.nodes.length):∀ x∈bW g m i,rl x≤1+7*g.nodes.length:=by
 intro x hx;obtain⟨n,hn⟩:=aB (l:=g.nodes) (k:=i) hi;have hmem:=List.mem_of_getElem? hn;rw[pJ h.good m hn] at hx;unfold valOf at hx;by_cases hk:n.kind=3
 ·rw[if_pos hk] at hx;obtain⟨z,hz,rfl⟩:=List.mem_map.1 hx;have:=aao ((nY h.nodes hmem hk).2.1 z hz);omega
 ·rw[if_neg hk] at hx;have:=h.afH hn hk ((bU m n).zip n.next).length x (by rw[List.take_of_length_le (Nat.le_refl _)]; exact hx);exact this
def rH (look:Nat→Rat) (a:Rat) (l:List (Rat×Int)):Rat:=l.foldl (fun a bc=>a+bc.1*look bc.2.toNat) a
theorem aeP (look:Nat→Rat) (a:Rat) (l:List (Rat×Int)) (bc:Rat×Int):rH look a (l ++ [bc])=rH look a l+bc.1*look bc.2.toNat:=by unfold rH; rw[List.foldl_append]; rfl
theorem aby {look:Nat→List Rat} {p:Nat}:∀ {l:List (Rat×Int)} {acc:List Rat} {a:Rat},acc[p]? = some a→(∀ bc∈l,p < (look bc.2.toNat).length)→(kH look acc l)[p]? = some (rH (fun c=>(look c).getD p 0) a l)
 | [],_,_,h,_=>h
 | bc :: l,acc,a,h,hl=>by
  have h1:=hl bc (List.mem_cons_self);obtain⟨y,hy⟩:=aB h1;have h2:(nN acc bc.1 (look bc.2.toNat))[p]? = some (a+bc.1*(look bc.2.toNat).getD p 0):=by
   unfold nN;rw[List.getElem?_zipWith,h,hy,List.getD_eq_getElem?_getD,hy]; rfl
  exact aby (l:=l) h2 (fun b hb=>hl b (List.mem_cons_of_mem _ hb))
theorem Fit.aiN {g:Gm} {m:List (List Rat)} (h:Fit g m) {i:Nat} {n:Nd} (hn:g.nodes[i]? = some n) (hk:n.kind≠3) {p:Nat} (hp:p < g.au.toNat) :
  (bW g m i).getD p 0=rH (fun c=>(bW g m c).getD p 0) 0 ((bU m n).zip n.next):=by
 rw[pJ h.good m hn];unfold valOf;rw[if_neg hk,List.getD_eq_getElem?_getD,aby (a:=0) (by simp[hp]) (fun bc hbc=>?_)]
 ·rfl
 ·have hm:bc.2∈n.next:=(List.of_mem_zip (a:=bc.1) (b:=bc.2) hbc).2;have:=h.good.span.kids i n (Nat.zero_le _) (aF hn) hn bc.2 hm;rw[h.jO _ _ (Nat.le_refl _) (by omega)];exact hp
def fV:List Int→Bool
 | a :: b :: r=>decide (a≤b)&&fV (b :: r)
 | _=>true
theorem rD:∀ (l:List Int) (k:Nat),fV l=true→fV (l.drop k)=true
 | l,0,h=>h
 | [],k+1,h=>by simp[fV]
 | [a],k+1,h=>by simp[fV]
 | a :: b :: r,k+1,h=>by
  simp only[fV,Bool.and_eq_true] at h;simp only[List.drop_succ_cons];exact rD (b :: r) k h.2
theorem wH {l:List Int} {k:Nat} {x y:Int} (hx:l[k]? = some x) (hy:l[k+1]? = some y):fV (l.drop k)=(decide (x≤y)&&fV (l.drop (k+1))):=by
 have h1:=aF hx;have h2:=aF hy;have e1:l[k]=x:=by simpa [h1] using hx
 have e2:l[k+1]=y:=by simpa [h2] using hy
 rw[List.drop_eq_getElem_cons h1,List.drop_eq_getElem_cons h2,e1,e2];rfl
theorem adH (l:List Int):fV l=true↔∀ k x y,l[k]? = some x→l[k+1]? = some y→x≤y:=by
 constructor
 ·intro h k x y hx hy;have:=rD l k h;rw[wH hx hy] at this;simp at this; exact this.1
 ·induction l with
  | nil=>intro _; rfl
  | cons a r ih=>match r with
   | []=>intro _; rfl
   | b :: r=>intro h; simp only[fV,Bool.and_eq_true,decide_eq_true_eq]; exact⟨h 0 a b rfl rfl,ih (fun k x y hx hy=>h (k+1) x y (by simpa using hx) (by simpa using hy))⟩
theorem acn (w:World) (F:Ag) (v:Value) (l:List Int) (hv:AA w F v l) (hl:l.length≤1000000) :
  Calls Tryz.prog 169 #[v] w (Ret w fun v _=>v = .bool (fV l)):=by
 obtain⟨A,c,rfl,hc,hN⟩:=hv;have HN:=Ac hN; clear hN;go_enter Tryz.func169,Tryz.ntmps169;go_wp2
 go_loopw [3] (fun i wr=>∃ k:Nat,k≤l.length∧i = .int .i64 ((k:Int) - 1)∧fV (l.drop (k - 1))=true∧∃ n,wr=w.drewN n) (fun i _=>(intOf i+1).toNat)
 case atStart=>exact⟨l.length,by omega,rfl,by cases h:l.length with | zero=>simp[List.length_eq_zero_iff.1 h,fV] | succ m=>(have hm:m < l.length:=by omega); simp[List.drop_eq_getElem_cons hm,List.drop_eq_nil_of_le (show l.length≤m+1 by omega),fV],0,rfl⟩
 case round =>
  obtain⟨k,hk,rfl,hp,nn,rfl⟩:=hrel;have HP:=Ac hp; clear hp;by_cases hlt:2≤k
  ·obtain⟨b,o,rfl,_,hb,hx⟩:=HN.out (by omega);obtain⟨q,rfl⟩:∃ q,k=q+2:=⟨k - 2,by omega⟩;obtain⟨p,hpq⟩:∃ p,p=q+1:=⟨_,rfl⟩;have hpl:p < l.length:=by omega
   have hql:q < l.length:=by omega
   obtain⟨x,hx'⟩:=aB (l:=l) (k:=q) (by omega);obtain⟨y,hy'⟩:=aB (l:=l) (k:=p) (by omega);have ex:=hx q x hx';have ey:=hx p y hy';unfold lY at ex ey; rw[Nat.mul_one] at ex ey;have HS:=Ac (wH hx' (by rw[← hpq]; exact hy'));clear hx hx' hy';have i1:(((q+2:Nat):Int) - 1)=(p:Int):=by omega
   have i2:((p:Int) - 1)=(q:Int):=by omega
   have wr2:IntKind.i64.wrap (q:Int)=(q:Int):=IntWalk.i64_in _ (by omega);have hp0:(0:Int) < (p:Int):=by omega
   rw[i1];have HPQ:=Ac hpq; clear hpq i1;go_wp2_with fail
   refine wp_region_held_drew (S:=fun w'=>w'.cell? ⟨b,o+q,none⟩=some (.int .i64 x)∧w'.cell? ⟨b,o+p,none⟩=some (.int .i64 y)) (by kernel_rfl) ⟨ex,ey⟩ (fun hHeld=>?_);refine tk0 [0,1,2,3,4,5,6,7,8] ?_;iterate 9 (refine tk (v:=?_) rfl (by kernel_rfl) (by kernel_rfl) (by kernel_rfl) (fun _ _ _ h=>h) (Or.inl ⟨by rfl,?_⟩) hHeld ?_;rotate_left;(focus intro wx hSx;(try dsimp only at hSx);go_split_ands;go_simp;try with_reducible rfl);try simp only[Act.put,lq1,lq2,lq3,lq4,lq5,lq6])
   refine tk1 ?_;refine tk2 9 (by kernel_rfl) rfl fun K hK=>?_
   go_simp;refine(ahg _ y x).mono ?_;rintro e w1 ⟨rfl,rfl⟩;dsimp only;refine hK.out _ _ ⟨ex,ey⟩ (fun hHeld=>?_);clear hK K;try simp only[Act.put,lq1,lq2,lq3,lq4,lq5,lq6]
   refine wpAnyH_done (by kernel_rfl) ?_ _;clear hHeld ex ey;by_cases hyx:y < x
   ·have HF:=Ac (show fV l=false by
     cases h:fV l with
     | false=>rfl
     | true=>have:=rD l q h; rw[HS.out] at this; simp at this; omega)
    go_wp2
    go_ret;exact⟨_,rfl,aG (Below.refl _ _) _,by first | rfl | (rw[HF.out]; rfl)⟩
   ·have hd:decide (y < x)=false:=decide_eq_false hyx;go_wp2
    go_roundw
    case rel =>
     have e:=HPQ.out;refine⟨q+1,by omega,by first | rfl | (congr 1; omega),?_,_,rfl⟩;have:=HP.out;rw[Nat.add_sub_cancel,HS.out];simp only[Bool.and_eq_true,decide_eq_true_eq];exact⟨by omega,this⟩
    case measure=>simp[intOf]; omega
  ·go_wp2
   go_ret;refine⟨_,rfl,aG (Below.refl _ _) _,?_⟩;have:=HP.out;rw[show k - 1=0 by omega] at this;simp at this;rw[this]; rfl
theorem aap {look:Nat→List Rat}:∀ {l:List (Rat×Int)},(∀ bc∈l,∃ b,look bc.2.toNat = [b,-b])→∀ a:Rat,∃ s,kH look [a,-a] l = [s,-s]
 | [],_,a=>⟨a,rfl⟩
 | bc :: l,h,a=>by
  obtain⟨b,hb⟩:=h bc List.mem_cons_self;have e:kH look [a,-a] (bc :: l)=kH look [a+bc.1*b,-(a+bc.1*b)] l:=by
   show kH look (nN [a,-a] bc.1 (look bc.2.toNat)) l=_;rw[hb];congr 1
   show[a+bc.1*b,-a+bc.1 * -b]=_;rw[Rat.mul_neg,Rat.neg_add]
  rw[e];exact aap (fun x hx=>h x (List.mem_cons_of_mem _ hx)) _
theorem Fit.anti {g:Gm} {m:List (List Rat)} (h:Fit g m) (h2:g.au=2) (hz:∀ n∈g.nodes,n.kind=3→∃ x,n.pay = [x,-x]):∀ (f i:Nat),g.nodes.length - i≤f→i < g.nodes.length→∃ a,bW g m i = [a,-a]
 | 0,i,h1,h2=>absurd h2 (by omega)
 | f+1,i,h1,hi=>by
  obtain⟨n,hn⟩:=aB (l:=g.nodes) (k:=i) hi;have hmem:=List.mem_of_getElem? hn;rw[pJ h.good m hn];unfold valOf;by_cases hk:n.kind=3
  ·rw[if_pos hk];obtain⟨x,hx⟩:=hz n hmem hk;exact⟨(x:Rat),by rw[hx]; simp⟩
  ·rw[if_neg hk,h2];have e:(List.replicate (2:Int).toNat (0:Rat)) = [0,-0]:=by rfl
   rw[e];refine aap (fun bc hbc=>?_) 0;have hm:bc.2∈n.next:=(List.of_mem_zip (a:=bc.1) (b:=bc.2) hbc).2;have:=h.good.span.kids i n (Nat.zero_le _) hi hn bc.2 hm;exact Fit.anti h h2 hz f _ (by omega) (by omega)
end Go.Proofs.YtkcheepafifjaaaGreatDoor
