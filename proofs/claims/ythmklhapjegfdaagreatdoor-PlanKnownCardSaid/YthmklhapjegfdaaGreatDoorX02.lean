/- Moves in a drawn region: a list of operations taken one by one; a call that comes next. -/
import Derived.Test.YthmklhapjegfdaaGreatDoorX04
import Derived.OrdersHeld
import Derived.Deep.RegionHeld
set_option linter.all false
namespace Go.Proofs.YthmklhapjegfdaaGreatDoor
section
variable {P:Program} {md:Region.Mode} {ops:Array Oper} {Q:Exit→Act→World→Prop} {S:World→Prop}
def Tk (_:List Nat) (g:Prop):Prop:=g
theorem tk0 {g:Prop} (l:List Nat) (h:Tk l g):g:=h
theorem tk1 {g:Prop} (h:g):Tk [] g:=h
theorem tk {i:Nat} {is:List Nat} {oi:Oper} {v:Value} {fuel:Nat} {listed:Array Bool} {a:Act} {w:World} (hi:ops[i]? = some oi)
  (hs:Region.noSelect ops=true) (hf:Region.free md ops listed i=true) (hr:(Region.ready md ops listed).contains i=true)
  (hQ:∀ c a w,Q (.panic c) (a.put oi.dst v) w→Q (.panic c) a w) (hy:YieldsIf P ops S oi v a) (hS:S w)
  (h:Tk is (wpAnyH P md ops Q S fuel (listed.setIfInBounds i true) (a.put oi.dst v) w)):Tk (i :: is) (wpAnyH P md ops Q S (fuel+1) listed a w) :=
 wpAnyH_take hi hs hf hr hQ hy hS h
theorem tk2 (i:Nat) {fuel:Nat} {listed:Array Bool} {a:Act} {w:World} {o:Oper} (hr:Region.ready md ops listed = [i]) (ho:ops[i]? = some o)
  (h:∀ K':Act→World→Prop,Shut (∀ a w,S w→(S w→wpAnyH P md ops Q S fuel (listed.setIfInBounds i true) a w)→K' a w)→if Region.wanted o (yielded ops a.tmps)=true then Oper.wp P o a w K' Q else K' (a.put o.dst undef) w):wpAnyH P md ops Q S (fuel+1) listed a w :=
 wpAnyH_ready hr (by simp) (AllReadyH.cons ho h AllReadyH.nil)
end
theorem tkm {q g:Prop} (l:List Nat) (k:q) (h:Mhid q→Tk l g:=by
 intro hq
 repeat (refine tk (v:=?_) rfl (by kernel_rfl) (by kernel_rfl) (by kernel_rfl) (fun _ _ _ h=>h) (Or.inl ⟨by rfl,?_⟩) hHeld ?_;rotate_left;(focus intro wx hSx;(try dsimp only at hSx);go_split_ands;go_simp;try with_reducible rfl);try simp only[Act.put,List.getElem_toArray,List.getElem_cons_zero,List.getElem_cons_succ,List.setIfInBounds_toArray,List.set_cons_zero,List.set_cons_succ])
 exact tk1 hq.out):g:=tk0 l (h ⟨k⟩)
theorem yj {p q:Prop} (k:q) (h:Mhid q→p:=by
 intro hq
 replace x0:=ah x0 hb
 replace x1:=ah x1 hb
 replace x2:=ah x2 hb
 replace y0:=ah y0 hb
 replace y1:=ah y1 hb
 replace y2:=ah y2 hb
 replace HX:=Ag (HX.out.below hb)
 replace HY:=Ag (HY.out.below hb)
 revert HY
 revert HX
 revert y2
 revert y1
 revert y0
 revert x2
 revert x1
 revert x0
 exact hq.out):p:=h ⟨k⟩
theorem Za {p q:Prop} (k:q) (h:Mhid q→p:=by
 intro hq
 replace hz:=Nat.le_trans hz hb.size
 replace hB:=hB.trans (hb.mono hB.size)
 dsimp only
 refine hK.out _ _ ⟨x0,x1,x2,y0,y1,y2⟩ (fun hHeld=>?_)
 try simp only[Act.put,lq1,lq2,lq3,lq4,lq5,lq6]
 revert hHeld
 revert hB
 revert hz
 exact hq.out):p:=h ⟨k⟩
theorem Zb {p q:Prop} (k:q) (h:Mhid q→p:=by
 intro hq
 try simp only[Act.put,lq1,lq2,lq3,lq4,lq5,lq6]
 exact hq.out):p:=h ⟨k⟩
theorem Zc {p q:Prop} (k:q) (h:Mhid q→p:=by
 intro hq
 replace hz:=Nat.le_trans hz hb.size
 replace hB:=hB.trans (hb.mono hB.size)
 revert hB
 revert hz
 exact hq.out):p:=h ⟨k⟩
theorem Zd {p q:Prop} (k:q) (h:Mhid q→p:=by
 intro hq
 replace HF0:=Ag (RV.fine.below HF0.out hb)
 replace HF1:=Ag (RV.fine.below HF1.out hb)
 replace HF3:=Ag (RV.fine.below HF3.out hb)
 replace HT:=Ag (HT.out.on hb)
 replace hB:=hB.trans (hb.mono hB.size)
 revert hB
 revert HT
 revert HF3
 revert HF1
 revert HF0
 exact hq.out):p:=h ⟨k⟩
theorem Ze {p q:Prop} (k:q) (h:Mhid q→p:=by
 intro hq
 have x0:=rx.cell (i:=0) rfl
 have x1:=rx.cell (i:=1) rfl
 have x2:=rx.cell (i:=2) rfl
 revert x2
 revert x1
 revert x0
 exact hq.out):p:=h ⟨k⟩
theorem Zf {p q:Prop} (k:q) (h:Mhid q→p:=by
 intro hq
 refine yj ?_
 intro x0 x1 x2 y0 y1 y2 HX HY
 replace HNX:=Ag (HNX.out.below hb)
 replace HNY:=Ag (HNY.out.below hb)
 replace HDX:=Ag (HDX.out.below hb)
 replace HDY:=Ag (HDY.out.below hb)
 revert HDY
 revert HDX
 revert HNY
 revert HNX
 revert HY
 revert HX
 revert y2
 revert y1
 revert y0
 revert x2
 revert x1
 revert x0
 exact hq.out):p:=h ⟨k⟩
theorem Zg {p q:Prop} (k:q) (h:Mhid q→p:=by
 intro hq
 obtain⟨W,hW,rx,ry,rz,hB,hz⟩:=kF w 118 #[.bool (ak x).neg,.slice A (ak x).num.length c,.slice B (ak x).den.length d] 118 #[.bool (ak y).neg,.slice A' (ak y).num.length c',.slice B' (ak y).den.length d'] 118 #[.bool false,.slice none 0 0,.slice none 0 0]
 rw[← hW]
 clear hW
 replace HX:=Ag (HX.out.on (Below.same' hB _))
 replace HY:=Ag (HY.out.on (Below.same' hB _))
 revert HY
 revert HX
 revert hz
 revert hB
 revert rz
 revert ry
 revert rx
 revert W
 exact hq.out):p:=h ⟨k⟩
theorem Zi {p q:Prop} (k:q) (h:Mhid q→p:=by
 intro hq
 replace HG:=Ag (HG.out.on (Below.same' hb _))
 replace HA:=Ag (Ah.on HA.out (Below.same' hb _))
 replace HB:=Ag (Ah.on HB.out (Below.same' hb _))
 replace HV:=Ag (AA.on HV.out (Below.same' hb _))
 revert HV
 revert HB
 revert HA
 revert HG
 exact hq.out):p:=h ⟨k⟩
theorem Zj {p q:Prop} (k:q) (h:Mhid q→p:=by
 intro hq
 refine wp_region_held_drew (S:=fun w'=>w'.cell? ⟨w.heap.size,0,none⟩=some (.bool (ak x).neg)∧w'.cell? ⟨w.heap.size,1,none⟩=some (.slice A (ak x).num.length c)∧w'.cell? ⟨w.heap.size,2,none⟩=some (.slice B (ak x).den.length d)∧w'.cell? ⟨w.heap.size+1,0,none⟩=some (.bool (ak y).neg)∧w'.cell? ⟨w.heap.size+1,1,none⟩=some (.slice A' (ak y).num.length c')∧w'.cell? ⟨w.heap.size+1,2,none⟩=some (.slice B' (ak y).den.length d')) aj ⟨x0,x1,x2,y0,y1,y2⟩ (fun hHeld=>?_)
 revert hHeld
 exact hq.out):p:=h ⟨k⟩
theorem Zk {p q:Prop} (k:q) (h:Mhid q→p:=by
 intro hq
 replace rg:=rg.below hb rg.lt
 replace rz:=rz.below hb rz.lt
 replace rn:=rn.below hb rn.lt
 replace rt:=rt.below hb rt.lt
 replace HG:=Ag (HG.out.on (Below.same' hb _))
 revert HG
 revert rt
 revert rn
 revert rz
 revert rg
 exact hq.out):p:=h ⟨k⟩
theorem Zl {p q:Prop} (k:q) (h:Mhid q→p:=by
 intro hq
 have z0:=rz.cell (i:=0) rfl
 have za0:=fun o=>(rz.alloc o).cell (i:=0) rfl;have zb0:=fun o o'=>((rz.alloc o).alloc o').cell (i:=0) rfl;have z1:=rz.cell (i:=1) rfl;have za1:=fun o=>(rz.alloc o).cell (i:=1) rfl;have zb1:=fun o o'=>((rz.alloc o).alloc o').cell (i:=1) rfl;have z2:=rz.cell (i:=2) rfl;have za2:=fun o=>(rz.alloc o).cell (i:=2) rfl;have zb2:=fun o o'=>((rz.alloc o).alloc o').cell (i:=2) rfl
 have n0:=rn.cell (i:=0) rfl
 have na0:=fun o=>(rn.alloc o).cell (i:=0) rfl;have nb0:=fun o o'=>((rn.alloc o).alloc o').cell (i:=0) rfl;have n1:=rn.cell (i:=1) rfl;have na1:=fun o=>(rn.alloc o).cell (i:=1) rfl;have nb1:=fun o o'=>((rn.alloc o).alloc o').cell (i:=1) rfl;have n2:=rn.cell (i:=2) rfl;have na2:=fun o=>(rn.alloc o).cell (i:=2) rfl;have nb2:=fun o o'=>((rn.alloc o).alloc o').cell (i:=2) rfl
 revert na0
 revert n0
 revert za0
 revert z0
 exact hq.out):p:=h ⟨k⟩
theorem Zm {p q:Prop} (k:q) (h:Mhid q→p:=by
 intro hq
 refine bJ (fun w'=>w'.cell? ⟨w.heap.size,0,none⟩=some (.bool (au x).neg)∧w'.cell? ⟨w.heap.size,1,none⟩=some (.slice A (au x).num.length c)∧w'.cell? ⟨w.heap.size,2,none⟩=some (.slice B (au x).den.length d)∧w'.cell? ⟨w.heap.size+1,0,none⟩=some (.bool (au y).neg)∧w'.cell? ⟨w.heap.size+1,1,none⟩=some (.slice A' (au y).num.length c')∧w'.cell? ⟨w.heap.size+1,2,none⟩=some (.slice B' (au y).den.length d')) 7 1 aj rfl aj ?_
 have hHeld:(fun w':World=>w'.cell? ⟨w.heap.size,0,none⟩=some (.bool (au x).neg)∧w'.cell? ⟨w.heap.size,1,none⟩=some (.slice A (au x).num.length c)∧w'.cell? ⟨w.heap.size,2,none⟩=some (.slice B (au x).den.length d)∧w'.cell? ⟨w.heap.size+1,0,none⟩=some (.bool (au y).neg)∧w'.cell? ⟨w.heap.size+1,1,none⟩=some (.slice A' (au y).num.length c')∧w'.cell? ⟨w.heap.size+1,2,none⟩=some (.slice B' (au y).den.length d')) wn.drew:=⟨x0,x1,x2,y0,y1,y2⟩
 simp only[List.take_succ_cons,List.take_zero]
 have hb:Below wn.heap.size wn wn.drew:=aH (Below.refl _ wn) 1
 refine Zf ?_
 revert hb
 revert hHeld
 exact hq.out):p:=h ⟨k⟩
theorem Zn {p q:Prop} (k:q) (h:Mhid q→p:=by
 intro hq
 have q0:=rz.cell (i:=0) rfl
 have y0:=rz.frozen 0
 have q1:=rz.cell (i:=1) rfl
 have y1:=rz.frozen 1
 have q2:=rz.cell (i:=2) rfl
 have y2:=rz.frozen 2
 revert y2
 revert q2
 revert y1
 revert q1
 revert y0
 revert q0
 exact hq.out):p:=h ⟨k⟩
theorem Zo {p:Prop} (h:p:=by
 have HN1:=Ag (Ak.below (n:=aG num) HNN.out hb)
 have HD1:=Ag (Ak.below (n:=aG den) HDD.out hb)
 clear hb
 dsimp only
 go_wp2_with fail
 refine(gB w1 F _ _ (aG num) (aG den) HN1.out HD1.out hl1 hl2).mono ?_
 rintro e w2 ⟨va,rfl,hb,hu⟩
 rw[← HG.out] at hu
 obtain⟨A2,c2,rfl,_,hN2⟩:=hu
 have hB2:=hB1.trans (hb.mono hB1.size)
 replace x0:=ah x0 hb
 replace x1:=ah x1 hb
 replace x2:=ah x2 hb
 obtain⟨b2,o2,rfl,_,hb2,hx2⟩:=hN2 hpos
 have ex:=hx2 0 g (by rw[HDG.out]; rfl)
 unfold dw at ex
 rw[Nat.mul_one,Nat.add_zero] at ex
 clear hb hx2 hb2
 dsimp only
 go_wp2
 go_ret
 exact⟨_,rfl,hB2,by rw[HT.out]; rfl⟩):p:=h
theorem Zp {p q:Prop} (k:q) (h:Mhid q→p:=by
 intro hq
 refine Row.alloc ?_ _
 refine Row.alloc ?_ _
 refine Row.alloc ?_ _
 refine Row.alloc ?_ _
 exact hq.out):p:=h ⟨k⟩
theorem Zq {p:Prop} (h:p:=by
 exact⟨_,rfl,hwz _ _ byOmega hB,HM.out.keep (fun b hb _=>hb.elim (fun h=>.inl h.1) fun h=>.inr byOmega) (hkz _ (fun h=>h.elim (fun h=>by have:=h.2; omega) fun h=>by omega))⟩):p:=h
theorem Zv {p q:Prop} (k:q) (h:Mhid q→p:=by
 intro hq
 refine Ze ?_
 intro x0 x1 x2
 have y0:=ry.cell (i:=0) rfl
 have y1:=ry.cell (i:=1) rfl
 have y2:=ry.cell (i:=2) rfl
 revert y2
 revert y1
 revert y0
 revert x2
 revert x1
 revert x0
 exact hq.out):p:=h ⟨k⟩
theorem Zw {p q:Prop} (k:q) (h:Mhid q→p:=by
 intro hq
 have hHeld:(fun w':World=>w'.cell? ⟨w.heap.size,0,none⟩=some (.bool (au x).neg)∧w'.cell? ⟨w.heap.size,1,none⟩=some (.slice A (au x).num.length c)∧w'.cell? ⟨w.heap.size,2,none⟩=some (.slice B (au x).den.length d)∧w'.cell? ⟨w.heap.size+1,0,none⟩=some (.bool (au y).neg)∧w'.cell? ⟨w.heap.size+1,1,none⟩=some (.slice A' (au y).num.length c')∧w'.cell? ⟨w.heap.size+1,2,none⟩=some (.slice B' (au y).den.length d')) W.drew:=⟨x0,x1,x2,y0,y1,y2⟩
 simp only[List.take_succ_cons,List.take_zero]
 have hb:Below W.heap.size W W.drew:=aH (Below.refl _ W) 1
 revert hb
 revert hHeld
 exact hq.out):p:=h ⟨k⟩
theorem Zx {p q:Prop} (k:q) (h:Mhid q→p:=by
 intro hq
 replace rz:=rz.below hb rz.lt
 refine Zc ?_
 intro hz hB
 revert hB
 revert hz
 revert rz
 exact hq.out):p:=h ⟨k⟩
theorem Zy {p q:Prop} (k:q) (h:Mhid q→p:=by
 intro hq
 replace HX:=Ag (HX.out.below hb)
 replace HY:=Ag (HY.out.below hb)
 replace HNX:=Ag (HNX.out.below hb)
 replace HNY:=Ag (HNY.out.below hb)
 replace HDX:=Ag (HDX.out.below hb)
 replace HDY:=Ag (HDY.out.below hb)
 replace HG:=Ag (HG.out.below hb)
 replace HL:=Ag (HL.out.below hb)
 replace HR:=Ag (HR.out.below hb)
 replace HT1:=Ag (HT1.out.below hb)
 replace HT2:=Ag (HT2.out.below hb)
 replace HT:=Ag (HT.out.below hb)
 revert HT
 revert HT2
 revert HT1
 revert HR
 revert HL
 revert HG
 revert HDY
 revert HDX
 revert HNY
 revert HNX
 revert HY
 revert HX
 exact hq.out):p:=h ⟨k⟩
theorem Zz {p q:Prop} (k:q) (h:Mhid q→p:=by
 intro hq
 obtain⟨W,hW,rx,hB,hz⟩:=aN w 25 #[.int .i64 g.aF,.slice A g.nodes.length c,.slice Ai g.infos.length ci]
 rw[← hW]
 revert hz
 revert hB
 revert rx
 revert hW
 revert W
 exact hq.out):p:=h ⟨k⟩
theorem ZA {p:Prop} (h:p:=by
 have HT:=Ag he
 clear he HE
 go_wp2_with fail
 refine(gB W F _ _ (aG num) (aG den) HNN.out HDD.out hl1 hl2).mono ?_
 rintro e w1 ⟨va,rfl,hb,hu⟩
 rw[← HG.out] at hu
 obtain⟨A1,c1,rfl,_,_⟩:=hu
 have hB1:=hB.trans (hb.mono hB.size)
 replace x0:=ah x0 hb
 replace x1:=ah x1 hb
 replace x2:=ah x2 hb
 exact Zo):p:=h
theorem ZB {p:Prop} (h:p:=by
 have d0:((l1.length:Int) != (l2.length:Int))=true:=aC
 have HF:=Ag (show decide (l1=l2)=false by simp only[decide_eq_false_iff_not]; rintro rfl; exact q0 rfl)
 go_in
 go_wp2
 go_ret
 exact⟨_,rfl,Below.refl _ _,by rw[HF.out]; rfl⟩):p:=h
theorem ZC {p q:Prop} (k:q) (h:Mhid q→p:=by
 intro hq
 replace HG:=Ag (HG.out.on (Below.same' hb _))
 replace HA:=Ag (Ah.on HA.out (Below.same' hb _))
 replace HB:=Ag (Ah.on HB.out (Below.same' hb _))
 replace HT:=Ag (HT.out.on hb)
 replace HP:=Ag (AO.on HP.out (Below.same' hb _))
 replace HS2:=Ag (AA.on HS2.out (Below.same' hb _))
 replace HT2:=Ag (AA.on HT2.out (Below.same' hb _))
 revert HT2
 revert HS2
 revert HP
 revert HT
 revert HB
 revert HA
 revert HG
 exact hq.out):p:=h ⟨k⟩
theorem ZE {p q:Prop} (k:q) (h:Mhid q→p:=by
 intro hq
 refine yj ?_
 intro x0 x1 x2 y0 y1 y2 HX HY
 replace HDX:=Ag (HDX.out.below hb)
 replace HDY:=Ag (HDY.out.below hb)
 replace HNX:=Ag (HNX.out.below hb)
 replace HNY:=Ag (HNY.out.below hb)
 replace HF:=Ag (HF.out.below hb)
 replace HG:=Ag (HG.out.below hb)
 revert HG
 revert HF
 revert HNY
 revert HNX
 revert HDY
 revert HDX
 revert HY
 revert HX
 revert y2
 revert y1
 revert y0
 revert x2
 revert x1
 revert x0
 exact hq.out):p:=h ⟨k⟩
theorem ZF {p q:Prop} (k:q) (h:Mhid q→p:=by
 intro hq
 refine wpAnyH_done aj ?_ _
 show wpList _ _ _ _ _ _
 exact hq.out):p:=h ⟨k⟩
theorem ZG {p:Prop} (h:p:=by
 exact hK.out _ _ (Below.refl _ _) rfl):p:=h
theorem ZH {p:Prop} (h:p:=by
 rintro e w1 ⟨_,rfl,hb1,rfl⟩
 have hbx2:=ku.drew.below hb1 aC
 have ah6:=hbt.drew.below hb1 aC
 dsimp only
 refine hK.out _ _ ⟨ah6.cell rfl,hbx2.cell rfl,hbx2.cell rfl,hbx2.cell rfl,hbx2.cell rfl,hbx2.cell rfl,hbx2.cell rfl⟩ (fun hHeld=>?_)
 clear hK K
 refine Zb ?_
 refine tkm [7] ?_
 refine wpAnyH_done aj ?_ _
 go_wp2
 go_ret
 exact⟨_,rfl,hB1.drew.trans (hb1.mono aC),by rw[HF.out]; rfl⟩):p:=h
theorem ZI {p q:Prop} (k:q) (h:Mhid q→p:=by
 intro hq
 replace eu:=ah eu hb
 replace p0:=ah p0 hb
 replace p1:=ah p1 hb
 replace p2:=ah p2 hb
 replace ex0:=ah ex0 hb
 replace ex1:=ah ex1 hb
 replace ex2:=ah ex2 hb
 replace HRV:=Ag (HRV.out.below hb)
 replace HON:=Ag (HON.out.below hb)
 replace HNM:=Ag (HNM.out.below hb)
 replace rs:=rs.below hb rs.lt
 replace hzr:=Nat.le_trans hzr hb.size
 replace hbel:=hbel.trans (hb.mono hbel.size)
 revert hbel
 revert hzr
 revert rs
 revert HNM
 revert HON
 revert HRV
 revert ex2
 revert ex1
 revert ex0
 revert p2
 revert p1
 revert p0
 revert eu
 exact hq.out):p:=h ⟨k⟩
theorem ZJ {p q:Prop} (k:q) (h:Mhid q→p:=by
 intro hq
 simp only[List.take_succ_cons,List.take_zero]
 exact hq.out):p:=h ⟨k⟩
theorem ZK {p q:Prop} (k:q) (h:Mhid q→p:=by
 intro hq
 replace HG:=Ag (HG.out.on (Below.same' hb _))
 replace HA:=Ag (Ah.on HA.out (Below.same' hb _))
 replace HC:=Ag (Ah.on HC.out (Below.same' hb _))
 replace HV:=Ag (AA.on HV.out (Below.same' hb _))
 replace HT:=Ag (HT.out.on hb)
 revert HT
 revert HV
 revert HC
 revert HA
 revert HG
 exact hq.out):p:=h ⟨k⟩
theorem ZL {p q:Prop} (k:q) (h:Mhid q→p:=by
 intro hq
 replace rz:=rz.below hb rz.lt
 refine Za ?_
 intro hz hB hHeld
 revert hHeld
 revert hB
 revert hz
 revert rz
 exact hq.out):p:=h ⟨k⟩
theorem ZM {p q:Prop} (k:q) (h:Mhid q→p:=by
 intro hq
 replace rx:=rx.below hb rx.lt
 replace ry:=ry.below hb ry.lt
 replace hB:=hB.trans (hb.mono hB.size)
 revert hB
 revert ry
 revert rx
 exact hq.out):p:=h ⟨k⟩
theorem ZN {p q:Prop} (k:q) (h:Mhid q→p:=by
 intro hq
 replace x0:=ah x0 hb
 replace x1:=ah x1 hb
 replace x2:=ah x2 hb
 revert x2
 revert x1
 revert x0
 exact hq.out):p:=h ⟨k⟩
theorem ZO {p:Prop} (h:p:=by
 exact⟨_,rfl,hB,_,by rw[HME.out,HF.out,if_pos H0.out]; rfl,by rw[HMO.out,HF.out,if_pos H0.out]; exact Ah.nil _ _⟩):p:=h
theorem ZP {p:Prop} (h:p:=by
 go_wp2
 go_ret
 exact⟨by rw[HE.out]; rfl,rfl⟩):p:=h
theorem ZT {p q:Prop} (k:q) (h:Mhid q→p:=by
 intro hq
 replace u0:=ah u0 hb
 replace u1:=ah u1 hb
 replace u2:=ah u2 hb
 replace t0:=ah t0 hb
 replace t1:=ah t1 hb
 replace t2:=ah t2 hb
 replace m1:=ah m1 hb
 replace m2:=ah m2 hb
 replace y0:=ah y0 hb
 replace y1:=ah y1 hb
 replace y2:=ah y2 hb
 replace z0:=ah z0 hb
 replace z1:=ah z1 hb
 replace z2:=ah z2 hb
 replace HXV:=Ag (AA.below HXV.out hb)
 replace HYV:=Ag (AA.below HYV.out hb)
 replace HAV:=Ag (AA.below HAV.out hb)
 replace HTV:=Ag (AA.below HTV.out hb)
 revert HTV
 revert HAV
 revert HYV
 revert HXV
 revert z2
 revert z1
 revert z0
 revert y2
 revert y1
 revert y0
 revert m2
 revert m1
 revert t2
 revert t1
 revert t0
 revert u2
 revert u1
 revert u0
 exact hq.out):p:=h ⟨k⟩
theorem ZU {p:Prop} (h:p:=by
 refine⟨_,rfl,hB,?_⟩
 unfold RtV
 rw[HMM.out]
 obtain⟨_,_,hh,hn,hd⟩:=HX.out
 cases hh
 exact AA.make rfl (hn.keep (fun b hb _=>hb.1) (Below.same' hB _)) (hd.keep (fun b hb _=>hb.1) (Below.same' hB _))):p:=h
theorem ZV {p q:Prop} (k:q) (h:Mhid q→p:=by
 intro hq
 obtain⟨W,hW,hr,hB,hz'⟩:=aN w 83 #[.bool false,.slice none 0 0,.slice none 0 0]
 rw[← hW]
 clear hW
 have hz:w.heap.size+1≤W.heap.size:=byOmega
 clear hz'
 revert hz
 revert hB
 revert hr
 revert W
 exact hq.out):p:=h ⟨k⟩
theorem ZW {p:Prop} (h:p:=by
 intro x0 x1 x2
 replace HA:=Ag (HA.out.below hb)
 refine Zc ?_
 clear hz hB hb
 intro hz hB
 dsimp only
 go_wp2_with fail
 refine(xQ _ (fun _=>True) _ _ x ((1:Int):Rat) (HA.out.mono (fun _ _ _=>trivial)) HB.out byOmega (by rw[show((1:Int):Rat)=1 from rfl,nM]; omega)).mono ?_
 rintro e wn ⟨_,rfl,hb,rfl⟩
 rw[show iO x ((1:Int):Rat)=o from HO.out.symm]
 refine ZN ?_
 clear x0 x1 x2
 intro x0 x1 x2
 replace HA:=Ag (HA.out.below hb)
 replace HB:=Ag (HB.out.below hb)
 refine Zc ?_
 clear hz hB hb
 intro hz hB
 dsimp only
 go_wp2
 go_ret
 exact⟨_,rfl,hB,by rw[HG.out]; rfl⟩):p:=h
theorem ZX {p q:Prop} (k:q) (h:Mhid q→p:=by
 intro hq
 refine wp_region_held_drew (S:=fun w'=>w'.cell? ⟨b,o+k,none⟩=some (.slice (some ⟨b3,o3,none⟩) l.length cr)∧w'.cell? ⟨ob,0,none⟩=some (.bool (au one).neg)∧w'.cell? ⟨ob,1,none⟩=some (.slice A1 (au one).num.length c1)∧w'.cell? ⟨ob,2,none⟩=some (.slice B1 (au one).den.length d1')∧w'.cell? ⟨b3,o3+j*3,none⟩=some (.bool false)∧w'.cell? ⟨b3,o3+j*3+1,none⟩=some (.slice A4 (au x).num.length c4)∧w'.cell? ⟨b3,o3+j*3+2,none⟩=some (.slice A5 (au x).den.length c5)) aj ⟨eu,p0,p1,p2,ex0,ex1,ex2⟩ (fun hHeld=>?_)
 have hb:Below wn.heap.size wn wn.drew:=aH (Below.refl _ wn) 1
 refine ZI ?_
 revert hb
 revert hHeld
 exact hq.out):p:=h ⟨k⟩
theorem ZY {p q:Prop} (k:q) (h:Mhid q→p:=by
 intro hq
 have HMR:=Ag (show pz g (a.map (List.map au)) (b.map (List.map au)) (au t)=fO (dV (bG (aS g) a) (bG (aS g) b) (1 - t) t) by unfold pz; rw[lJ,lJ,mX])
 have Dq:=Ag (abb HSE.out.symm)
 have Dt:=Ag (abb hsb)
 have HLA:=Ag (uf H4A.out)
 have HLB:=Ag (uf H4B.out)
 have hal:a.length≤30:=by simpa using hla
 have hbl:b.length≤30:=by simpa using hlb
 have DV:=Ag (show ∀ l∈a,l.length≤1000 from fun l hl=>by have:=HRA.out (l.map au) (List.mem_map_of_mem hl); rw[List.length_map] at this; omega)
 have DW:=Ag (show ∀ l∈b,l.length≤1000 from fun l hl=>by have:=HRB.out (l.map au) (List.mem_map_of_mem hl); rw[List.length_map] at this; omega)
 have HFR:=Ag (wU HSE.out.symm hsb)
 have HMA:=Ag (qR Dq.out HLA.out (qW Dq.out HLA.out) DV.out)
 have HMB:=Ag (qR Dt.out HLB.out (qW Dt.out HLB.out) DW.out)
 revert HMB
 revert HMA
 revert HFR
 revert DW
 revert DV
 revert hbl
 revert hal
 revert HLB
 revert HLA
 revert Dt
 revert Dq
 revert HMR
 exact hq.out):p:=h ⟨k⟩
theorem Z4 {p q:Prop} (k:q) (h:Mhid q→p:=by
 intro hq
 refine wp_region_held_drew (S:=fun w'=>w'.cell? ⟨ub,0,none⟩=some (.bool (au acc).neg)∧w'.cell? ⟨ub,1,none⟩=some (.slice A2 (au acc).num.length c2)∧w'.cell? ⟨ub,2,none⟩=some (.slice B2 (au acc).den.length d2)∧w'.cell? ⟨mb,mo+k,none⟩=some (.slice (some ⟨rb,ro,none⟩) row.length cr)∧w'.cell? ⟨rb,ro+j*3,none⟩=some (.bool (au x).neg)∧w'.cell? ⟨rb,ro+j*3+1,none⟩=some (.slice An (au x).num.length cn)∧w'.cell? ⟨rb,ro+j*3+2,none⟩=some (.slice Ad (au x).den.length cd)) aj ⟨u0,u1,u2,m1,y0,y1,y2⟩ (fun hHeld=>?_)
 have hb:Below wd.heap.size wd wd.drew:=aH (Below.refl _ wd) 1
 revert hb
 revert hHeld
 exact hq.out):p:=h ⟨k⟩
theorem Z8 {p q:Prop} (k:q) (h:Mhid q→p:=by
 intro hq
 have HNY:=Ag (Ak.mono (n:=y.num.natAbs) (G:=(Ext (Old F w.heap.size) (w.heap.size+3))) hn (fun b hb _=>.inl hb))
 revert HNY
 exact hq.out):p:=h ⟨k⟩
theorem Z9 {p q:Prop} (k:q) (h:Mhid q→p:=by
 intro hq
 obtain⟨W,hW,rx,ry,rz,hB,hz⟩:=kF w 83 #[.bool (au x).neg,.slice A (au x).num.length c,.slice B (au x).den.length d] 83 #[.bool (au y).neg,.slice A' (au y).num.length c',.slice B' (au y).den.length d'] 83 #[.bool false,.slice none 0 0,.slice none 0 0]
 rw[← hW]
 clear hW
 replace HX:=Ag (HX.out.on (Below.same' hB _))
 replace HY:=Ag (HY.out.on (Below.same' hB _))
 revert HY
 revert HX
 revert hz
 revert hB
 revert rz
 revert ry
 revert rx
 revert W
 exact hq.out):p:=h ⟨k⟩
theorem Ya {p q:Prop} (k:q) (h:Mhid q→p:=by
 intro hq
 refine Zk ?_
 intro rg rz rn rt HG
 replace HM:=Ag (Ah.on HM.out (Below.same' hb _))
 replace HR:=Ag (Ah.on HR.out (Below.same' hb _))
 replace HBK:=Ag (Ah.on HBK.out (Below.same' hb _))
 revert HBK
 revert HR
 revert HM
 revert HG
 revert rt
 revert rn
 revert rz
 revert rg
 exact hq.out):p:=h ⟨k⟩
theorem Yb {p q:Prop} (k:q) (h:Mhid q→p:=by
 intro hq
 have hHeld:(fun w':World=>w'.cell? ⟨w.heap.size,0,none⟩=some (.bool (ak x).neg)∧w'.cell? ⟨w.heap.size,1,none⟩=some (.slice A (ak x).num.length c)∧w'.cell? ⟨w.heap.size,2,none⟩=some (.slice B (ak x).den.length d)∧w'.cell? ⟨w.heap.size+1,0,none⟩=some (.bool (ak y).neg)∧w'.cell? ⟨w.heap.size+1,1,none⟩=some (.slice A' (ak y).num.length c')∧w'.cell? ⟨w.heap.size+1,2,none⟩=some (.slice B' (ak y).den.length d')) W.drew:=⟨x0,x1,x2,y0,y1,y2⟩
 refine ZJ ?_
 have hb:Below W.heap.size W W.drew:=aH (Below.refl _ W) 1
 refine yj ?_
 revert hb
 revert hHeld
 exact hq.out):p:=h ⟨k⟩
theorem Yc {p q:Prop} (k:q) (h:Mhid q→p:=by
 intro hq
 have f5:=aI (f:=(Fact.eq (.bool true))) (hf (5,v5) aA aj) rfl
 revert f5
 exact hq.out):p:=h ⟨k⟩
theorem Yd {p q:Prop} (k:q) (h:Mhid q→p:=by
 intro hq
 obtain⟨W,hW,rx,rz,hB,hz⟩:=alloc2 w 118 #[.bool (ak x).neg,.slice A (ak x).num.length c,.slice B (ak x).den.length d] 83 #[.bool false,.slice none 0 0,.slice none 0 0]
 rw[← hW]
 clear hW
 replace HX:=Ag (HX.out.on (Below.same' hB _))
 revert HX
 revert hz
 revert hB
 revert rz
 revert rx
 revert W
 exact hq.out):p:=h ⟨k⟩
theorem Ye {p:Prop} (h:p:=by
 refine ifA rfl ?_
 refine yS _ _ _ 26 rfl 3 (.int .i64 0) 8 Tryz.underlying26 Tryz.infoInt rfl g.nodes.length rfl rfl byOmega byOmega ?_
 intro W1 hb hz hr
 exact hK.out _ _ ⟨hb,⟨_,rfl,hS.1,hr⟩,fun _ b hb=>by cases hb; exact Nat.le_refl _⟩):p:=h
theorem Yi {p q:Prop} (k:q) (h:Mhid q→p:=by
 intro hq
 show Exit.then _ _ .normal _ _
 exact hq.out):p:=h ⟨k⟩
theorem Yj {p q:Prop} (k:q) (h:Mhid q→p:=by
 intro hq
 refine ZN ?_
 intro x0 x1 x2
 replace y0:=ah y0 hb
 replace y1:=ah y1 hb
 replace y2:=ah y2 hb
 replace s0:=ah s0 hb
 replace s1:=ah s1 hb
 replace s2:=ah s2 hb
 replace t0:=ah t0 hb
 replace t1:=ah t1 hb
 replace t2:=ah t2 hb
 replace HX:=Ag (HX.out.below hb)
 replace HY:=Ag (HY.out.below hb)
 replace HSV:=Ag (HSV.out.below hb)
 replace HTV:=Ag (HTV.out.below hb)
 revert HTV
 revert HSV
 revert HY
 revert HX
 revert t2
 revert t1
 revert t0
 revert s2
 revert s1
 revert s0
 revert y2
 revert y1
 revert y0
 revert x2
 revert x1
 revert x0
 exact hq.out):p:=h ⟨k⟩
theorem Yk {p q:Prop} (k:q) (h:Mhid q→p:=by
 intro hq
 refine bJ (fun w'=>w'.cell? ⟨w.heap.size,0,none⟩=some (.bool (au x).neg)∧w'.cell? ⟨w.heap.size,1,none⟩=some (.slice A (au x).num.length c)∧w'.cell? ⟨w.heap.size,2,none⟩=some (.slice B (au x).den.length d)∧w'.cell? ⟨w.heap.size+1,0,none⟩=some (.bool (au y).neg)∧w'.cell? ⟨w.heap.size+1,1,none⟩=some (.slice A' (au y).num.length c')∧w'.cell? ⟨w.heap.size+1,2,none⟩=some (.slice B' (au y).den.length d')) 16 1 aj rfl aj ?_
 refine Zw ?_
 exact hq.out):p:=h ⟨k⟩
theorem Yl {p q:Prop} (k:q) (h:Mhid q→p:=by
 intro hq
 have x0:=rg.cell (i:=0) rfl
 have x1:=rg.cell (i:=1) rfl
 have x2:=rg.cell (i:=2) rfl
 revert x2
 revert x1
 revert x0
 exact hq.out):p:=h ⟨k⟩
theorem Ym {p:Prop} (h:p:=by
 refine(gJ wk 1 2 ay ay ay ay).mono ?_
 rintro e w' ⟨u,rfl,hb,hu⟩
 exact hK.out _ _ hb (show AA _ _ _ q2 by rw[HQ2.out]; exact hu.mono fun _ _ _=>trivial)):p:=h
theorem Yn {p q:Prop} (k:q) (h:Mhid q→p:=by
 intro hq
 replace hr:=hr.below hb hr.lt
 refine Zc ?_
 intro hz hB
 revert hB
 revert hz
 revert hr
 exact hq.out):p:=h ⟨k⟩
theorem Yo {p q:Prop} (k:q) (h:Mhid q→p:=by
 intro hq
 rw[← hW]
 obtain⟨W1,hW,hbt,vX,agI⟩:=bT W 243 #[.nilFunc,.func (.func 199) #[] #[],.func (.func 200) #[] #[],.func (.func 201) #[] #[]]
 rw[← hW]
 clear hW
 have ku:=hbx.below vX byOmega
 have hB1:Below w.heap.size w W1:=hWb.trans (vX.mono byOmega)
 clear vX
 rw[← hWz] at hbt
 have z0:=hbt.lt
 clear agI
 revert z0
 revert hbt
 revert hB1
 revert ku
 revert W1
 exact hq.out):p:=h ⟨k⟩
theorem Yp {p:Prop} (h:p:=by
 go_wp2_with fail
 refine(qN _ _ _ x HV.out byOmega).mono ?_
 rintro e wn ⟨va,rfl,hb,hu⟩
 have HA:=Ag hu
 clear hu
 refine ZN ?_
 clear x0 x1 x2
 intro x0 x1 x2
 replace HV:=Ag (HV.out.below hb)
 refine Zc ?_
 clear hz hB hb
 intro hz hB
 clear HV
 dsimp only
 go_wp2_with fail
 refine(nC _ 1 ay ay).mono ?_
 rintro e wn ⟨vb,rfl,hb,hu⟩
 have HB:=Ag (AA.mono (G:=fun _=>True) hu (fun _ _ _=>trivial))
 clear hu
 refine ZN ?_
 clear x0 x1 x2
 exact ZW):p:=h
theorem Yq {p q:Prop} (k:q) (h:Mhid q→p:=by
 intro hq
 obtain⟨W,hW,hr,hr2,hB,hz⟩:=alloc2 w 83 #[.bool false,.slice A (dig x.num.natAbs).length c,.slice B (au x).den.length d] 83 #[.bool false,.slice A (dig x.num.natAbs).length c,.slice B (au x).den.length d]
 rw[← hW]
 clear hW
 have t0:=hr2.cell (i:=0) rfl
 have t1:=hr2.cell (i:=1) rfl
 have t2:=hr2.cell (i:=2) rfl
 revert t2
 revert t1
 revert t0
 revert hz
 revert hB
 revert hr2
 revert hr
 revert W
 exact hq.out):p:=h ⟨k⟩
theorem Yt {p q:Prop} (k:q) (h:Mhid q→p:=by
 intro hq
 replace HVP:=Ag (HVP.out.below hb)
 replace HVQ:=Ag (HVQ.out.below hb)
 replace HVD:=Ag (HVD.out.below hb)
 revert HVD
 revert HVQ
 revert HVP
 exact hq.out):p:=h ⟨k⟩
theorem Yu {p q:Prop} (k:q) (h:Mhid q→p:=by
 intro hq
 have HNX:=Ag (Ak.mono (n:=x.num.natAbs) (G:=(Ext (Old F w.heap.size) (w.heap.size+3))) hn (fun b hb _=>.inl hb))
 revert HNX
 exact hq.out):p:=h ⟨k⟩
theorem Yw {p q:Prop} (k:q) (h:Mhid q→p:=by
 intro hq
 have hsame:Same (Apart F v) w w':=⟨byOmega,fun b hb hl=>(h2.block b aC (fun e=>hb.2 e.symm)).trans (Below.heap_alloc _ _ _ hl)⟩
 have e1:(L ++ [q]).length=L.length+1:=aA
 have e2:(L ++ [q]).flatMap K.cells=L.flatMap K.cells++K.cells q:=by simp[List.flatMap_append]
 have afc:Same (fun b=>v.ownBlock≠some b) w w':=⟨byOmega,fun b hb hl=>(h2.block b aC (fun e=>hb e.symm)).trans (Below.heap_alloc _ _ _ hl)⟩
 refine h g cap w' ⟨by rw[e1,e2]; exact h1,fun p hp=>?_⟩ ((hbel.alloc byOmega _).grown h2 aC (fun k hk=>(hown.row.lt k hk).1)) byOmega afc
 revert hp
 revert p
 revert afc
 revert e2
 revert e1
 revert hsame
 exact hq.out):p:=h ⟨k⟩
theorem Yx {p q:Prop} (k:q) (h:Mhid q→p:=by
 intro hq
 obtain⟨W,hW,rx,ry,hB,hz⟩:=alloc2 w 25 #[.int .i64 g.aF,.slice A g.nodes.length c,.slice Ai g.infos.length ci] 83 #[.bool tr.neg,.slice An tr.num.length cn,.slice Ad tr.den.length cd]
 rw[← hW]
 clear hW hz
 replace HG:=Ag (HG.out.on (Below.same' hB _))
 replace HA:=Ag (Ah.on HA.out (Below.same' hB _))
 revert HA
 revert HG
 revert hB
 revert ry
 revert rx
 revert W
 exact hq.out):p:=h ⟨k⟩
theorem YA {p q:Prop} (k:q) (h:Mhid q→p:=by
 intro hq
 replace u0:=ah u0 hb
 replace u1:=ah u1 hb
 replace u2:=ah u2 hb
 replace m1:=ah m1 hb
 replace y0:=ah y0 hb
 replace y1:=ah y1 hb
 replace y2:=ah y2 hb
 replace HXV:=Ag (AA.below HXV.out hb)
 revert HXV
 revert y2
 revert y1
 revert y0
 revert m1
 revert u2
 revert u1
 revert u0
 exact hq.out):p:=h ⟨k⟩
theorem YB {p:Prop} (h:p:=by
 obtain⟨W1,hw,hr,hb,hz⟩:=bT wk 83 #[.bool q2.neg,.slice A1 q2.num.length c1,.slice B1 q2.den.length d1,.bool q2.neg,.slice A2 q2.num.length c2,.slice B2 q2.den.length d2]
 rw[← hw]
 exact hK.out _ _ hb (fP (L:=[⟨q2,.slice A1 q2.num.length c1,.slice B1 q2.den.length d1⟩,⟨q2,.slice A2 q2.num.length c2,.slice B2 q2.den.length d2⟩]) hr (all2 (RV.fine.below hf1 hb) (RV.fine.below hf2 hb)))):p:=h
theorem YC {p:Prop} (h:p:=by
 obtain⟨W1,hw,hr,hb,hz⟩:=bT wk 83 #[.bool p3.neg,.slice A5 p3.num.length c5,.slice B5 p3.den.length d5,.bool p1.neg,.slice A6 p1.num.length c6,.slice B6 p1.den.length d6]
 rw[← hw]
 exact hK.out _ _ hb (fP (L:=[⟨p3,.slice A5 p3.num.length c5,.slice B5 p3.den.length d5⟩,⟨p1,.slice A6 p1.num.length c6,.slice B6 p1.den.length d6⟩]) hr (all2 (RV.fine.below hf1 hb) (RV.fine.below hf2 hb)))):p:=h
theorem YD {p q:Prop} (k:q) (h:Mhid q→p:=by
 intro hq
 have HAV:=Ag (show RtV wb (fun b=>(Old F w.heap.size b∨wa.heap.size≤b)∧b≠ub) (.agg #[.bool (au acc).neg,.slice A2 (au acc).num.length c2,.slice B2 (au acc).den.length d2]) acc from AA.make rfl HST.out.fine.1 HST.out.fine.2)
 revert HAV
 exact hq.out):p:=h ⟨k⟩
theorem YF {p q:Prop} (k:q) (h:Mhid q→p:=by
 intro hq
 refine wpAnyH_done aj ?_ _
 exact hq.out):p:=h ⟨k⟩
theorem YJ {p:Prop} (h:p:=by
 have hc:W.cell? ⟨bo,i,none⟩=some vr:=hm.row.cell (by unfold jS; rw[List.getElem?_append_left byOmega]; exact hvr)
 refine(aa2 W (GoF F w B1) bo n n i j vr row x hc hra hx byOmega).mono ?_
 rintro e w' ⟨u,rfl,hb,hu⟩
 refine⟨u,rfl,hb,?_⟩
 unfold gX
 rw[if_neg h0,Int.toNat_natCast,Int.toNat_natCast,hrd,List.getD_eq_getElem?_getD,hx]
 exact hu.mono fun b hb _=>hb.1):p:=h
theorem YL {p:Prop} (h:p:=by
 rw[List.take_of_length_le byOmega,List.take_of_length_le byOmega] at h3
 exact h3):p:=h
theorem YM {p:Prop} (h:p:=by
 go_wp2
 go_ret
 exact⟨_,rfl,aH ((Below.refl _ _).alloc (Nat.le_refl _) _) _,by rw[HF.out]; rfl⟩):p:=h
theorem YN {p q:Prop} (k:q) (h:Mhid q→p:=by
 intro hq
 refine yj ?_
 intro x0 x1 x2 y0 y1 y2 HX HY
 replace HNX:=Ag (HNX.out.below hb)
 replace HNY:=Ag (HNY.out.below hb)
 revert HNY
 revert HNX
 revert HY
 revert HX
 revert y2
 revert y1
 revert y0
 revert x2
 revert x1
 revert x0
 exact hq.out):p:=h ⟨k⟩
theorem YO {p q:Prop} (k:q) (h:Mhid q→p:=by
 intro hq
 refine hK.out _ _ ⟨ah u0 ((Below.refl _ _).alloc (Nat.le_refl _) _),ah u1 ((Below.refl _ _).alloc (Nat.le_refl _) _),ah u2 ((Below.refl _ _).alloc (Nat.le_refl _) _),ah m1 ((Below.refl _ _).alloc (Nat.le_refl _) _),ah y0 ((Below.refl _ _).alloc (Nat.le_refl _) _),ah y1 ((Below.refl _ _).alloc (Nat.le_refl _) _),ah y2 ((Below.refl _ _).alloc (Nat.le_refl _) _)⟩ (fun hHeld=>?_)
 refine Zb ?_
 refine tk2 11 aj rfl fun K hK=>?_
 revert hK
 revert K
 revert hHeld
 exact hq.out):p:=h ⟨k⟩
theorem YQ {p q:Prop} (k:q) (h:Mhid q→p:=by
 intro hq
 have HE:=Ag (show lT g ar br tr=if dS g ar≠0 then dS g ar else if iV (g.infos.map Inf.actions) br≠0 then iV (g.infos.map Inf.actions) br else if dP tr≠0 then dP tr else nI g from rfl)
 have HME:=Ag (show abf g ar br tr=if lT g ar br tr≠0 then lT g ar br tr else jy (pz g ar br tr).flatten from rfl)
 have HMO:=Ag (show mG g ar br tr=if lT g ar br tr≠0 then [] else nH (pz g ar br tr) from rfl)
 refine Ze ?_
 revert HMO
 revert HME
 revert HE
 exact hq.out):p:=h ⟨k⟩
theorem YS {p q:Prop} (k:q) (h:Mhid q→p:=by
 intro hq
 replace HT:=Ag (HT.out.on hb)
 replace hB:=hB.trans (hb.mono hB.size)
 revert hB
 revert HT
 exact hq.out):p:=h ⟨k⟩
theorem YV {p q:Prop} (k:q) (h:Mhid q→p:=by
 intro hq
 replace y0:=ah y0 hb
 replace y1:=ah y1 hb
 replace y2:=ah y2 hb
 replace hul:=ah hul hb
 replace z0:=ah z0 hb
 replace HGc:=Ag (HGc.out.on (Below.same' hb F))
 replace HO':=Ag (HO'.out.below hb)
 replace bD:=bD.trans (hb.mono bD.size)
 revert bD
 revert HO'
 revert HGc
 revert z0
 revert hul
 revert y2
 revert y1
 revert y0
 exact hq.out):p:=h ⟨k⟩
theorem YX {p q:Prop} (k:q) (h:Mhid q→p:=by
 intro hq
 replace o0:=ah o0 hb
 replace c9:=ah c9 hb
 replace u0:=ah u0 hb
 replace p0:=ah p0 hb
 replace p1:=ah p1 hb
 replace HNV:=Ag (AL.on HNV.out (Below.same' hb _))
 replace HMB:=Ag (HMB.out.below hb)
 replace hBe:=hBe.trans (hb.mono hBe.size)
 revert hBe
 revert HMB
 revert HNV
 revert p1
 revert p0
 revert u0
 revert c9
 revert o0
 exact hq.out):p:=h ⟨k⟩
theorem YZ {p q:Prop} (k:q) (h:Mhid q→p:=by
 intro hq
 refine Zi ?_
 intro HG HA HB HV
 replace HT:=Ag (HT.out.on hb)
 replace HP:=Ag (AO.on HP.out (Below.same' hb _))
 replace HNT:=Ag (AA.on HNT.out (Below.same' hb _))
 revert HNT
 revert HP
 revert HT
 revert HV
 revert HB
 revert HA
 revert HG
 exact hq.out):p:=h ⟨k⟩
theorem Y0 {p q:Prop} (k:q) (h:Mhid q→p:=by
 intro hq
 replace hzr:=Nat.le_trans hzr hb.size
 replace hbel:=hbel.trans (hb.mono hbel.size)
 revert hbel
 revert hzr
 exact hq.out):p:=h ⟨k⟩
theorem Y1 {p q:Prop} (k:q) (h:Mhid q→p:=by
 intro hq
 have wr0:IntKind.i64.wrap (nx:Int)=(nx:Int):=IntWalk.i64_in _ byOmega
 have wr2:IntKind.i64.wrap ((nx:Int) - 1)=(nx:Int) - 1:=IntWalk.i64_in _ byOmega
 refine wp_region_held_drew (S:=fun w'=>w'.cell? ⟨p,1,none⟩=some (.slice (some ⟨b,o,none⟩) g.nodes.length c)∧w'.cell? ⟨p,5,none⟩=some (.slice (some ⟨bl,0,none⟩) g.nodes.length g.nodes.length)) aj ⟨x1,x5⟩ (fun hHeld=>?_)
 revert hHeld
 revert wr2
 revert wr0
 exact hq.out):p:=h ⟨k⟩
theorem Y2 {p:Prop} (h:p:=by
 exact hK.out _ _ ⟨Below.refl _ _,rfl,fun h=>(by simp[eP] at h)⟩):p:=h
theorem Y3 {p:Prop} (h:p:=by
 rintro e wz ⟨_,rfl,hbz,rfl⟩
 dsimp only
 go_wp2
 go_ret
 exact⟨_,rfl,hB.trans (hbz.mono hB.size),rfl⟩):p:=h
theorem Y7 {p:Prop} (h:p:=by
 have hrun:=run_make_row' (P:=P) t e z bytes ht hinfo hz1 .i64 .i64 n hbytes byOmega w
 unfold Oper.wp
 simp[execOp,hop,hl,hc,hrun,Result.andThen]
 have hbel:Below w.heap.size w (w.alloc (.cells (madeCells #[z] n) e)):=(Below.refl _ _).alloc (Nat.le_refl _) _
 exact hK _ hbel aA (Row.made w z n e)):p:=h
theorem Y9 {p q:Prop} (k:q) (h:Mhid q→p:=by
 intro hq
 obtain⟨W,hW,rx,rz,hB,hz⟩:=alloc2 w 83 #[.bool (au x).neg,.slice A (au x).num.length c,.slice B (au x).den.length d] 83 #[.bool false,.slice none 0 0,.slice none 0 0]
 rw[← hW]
 clear hW
 replace HX:=Ag (HX.out.on (Below.same' hB _))
 revert HX
 revert hz
 revert hB
 revert rz
 revert rx
 revert W
 exact hq.out):p:=h ⟨k⟩
theorem zaa {p q:Prop} (k:q) (h:Mhid q→p:=by
 intro hq
 refine⟨.slice A' (g.nodes.length - nx) (c - nx),by rw[HF.out]; simp,by rw[HF.out]; intro _; exact⟨A',aA,by simpa using hA'⟩,?_,(hgr.setCell (.inl (.inr (.inr rfl))) _).drew⟩
 rw[HF.out]
 have h:=HWA.out
 refine⟨(h.head.other d3 _).drew,(h.rp.other d5 _).drew,(h.rd.other d6 _).drew,?_⟩
 have:=(h.rl.set a (.int .i64 ((nx:Int) - 1))).drew
 revert this
 revert h
 exact hq.out):p:=h ⟨k⟩
theorem zac {p q:Prop} (k:q) (h:Mhid q→p:=by
 intro hq
 have hlen:=kP (N:=g.nodes.length) g.nodes (g.nodes.length+1) 0 (-1) 0 ⟨List.replicate g.nodes.length 0,List.replicate g.nodes.length 0,List.replicate g.nodes.length 0⟩ ⟨aA,aA,aA⟩
 have hT:walkT g=bV g.nodes (g.nodes.length+1) 0 (-1) 0 ⟨List.replicate g.nodes.length 0,List.replicate g.nodes.length 0,List.replicate g.nodes.length 0⟩:=rfl
 revert hT
 revert hlen
 exact hq.out):p:=h ⟨k⟩
theorem zad {p q:Prop} (k:q) (h:Mhid q→p:=by
 intro hq
 have hz:w.heap.size+3≤W.heap.size:=hz
 refine Zv ?_
 revert hz
 exact hq.out):p:=h ⟨k⟩
theorem zae {p q:Prop} (k:q) (h:Mhid q→p:=by
 intro hq
 show Exit.inBlock _ _ .normal _ _
 exact hq.out):p:=h ⟨k⟩
theorem zaf {p:Prop} (h:p:=by
 exact⟨_,rfl,hwz _ _ (Nat.le_refl _) hB,(HM.out.on (hkz _ byOmega)).mono (fun b hb _=>by omega)⟩):p:=h
theorem zah {p:Prop} (h:p:=by
 have hrows:=HO.out.rows (G:=Ext F w.heap.size) (fun b h=>h) (fun b h=>.inr byOmega)
 rw[HLM.out,List.take_of_length_le byOmega] at hrows
 have HRW:=Ag hrows
 have HBF:=Ag (HB.out.trans (hbel.mono hWz))
 clear hrows HO hol hbel
 go_wp2
 go_ret
 exact⟨_,rfl,HBF.out,HRW.out⟩):p:=h
theorem zai {p q:Prop} (k:q) (h:Mhid q→p:=by
 intro hq
 have hHeld:(fun w':World=>w'.cell? ⟨w.heap.size,0,none⟩=some (.bool (ak x).neg)∧w'.cell? ⟨w.heap.size,1,none⟩=some (.slice A (ak x).num.length c)∧w'.cell? ⟨w.heap.size,2,none⟩=some (.slice B (ak x).den.length d)) W.drew:=⟨x0,x1,x2⟩
 refine ZJ ?_
 have hb:Below W.heap.size W W.drew:=aH (Below.refl _ W) 1
 refine ZN ?_
 revert hb
 revert hHeld
 exact hq.out):p:=h ⟨k⟩
theorem zam {p:Prop} (h:p:=by
 go_wp2
 go_ret
 exact⟨_,rfl,aH hbel _,by rw[HF.out]; rfl⟩):p:=h
theorem zao {p q:Prop} (k:q) (h:Mhid q→p:=by
 intro hq
 obtain⟨W,hW⟩:∃ W:World,W=wr.alloc (.cells #[.int .i64 n.kind,.int .i64 n.aJ,.int .i64 n.info,.slice A3 n.next.length c3,.slice A4 n.weights.length c4,.slice A5 n.pay.length c5] 61):=⟨_,rfl⟩
 rw[← hW]
 have cx:W.cell? ⟨wr.heap.size,2,none⟩=some (.int .i64 n.info):=by rw[hW];simp
 have hWz:W.heap.size=wr.heap.size+1:=by rw[hW];simp
 revert hWz
 revert cx
 revert hW
 revert W
 exact hq.out):p:=h ⟨k⟩
theorem zaq {p q:Prop} (k:q) (h:Mhid q→p:=by
 intro hq
 refine ZL ?_
 intro rz hz hB hHeld
 refine ZF ?_
 clear hHeld
 refine Zn ?_
 revert hB
 revert hz
 revert rz
 exact hq.out):p:=h ⟨k⟩
theorem zat {p:Prop} (h:p:=by
 exact⟨_,rfl,(Below.refl _ _).alloc (Nat.le_refl _) _,.pointer none,by rw[HF.out]; rfl,by rw[HF.out]; intro h; simp at h⟩):p:=h
theorem zau {p q:Prop} (k:q) (h:Mhid q→p:=by
 intro hq
 have hu2:RtV wn (Ext (Old F w.heap.size) (w.heap.size+3)) vm (x+y):=by rw[HJ.out] at hu;exact hu.mono (fun b hb _=>hb.elim id fun h=>.inr byOmega)
 have HM:=Ag hu2
 revert HM
 revert hu2
 exact hq.out):p:=h ⟨k⟩
theorem zav {p q:Prop} (k:q) (h:Mhid q→p:=by
 intro hq
 refine Zx ?_
 intro rz hz hB
 dsimp only
 revert hB
 revert hz
 revert rz
 exact hq.out):p:=h ⟨k⟩
theorem zaw {p q:Prop} (k:q) (h:Mhid q→p:=by
 intro hq
 replace rx:=rx.below hb rx.lt
 replace hB:=hB.trans (hb.mono hB.size)
 revert hB
 revert rx
 exact hq.out):p:=h ⟨k⟩
theorem zax {p q:Prop} (k:q) (h:Mhid q→p:=by
 intro hq
 replace HO3:=Ag (HO3.out.below hb)
 replace hBe:=hBe.trans (hb.mono hBe.size)
 revert hBe
 revert HO3
 exact hq.out):p:=h ⟨k⟩
theorem zay {p q:Prop} (k:q) (h:Mhid q→p:=by
 intro hq
 have HNX:=Ag (Ak.mono (n:=x.num.natAbs) (G:=Old F w.heap.size) hn (fun b hb _=>hb))
 have HDX:=Ag (Ak.mono (n:=x.den) (G:=Old F w.heap.size) hd (fun b hb _=>hb))
 revert HDX
 revert HNX
 exact hq.out):p:=h ⟨k⟩
theorem zaz {p q:Prop} (k:q) (h:Mhid q→p:=by
 intro hq
 have HG:=Ag (hg.keep (G:=fun _=>True) (fun _ _ _=>trivial) (Same.refl _ _))
 have HA:=Ag (Ah.keep (G:=fun _=>True) ha (fun _ _ _=>trivial) (Same.refl _ _))
 revert HA
 revert HG
 exact hq.out):p:=h ⟨k⟩
theorem zaC {p q:Prop} (k:q) (h:Mhid q→p:=by
 intro hq
 have f25:=aI (f:=(Fact.eq (.bool true))) (hf (25,v25) aA aj) rfl
 revert f25
 exact hq.out):p:=h ⟨k⟩
theorem zaD {p:Prop} (h:p:=by
 go_wp2
 go_ret
 exact⟨by first | rfl | (rw[HF.out]; rfl),rfl⟩):p:=h
theorem zaF {p q:Prop} (k:q) (h:Mhid q→p:=by
 intro hq
 try simp only[Act.put,List.setIfInBounds_toArray,List.set_cons_zero,List.set_cons_succ]
 exact hq.out):p:=h ⟨k⟩
theorem zaG {p:Prop} (h:p:=by
 go_wp2
 go_ret
 exact⟨_,rfl,aH (hbel.alloc hbel.size _) _,by rw[HF.out]; rfl⟩):p:=h
theorem zaJ {p:Prop} (h:p:=by
 go_wp2
 go_ret
 exact⟨_,rfl,hB.trans (hbel.mono hB.size),by rw[HE.out]; rfl⟩):p:=h
theorem zaK {p q:Prop} (k:q) (h:Mhid q→p:=by
 intro hq
 have hb:Below wn.heap.size wn wn.drew:=aH (Below.refl _ wn) 1
 revert hb
 exact hq.out):p:=h ⟨k⟩
theorem zaL {p q:Prop} (k:q) (h:Mhid q→p:=by
 intro hq
 have HO:=Ag (show gy x=0 by unfold gy; rw[if_neg byOmega])
 have HR:=Ag (show dH x=au x by unfold dH; rw[if_neg byOmega])
 have l1:=eY x
 have l2:=fA x
 have l3:=xU x
 have h1:(ak x).num.length≤1024:=by rw[l7];omega
 have h2:(ak x).den.length≤1024:=byOmega
 have d1:decide ((1024:Int) < ((ak x).num.length:Int))=false:=aC
 have d2:decide ((1024:Int) < ((ak x).den.length:Int))=false:=aC
 revert d2
 revert d1
 revert h2
 revert h1
 revert l3
 revert l2
 revert l1
 revert HR
 revert HO
 exact hq.out):p:=h ⟨k⟩
theorem zaO {p:Prop} (h:p:=by
 have HF:=Ag (show dY aF ni x=3 by unfold dY; rw[if_pos byOmega])
 exact Zu):p:=h
theorem zaP {p:Prop} (h:p:=by
 refine Row.alloc ?_ _
 exact Row.uY aA rfl):p:=h
theorem zaR {p q:Prop} (k:q) (h:Mhid q→p:=by
 intro hq
 have HRL:(au x).num.length=(dig x.num.natAbs).length∧(au x).den.length=(dig x.den).length:=⟨rfl,rfl⟩
 clear HRL
 exact hq.out):p:=h ⟨k⟩
theorem zaU {p:Prop} (h:p:=by
 have t3:((den.length:Int)==0)=false:=beq_false_of_ne byOmega
 have HE:=Ag (show dM num den=0 by rw[HP.out,if_neg (by simpa using h1),if_neg (by simpa using h2),if_neg h3])
 clear h1 h2 h3
 exact ZP):p:=h
theorem zaW {p q:Prop} (k:q) (h:Mhid q→p:=by
 intro hq
 unfold RtV
 rw[HM.out]
 have hg0:0 < Nat.gcd n b:=Nat.gcd_pos_of_pos_right _ byOmega
 have HGN:=Ag (Nat.gcd_dvd_left n b)
 have HG:=Ag (show ∀ w,Calls Tryz.prog 143 #[.int .i64 (n:Int),.int .i64 (b:Int)] w (Ret w fun v _=>v = .int .i64 (Nat.gcd n b:Int)) from fun w=>agk w n b h1 h2)
 revert HG
 revert HGN
 revert hg0
 exact hq.out):p:=h ⟨k⟩
theorem zaZ {p q:Prop} (k:q) (h:Mhid q→p:=by
 intro hq
 obtain⟨Wz,hWz,hrz,hwz,hkz⟩:=bH rz (.bool false) (.slice none 0 0) (.slice none 0 0)
 refine Zh ?_
 clear hWz
 revert hkz
 revert hwz
 revert hrz
 revert Wz
 exact hq.out):p:=h ⟨k⟩
theorem za3 {p q:Prop} (k:q) (h:Mhid q→p:=by
 intro hq
 have hb:Below W.heap.size W W.drew:=aH (Below.refl _ W) 1
 revert hb
 exact hq.out):p:=h ⟨k⟩
theorem za4 {p q:Prop} (k:q) (h:Mhid q→p:=by
 intro hq
 have HN:=Ag (hu.mono (G:=(fun b=>w.heap.size+1≤b)) (fun b hb _=>by omega))
 refine Yn ?_
 intro hr hz hB
 dsimp only
 revert hB
 revert hz
 revert hr
 revert HN
 exact hq.out):p:=h ⟨k⟩
theorem za6 {p:Prop} (h:p:=by
 have t3:((den.length:Int)==0)=true:=by rw[h3];rfl
 have HE:=Ag (show dM num den=6 by rw[HP.out,if_neg (by simpa using h1),if_neg (by simpa using h2),if_pos h3])
 clear h1 h2 h3
 exact ZP):p:=h
theorem za7 {p:Prop} (h:p:=by
 refine⟨_,rfl,(h.set 0 a0).set 1 a1,?_⟩
 have h0:Wrote (fun k=>k=b) w w:=Wrote.refl _ _
 exact(h0.setCell (p:=⟨b,0,none⟩) (.inl rfl) a0).setCell (p:=⟨b,1,none⟩) (.inl rfl) a1):p:=h
theorem za8 {p:Prop} (h:p:=by
 go_in
 go_wp2
 go_ret
 exact⟨_,rfl,(Below.refl _ _).alloc (Nat.le_refl _) _,by rw[HE.out]; rfl⟩):p:=h
theorem za9 {p q:Prop} (k:q) (h:Mhid q→p:=by
 intro hq
 obtain⟨x0,x1⟩:=aeo k _ hr1
 obtain⟨y0,y1⟩:=zZ k _ hr2
 replace x0:=ah x0 hbel
 replace x1:=ah x1 hbel
 replace y0:=ah y0 hbel
 replace y1:=ah y1 hbel
 revert y1
 revert y0
 revert x1
 revert x0
 exact hq.out):p:=h ⟨k⟩
theorem zbb {p:Prop} (h:p:=by
 obtain⟨A,c,rfl,hc,hr⟩:=h
 obtain⟨b,o,rfl,hF,hb,hcell⟩:=hr (by have:=aK hk; omega)
 obtain⟨u,e0,i⟩:=hcell k l hk
 rw[Nat.mul_one] at e0
 exact⟨b,o,c,u,rfl,hF,hb,e0,i⟩):p:=h
theorem zbc {p q:Prop} (k:q) (h:Mhid q→p:=by
 intro hq
 have t0:decide ((k:Int) < g.aF)=false:=decide_eq_false (by rw[HP.out]; omega)
 have hpf:lI g P=true:=by rw[← HPA.out];congr 1;omega
 have HE:=Ag (show nI g=0 by unfold nI; rw[HPT.out,hpf]; rfl)
 have HO:=Ag (show jJ g=aS g by unfold jJ; rw[HPT.out,hpf]; rfl)
 clear hpf
 revert HO
 revert HE
 revert t0
 exact hq.out):p:=h ⟨k⟩
theorem zbg {p q:Prop} (k:q) (h:Mhid q→p:=by
 intro hq
 refine hK.out _ _ ⟨(HWA.out.head.other (a:=⟨bl,a,none⟩) d3 _).drew.cell rfl,(HWA.out.head.other (a:=⟨bl,a,none⟩) d3 _).drew.cell rfl⟩ (fun hHeld=>?_)
 refine Zb ?_
 refine YF ?_
 clear hHeld
 exact hq.out):p:=h ⟨k⟩
theorem zbh {p q:Prop} (k:q) (h:Mhid q→p:=by
 intro hq
 rw[Nat.mul_one] at hvr
 have nJ:=AL.keep (G:=Old F w.heap.size) hra (fun b hb hl=>⟨hb,hl⟩) (Same.refl _ _)
 revert nJ
 revert hvr
 exact hq.out):p:=h ⟨k⟩
theorem zbi {p q:Prop} (k:q) (h:Mhid q→p:=by
 intro hq
 have y0:=ry.cell (i:=0) rfl
 have y1:=ry.cell (i:=1) rfl
 have y2:=ry.cell (i:=2) rfl
 revert y2
 revert y1
 revert y0
 exact hq.out):p:=h ⟨k⟩
theorem zbk {p q:Prop} (k:q) (h:Mhid q→p:=by
 intro hq
 replace HNX:=Ag (HNX.out.below hb)
 replace HDX:=Ag (HDX.out.below hb)
 revert HDX
 revert HNX
 exact hq.out):p:=h ⟨k⟩
theorem zbn {p:Prop} (h:p:=by
 refine(aa1 W _ s.1 s.2 h0).mono ?_
 rintro e w' ⟨u,rfl,hb,hu⟩
 refine⟨u,rfl,hb,?_⟩
 unfold gX
 rw[if_pos h0]
 have:=hm.size
 exact hu.mono fun b hb _=>.inr byOmega):p:=h
theorem zbq {p:Prop} (h:p:=by
 have t1:(pe != 0)=true:=by simp[h1]
 have HE:=Ag (show dZ ⟨neg,num,den⟩=pe by rw[HR.out,if_pos h1])
 clear h1
 go_wp2
 go_ret
 exact⟨_,rfl,hB,by rw[HE.out]; rfl⟩):p:=h
theorem zbr {p q:Prop} (k:q) (h:Mhid q→p:=by
 intro hq
 refine Yu ?_
 intro HNX
 have HDX:=Ag (Ak.mono (n:=x.den) (G:=(Ext (Old F w.heap.size) (w.heap.size+3))) hd (fun b hb _=>.inl hb))
 revert HDX
 revert HNX
 exact hq.out):p:=h ⟨k⟩
theorem zbs {p q:Prop} (k:q) (h:Mhid q→p:=by
 intro hq
 refine Z8 ?_
 intro HNY
 have HDY:=Ag (Ak.mono (n:=y.den) (G:=(Ext (Old F w.heap.size) (w.heap.size+3))) hd (fun b hb _=>.inl hb))
 revert HDY
 revert HNY
 exact hq.out):p:=h ⟨k⟩
theorem zbt {p:Prop} (h:p:=by
 exact⟨_,rfl,hwz _ _ (Nat.le_refl _) hB,_,_,rfl,(HN.out.on (hkz _ byOmega)).mono (fun b hb _=>by omega),(HD.out.on (hkz _ byOmega)).mono (fun b hb _=>by omega)⟩):p:=h
theorem zbu {p q:Prop} (k:q) (h:Mhid q→p:=by
 intro hq
 have HDY:=Ag (hu.mono (G:=(Ext (Old F w.heap.size) (w.heap.size+3))) (fun b hb _=>hb.elim .inl fun h=>.inr byOmega))
 revert HDY
 exact hq.out):p:=h ⟨k⟩
theorem zbw {p:Prop} (h:p:=by
 exact⟨[],⟨none,0,rfl,Nat.le_refl _,fun h=>absurd h aA⟩,fun x hx=>by cases hx⟩):p:=h
theorem zby {p q:Prop} (k:q) (h:Mhid q→p:=by
 intro hq
 replace hs1:=hs1.below hb hs1.lt
 replace ht1:=ht1.below hb ht1.lt
 replace hB:=hB.trans (hb.mono hB.size)
 revert hB
 revert ht1
 revert hs1
 exact hq.out):p:=h ⟨k⟩
theorem zbz {p q:Prop} (k:q) (h:Mhid q→p:=by
 intro hq
 have HF:=Ag (show dB x=3 by unfold dB; rw[if_pos byOmega])
 revert HF
 exact hq.out):p:=h ⟨k⟩
theorem zbA {p q:Prop} (k:q) (h:Mhid q→p:=by
 intro hq
 have hz:w.heap.size+2≤W.heap.size:=hz
 refine Ze ?_
 revert hz
 exact hq.out):p:=h ⟨k⟩
theorem zbC {p:Prop} (h:p:=by
 rw[List.erase_cons_tail (by simpa using hji)]
 simp only[l9,Bool.and_eq_true,List.all_eq_true]
 exact⟨fun k hk=>hok.1 k (List.mem_of_mem_erase hk),ih hok.2⟩):p:=h
theorem zbD {p:Prop} (h:p:=by
 go_wp2
 go_ret
 exact⟨by rw[HF.out]; rfl,rfl⟩):p:=h
theorem zbE {p:Prop} (h:p:=by
 rintro e w' ⟨_,rfl,hb,rfl⟩
 exact hK.out _ _ hb (by rw[decide_eq_true rfl]; rfl)):p:=h
theorem zbJ {p:Prop} (h:p:=by
 refine(gJ wk 3 4 ay ay ay ay).mono ?_
 rintro e w' ⟨u,rfl,hb,hu⟩
 exact hK.out _ _ hb (show AA _ _ _ p3 by rw[HP3.out]; exact hu.mono fun _ _ _=>trivial)):p:=h
theorem zbK {p:Prop} (h:p:=by
 refine(gJ wk 1 4 ay ay ay ay).mono ?_
 rintro e w' ⟨u,rfl,hb,hu⟩
 exact hK.out _ _ hb (show AA _ _ _ p1 by rw[HP1.out]; exact hu.mono fun _ _ _=>trivial)):p:=h
theorem zbL {p:Prop} (h:p:=by
 have t1:(fe != 0)=true:=by simp[h0]
 have HF:=Ag (HE.out.trans (if_pos h0))
 clear h0 hact
 dsimp only
 go_wp2
 go_ret
 exact⟨_,rfl,hB1,by rw[HF.out]; rfl⟩):p:=h
theorem zbN {p:Prop} (h:p:=by
 have HF:=Ag (show bP g=2 by unfold bP; rw[if_pos (by unfold iZ; omega)])
 exact Zu):p:=h
theorem zbP {p:Prop} (h:p:=by
 have HE:=Ag (show dG l=4 by unfold dG; rw[if_pos h1])
 have d1:decide ((1024:Int) < (l.length:Int))=true:=decide_eq_true byOmega
 clear h1
 go_in
 exact ZP):p:=h
theorem zbQ {p:Prop} (h:p:=by
 have:=OwnRows.rows (F:=fun b=>w.heap.size≤b) hown hrow byOmega (fun _ _=>by omega) (c:=g.infos.length) (by rw[dh]; omega)
 rw[dh] at this
 exact this):p:=h
theorem zbR {p q:Prop} (k:q) (h:Mhid q→p:=by
 intro hq
 refine ZJ ?_
 have hb:Below W7.heap.size W7 W7.drew:=aH (Below.refl _ W7) 1
 obtain⟨wn,hwn⟩:=named W7.drew
 rw[← hwn] at hb hHeld ⊢
 have hzn:=hb.size
 replace HM:=Ag (HM.out.below hb)
 revert HM
 revert hzn
 revert hHeld
 revert hb
 revert hwn
 revert wn
 exact hq.out):p:=h ⟨k⟩
theorem zbS {p q:Prop} (k:q) (h:Mhid q→p:=by
 intro hq
 have HEE:=Ag (show abf g (a.map (List.map au)) (b.map (List.map au)) (au t)=jy R.flatten by rw[Ei.out,DC.out])
 have HOO:=Ag (show mG g (a.map (List.map au)) (b.map (List.map au)) (au t)=nH R by rw[Ej.out,DC.out])
 revert HOO
 revert HEE
 exact hq.out):p:=h ⟨k⟩
theorem zbT {p:Prop} (h:p:=by
 dsimp only
 go_wp2_with fail
 refine(ad9 w).mono ?_
 rintro e w1 ⟨v,rfl,hb1,hv⟩
 have HV:=Ag hv
 clear hv
 go_wp2
 go_ret
 exact⟨_,rfl,hb1,HV.out⟩):p:=h
theorem zbU {p q:Prop} (k:q) (h:Mhid q→p:=by
 intro hq
 have HR:=Ag (show dZ r=if dM r.num r.den≠0 then dM r.num r.den else if (r.num.length=0∧r.neg=true)∨Nat.gcd (aG r.num) (aG r.den)≠1 then 3 else 0 from rfl)
 have HU:=Ag hu
 have HK:=Ag (fun h=>sW (num:=r.num) (den:=r.den) h)
 revert HK
 revert HU
 revert HR
 exact hq.out):p:=h ⟨k⟩
theorem zbV {p:Prop} (h:p:=by
 exact⟨_,rfl,hwz _ _ byOmega hB,by rw[HZ.out]; exact NmV.zero _ _ _ _ _ _⟩):p:=h
theorem zbW {p q:Prop} (k:q) (h:Mhid q→p:=by
 intro hq
 obtain⟨Wz,hWz,hrz,hwz,hkz⟩:=bH rz (.bool (au (x+y)).neg) (.slice Am (au (x+y)).num.length cm) (.slice Bm (au (x+y)).den.length dm)
 refine Zh ?_
 clear hWz
 revert hkz
 revert hwz
 revert hrz
 revert Wz
 exact hq.out):p:=h ⟨k⟩
theorem zbZ {p q:Prop} (k:q) (h:Mhid q→p:=by
 intro hq
 have HD:=Ag (hu.mono (G:=(fun b=>w.heap.size+1≤b)) (fun b hb _=>by omega))
 replace HN:=Ag (HN.out.below hb)
 refine Yn ?_
 revert HN
 revert HD
 exact hq.out):p:=h ⟨k⟩
theorem zb3 {p q:Prop} (k:q) (h:Mhid q→p:=by
 intro hq
 have d0:((l1.length:Int) != (l2.length:Int))=false:=aC
 have Q0:=Ag q0
 revert Q0
 revert d0
 exact hq.out):p:=h ⟨k⟩
theorem zb5 {p:Prop} (h:p:=by
 have t2:(e2 != 0)=true:=by simp[h2]
 have HE:=Ag (show dM num den=e2 by rw[HP.out,if_neg (by simpa using h1),if_pos h2])
 clear h1 h2
 exact ZP):p:=h
theorem zb6 {p q:Prop} (k:q) (h:Mhid q→p:=by
 intro hq
 have t1:(pe != 0)=false:=by rw[h1];rfl
 have hk:=HK.out h1
 have hnn:Ak W F (.slice A num.length c) (aG num):=by unfold Ak;rw[← hk.1];exact HN.out
 have hdd:Ak W F (.slice B den.length d) (aG den):=by unfold Ak;rw[← hk.2.1];exact HD.out
 revert hdd
 revert hnn
 revert hk
 revert t1
 exact hq.out):p:=h ⟨k⟩
theorem zb7 {p q:Prop} (k:q) (h:Mhid q→p:=by
 intro hq
 refine zax ?_
 intro HO3 hBe
 dsimp only
 refine hK.out _ _ ⟨u0,u1,u2,t0,t1,t2,m1,m2,y0,y1,y2,z0,z1,z2⟩ (fun hHeld=>?_)
 refine Zb ?_
 revert hHeld
 revert hBe
 revert HO3
 exact hq.out):p:=h ⟨k⟩
theorem zb8 {p q:Prop} (k:q) (h:Mhid q→p:=by
 intro hq
 rw[Array.getElem?_setIfInBounds,Array.getElem?_push,Array.getElem?_push,Array.getElem?_setIfInBounds]
 simp only[Array.size_push,Array.size_setIfInBounds]
 exact hq.out):p:=h ⟨k⟩
theorem zb9 {p:Prop} (h:p:=by
 rw[List.take_of_length_le byOmega,List.length_map,hbl] at hrw
 have HRW:=Ag hrw
 clear hrw hbl HM
 go_wp2
 go_ret
 exact⟨_,rfl,hB,HRW.out⟩):p:=h
theorem zca {p:Prop} (h:p:=by
 refine⟨k+1,byOmega,by go_num,?_,hbel.drew.trans (hb.mono hbel.size)⟩
 have e2:=HY.out
 rw[← HEQ.out] at e2
 exact oD HX.out e2 HP.out):p:=h
theorem zcb {p:Prop} (h:p:=by
 rintro e w2 ⟨_,rfl,hb2,rfl⟩
 have hB2:=hB1.trans (hb2.mono hB1.size)
 rw[← HF.out]
 dsimp only
 go_wp2
 go_ret
 exact⟨_,rfl,hB2,rfl⟩):p:=h
theorem zcc {p q:Prop} (k:q) (h:Mhid q→p:=by
 intro hq
 have u0:=HST.out.pF.cell (i:=0) rfl
 have u1:=HST.out.pF.cell (i:=1) rfl
 have u2:=HST.out.pF.cell (i:=2) rfl
 have HUB:=Ag HST.out.pF
 revert HUB
 revert u2
 revert u1
 revert u0
 exact hq.out):p:=h ⟨k⟩
theorem zce {p q:Prop} (k:q) (h:Mhid q→p:=by
 intro hq
 have HF:=Ag (show iH aF x=3 by unfold iH; rw[if_pos byOmega])
 revert HF
 exact hq.out):p:=h ⟨k⟩
theorem zcg {p q:Prop} (k:q) (h:Mhid q→p:=by
 intro hq
 replace hB:=hB.trans (hb.mono hB.size)
 dsimp only
 revert hB
 exact hq.out):p:=h ⟨k⟩
theorem zch {p q:Prop} (k:q) (h:Mhid q→p:=by
 intro hq
 refine ZJ ?_
 have hb:Below wb.heap.size wb wb.drew:=aH (Below.refl _ wb) 1
 revert hb
 exact hq.out):p:=h ⟨k⟩
theorem zci {p q:Prop} (k:q) (h:Mhid q→p:=by
 intro hq
 have g0:wk.cell? ⟨zb,0,none⟩=some (.bool q0.neg):=hS.1
 have g1:wk.cell? ⟨zb,1,none⟩=some (.slice A0 q0.num.length c0):=hS.2.1
 have g2:wk.cell? ⟨zb,2,none⟩=some (.slice B0 q0.den.length d0):=hS.2.2.1
 revert g2
 revert g1
 revert g0
 exact hq.out):p:=h ⟨k⟩
theorem zcj {p q:Prop} (k:q) (h:Mhid q→p:=by
 intro hq
 have k3:=((hWo.alloc _).drew).put HV.out hown1 hgrow rfl hat
 have k4:Below w.heap.size w w1:=((hWb.alloc byOmega _).drew).grown hgrow aC (fun k hk=>by have:=hnb k hk; omega)
 have rv1:=k2.cell HV.out
 have fv1:=k2.frozen n.info.toNat
 revert fv1
 revert rv1
 revert k4
 revert k3
 exact hq.out):p:=h ⟨k⟩
theorem zck {p q:Prop} (k:q) (h:Mhid q→p:=by
 intro hq
 have HX:=Ag ha.old
 have HY:=Ag hb.old
 revert HY
 revert HX
 exact hq.out):p:=h ⟨k⟩
theorem zcl {p q:Prop} (k:q) (h:Mhid q→p:=by
 intro hq
 have HMM:=Ag (abh (s:=sr) (t:=t) (B:=130) HFR.out.2 (fun l hl x hx=>by have:=(HMA.out l hl).2 x hx; omega) (fun l hl x hx=>by have:=(HMB.out l hl).2 x hx; omega) byOmega byOmega)
 revert HMM
 exact hq.out):p:=h ⟨k⟩
theorem zcm {p q:Prop} (k:q) (h:Mhid q→p:=by
 intro hq
 replace HZ:=Ag (Ah.on HZ.out (Below.same' hb _))
 refine Zd ?_
 revert HZ
 exact hq.out):p:=h ⟨k⟩
theorem zcr {p q:Prop} (k:q) (h:Mhid q→p:=by
 intro hq
 have fl:=HWA.out.rl.frozen a
 obtain⟨yl,hyl⟩:=aB (show a < t'.l.length by rw[hlen.l]; exact hlt)
 have sl:wr.cell? ⟨bl,a,none⟩=some (.int .i64 yl):=HWA.out.rl.cell (by simp[kQ,hyl])
 clear hyl
 refine tk2 16 aj rfl fun K hK=>?_
 revert hK
 revert K
 revert sl
 revert yl
 revert fl
 exact hq.out):p:=h ⟨k⟩
theorem zcy {p q:Prop} (k:q) (h:Mhid q→p:=by
 intro hq
 replace o0:=ah o0 hb
 replace o1:=ah o1 hb
 replace o2:=ah o2 hb
 replace HRA:=Ag (HRA.out.below hb)
 replace BA:=Ag (BA.out.below hb)
 revert BA
 revert HRA
 revert o2
 revert o1
 revert o0
 exact hq.out):p:=h ⟨k⟩
theorem zcz {p q:Prop} (k:q) (h:Mhid q→p:=by
 intro hq
 replace hcu:=ah hcu hb
 replace f0:=ah f0 hb
 replace f1:=ah f1 hb
 replace f2:=ah f2 hb
 refine ZN ?_
 revert f2
 revert f1
 revert f0
 revert hcu
 exact hq.out):p:=h ⟨k⟩
theorem zcA {p q:Prop} (k:q) (h:Mhid q→p:=by
 intro hq
 have ajz:=hok.1 i hi'
 obtain⟨x,hx⟩:∃ x,ops[j]? = some x:=⟨ops[j]'(hlt j aA),by simp[hlt j aA]⟩
 obtain⟨y,hy⟩:∃ y,ops[i]? = some y:=⟨ops[i]'(hlt i hi),by simp[hlt i hi]⟩
 obtain⟨f1,f2,f3⟩:=ad2 hx hy ajz
 have f3':=f3 (uQ j aA)
 have ex:gW ops j=x.dst:=by simp[gW,hx]
 have ey:gW ops i=y.dst:=by simp[gW,hy]
 revert ey
 revert ex
 revert f3'
 revert f3
 revert f2
 revert f1
 revert hy
 revert y
 revert hx
 revert x
 revert ajz
 exact hq.out):p:=h ⟨k⟩
theorem zcB {p:Prop} (h:p:=by
 have d3:((x:Int)==0)=false:=beq_false_of_ne byOmega
 have HE:=Ag (show dG l=0 by rw[HX.out,if_neg hz])
 clear hz
 exact ZP):p:=h
theorem zcD {p:Prop} (h:p:=by
 rintro e w' ⟨u,rfl,hb,hu⟩
 exact hK.out _ _ hb (Ah.keep (G:=(fun _=>True)) hu (fun _ _ _=>trivial) (Same.refl _ _))):p:=h
theorem zcE {p q:Prop} (k:q) (h:Mhid q→p:=by
 intro hq
 have x0:=r7.cell (i:=0) rfl
 have x1:=r7.cell (i:=1) rfl
 have x2:=r7.cell (i:=2) rfl
 revert x2
 revert x1
 revert x0
 exact hq.out):p:=h ⟨k⟩
theorem zcH {p q:Prop} (k:q) (h:Mhid q→p:=by
 intro hq
 have HXV:=Ag (AA.mono (AA.make (r:=au x) rfl hn hd) (G:=fun b=>(Old F w.heap.size b∨wa.heap.size≤b)∧b≠ub) (fun b hb _=>⟨.inl hb,by have:=hb.2; omega⟩))
 revert HXV
 exact hq.out):p:=h ⟨k⟩
theorem zcJ {p q:Prop} (k:q) (h:Mhid q→p:=by
 intro hq
 have dx:decide (x=0)=false:=decide_eq_false hx0
 have dy:decide (y=0)=false:=decide_eq_false hy0
 have lx:=eY x
 revert lx
 revert dy
 revert dx
 exact hq.out):p:=h ⟨k⟩
theorem zcK {p:Prop} (h:p:=by
 have h1:=rV (iW HF.out).1 (List.mem_of_getElem? HNN.out) hk2
 have h2:=HP.out
 exact⟨n.aJ.toNat,byOmega,byOmega⟩):p:=h
theorem zcL {p q:Prop} (k:q) (h:Mhid q→p:=by
 intro hq
 obtain⟨hin0,hin1⟩:=HIN.out n (List.mem_of_getElem? HX.out) hkd
 have hd:(n.kind==2)=true:=by simp[hkd]
 have HKD:=Ag hkd
 obtain⟨l,hl⟩:=aB (l:=fD g.nodes g.infos.length k) (k:=n.info.toNat) (by rw[dh]; omega)
 obtain⟨v,hv⟩:=aB (l:=vs) (k:=n.info.toNat) (by rw[hown.len,dh]; omega)
 revert hv
 revert v
 revert hl
 revert l
 revert HKD
 revert hd
 revert hin1
 revert hin0
 exact hq.out):p:=h ⟨k⟩
theorem zcO {p q:Prop} (k:q) (h:Mhid q→p:=by
 intro hq
 rw[show(List.map (List.map au) _).length=3 from rfl] at e
 revert e
 exact hq.out):p:=h ⟨k⟩
theorem zcQ {p q:Prop} (k:q) (h:Mhid q→p:=by
 intro hq
 have hS:∀ (G:Aj),(∀ b,G b→b≠bo)→Same G wr (wr.setCell ⟨bo,k,none⟩ v):=fun G hG=>Same.setCell G wr (p:=⟨bo,k,none⟩) (fun h=>hG bo h rfl) _
 revert hS
 exact hq.out):p:=h ⟨k⟩
theorem zcT {p:Prop} (h:p:=by
 have t1:(e1 != 0)=true:=by simp[h1]
 have HE:=Ag (show dM num den=e1 by rw[HP.out,if_pos h1])
 clear h1
 exact ZP):p:=h
theorem zcV {p q:Prop} (k:q) (h:Mhid q→p:=by
 intro hq
 replace HG:=Ag (HG.out.on (Below.same' hB F))
 revert HG
 exact hq.out):p:=h ⟨k⟩
theorem zcW {p q:Prop} (k:q) (h:Mhid q→p:=by
 intro hq
 replace HG:=Ag (HG.out.on (Below.same' hb _))
 revert HG
 exact hq.out):p:=h ⟨k⟩
theorem zcZ {p:Prop} (h:p:=by
 have d3:((x:Int)==0)=true:=by rw[hz];rfl
 have HE:=Ag (show dG l=3 by rw[HX.out,if_pos hz])
 clear hz
 exact ZP):p:=h
theorem zc0 {p:Prop} (h:p:=by
 exact⟨_,rfl,HBF.out,_,by rw[Dk.out]; rfl,by rw[HU.out,if_pos (by rw[Dk.out]; decide)]; exact Ah.nil _ _⟩):p:=h
theorem zc1 {p:Prop} (h:p:=by
 exact⟨_,rfl,hB,_,by rw[HME.out,HF.out,if_pos ay]; rfl,by rw[HMO.out,HF.out,if_pos ay]; exact Ah.nil _ _⟩):p:=h
theorem zc4 {p q:Prop} (k:q) (h:Mhid q→p:=by
 intro hq
 have d2:((l.length:Int) != inf.actions)=true:=aC
 have h3:lM inf.actions l=3:=by unfold lM;rw[if_pos hact]
 have HE:=Ag ((kS HLE.out HP.out HK.out HL.out (by rw[h3]; decide)).trans h3)
 revert HE
 revert h3
 revert d2
 exact hq.out):p:=h ⟨k⟩
theorem zc5 {p q:Prop} (k:q) (h:Mhid q→p:=by
 intro hq
 have H4:=Ag (AB.mono (G:=(fun b=>w.heap.size+2≤b)) hu (fun b hb _=>by omega))
 rw[h4]
 revert H4
 exact hq.out):p:=h ⟨k⟩
theorem zc8 {p q:Prop} (k:q) (h:Mhid q→p:=by
 intro hq
 rw[hgrow.cell_far _ aC (fun e=>by have:=(HO.out.lt _ e.symm).2; simp at this),World.cell?_drew,World.cell?_alloc_lt _ _ _ aC]
 exact hq.out):p:=h ⟨k⟩
theorem zc9 {p q:Prop} (k:q) (h:Mhid q→p:=by
 intro hq
 show wpList _ _ _ _ _ _
 exact hq.out):p:=h ⟨k⟩
theorem zda {p q:Prop} (k:q) (h:Mhid q→p:=by
 intro hq
 refine(gI _ _ _ x HX.out).mono ?_
 exact hq.out):p:=h ⟨k⟩
theorem zdb {p q:Prop} (k:q) (h:Mhid q→p:=by
 intro hq
 replace HR:=Ag (Ah.on HR.out (Below.same' hb _))
 replace HP:=Ag (AO.on HP.out (Below.same' hb _))
 refine YS ?_
 revert HP
 revert HR
 exact hq.out):p:=h ⟨k⟩
theorem zde {p:Prop} (h:p:=by
 obtain rfl:len=0:=byOmega
 exact⟨[],⟨some a,cap,rfl,aA,fun h=>absurd h aA⟩,fun x hx=>by cases hx⟩):p:=h
theorem zdf {p q:Prop} (k:q) (h:Mhid q→p:=by
 intro hq
 have t1:(e0 != 0)=true:=by simp[h0]
 have hr0:lM inf.actions l=14:=by rw[AX.out,if_pos h0]
 have HE:=Ag ((kS HLE.out HP.out HK.out HL.out (by rw[hr0]; decide)).trans hr0)
 clear hr0
 revert HE
 revert t1
 exact hq.out):p:=h ⟨k⟩
theorem zdh {p q:Prop} (k:q) (h:Mhid q→p:=by
 intro hq
 replace HG:=Ag (HG.out.below hb)
 replace HL:=Ag (HL.out.below hb)
 replace HR:=Ag (HR.out.below hb)
 revert HR
 revert HL
 revert HG
 exact hq.out):p:=h ⟨k⟩
theorem zdi {p q:Prop} (k:q) (h:Mhid q→p:=by
 intro hq
 have HUB:=Ag (fun b (e:u.ownBlock=some b)=>HM.out.own.row.lt b e)
 revert HUB
 exact hq.out):p:=h ⟨k⟩
theorem zdj {p q:Prop} (k:q) (h:Mhid q→p:=by
 intro hq
 have hpf:=vP hs (show k+1≤P by omega)
 have HE:=Ag (show nI g=13 by unfold nI; rw[HPT.out,hpf]; rfl)
 have HO:=Ag (show jJ g = [] by unfold jJ; rw[HPT.out,hpf]; rfl)
 clear hpf
 revert HO
 revert HE
 exact hq.out):p:=h ⟨k⟩
theorem zdl {p q:Prop} (k:q) (h:Mhid q→p:=by
 intro hq
 have f24:=aI (f:=(Fact.eq (.bool true))) (hf (24,v24) aA aj) rfl
 revert f24
 exact hq.out):p:=h ⟨k⟩
theorem zdm {p:Prop} (h:p:=by
 exact h1.perm (fun p=>by simp only[List.mem_cons]; constructor <;> (rintro(h | h | h) <;> simp[h]))):p:=h
theorem zdn {p q:Prop} (k:q) (h:Mhid q→p:=by
 intro hq
 have HXL:=Ag (HRL.out row (List.mem_of_getElem? AX.out) x (List.mem_of_getElem? hx))
 revert HXL
 exact hq.out):p:=h ⟨k⟩
theorem zdo {p q:Prop} (k:q) (h:Mhid q→p:=by
 intro hq
 have HPV:=Ag (hu.mono (G:=(fun b=>(Old F w.heap.size b∨wa.heap.size≤b)∧b≠ub)) (fun b hb _=>hb.elim id fun h=>⟨.inr byOmega,byOmega⟩))
 revert HPV
 exact hq.out):p:=h ⟨k⟩
theorem zdp {p:Prop} (h:p:=by
 exact⟨_,by rw[HF.out]; rfl,by rw[HF.out]; intro h; simp at h,by rw[HF.out]; exact HWA.out,hgr⟩):p:=h
theorem zdq {p q:Prop} (k:q) (h:Mhid q→p:=by
 intro hq
 have hWb:Below w.heap.size w W:=by rw[hW];exact hbel.alloc hbel.size _
 have rv:=hWw.cell HV.out
 have fv:=hWw.frozen n.info.toNat
 have HOW:=Ag (hWo.own _ v l HV.out HL.out)
 have hWlt:wr.heap.size < W.heap.size:=byOmega
 revert hWlt
 revert HOW
 revert fv
 revert rv
 revert hWb
 exact hq.out):p:=h ⟨k⟩
theorem zdr {p q:Prop} (k:q) (h:Mhid q→p:=by
 intro hq
 rw[if_pos byOmega,Int.toNat_natCast,List.getD_eq_getElem?_getD,hn]
 exact hq.out):p:=h ⟨k⟩
theorem zds {p q:Prop} (k:q) (h:Mhid q→p:=by
 intro hq
 have HB:=Ag (Ah.keep (G:=fun _=>True) hb (fun _ _ _=>trivial) (Same.refl _ _))
 have HV:=Ag (AA.keep (G:=fun _=>True) ht (fun _ _ _=>trivial) (Same.refl _ _))
 revert HV
 revert HB
 exact hq.out):p:=h ⟨k⟩
theorem zdv {p:Prop} (h:p:=by
 go_wp2
 go_ret
 exact⟨_,rfl,hB2,by rw[HE.out]; rfl⟩):p:=h
theorem zdx {p:Prop} (h:p:=by
 rw[hgrow.block b aC (fun e=>by have:=hnb b e.symm; omega)]
 exact Below.heap_alloc W _ b byOmega):p:=h
theorem zdy {p q:Prop} (k:q) (h:Mhid q→p:=by
 intro hq
 refine zav ?_
 intro rz hz hB
 refine hK.out _ _ ⟨x0,x1,x2,y0,y1,y2,s0,s1,s2,t0,t1,t2⟩ (fun hHeld=>?_)
 refine Zb ?_
 revert hHeld
 revert hB
 revert hz
 revert rz
 exact hq.out):p:=h ⟨k⟩
theorem zdz {p q:Prop} (k:q) (h:Mhid q→p:=by
 intro hq
 replace hBn:=hBn.trans (hb.mono byOmega)
 replace yF:=Nat.lt_of_lt_of_le yF hb.size
 revert yF
 revert hBn
 exact hq.out):p:=h ⟨k⟩
theorem zdA {p:Prop} (h:p:=by
 have hl:=aK h
 rw[List.drop_eq_getElem_cons hl]
 have:l[k]=x:=by simpa [hl] using h
 rw[this]
 rfl):p:=h
theorem zdC {p:Prop} (h:p:=by
 exact⟨_,by rw[HF.out]; rfl,by rw[HF.out]; intro h; simp at h,by rw[HF.out]; exact afd,hgg⟩):p:=h
theorem zdD {p:Prop} (h:p:=by
 go_wp2
 go_ret
 exact⟨_,rfl,hB,by rw[HR.out]; rfl⟩):p:=h
theorem zdE {p:Prop} (h:p:=by
 rw[show(1:Rat).num=1 from rfl,show(1:Rat).den=1 from rfl,show(1:Int).natAbs=1 from rfl,gZ]
 rfl):p:=h
theorem zdG {p q:Prop} (k:q) (h:Mhid q→p:=by
 intro hq
 replace HP1:=Ag (HP1.out.below hb)
 replace HP2:=Ag (HP2.out.below hb)
 replace HT1:=Ag (HT1.out.below hb)
 revert HT1
 revert HP2
 revert HP1
 exact hq.out):p:=h ⟨k⟩
theorem zdJ {p q:Prop} (k:q) (h:Mhid q→p:=by
 intro hq
 have H5:=Ag (AB.mono (G:=(fun b=>w.heap.size+2≤b)) hu (fun b hb _=>by omega))
 revert H5
 exact hq.out):p:=h ⟨k⟩
theorem zdL {p:Prop} (h:p:=by
 have d2:decide ((1000000000:Int)≤(x:Int))=true:=decide_eq_true byOmega
 clear hbad
 exact ZP):p:=h
theorem zdM {p:Prop} (h:p:=by
 exact⟨_,rfl,hwz _ _ byOmega hB,_,by rw[HO.out],by rw[HR.out]; exact AA.zero _ _ _ _ _ _⟩):p:=h
theorem zdP {p q:Prop} (k:q) (h:Mhid q→p:=by
 intro hq
 replace HR4:=Ag (HR4.out.below hb HR4.out.lt)
 replace HMR:=Ag (HMR.out.below hb)
 replace HD4:=Ag (HD4.out.keep (fun _ h _=>h) (Below.same' hb _))
 replace HB4:=Ag (HB4.out.trans (hb.mono HB4.out.size))
 replace Dz:=Ag (Dz.out.trans (hb.mono Dz.out.size))
 replace hc4:=ah hc4 hb
 replace hz4:=Nat.le_trans hz4 hb.size
 revert hz4
 revert hc4
 revert Dz
 revert HB4
 revert HD4
 revert HMR
 revert HR4
 exact hq.out):p:=h ⟨k⟩
theorem zdQ {p q:Prop} (k:q) (h:Mhid q→p:=by
 intro hq
 have hrow:=mM CW.out HPJ.out HRR.out (by rw[hse]; decide)
 have HF:=Ag ((kS HLE.out HP.out HK.out HL.out (by rw[hrow,hse]; decide)).trans (hrow.trans hse))
 revert HF
 revert hrow
 exact hq.out):p:=h ⟨k⟩
theorem zdT {p q:Prop} (k:q) (h:Mhid q→p:=by
 intro hq
 have HF:=Ag (show bV g.nodes (f+1) a par dep t=(-1,rd) by rw[HR.out,HV2.out,if_pos hng]; simp)
 have hdn:decide (0≤rn)=false:=decide_eq_false byOmega
 revert hdn
 revert HF
 exact hq.out):p:=h ⟨k⟩
theorem zdU {p:Prop} (h:p:=by
 exact⟨_,rfl,hB2,.pointer none,by rw[HF.out]; rfl,by rw[HF.out]; intro h; simp at h⟩):p:=h
theorem zdV {p q:Prop} (k:q) (h:Mhid q→p:=by
 intro hq
 have HP:=Ag (show dM num den=if dG num≠0 then dG num else if dG den≠0 then dG den else if den.length=0 then 6 else 0 from rfl)
 revert HP
 exact hq.out):p:=h ⟨k⟩
theorem zdW {p:Prop} (h:p:=by
 have:=congrArg List.length hn
 simp at this
 omega):p:=h
end Go.Proofs.YthmklhapjegfdaaGreatDoor
