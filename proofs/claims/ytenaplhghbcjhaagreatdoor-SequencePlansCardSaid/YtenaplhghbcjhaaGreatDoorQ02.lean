import Derived.Test.YtenaplhghbcjhaaGreatDoorQ04
import Derived.OrdersHeld
import Derived.Deep.RegionHeld
set_option linter.all false
namespace Go.Proofs.YtenaplhghbcjhaaGreatDoor
open Go renaming World->GK
open Go.Region renaming ready->H8
variable {a:Act} {listed:Array Bool} {fuel:Nat} {g p q:Prop}
section
variable {P:Program} {md:Region.Mode} {ops:Array Oper} {Q:Exit->Act->GK->Prop} {S:GK->Prop}
def Tk (_:List Nat) (g:Prop):Prop:=g
theorem tk0 (l:List Nat) (h:Tk l g):g:=h
theorem tk1 (h:g):Tk [] g:=h
theorem tk {i:Nat} {is:List Nat} {oi:Oper} {v:Value} {w:GK} (hi:ops[i]? = some oi)
  (hs:Region.noSelect ops=true) (hf:Region.free md ops listed i=true) (hr:(H8 md ops listed).contains i=true)
  (hQ:∀ c a w,Q (.panic c) (a.put oi.dst v) w->Q (.panic c) a w) (hy:YieldsIf P ops S oi v a) (hS:S w)
  (h:Tk is (wpAnyH P md ops Q S fuel (listed.setIfInBounds i true) (a.put oi.dst v) w)):Tk (i :: is) (wpAnyH P md ops Q S (fuel+1) listed a w) :=
 wpAnyH_take hi hs hf hr hQ hy hS h
theorem tk2 (i:Nat) {w:GK} {o:Oper} (hr:H8 md ops listed = [i]) (ho:ops[i]? = some o)
  (h:∀ K':Act->GK->Prop,Shut (∀ a w,S w->(S w->wpAnyH P md ops Q S fuel (listed.setIfInBounds i true) a w)->K' a w)->if Region.wanted o (yielded ops a.tmps)=true then Oper.wp P o a w K' Q else K' (a.put o.dst undef) w):wpAnyH P md ops Q S (fuel+1) listed a w :=
 wpAnyH_ready hr (by simp) (AllReadyH.cons ho h AllReadyH.nil)
end
theorem tkm (l:List Nat) (k:q) (h:Gu q->Tk l g:=by
 intro A
 repeat (refine tk (v:=?_) rfl (by kernel_rfl) (by kernel_rfl) (by kernel_rfl) (λ_ _ _ h=>h) (Or.inl ⟨by rfl,?_⟩) hHeld ?_;rotate_left;(focus intro wx hSx;(try dsimp only at hSx);go_split_ands;go_simp;try with_reducible rfl);try simp only[Act.put,List.getElem_toArray,List.getElem_cons_zero,List.getElem_cons_succ,List.setIfInBounds_toArray,List.set_cons_zero,List.set_cons_succ])
 exact tk1 A.o):g:=tk0 l (h ⟨k⟩)
theorem Za (k:q) (h:Gu q->p:=by
 intro A
 replace x0:=ah x0 hb
 replace x1:=ah x1 hb
 replace x2:=ah x2 hb
 replace y0:=ah y0 hb
 replace y1:=ah y1 hb
 replace y2:=ah y2 hb
 replace HX:=Ag (HX.o.below hb)
 replace HY:=Ag (HY.o.below hb)
 revert HY
 revert HX
 revert y2
 revert y1
 revert y0
 revert x2
 revert x1
 revert x0
 exact A.o):p:=h ⟨k⟩
theorem Zb (k:q) (h:Gu q->p:=by
 intro A
 try simp only[Act.put,lq1,lq2,lq3,lq4,lq5,lq6]
 exact A.o):p:=h ⟨k⟩
theorem Zc (k:q) (h:Gu q->p:=by
 intro A
 replace hz:=Nat.le_trans hz hb.size
 replace hB:=hB.trans (hb.mono hB.size)
 dsimp only
 refine hK.out _ _ ⟨x0,x1,x2,y0,y1,y2⟩ (λhHeld=>?_)
 refine Zb ?_
 revert hHeld
 revert hB
 revert hz
 exact A.o):p:=h ⟨k⟩
theorem Zd (k:q) (h:Gu q->p:=by
 intro A
 have x0:=rx.cell (i:=0) rfl
 have x1:=rx.cell (i:=1) rfl
 have x2:=rx.cell (i:=2) rfl
 revert x2
 revert x1
 revert x0
 exact A.o):p:=h ⟨k⟩
theorem Ze (k:q) (h:Gu q->p:=by
 intro A
 replace HG:=Ag (HG.o.on (Below.same' hb _))
 replace HM:=Ag (Gt.on HM.o (Below.same' hb _))
 replace HX:=Ag (Gs.on HX.o (Below.same' hb _))
 replace HY:=Ag (Gs.on HY.o (Below.same' hb _))
 replace HT:=Ag (HT.o.on hb)
 replace HP:=Ag (Gs.on HP.o (Below.same' hb _))
 replace HQ:=Ag (Gs.on HQ.o (Below.same' hb _))
 replace HA:=Ag (Gs.on HA.o (Below.same' hb _))
 replace HB2:=Ag (Gs.on HB2.o (Below.same' hb _))
 replace HC:=Ag (Gt.on HC.o (Below.same' hb _))
 replace HD:=Ag (Gt.on HD.o (Below.same' hb _))
 revert HD
 revert HC
 revert HB2
 revert HA
 revert HQ
 revert HP
 revert HT
 revert HY
 revert HX
 revert HM
 revert HG
 exact A.o):p:=h ⟨k⟩
theorem Zf (k:q) (h:Gu q->p:=by
 intro A
 replace hz:=Nat.le_trans hz hb.size
 replace hB:=hB.trans (hb.mono hB.size)
 revert hB
 revert hz
 exact A.o):p:=h ⟨k⟩
theorem Zh (k:q) (h:Gu q->p:=by
 intro A
 refine Za ?_
 intro x0 x1 x2 y0 y1 y2 HX HY
 replace HNX:=Ag (HNX.o.below hb)
 replace HNY:=Ag (HNY.o.below hb)
 replace HDX:=Ag (HDX.o.below hb)
 replace HDY:=Ag (HDY.o.below hb)
 revert HDY
 revert HDX
 revert HNY
 revert HNX
 revert HY
 revert HX
 revert y2
 revert y1
 revert y0
 revert x2
 revert x1
 revert x0
 exact A.o):p:=h ⟨k⟩
theorem Zi (k:q) (h:Gu q->p:=by
 intro C
 refine wp_region_held_drew (S:=λw'=>w'.cell? ⟨w.heap.size,0,none⟩=some (.bool (ay x).neg)/\w'.cell? ⟨w.heap.size,1,none⟩=some (.slice A (ay x).num.length c)/\w'.cell? ⟨w.heap.size,2,none⟩=some (.slice B (ay x).den.length d)/\w'.cell? ⟨w.heap.size+1,0,none⟩=some (.bool (ay y).neg)/\w'.cell? ⟨w.heap.size+1,1,none⟩=some (.slice A' (ay y).num.length c')/\w'.cell? ⟨w.heap.size+1,2,none⟩=some (.slice B' (ay y).den.length d')) aj ⟨x0,x1,x2,y0,y1,y2⟩ (λhHeld=>?_)
 revert hHeld
 exact C.o):p:=h ⟨k⟩
theorem Zj (h:p:=by
 have HN1:=Ag (Ah.below (n:=aF num) HNN.o hb)
 have HD1:=Ag (Ah.below (n:=aF den) HDD.o hb)
 clear hb
 dsimp only
 go_wp2_with fail
 refine(iD w1 F _ _ (aF num) (aF den) HN1.o HD1.o hl1 hl2).mono ?_
 rintro e w2 ⟨va,rfl,hb,hu⟩
 rw[<-HG.o] at hu
 obtain⟨A2,c2,rfl,_,hN2⟩:=hu
 have hB2:=hB1.trans (hb.mono hB1.size)
 replace x0:=ah x0 hb
 replace x1:=ah x1 hb
 replace x2:=ah x2 hb
 obtain⟨b2,o2,rfl,_,hb2,hx2⟩:=hN2 hpos
 have ex:=hx2 0 g (by rw[HDG.o]; rfl)
 unfold bY at ex
 rw[Nat.mul_one,Nat.add_zero] at ex
 clear hb hx2 hb2
 dsimp only
 go_wp2
 go_ret
 exact⟨_,rfl,hB2,by rw[HT.o]; rfl⟩):p:=h
theorem Zk (k:q) (h:Gu q->p:=by
 intro A
 have q0:=rz.cell (i:=0) rfl
 have y0:=rz.frozen 0
 have q1:=rz.cell (i:=1) rfl
 have y1:=rz.frozen 1
 have q2:=rz.cell (i:=2) rfl
 have y2:=rz.frozen 2
 revert y2
 revert q2
 revert y1
 revert q1
 revert y0
 revert q0
 exact A.o):p:=h ⟨k⟩
theorem Zl (k:q) (h:Gu q->p:=by
 intro A
 replace hB:=hB.trans (hb.mono hB.size)
 replace HG:=Ag (HG.o.on (Below.same' hb F))
 replace HX:=Ag (Gs.on HX.o (Below.same' hb _))
 replace HY:=Ag (Gs.on HY.o (Below.same' hb _))
 revert HY
 revert HX
 revert HG
 revert hB
 exact A.o):p:=h ⟨k⟩
theorem Zm (k:q) (h:Gu q->p:=by
 intro A
 refine Row.alloc ?_ _
 refine Row.alloc ?_ _
 refine Row.alloc ?_ _
 refine Row.alloc ?_ _
 exact A.o):p:=h ⟨k⟩
theorem Zn (k:q) (h:Gu q->p:=by
 intro A
 replace HX:=Ag (HX.o.on (Below.same' hB _))
 replace HY:=Ag (HY.o.on (Below.same' hB _))
 have hz:w.heap.size+3<=W.heap.size:=hz
 refine Zd ?_
 intro x0 x1 x2
 have y0:=ry.cell (i:=0) rfl
 have y1:=ry.cell (i:=1) rfl
 have y2:=ry.cell (i:=2) rfl
 revert y2
 revert y1
 revert y0
 revert x2
 revert x1
 revert x0
 revert hz
 revert HY
 revert HX
 exact A.o):p:=h ⟨k⟩
theorem Zo (k:q) (h:Gu q->p:=by
 intro A
 simp only[List.take_succ_cons,List.take_zero]
 exact A.o):p:=h ⟨k⟩
theorem Zp (k:q) (h:Gu q->p:=by
 intro A
 refine wpAnyH_done aj ?_ _
 show wpList _ _ _ _ _ _
 exact A.o):p:=h ⟨k⟩
theorem Zq (h:p:=by
 exact⟨_,rfl,hwz _ _ FI hB,HM.o.keep (λb hb _=>hb.elim (λh=>.inl h.1) λh=>.inr FI) (hkz _ (λh=>h.elim (λh=>by have:=h.2; omega) λh=>by omega))⟩):p:=h
theorem Zv (k:q) (h:Gu q->p:=by
 intro A
 replace HG:=Ag (HG.o.on (Below.same' hb _))
 replace HM:=Ag (Gt.on HM.o (Below.same' hb _))
 replace HX:=Ag (Gs.on HX.o (Below.same' hb _))
 replace HY:=Ag (Gs.on HY.o (Below.same' hb _))
 replace HT:=Ag (HT.o.on hb)
 revert HT
 revert HY
 revert HX
 revert HM
 revert HG
 exact A.o):p:=h ⟨k⟩
theorem Zw (k:q) (h:Gu q->p:=by
 intro C
 refine aP (λw'=>w'.cell? ⟨w.heap.size,0,none⟩=some (.bool (ak x).neg)/\w'.cell? ⟨w.heap.size,1,none⟩=some (.slice A (ak x).num.length c)/\w'.cell? ⟨w.heap.size,2,none⟩=some (.slice B (ak x).den.length d)/\w'.cell? ⟨w.heap.size+1,0,none⟩=some (.bool (ak y).neg)/\w'.cell? ⟨w.heap.size+1,1,none⟩=some (.slice A' (ak y).num.length c')/\w'.cell? ⟨w.heap.size+1,2,none⟩=some (.slice B' (ak y).den.length d')) 7 1 aj rfl aj ⟨x0,x1,x2,y0,y1,y2⟩ λhHeld=>?_
 refine Zo ?_
 have hb:Below wn.heap.size wn wn.drew:=aG (Below.refl _ wn) 1
 refine Zh ?_
 revert hb
 revert hHeld
 exact C.o):p:=h ⟨k⟩
theorem Zx (k:q) (h:Gu q->p:=by
 intro A
 replace x0:=ah x0 hb
 replace x1:=ah x1 hb
 replace x2:=ah x2 hb
 revert x2
 revert x1
 revert x0
 exact A.o):p:=h ⟨k⟩
theorem Zy (k:q) (h:Gu q->p:=by
 intro A
 replace CV:=Ag (CV.o.trans (Below.wrote hb _))
 replace aaY:=Nat.lt_of_lt_of_le aaY hb.size
 replace u0:=ah u0 hb
 replace u1:=ah u1 hb
 replace u2:=ah u2 hb
 replace q0:=ah q0 hb
 replace q1':=ah q1' hb
 replace q2:=ah q2 hb
 replace n2:=ah n2 hb
 replace n3:=ah n3 hb
 replace n4:=ah n4 hb
 replace n5:=ah n5 hb
 replace pc:=ah pc hb
 replace HST:=Ag (HST.o.below hb)
 replace HUV:=Ag (HUV.o.below hb)
 replace HRV:=Ag (HRV.o.below hb)
 replace HPX:=Ag (HPX.o.below hb)
 revert HPX
 revert HRV
 revert HUV
 revert HST
 revert pc
 revert n5
 revert n4
 revert n3
 revert n2
 revert q2
 revert q1'
 revert q0
 revert u2
 revert u1
 revert u0
 revert aaY
 revert CV
 exact A.o):p:=h ⟨k⟩
theorem Zz (k:q) (h:Gu q->p:=by
 intro A
 replace HX:=Ag (HX.o.below hb)
 replace HY:=Ag (HY.o.below hb)
 replace HNX:=Ag (HNX.o.below hb)
 replace HNY:=Ag (HNY.o.below hb)
 replace HDX:=Ag (HDX.o.below hb)
 replace HDY:=Ag (HDY.o.below hb)
 replace HG:=Ag (HG.o.below hb)
 replace HL:=Ag (HL.o.below hb)
 replace HR:=Ag (HR.o.below hb)
 replace HT1:=Ag (HT1.o.below hb)
 replace HT2:=Ag (HT2.o.below hb)
 replace HT:=Ag (HT.o.below hb)
 revert HT
 revert HT2
 revert HT1
 revert HR
 revert HL
 revert HG
 revert HDY
 revert HDX
 revert HNY
 revert HNX
 revert HY
 revert HX
 exact A.o):p:=h ⟨k⟩
theorem ZA (k:q) (h:Gu q->p:=by
 intro A
 replace rz:=rz.below hb rz.lt
 refine Zf ?_
 intro hz hB
 revert hB
 revert hz
 revert rz
 exact A.o):p:=h ⟨k⟩
theorem ZB (k:q) (h:Gu q->p:=by
 intro A
 refine Za ?_
 intro x0 x1 x2 y0 y1 y2 HX HY
 replace HDX:=Ag (HDX.o.below hb)
 replace HDY:=Ag (HDY.o.below hb)
 replace HNX:=Ag (HNX.o.below hb)
 replace HNY:=Ag (HNY.o.below hb)
 replace HF:=Ag (HF.o.below hb)
 replace HG:=Ag (HG.o.below hb)
 revert HG
 revert HF
 revert HNY
 revert HNX
 revert HDY
 revert HDX
 revert HY
 revert HX
 revert y2
 revert y1
 revert y0
 revert x2
 revert x1
 revert x0
 exact A.o):p:=h ⟨k⟩
theorem ZC (h:p:=by
 have HT:=Ag he
 clear he HE
 go_wp2_with fail
 refine(iD W F _ _ (aF num) (aF den) HNN.o HDD.o hl1 hl2).mono ?_
 rintro e w1 ⟨va,rfl,hb,hu⟩
 rw[<-HG.o] at hu
 obtain⟨A1,c1,rfl,_,_⟩:=hu
 have hB1:=hB.trans (hb.mono hB.size)
 refine Zx ?_
 clear x0 x1 x2
 intro x0 x1 x2
 exact Zj):p:=h
theorem ZE (h:p:=by
 rintro e w1 ⟨_,rfl,hb1,rfl⟩
 have hbx2:=lW.drew.below hb1 aB
 have alz:=hbt.drew.below hb1 aB
 dsimp only
 refine hK.out _ _ ⟨alz.cell rfl,hbx2.cell rfl,hbx2.cell rfl,hbx2.cell rfl,hbx2.cell rfl,hbx2.cell rfl,hbx2.cell rfl⟩ (λhHeld=>?_)
 clear hK K
 refine Zb ?_
 refine tkm [7] ?_
 refine wpAnyH_done aj ?_ _
 go_wp2
 go_ret
 exact⟨_,rfl,hB1.drew.trans (hb1.mono aB),by rw[HF.o]; rfl⟩):p:=h
theorem ZF (k:q) (h:Gu q->p:=by
 intro A
 replace eu:=ah eu hb
 replace p0:=ah p0 hb
 replace p1:=ah p1 hb
 replace p2:=ah p2 hb
 replace ex0:=ah ex0 hb
 replace ex1:=ah ex1 hb
 replace ex2:=ah ex2 hb
 replace HRV:=Ag (HRV.o.below hb)
 replace HON:=Ag (HON.o.below hb)
 replace HNM:=Ag (HNM.o.below hb)
 replace rs:=rs.below hb rs.lt
 replace hzr:=Nat.le_trans hzr hb.size
 replace hbel:=hbel.trans (hb.mono hbel.size)
 revert hbel
 revert hzr
 revert rs
 revert HNM
 revert HON
 revert HRV
 revert ex2
 revert ex1
 revert ex0
 revert p2
 revert p1
 revert p0
 revert eu
 exact A.o):p:=h ⟨k⟩
theorem ZG (k:q) (h:Gu q->p:=by
 intro A
 refine hK.out _ _ ⟨bQ x0 _,bQ o0 _,bQ l0 _,bQ l1 _,bQ l2 _⟩ (λhHeld=>?_)
 refine Zb ?_
 refine tk2 13 aj rfl λK hK=>?_
 refine xH (K:=ratK) (F:=BG (λb=>b < w.heap.size) vs) (W:=wn) rfl _ _ 28 42 56 _ Tryz.underlying28 Tryz.infoRat rfl au rfl W4.heap.size (Nat.le_trans aoM hB.size) (.slice Av l.length cv) l rfl q _ HCC.o FI rfl (HST.o.grid.own i _ l HVI.o HLI.o) ((HQN.o.below hB).keep (λb hb _=>⟨hb,λe=>hb.2 _ (List.mem_of_getElem? HVI.o) e⟩) (Same.refl _ _)) ?_
 intro g3 cap3 wq hown3 hwq hat hlt3
 have adB:=HST.o.own _ (List.mem_of_getElem? HVI.o)
 replace x0:=fK x0 hwq hnv
 replace o0:=fK o0 hwq (λe=>by have:=adB mb e; omega)
 replace l0:=fK l0 hwq (λe=>by have:=adB xb e; omega)
 replace l1:=fK l1 hwq (λe=>by have:=adB xb e; omega)
 replace l2:=fK l2 hwq (λe=>by have:=adB xb e; omega)
 have FQ:=Ag hown3
 have HWQ:=Ag hwq
 have HAT:=Ag hat
 have HRQ:=Ag (HST.o.row.wrote hwq (λe=>by have:=adB mb e; omega))
 clear hown3 hwq hat hlt3 hHeld
 refine hK.out _ _ ⟨x0,o0,l0,l1,l2⟩ (λhHeld=>?_)
 clear hK K
 refine Zb ?_
 revert hHeld
 revert HRQ
 revert HAT
 revert HWQ
 revert FQ
 revert l2
 revert l1
 revert l0
 revert o0
 revert x0
 revert adB
 revert wq
 revert cap3
 revert g3
 exact A.o):p:=h ⟨k⟩
theorem ZH (k:q) (h:Gu q->p:=by
 intro A
 replace HV:=Ag (Ak.on HV.o (Below.same' hb _))
 replace HW:=Ag (Ak.on HW.o (Below.same' hb _))
 replace hB:=hB.trans (hb.mono hB.size)
 replace v0:=ah v0 hb
 replace v1:=ah v1 hb
 replace v2:=ah v2 hb
 replace u0:=ah u0 hb
 replace u1:=ah u1 hb
 replace u2:=ah u2 hb
 rw[LK rfl]
 dsimp only
 revert u2
 revert u1
 revert u0
 revert v2
 revert v1
 revert v0
 revert hB
 revert HW
 revert HV
 exact A.o):p:=h ⟨k⟩
theorem ZI (k:q) (h:Gu q->p:=by
 intro A
 replace HGW:=Ag (HGW.o.on (Below.same' hb _))
 replace Dy:=Ag (Dy.o.on (Below.same' hb _))
 replace Dz:=Ag (Dz.o.on (Below.same' hb _))
 refine Zx ?_
 intro x0 x1 x2
 replace n5:=ah n5 hb
 replace HOWN:=Ag (HOWN.o.below hb)
 replace HGR:=Ag (HGR.o.below hb)
 replace hbx:=hbx.trans (hb.mono hbx.size)
 revert hbx
 revert HGR
 revert HOWN
 revert n5
 revert x2
 revert x1
 revert x0
 revert Dz
 revert Dy
 revert HGW
 exact A.o):p:=h ⟨k⟩
theorem ZJ (k:q) (h:Gu q->p:=by
 intro A
 dsimp only
 refine hK.out _ _ ⟨x0,x1,x2⟩ (λhHeld=>?_)
 refine Zb ?_
 revert hHeld
 exact A.o):p:=h ⟨k⟩
theorem ZK (h:p:=by
 have d0:((l1.length:Int) != (l2.length:Int))=true:=aB
 have HF:=Ag (show decide (l1=l2)=false by simp only[decide_eq_false_iff_not]; rintro rfl; exact q0 rfl)
 go_in
 go_wp2
 go_ret
 exact⟨_,rfl,Below.refl _ _,by rw[HF.o]; rfl⟩):p:=h
theorem ZL (k:q) (h:Gu q->p:=by
 intro A
 replace rz:=rz.below hb rz.lt
 refine Zc ?_
 intro hz hB hHeld
 revert hHeld
 revert hB
 revert hz
 revert rz
 exact A.o):p:=h ⟨k⟩
theorem ZM (k:q) (h:Gu q->p:=by
 intro A
 replace hB:=hB.trans (hb.mono hB.size)
 revert hB
 exact A.o):p:=h ⟨k⟩
theorem ZN (h:p:=by
 go_wp2
 go_ret
 exact⟨by rw[HE.o]; rfl,rfl⟩):p:=h
theorem ZQ (k:q) (h:Gu q->p:=by
 intro A
 replace u0:=ah u0 hb
 replace u1:=ah u1 hb
 replace u2:=ah u2 hb
 replace m1:=ah m1 hb
 replace y0:=ah y0 hb
 replace y1:=ah y1 hb
 replace y2:=ah y2 hb
 replace HXV:=Ag (Ak.below HXV.o hb)
 revert HXV
 revert y2
 revert y1
 revert y0
 revert m1
 revert u2
 revert u1
 revert u0
 exact A.o):p:=h ⟨k⟩
theorem ZR (h:p:=by
 refine⟨_,rfl,hB,?_⟩
 unfold RtV
 rw[HMM.o]
 obtain⟨_,_,hh,hn,hd⟩:=HX.o
 cases hh
 exact Ak.make rfl (hn.keep (λb hb _=>hb.1) (Below.same' hB _)) (hd.keep (λb hb _=>hb.1) (Below.same' hB _))):p:=h
theorem ZT (h:p:=by
 intro x0 x1 x2
 replace HA:=Ag (HA.o.below hb)
 refine Zf ?_
 clear hz hB hb
 intro hz hB
 dsimp only
 go_wp2_with fail
 refine(uO _ (λ_=>True) _ _ x ((1:Int):Rat) (HA.o.mono (λ_ _ _=>trivial)) HB.o FI (by rw[show((1:Int):Rat)=1 from rfl,pX]; omega)).mono ?_
 rintro e wn ⟨_,rfl,hb,rfl⟩
 rw[show iR x ((1:Int):Rat)=o from HO.o.symm]
 refine Zx ?_
 clear x0 x1 x2
 intro x0 x1 x2
 replace HA:=Ag (HA.o.below hb)
 replace HB:=Ag (HB.o.below hb)
 refine Zf ?_
 clear hz hB hb
 intro hz hB
 dsimp only
 go_wp2
 go_ret
 exact⟨_,rfl,hB,by rw[HG.o]; rfl⟩):p:=h
theorem ZU (k:q) (h:Gu q->p:=by
 intro A
 refine wp_region_held_drew (S:=λw'=>w'.cell? ⟨ub,0,none⟩=some (.bool (ak acc).neg)/\w'.cell? ⟨ub,1,none⟩=some (.slice A2 (ak acc).num.length c2)/\w'.cell? ⟨ub,2,none⟩=some (.slice B2 (ak acc).den.length d2)/\w'.cell? ⟨mb,mo+k,none⟩=some (.slice (some ⟨rb,ro,none⟩) row.length cr)/\w'.cell? ⟨rb,ro+j*3,none⟩=some (.bool (ak x).neg)/\w'.cell? ⟨rb,ro+j*3+1,none⟩=some (.slice An (ak x).num.length cn)/\w'.cell? ⟨rb,ro+j*3+2,none⟩=some (.slice Ad (ak x).den.length cd)) aj ⟨u0,u1,u2,m1,y0,y1,y2⟩ (λhHeld=>?_)
 have hb:Below wd.heap.size wd wd.drew:=aG (Below.refl _ wd) 1
 refine ZQ ?_
 revert hb
 revert hHeld
 exact A.o):p:=h ⟨k⟩
theorem ZV (k:q) (h:Gu q->p:=by
 intro A
 refine wp_region_held_drew (S:=λw'=>w'.cell? ⟨b,o+k,none⟩=some (.slice (some ⟨b3,o3,none⟩) l.length cr)/\w'.cell? ⟨ob,0,none⟩=some (.bool (ak one).neg)/\w'.cell? ⟨ob,1,none⟩=some (.slice A1 (ak one).num.length c1)/\w'.cell? ⟨ob,2,none⟩=some (.slice B1 (ak one).den.length d1')/\w'.cell? ⟨b3,o3+j*3,none⟩=some (.bool false)/\w'.cell? ⟨b3,o3+j*3+1,none⟩=some (.slice A4 (ak x).num.length c4)/\w'.cell? ⟨b3,o3+j*3+2,none⟩=some (.slice A5 (ak x).den.length c5)) aj ⟨eu,p0,p1,p2,ex0,ex1,ex2⟩ (λhHeld=>?_)
 have hb:Below wn.heap.size wn wn.drew:=aG (Below.refl _ wn) 1
 refine ZF ?_
 revert hb
 revert hHeld
 exact A.o):p:=h ⟨k⟩
theorem ZW (k:q) (h:Gu q->p:=by
 intro A
 unfold AY
 show Exit.inBlock _ _ .normal _ _
 exact A.o):p:=h ⟨k⟩
theorem ZY (k:q) (h:Gu q->p:=by
 intro A
 have HNY:=Ag (Ah.mono (n:=y.num.natAbs) (G:=(Ext (Old F w.heap.size) (w.heap.size+3))) hn (λb hb _=>.inl hb))
 revert HNY
 exact A.o):p:=h ⟨k⟩
theorem Z4 (k:q) (h:Gu q->p:=by
 intro A
 show Exit.then _ _ .normal _ _
 exact A.o):p:=h ⟨k⟩
theorem Z5 (k:q) (h:Gu q->p:=by
 intro C
 refine aP (λw'=>w'.cell? ⟨w.heap.size,0,none⟩=some (.bool (ak x).neg)/\w'.cell? ⟨w.heap.size,1,none⟩=some (.slice A (ak x).num.length c)/\w'.cell? ⟨w.heap.size,2,none⟩=some (.slice B (ak x).den.length d)/\w'.cell? ⟨w.heap.size+1,0,none⟩=some (.bool (ak y).neg)/\w'.cell? ⟨w.heap.size+1,1,none⟩=some (.slice A' (ak y).num.length c')/\w'.cell? ⟨w.heap.size+1,2,none⟩=some (.slice B' (ak y).den.length d')) 16 1 aj rfl aj ⟨x0,x1,x2,y0,y1,y2⟩ λhHeld=>?_
 refine Zo ?_
 have hb:Below W.heap.size W W.drew:=aG (Below.refl _ W) 1
 refine Zh ?_
 revert hb
 revert hHeld
 exact C.o):p:=h ⟨k⟩
theorem Z7 (h:p:=by
 refine ifA rfl ?_
 refine abf _ _ _ 49 rfl 3 (.int .i64 0) 8 Tryz.underlying49 Tryz.infoInt rfl g.F7.length rfl rfl FI FI ?_
 intro W1 hb hz hr
 exact hK.out _ _ ⟨hb,⟨_,rfl,hS.1,hr⟩,λ_ b hb=>by cases hb; exact Nat.le_refl _⟩):p:=h
theorem Z8 (k:q) (h:Gu q->p:=by
 intro A
 refine wpAnyH_done aj ?_ _
 exact A.o):p:=h ⟨k⟩
theorem Ya (k:q) (h:Gu q->p:=by
 intro A
 replace rx:=rx.below hb rx.lt
 refine ZM ?_
 intro hB
 revert hB
 revert rx
 exact A.o):p:=h ⟨k⟩
theorem Yd (k:q) (h:Gu q->p:=by
 intro A
 replace x1:=ah x1 hb
 replace o0:=ah o0 hb
 replace c0:=ah c0 hb
 replace c1:=ah c1 hb
 replace c2:=ah c2 hb
 replace l0:=ah l0 hb
 replace l1:=ah l1 hb
 replace l2:=ah l2 hb
 replace n5:=ah n5 hb
 replace pc:=ah pc hb
 replace HOWN:=Ag (HOWN.o.below hb)
 replace HGR:=Ag (HGR.o.below hb)
 replace D7:=Ag (D7.o.below hb)
 replace HYV:=Ag (HYV.o.below hb)
 revert HYV
 revert D7
 revert HGR
 revert HOWN
 revert pc
 revert n5
 revert l2
 revert l1
 revert l0
 revert c2
 revert c1
 revert c0
 revert o0
 revert x1
 exact A.o):p:=h ⟨k⟩
theorem Ye (k:q) (h:Gu q->p:=by
 intro A
 replace hr:=hr.below hb hr.lt
 refine Zf ?_
 intro hz hB
 revert hB
 revert hz
 revert hr
 exact A.o):p:=h ⟨k⟩
theorem Yf (k:q) (h:Gu q->p:=by
 intro A
 rw[<-hW]
 obtain⟨W1,hW,hbt,zC,ajN⟩:=dI W 208 #[.nilFunc,.func (.func 154) #[] #[],.func (.func 155) #[] #[],.func (.func 156) #[] #[]]
 rw[<-hW]
 clear hW
 have lW:=hbx.below zC FI
 have hB1:Below w.heap.size w W1:=hWb.trans (zC.mono FI)
 clear zC
 rw[<-hWz] at hbt
 have z0:=hbt.lt
 clear ajN
 revert z0
 revert hbt
 revert hB1
 revert lW
 revert W1
 exact A.o):p:=h ⟨k⟩
theorem Yg (h:p:=by
 go_wp2_with fail
 refine(kU _ _ _ x HV.o FI).mono ?_
 rintro e wn ⟨va,rfl,hb,hu⟩
 have HA:=Ag hu
 clear hu
 refine Zx ?_
 clear x0 x1 x2
 intro x0 x1 x2
 replace HV:=Ag (HV.o.below hb)
 refine Zf ?_
 clear hz hB hb
 intro hz hB
 clear HV
 dsimp only
 go_wp2_with fail
 refine(lG _ 1 au au).mono ?_
 rintro e wn ⟨vb,rfl,hb,hu⟩
 have HB:=Ag (Ak.mono (G:=λ_=>True) hu (λ_ _ _=>trivial))
 clear hu
 refine Zx ?_
 clear x0 x1 x2
 exact ZT):p:=h
theorem Yh (k:q) (h:Gu q->p:=by
 intro A
 have hB:=Below.refl wn.heap.size wn
 refine aP (λw'=>w'.cell? ⟨nb,0,none⟩=some (.int .i64 (i:Int))/\w'.cell? ⟨mb,i,none⟩=some (.slice Av l.length cv)/\w'.cell? ⟨xb,xo+j*3,none⟩=some (.bool (ak z).neg)/\w'.cell? ⟨xb,xo+j*3+1,none⟩=some (.slice An (ak z).num.length cn)/\w'.cell? ⟨xb,xo+j*3+2,none⟩=some (.slice Ad (ak z).den.length cd)) 15 1 aj rfl aj ⟨x0,o0,l0,l1,l2⟩ λhHeld=>?_
 refine Zo ?_
 have hb:Below wn.heap.size wn wn.drew:=aG (Below.refl _ wn) 1
 replace x0:=ah x0 hb
 replace o0:=ah o0 hb
 replace l0:=ah l0 hb
 replace l1:=ah l1 hb
 replace l2:=ah l2 hb
 replace HST:=Ag (HST.o.below hb)
 refine Ya ?_
 clear hB
 intro rx hB
 clear hb
 revert hB
 revert rx
 revert HST
 revert l2
 revert l1
 revert l0
 revert o0
 revert x0
 revert hHeld
 exact A.o):p:=h ⟨k⟩
theorem Yi (k:q) (h:Gu q->p:=by
 intro C
 obtain⟨W,hW,hr,hr2,hB,hz⟩:=alloc2 w 42 #[.bool false,.slice A (dig x.num.natAbs).length c,.slice B (ak x).den.length d] 42 #[.bool false,.slice A (dig x.num.natAbs).length c,.slice B (ak x).den.length d]
 rw[<-hW]
 clear hW
 have t0:=hr2.cell (i:=0) rfl
 have t1:=hr2.cell (i:=1) rfl
 have t2:=hr2.cell (i:=2) rfl
 revert t2
 revert t1
 revert t0
 revert hz
 revert hB
 revert hr2
 revert hr
 revert W
 exact C.o):p:=h ⟨k⟩
theorem Yj (k:q) (h:Gu q->p:=by
 intro A
 have HX:=Ag (Gs.keep (G:=λb=>b < w.heap.size) hx (λb _ hl=>hl) (Same.refl _ _))
 have HY:=Ag (Gs.keep (G:=λb=>b < w.heap.size) hy (λb _ hl=>hl) (Same.refl _ _))
 revert HY
 revert HX
 exact A.o):p:=h ⟨k⟩
theorem Yl (k:q) (h:Gu q->p:=by
 intro A
 replace HVP:=Ag (HVP.o.below hb)
 replace HVQ:=Ag (HVQ.o.below hb)
 replace HVD:=Ag (HVD.o.below hb)
 revert HVD
 revert HVQ
 revert HVP
 exact A.o):p:=h ⟨k⟩
theorem Ym (k:q) (h:Gu q->p:=by
 intro A
 have HNX:=Ag (Ah.mono (n:=x.num.natAbs) (G:=(Ext (Old F w.heap.size) (w.heap.size+3))) hn (λb hb _=>.inl hb))
 revert HNX
 exact A.o):p:=h ⟨k⟩
theorem Yo (k:q) (h:Gu q->p:=by
 intro A
 have hsame:Same (Apart F v) w w':=⟨FI,λb hb hl=>(h2.block b aB (λe=>hb.2 e.symm)).trans (Below.heap_alloc _ _ _ hl)⟩
 have e1:(L ++ [q]).length=L.length+1:=aA
 have e2:(L ++ [q]).flatMap K.cells=L.flatMap K.cells++K.cells q:=by simp[List.flatMap_append]
 have ahY:Same (λb=>v.ownBlock≠some b) w w':=⟨FI,λb hb hl=>(h2.block b aB (λe=>hb e.symm)).trans (Below.heap_alloc _ _ _ hl)⟩
 refine h g cap w' ⟨by rw[e1,e2]; exact h1,λp hp=>?_⟩ ((hbel.alloc FI _).grown h2 aB (λk hk=>(hown.row.lt k hk).1)) FI ahY
 revert hp
 revert p
 revert ahY
 revert e2
 revert e1
 revert hsame
 exact A.o):p:=h ⟨k⟩
theorem Yp (k:q) (h:Gu q->p:=by
 intro A
 replace u0:=ah u0 hb
 replace u1:=ah u1 hb
 replace u2:=ah u2 hb
 replace l0:=ah l0 hb
 replace l1:=ah l1 hb
 replace l2:=ah l2 hb
 replace m0:=ah m0 hb
 replace HST:=Ag (HST.o.below hb)
 replace HUV:=Ag (HUV.o.below hb)
 replace HXV:=Ag (HXV.o.below hb)
 replace HYW:=Ag (HYW.o.below hb)
 replace HRW:=Ag (HRW.o.below hb)
 revert HRW
 revert HYW
 revert HXV
 revert HUV
 revert HST
 revert m0
 revert l2
 revert l1
 revert l0
 revert u2
 revert u1
 revert u0
 exact A.o):p:=h ⟨k⟩
theorem Yq (k:q) (h:Gu q->p:=by
 intro A
 refine Zx ?_
 intro x0 x1 x2
 replace HT:=Ag (HT.o.on hb)
 replace HG:=Ag (HG.o.on (Below.same' hb _))
 refine ZM ?_
 intro hB
 revert hB
 revert HG
 revert HT
 revert x2
 revert x1
 revert x0
 exact A.o):p:=h ⟨k⟩
theorem Yt (k:q) (h:Gu q->p:=by
 intro A
 refine Zd ?_
 intro x0 x1 x2
 replace HG:=Ag (HG.o.on (Below.same' hB F))
 replace HX:=Ag (Gs.on HX.o (Below.same' hB _))
 replace HY:=Ag (Gs.on HY.o (Below.same' hB _))
 revert HY
 revert HX
 revert HG
 revert x2
 revert x1
 revert x0
 exact A.o):p:=h ⟨k⟩
theorem Yu (h:p:=by
 have e0:=HE.o
 rw[LH H0.o] at e0
 refine⟨_,rfl,hwz _ _ FI hB,_,by rw[e0],?_⟩
 rw[HO.o,LH H0.o]
 exact Ak.zero _ _ _ _ _ _):p:=h
theorem Yv (k:q) (h:Gu q->p:=by
 intro A
 replace HX:=Ag (HX.o.on (Below.same' hB _))
 have hz:w.heap.size+2<=W.heap.size:=hz
 refine Zd ?_
 intro x0 x1 x2
 revert x2
 revert x1
 revert x0
 revert hz
 revert HX
 exact A.o):p:=h ⟨k⟩
theorem Yx (k:q) (h:Gu q->p:=by
 intro A
 have hb:Below W.heap.size W W.drew:=aG (Below.refl _ W) 1
 revert hb
 exact A.o):p:=h ⟨k⟩
theorem Yz (k:q) (h:Gu q->p:=by
 intro A
 have HAV:=Ag (show RtV wb (λb=>(Old F w.heap.size b\/wa.heap.size<=b)/\b≠ub) (.agg #[.bool (ak acc).neg,.slice A2 (ak acc).num.length c2,.slice B2 (ak acc).den.length d2]) acc from Ak.make rfl HST.o.fine.1 HST.o.fine.2)
 revert HAV
 exact A.o):p:=h ⟨k⟩
theorem YA (k:q) (h:Gu q->p:=by
 intro A
 have hxb:=HNW.o x (List.mem_of_getElem? hx)
 have HSX:=Ag (show rE (nd.weights.take (k+1))=rE (nd.weights.take k)+x by rw[Gv hx,aa7])
 obtain⟨sk,hsk⟩:=Gp (rE (nd.weights.take k))
 rw[<-hsk] at hsr HSX ⊢
 have aoP:IntKind.i64.wrap (sk+x)=sk+x:=IntWalk.i64_in _ FI
 clear hsk
 revert aoP
 revert HSX
 revert hsr
 revert sk
 revert hxb
 exact A.o):p:=h ⟨k⟩
theorem YC (k:q) (h:Gu q->p:=by
 intro A
 have HTB:=Ag htb
 refine wp_region_held_drew (S:=λw'=>w'.cell? ⟨nb,0,none⟩=some (.int .i64 s.1)/\w'.cell? ⟨nb,1,none⟩=some (.int .i64 s.2)) aj ⟨x0,x1⟩ (λhHeld=>?_)
 have hb:Below W6.heap.size W6 W6.drew:=aG (Below.refl _ W6) 1
 replace x0:=ah x0 hb
 replace x1:=ah x1 hb
 revert x1
 revert x0
 revert hb
 revert hHeld
 revert HTB
 exact A.o):p:=h ⟨k⟩
theorem YF (k:q) (h:Gu q->p:=by
 intro A
 replace HAV:=Ag (Ak.below HAV.o hb)
 replace HUB:=Ag (HUB.o.below hb HUB.o.lt)
 replace hBn:=hBn.trans (hb.mono FI)
 replace mF:=Nat.lt_of_lt_of_le mF hb.size
 revert mF
 revert hBn
 revert HUB
 revert HAV
 exact A.o):p:=h ⟨k⟩
theorem YG (k:q) (h:Gu q->p:=by
 intro A
 replace HG:=Ag (HG.o.on (Below.same' hb _))
 replace HM:=Ag (Gt.on HM.o (Below.same' hb _))
 refine ZM ?_
 intro hB
 refine Zx ?_
 intro x0 x1 x2
 revert x2
 revert x1
 revert x0
 revert hB
 revert HM
 revert HG
 exact A.o):p:=h ⟨k⟩
theorem YH (k:q) (h:Gu q->p:=by
 intro A
 refine Zp ?_
 have f0:=HRQ.o.frozen i
 obtain⟨Wz,hWz⟩:=Gp (wq.setCell ⟨mb,i,none⟩ (.slice (some ⟨g3,0,none⟩) (l.length+1) cap3))
 obtain⟨aiX,amE⟩:=HST.o.step (a:=(b:Int)) (v':=.slice (some ⟨g3,0,none⟩) (l.length+1) cap3) HVI.o HLI.o (HQN.o.below hB) HQR.o FQ.o.row HWQ.o rfl HAT.o FI (λb hb=>by omega) hWz
 have amF:=(HWR.o.trans (Below.wrote hB _)).trans amE
 rw[<-HSN.o] at aiX
 have EX:=Ag amF
 have En:=Ag aiX
 have HWZ:=Ag hWz
 clear aiX amE amF hWz
 revert HWZ
 revert En
 revert EX
 revert Wz
 revert f0
 exact A.o):p:=h ⟨k⟩
theorem YJ (h:p:=by
 go_wp2
 go_ret
 exact⟨_,rfl,aG ((Below.refl _ _).alloc (Nat.le_refl _) _) _,by rw[HF.o]; rfl⟩):p:=h
theorem YK (k:q) (h:Gu q->p:=by
 intro A
 refine Za ?_
 intro x0 x1 x2 y0 y1 y2 HX HY
 replace HNX:=Ag (HNX.o.below hb)
 replace HNY:=Ag (HNY.o.below hb)
 revert HNY
 revert HNX
 revert HY
 revert HX
 revert y2
 revert y1
 revert y0
 revert x2
 revert x1
 revert x0
 exact A.o):p:=h ⟨k⟩
theorem YM (k:q) (h:Gu q->p:=by
 intro A
 replace HRN:=Ag (HRN.o.below hb HRN.o.lt)
 replace HRX:=Ag (HRX.o.below hb HRX.o.lt)
 replace HBE:=Ag (HBE.o.trans (hb.mono HBE.o.size))
 replace hz5:=Nat.lt_of_lt_of_le hz5 hb.size
 replace m3:=ah m3 hb
 replace ec5:=ah ec5 hb
 replace y0:=ah y0 hb
 replace y1:=ah y1 hb
 replace y2:=ah y2 hb
 replace m4:=ah m4 hb
 replace ew:=ah ew hb
 replace HM5:=Ag (HM5.o.below hb)
 replace HYV:=Ag (HYV.o.below hb)
 revert HYV
 revert HM5
 revert ew
 revert m4
 revert y2
 revert y1
 revert y0
 revert ec5
 revert m3
 revert hz5
 revert HBE
 revert HRX
 revert HRN
 exact A.o):p:=h ⟨k⟩
theorem YN (k:q) (h:Gu q->p:=by
 intro A
 have HE:=Ag (show qL g xr yr pl=if seatE g pl≠0 then seatE g pl else if qh g xr yr≠0 then qh g xr yr else fP (nT g (xr.map gK) (yr.map gK) pl.toNat) from rfl)
 have HO:=Ag (show lS g xr yr pl=if seatE g pl≠0 then ⟨false,[],[]⟩ else if qh g xr yr≠0 then ⟨false,[],[]⟩ else dR (nT g (xr.map gK) (yr.map gK) pl.toNat) from rfl)
 obtain⟨oe,hoe⟩:=Gp (qL g xr yr pl)
 obtain⟨oo,hoo⟩:=Gp (lS g xr yr pl)
 rw[<-hoe] at HE ⊢
 rw[<-hoo] at HO ⊢
 revert HO
 revert HE
 revert hoo
 revert oo
 revert hoe
 revert oe
 exact A.o):p:=h ⟨k⟩
theorem YO (k:q) (h:Gu q->p:=by
 intro A
 refine hK.out _ _ ⟨ah u0 ((Below.refl _ _).alloc (Nat.le_refl _) _),ah u1 ((Below.refl _ _).alloc (Nat.le_refl _) _),ah u2 ((Below.refl _ _).alloc (Nat.le_refl _) _),ah m1 ((Below.refl _ _).alloc (Nat.le_refl _) _),ah y0 ((Below.refl _ _).alloc (Nat.le_refl _) _),ah y1 ((Below.refl _ _).alloc (Nat.le_refl _) _),ah y2 ((Below.refl _ _).alloc (Nat.le_refl _) _)⟩ (λhHeld=>?_)
 refine Zb ?_
 refine tk2 11 aj rfl λK hK=>?_
 revert hK
 revert K
 revert hHeld
 exact A.o):p:=h ⟨k⟩
theorem YQ (k:q) (h:Gu q->p:=by
 intro A
 refine ZM ?_
 intro hB
 dsimp only
 revert hB
 exact A.o):p:=h ⟨k⟩
theorem YR (h:p:=by
 obtain⟨A1,c1,e,_,h⟩:=hsel
 obtain⟨sb,so,e2,_⟩:=h (Nat.lt_of_le_of_lt (Nat.zero_le _) (Gn hs))
 simp only[Value.slice.injEq] at e
 exact⟨sb,so,e.1.trans e2⟩):p:=h
theorem YT (h:p:=by
 obtain⟨u0,_,c0,t0⟩:=hf 0 _ rfl
 obtain⟨u1,_,c1,t1⟩:=hf 1 _ rfl
 obtain⟨u2,_,c2,t2⟩:=hf 2 _ rfl
 obtain⟨x0,e0,_⟩:=DataW.trod_bool aj t0
 injection e0 with e0 _
 subst e0
 obtain⟨l1,i1,b1⟩:=uf t1
 obtain⟨l2,i2,b2⟩:=uf t2
 exact⟨⟨x0,l1,l2⟩,⟨cell 0 _ c0,⟨_,cell 1 _ c1,i1⟩,⟨_,cell 2 _ c2,i2⟩⟩,b1,b2⟩):p:=h
theorem YV (k:q) (h:Gu q->p:=by
 intro A
 replace o0:=ah o0 hb
 replace c9:=ah c9 hb
 replace u0:=ah u0 hb
 replace p0:=ah p0 hb
 replace p1:=ah p1 hb
 replace HNV:=Ag (Gs.on HNV.o (Below.same' hb _))
 replace HMB:=Ag (HMB.o.below hb)
 replace hBe:=hBe.trans (hb.mono hBe.size)
 revert hBe
 revert HMB
 revert HNV
 revert p1
 revert p0
 revert u0
 revert c9
 revert o0
 exact A.o):p:=h ⟨k⟩
theorem YX (k:q) (h:Gu q->p:=by
 intro A
 replace y0:=ah y0 hb
 replace y1:=ah y1 hb
 replace y2:=ah y2 hb
 replace hul:=ah hul hb
 replace z0:=ah z0 hb
 replace HGc:=Ag (HGc.o.on (Below.same' hb F))
 replace HO':=Ag (HO'.o.below hb)
 replace bG:=bG.trans (hb.mono bG.size)
 revert bG
 revert HO'
 revert HGc
 revert z0
 revert hul
 revert y2
 revert y1
 revert y0
 exact A.o):p:=h ⟨k⟩
theorem Y0 (k:q) (h:Gu q->p:=by
 intro C
 obtain⟨W,hW,rx,ry,rz,hB,hz⟩:=afd w 74 #[.bool (ay x).neg,.slice A (ay x).num.length c,.slice B (ay x).den.length d] 74 #[.bool (ay y).neg,.slice A' (ay y).num.length c',.slice B' (ay y).den.length d'] 74 #[.bool false,.slice none 0 0,.slice none 0 0]
 rw[<-hW]
 clear hW
 replace HX:=Ag (HX.o.on (Below.same' hB _))
 replace HY:=Ag (HY.o.on (Below.same' hB _))
 refine Zd ?_
 intro x0 x1 x2
 have y0:=ry.cell (i:=0) rfl
 have y1:=ry.cell (i:=1) rfl
 have y2:=ry.cell (i:=2) rfl
 clear rx ry hz
 refine(iE _ _ _ x HX.o).mono ?_
 revert y2
 revert y1
 revert y0
 revert x2
 revert x1
 revert x0
 revert HY
 revert HX
 revert hB
 revert rz
 revert W
 exact C.o):p:=h ⟨k⟩
theorem Y1 (k:q) (h:Gu q->p:=by
 intro A
 replace hzr:=Nat.le_trans hzr hb.size
 replace hbel:=hbel.trans (hb.mono hbel.size)
 revert hbel
 revert hzr
 exact A.o):p:=h ⟨k⟩
theorem Y2 (k:q) (h:Gu q->p:=by
 intro A
 have wr0:IntKind.i64.wrap (nx:Int)=(nx:Int):=IntWalk.i64_in _ FI
 have wr2:IntKind.i64.wrap ((nx:Int) - 1)=(nx:Int) - 1:=IntWalk.i64_in _ FI
 refine wp_region_held_drew (S:=λw'=>w'.cell? ⟨p,1,none⟩=some (.slice (some ⟨b,o,none⟩) g.F7.length c)/\w'.cell? ⟨p,5,none⟩=some (.slice (some ⟨bl,0,none⟩) g.F7.length g.F7.length)) aj ⟨x1,x5⟩ (λhHeld=>?_)
 revert hHeld
 revert wr2
 revert wr0
 exact A.o):p:=h ⟨k⟩
theorem Y3 (k:q) (h:Gu q->p:=by
 intro A
 replace y2:=ah y2 hb
 replace y3:=ah y3 hb
 replace y4:=ah y4 hb
 replace m4:=ah m4 hb
 replace ew:=ah ew hb
 replace Bq:=Ag (Bq.o.below hb)
 replace BX:=Ag (BX.o.below hb BX.o.lt)
 replace HYV:=Ag (Ak.below HYV.o hb)
 replace HB5:=Ag (HB5.o.trans (hb.mono HB5.o.size))
 replace hz5:=Nat.le_trans hz5 hb.size
 replace akY:=Nat.le_trans akY hb.size
 revert akY
 revert hz5
 revert HB5
 revert HYV
 revert BX
 revert Bq
 revert ew
 revert m4
 revert y4
 revert y3
 revert y2
 exact A.o):p:=h ⟨k⟩
theorem Y4 (k:q) (h:Gu q->p:=by
 intro A
 have hw:Wrote (λb=>v.ownBlock=some b) w w':=⟨h2.os,h2.tape,h2.output,FI,λb hl hb=>(h2.block b aB (λe=>hb e.symm)).trans (Below.heap_alloc _ _ _ hl)⟩
 have e1:(L ++ [q]).length=L.length+1:=aA
 have e2:(L ++ [q]).flatMap K.cells=L.flatMap K.cells++K.cells q:=by simp[List.flatMap_append]
 refine h g cap w' ⟨by rw[e1,e2]; exact h1,λp hp=>?_⟩ hw (h3.imp id λe=>by omega) FI
 revert hp
 revert p
 revert e2
 revert e1
 revert hw
 exact A.o):p:=h ⟨k⟩
theorem Y5 (h:p:=by
 exact hK.out _ _ ⟨Below.refl _ _,rfl,λh=>(by simp[fA] at h)⟩):p:=h
theorem Y6 (h:p:=by
 refine⟨_,rfl,hB,_,by rw[e0]; rfl,?_⟩
 rw[HO.o,LH (by rw[e0]; exact H0.o)]
 exact Gs.nil _ _):p:=h
theorem zaa (h:p:=by
 have hrun:=run_make_row' (P:=P) t e z bytes ht hinfo hz1 .i64 .i64 n hbytes FI w
 unfold Oper.wp
 simp[execOp,hop,hl,hc,hrun,Result.andThen]
 have hbel:Below w.heap.size w (w.alloc (.cells (madeCells #[z] n) e)):=(Below.refl _ _).alloc (Nat.le_refl _) _
 exact hK _ hbel aA (Row.made w z n e)):p:=h
theorem zab (k:q) (h:Gu q->p:=by
 intro A
 refine Zb ?_
 refine Zp ?_
 have f0:=HST.o.box.frozen 0
 have f1:=HST.o.box.frozen 1
 have f2:=HST.o.box.frozen 2
 obtain⟨Wz,hWz,hst2⟩:=HST.o.put (Ak.uz HSV.o)
 revert hst2
 revert hWz
 revert Wz
 revert f2
 revert f1
 revert f0
 exact A.o):p:=h ⟨k⟩
theorem zac (k:q) (h:Gu q->p:=by
 intro A
 have hb:Below wn.heap.size wn wn.drew:=aG (Below.refl _ wn) 1
 revert hb
 exact A.o):p:=h ⟨k⟩
theorem zad (h:p:=by
 rw[List.take_of_length_le FI,List.take_of_length_le FI] at h3
 exact h3):p:=h
theorem zaf (k:q) (h:Gu q->p:=by
 intro A
 refine⟨.slice A' (g.F7.length - nx) (c - nx),by rw[HF.o]; simp,by rw[HF.o]; intro _; exact⟨A',aA,by simpa using hA'⟩,?_,(hgr.setCell (.inl (.inr (.inr rfl))) _).drew⟩
 rw[HF.o]
 have h:=HWA.o
 refine⟨(h.head.other d3 _).drew,(h.rp.other d5 _).drew,(h.rd.other d6 _).drew,?_⟩
 have:=(h.rl.set a (.int .i64 ((nx:Int) - 1))).drew
 revert this
 revert h
 exact A.o):p:=h ⟨k⟩
theorem zai (k:q) (h:Gu q->p:=by
 intro A
 have hlen:=mV (N:=g.F7.length) g.F7 (g.F7.length+1) 0 (-1) 0 ⟨List.replicate g.F7.length 0,List.replicate g.F7.length 0,List.replicate g.F7.length 0⟩ ⟨aA,aA,aA⟩
 have hT:walkT g=bP g.F7 (g.F7.length+1) 0 (-1) 0 ⟨List.replicate g.F7.length 0,List.replicate g.F7.length 0,List.replicate g.F7.length 0⟩:=rfl
 revert hT
 revert hlen
 exact A.o):p:=h ⟨k⟩
theorem zaj (h:p:=by
 have h:=HTB.o
 simp only[Bool.and_eq_true,beq_iff_eq,Eq.comm (a:=true)] at h
 exact Prod.ext h.1 h.2):p:=h
theorem zak (h:p:=by
 exact⟨_,rfl,hwz _ _ (Nat.le_refl _) hB,(HM.o.on (hkz _ FI)).mono (λb hb _=>by omega)⟩):p:=h
theorem zal (k:q) (h:Gu q->p:=by
 intro A
 refine Zb ?_
 refine Zp ?_
 have f0:=HUB.o.frozen 0
 have f1:=HUB.o.frozen 1
 have f2:=HUB.o.frozen 2
 obtain⟨Wz,hWz,hrz,hwz⟩:=aml HUB.o (.bool (ak pr).neg) (.slice A4 (ak pr).num.length c4) (.slice B4 (ak pr).den.length d4)
 have HWZ:=Ag hWz
 revert HWZ
 revert hwz
 revert hrz
 revert hWz
 revert Wz
 revert f2
 revert f1
 revert f0
 exact A.o):p:=h ⟨k⟩
theorem zam (h:p:=by
 obtain⟨sb,so,e2,_⟩:=h (Nat.lt_of_le_of_lt (Nat.zero_le _) (Gn hu))
 simp only[Value.slice.injEq] at e
 exact⟨sb,so,e.1.trans e2⟩):p:=h
theorem zan (h:p:=by
 have hrows:=HO.o.rows (G:=Ext F w.heap.size) (λb h=>h) (λb h=>.inr FI)
 rw[HLM.o,List.take_of_length_le FI] at hrows
 have HRW:=Ag hrows
 have HBF:=Ag (HB.o.trans (hbel.mono hWz))
 clear hrows HO hol hbel
 go_wp2
 go_ret
 exact⟨_,rfl,HBF.o,HRW.o⟩):p:=h
theorem zaq (k:q) (h:Gu q->p:=by
 intro A
 have t0:(fe != 0)=true:=by simp[h0]
 have H0:=Ag h0
 revert H0
 revert t0
 exact A.o):p:=h ⟨k⟩
theorem zat (h:p:=by
 rintro e w' ⟨u,rfl,hb,hu⟩
 exact hK.out _ _ hb hu):p:=h
theorem zav (h:p:=by
 exact cell_lt (a:=⟨b,off,none⟩) (by simpa [Addr.add_lit] using hc0)):p:=h
theorem zaw (k:q) (h:Gu q->p:=by
 intro A
 obtain⟨W6,hW6,rx,hB6,hz6⟩:=dW wb 71 #[.int .i64 s.1,.int .i64 s.2]
 rw[<-hW6]
 obtain⟨nb,hnb⟩:=Gp wb.heap.size
 rw[<-hnb] at rx ⊢
 have q5:nb < W6.heap.size:=rx.lt
 have q6:W4.heap.size<=nb:=FI
 replace HST:=Ag (HST.o.below hB6)
 replace HWR:=Ag (HWR.o.trans (Below.wrote hB6 _))
 have hB:=Below.refl W6.heap.size W6
 have q7:=Nat.le_refl W6.heap.size
 clear hW6 hz6 hB6 hnb
 have x0:=rx.cell (i:=0) rfl
 have x1:=rx.cell (i:=1) rfl
 obtain⟨tb,htb⟩:=Gp (((s.1 == -1)&&(s.2 == -1)))
 have heq:=λw=>rW w s.1 s.2 (-1) (-1)
 revert heq
 revert htb
 revert tb
 revert x1
 revert x0
 revert q7
 revert hB
 revert HWR
 revert HST
 revert q6
 revert q5
 revert rx
 revert nb
 revert W6
 exact A.o):p:=h ⟨k⟩
theorem zaz (k:q) (h:Gu q->p:=by
 intro A
 have q0:=ro.cell (i:=0) rfl
 have y0:=ro.frozen 0
 have q1:=ro.cell (i:=1) rfl
 have y1:=ro.frozen 1
 have q2:=ro.cell (i:=2) rfl
 have y2:=ro.frozen 2
 revert y2
 revert q2
 revert y1
 revert q1
 revert y0
 revert q0
 exact A.o):p:=h ⟨k⟩
theorem zaA (k:q) (h:Gu q->p:=by
 intro A
 refine wp_region_held_drew (S:=λw'=>w'.cell? ⟨w.heap.size,0,none⟩=some (.int .i64 g.aC)/\w'.cell? ⟨w.heap.size,1,none⟩=some (.slice (some ⟨gb,go,none⟩) g.F7.length c)/\w'.cell? ⟨w.heap.size,2,none⟩=some (.slice Ai g.F8.length ci)) aj ⟨x0,x1,x2⟩ (λhHeld=>?_)
 revert hHeld
 exact A.o):p:=h ⟨k⟩
theorem zaB (h:p:=by
 exact⟨_,rfl,(Below.refl _ _).alloc (Nat.le_refl _) _,.pointer none,by rw[HF.o]; rfl,by rw[HF.o]; intro h; simp at h⟩):p:=h
theorem zaC (h:p:=by
 exact⟨[],⟨none,0,rfl,Nat.le_refl _,λh=>absurd h aA⟩,λx hx=>by cases hx⟩):p:=h
theorem zaD (k:q) (h:Gu q->p:=by
 intro A
 replace z0:=ah z0 hb
 replace z1:=ah z1 hb
 replace z2:=ah z2 hb
 replace x0:=ah x0 hb
 replace x1:=ah x1 hb
 replace p0:=ah p0 hb
 replace p1:=ah p1 hb
 replace n0:=ah n0 hb
 replace n1:=ah n1 hb
 replace n2:=ah n2 hb
 replace r0:=ah r0 hb
 replace l0:=ah l0 hb
 replace l1:=ah l1 hb
 replace l2:=ah l2 hb
 replace HMR:=Ag (HMR.o.below hb)
 replace HNY:=Ag (HNY.o.below hb)
 replace HRX:=Ag (HRX.o.below hb)
 revert HRX
 revert HNY
 revert HMR
 revert l2
 revert l1
 revert l0
 revert r0
 revert n2
 revert n1
 revert n0
 revert p1
 revert p0
 revert x1
 revert x0
 revert z2
 revert z1
 revert z0
 exact A.o):p:=h ⟨k⟩
theorem zaE (k:q) (h:Gu q->p:=by
 intro A
 have n0:=hne.c0
 have n1:=hne.c1
 have n2:=hne.c2
 obtain⟨v3,n3,h3⟩:=hne.c3
 obtain⟨v4,n4,h4⟩:=hne.c4
 obtain⟨v5,n5,h5⟩:=hne.c5
 revert h5
 revert n5
 revert v5
 revert h4
 revert n4
 revert v4
 revert h3
 revert n3
 revert v3
 revert n2
 revert n1
 revert n0
 exact A.o):p:=h ⟨k⟩
theorem zaF (k:q) (h:Gu q->p:=by
 intro A
 have HNX:=Ag (Ah.mono (n:=x.num.natAbs) (G:=Old F w.heap.size) hn (λb hb _=>hb))
 have HDX:=Ag (Ah.mono (n:=x.den) (G:=Old F w.heap.size) hd (λb hb _=>hb))
 revert HDX
 revert HNX
 exact A.o):p:=h ⟨k⟩
theorem zaG (k:q) (h:Gu q->p:=by
 intro A
 replace HG:=Ag (HG.o.on (Below.same' hB F))
 refine Zd ?_
 intro x0 x1 x2
 revert x2
 revert x1
 revert x0
 revert HG
 exact A.o):p:=h ⟨k⟩
theorem zaH (h:p:=by
 exact hK.out _ _ (Below.refl _ _) rfl):p:=h
theorem zaL (k:q) (h:Gu q->p:=by
 intro A
 have u0:=hst.box.cell (i:=0) rfl
 have u1:=hst.box.cell (i:=1) rfl
 have u2:=hst.box.cell (i:=2) rfl
 have HUV:=Ag hst.val
 have hul:=hst.lt
 revert hul
 revert HUV
 revert u2
 revert u1
 revert u0
 exact A.o):p:=h ⟨k⟩
theorem zaM (h:p:=by
 go_wp2
 go_ret
 exact⟨by first | rfl | (rw[HF.o]; rfl),rfl⟩):p:=h
theorem zaN (k:q) (h:Gu q->p:=by
 intro A
 try simp only[Act.put,List.setIfInBounds_toArray,List.set_cons_zero,List.set_cons_succ]
 exact A.o):p:=h ⟨k⟩
theorem zaO (h:p:=by
 go_wp2
 go_ret
 exact⟨_,rfl,aG (hbel.alloc hbel.size _) _,by rw[HF.o]; rfl⟩):p:=h
theorem zaQ (k:q) (h:Gu q->p:=by
 intro A
 obtain⟨one,hone⟩:∃ x:Rat,x=((1:Int):Rat):=⟨_,rfl⟩
 rw[<-hone] at hw1
 have Bh:=Ag (show one=1 by rw[hone]; rfl)
 clear hone
 revert Bh
 revert hw1
 revert one
 exact A.o):p:=h ⟨k⟩
theorem zaS (h:p:=by
 go_wp2
 go_ret
 exact⟨_,rfl,hB.trans (hbel.mono hB.size),by rw[HE.o]; rfl⟩):p:=h
theorem zaT (k:q) (h:Gu q->p:=by
 intro A
 have hb:Below wb.heap.size wb wb.drew:=aG (Below.refl _ wb) 1
 revert hb
 exact A.o):p:=h ⟨k⟩
theorem zaU (k:q) (h:Gu q->p:=by
 intro A
 replace rx:=rx.below hb rx.lt
 refine Zl ?_
 intro hB HG HX HY
 refine Zd ?_
 intro x0 x1 x2
 replace HP:=Ag (AA.on HP.o (Below.same' hb _))
 revert HP
 revert x2
 revert x1
 revert x0
 revert HY
 revert HX
 revert HG
 revert hB
 revert rx
 exact A.o):p:=h ⟨k⟩
theorem zaW (k:q) (h:Gu q->p:=by
 intro A
 replace HG:=Ag (HG.o.on (Below.same' hB _))
 replace HM:=Ag (Gt.on HM.o (Below.same' hB _))
 revert HM
 revert HG
 exact A.o):p:=h ⟨k⟩
theorem zaZ (k:q) (h:Gu q->p:=by
 intro A
 replace hwn:=Nat.le_trans hwn hb.size
 replace hbq:=hbq.trans (hb.mono hbq.size)
 dsimp only
 refine hK.out _ _ ⟨x1,o0,c0,c1,c2,l0,l1,l2,n5,pc⟩ (λhHeld=>?_)
 refine Zb ?_
 revert hHeld
 revert hbq
 revert hwn
 exact A.o):p:=h ⟨k⟩
theorem za0 (h:p:=by
 rintro e wz ⟨_,rfl,hbz,rfl⟩
 dsimp only
 go_wp2
 go_ret
 exact⟨_,rfl,hB.trans (hbz.mono hB.size),rfl⟩):p:=h
theorem za1 (k:q) (h:Gu q->p:=by
 intro A
 refine ZL ?_
 intro rz hz hB hHeld
 refine Zp ?_
 clear hHeld
 refine Zk ?_
 revert hB
 revert hz
 revert rz
 exact A.o):p:=h ⟨k⟩
theorem za2 (h:p:=by
 have HF:=Ag (show dX aC ni x=3 by unfold dX; rw[LH FI])
 exact Zu):p:=h
theorem za3 (h:p:=by
 obtain rfl:len=0:=FI
 exact⟨[],⟨some a,cap,rfl,aA,λh=>absurd h aA⟩,λx hx=>by cases hx⟩):p:=h
theorem za4 (h:p:=by
 obtain⟨W1,hw,hr,hb,hz⟩:=dI wk 3 #[.int .i64 6,.int .i64 3,.int .i64 3,.int .i64 1,.int .i64 1,.int .i64 1]
 rw[<-hw]
 exact hK.out _ _ hb (Row.zM (l:=[6,3,3,1,1,1]) (F:=λ_=>True) hr trivial)):p:=h
theorem za5 (h:p:=by
 refine Row.alloc ?_ _
 exact Row.yT aA rfl):p:=h
theorem za7 (k:q) (h:Gu q->p:=by
 intro A
 have HRL:(ak x).num.length=(dig x.num.natAbs).length/\(ak x).den.length=(dig x.den).length:=⟨rfl,rfl⟩
 clear HRL
 exact A.o):p:=h ⟨k⟩
theorem zba (h:p:=by
 have t3:((den.length:Int)==0)=false:=beq_false_of_ne FI
 have HE:=Ag (show dQ num den=0 by rw[HP.o,LG (by simpa using h1),LG (by simpa using h2),LG h3])
 clear h1 h2 h3
 exact ZN):p:=h
theorem zbb (k:q) (h:Gu q->p:=by
 intro B
 refine wp_region_held_drew (S:=λw'=>w'.cell? ⟨gb,0,none⟩=some (.int .i64 fB.aC)/\w'.cell? ⟨gb,1,none⟩=some (.slice A fB.F7.length c)/\w'.cell? ⟨gb,2,none⟩=some (.slice Ai fB.F8.length ci)) aj ⟨x0,x1,x2⟩ (λhHeld=>?_)
 revert hHeld
 exact B.o):p:=h ⟨k⟩
theorem zbc (k:q) (h:Gu q->p:=by
 intro A
 have CS:=Ag hmap
 have CU:=Ag (show rZ r=if dF r≠0 then dF r else if r.neg=true then 2 else 0 from rfl)
 obtain⟨re,hre⟩:=Gp (dF r)
 rw[<-hre] at CU ⊢
 revert CU
 revert hre
 revert re
 revert CS
 exact A.o):p:=h ⟨k⟩
theorem zbd (k:q) (h:Gu q->p:=by
 intro A
 have HE:=Ag (show kY g mr pl=if seatE g pl≠0 then seatE g pl else iw g mr from rfl)
 have HO:=Ag (show gX g mr pl=if kY g mr pl≠0 then [] else (vW g (mr.map (List.map gK)) pl).map ak from rfl)
 obtain⟨oe,hoe⟩:=Gp (kY g mr pl)
 obtain⟨oo,hoo⟩:=Gp (gX g mr pl)
 rw[<-hoe] at HE HO ⊢
 rw[<-hoo] at HO ⊢
 have hni:=hsm.F8
 revert hni
 revert HO
 revert HE
 revert hoo
 revert oo
 revert hoe
 revert oe
 exact A.o):p:=h ⟨k⟩
theorem zbe (k:q) (h:Gu q->p:=by
 intro A
 obtain⟨Wz,hWz,hrz,hwz,hkz⟩:=aY rz (.bool false) (.slice none 0 0) (.slice none 0 0)
 refine Zg ?_
 clear hWz
 revert hkz
 revert hwz
 revert hrz
 revert Wz
 exact A.o):p:=h ⟨k⟩
theorem zbf (k:q) (h:Gu q->p:=by
 intro A
 unfold RtV
 rw[HM.o]
 have hg0:0 < Nat.gcd n b:=Nat.gcd_pos_of_pos_right _ FI
 have HGN:=Ag (Nat.gcd_dvd_left n b)
 have HG:=Ag (show ∀ w,Calls Tryz.prog 96 #[.int .i64 (n:Int),.int .i64 (b:Int)] w (Ret w λv _=>v = .int .i64 (Nat.gcd n b:Int)) from λw=>ajm w n b h1 h2)
 revert HG
 revert HGN
 revert hg0
 exact A.o):p:=h ⟨k⟩
theorem zbg (k:q) (h:Gu q->p:=by
 intro A
 refine hK.out _ _ ⟨x0,x1⟩ (λhHeld=>?_)
 refine Zb ?_
 refine Z8 ?_
 clear hHeld
 replace HWR:=Ag (HWR.o.trans (Below.wrote hB _))
 revert HWR
 exact A.o):p:=h ⟨k⟩
theorem zbh (k:q) (h:Gu q->p:=by
 intro A
 have HN:=Ag (hu.mono (G:=(λb=>w.heap.size+1<=b)) (λb hb _=>by omega))
 refine Ye ?_
 intro hr hz hB
 dsimp only
 revert hB
 revert hz
 revert hr
 revert HN
 exact A.o):p:=h ⟨k⟩
theorem zbj (k:q) (h:Gu q->p:=by
 intro A
 refine ZA ?_
 intro rz hz hB
 dsimp only
 revert hB
 revert hz
 revert rz
 exact A.o):p:=h ⟨k⟩
theorem zbk (k:q) (h:Gu q->p:=by
 intro A
 rw[Nat.mul_one] at hvr
 have oN:=Gs.keep (G:=Old F w.heap.size) hra (λb hb hl=>⟨hb,hl⟩) (Same.refl _ _)
 revert oN
 revert hvr
 exact A.o):p:=h ⟨k⟩
theorem zbl (h:p:=by
 have t3:((den.length:Int)==0)=true:=by rw[h3];rfl
 have HE:=Ag (show dQ num den=6 by rw[HP.o,LG (by simpa using h1),LG (by simpa using h2),LH h3])
 clear h1 h2 h3
 exact ZN):p:=h
theorem zbm (h:p:=by
 go_in
 go_wp2
 go_ret
 exact⟨_,rfl,(Below.refl _ _).alloc (Nat.le_refl _) _,by rw[HE.o]; rfl⟩):p:=h
theorem zbn (k:q) (h:Gu q->p:=by
 intro A
 replace r0:=ah r0 hb
 replace b0:=ah b0 hb
 replace b1:=ah b1 hb
 replace b2:=ah b2 hb
 replace HEB:=Ag (Ak.below HEB.o hb)
 replace HRV:=Ag (Gs.on HRV.o (Below.same' hb _))
 replace HXW:=Ag (Gs.on HXW.o (Below.same' hb _))
 revert HXW
 revert HRV
 revert HEB
 revert b2
 revert b1
 revert b0
 revert r0
 exact A.o):p:=h ⟨k⟩
theorem zbq (k:q) (h:Gu q->p:=by
 intro A
 have HE:=Ag (show oU g xr yr=if lJ g xr yr≠0 then lJ g xr yr else nH (gB (kN g (xr.map gK) (yr.map gK))).flatten from rfl)
 have HO:=Ag (show iY g xr yr=if lJ g xr yr≠0 then [] else aaD (gB (kN g (xr.map gK) (yr.map gK))) from rfl)
 revert HO
 revert HE
 exact A.o):p:=h ⟨k⟩
theorem zbu (k:q) (h:Gu q->p:=by
 intro A
 refine hK.out _ _ ⟨(HWA.o.head.other (a:=⟨bl,a,none⟩) d3 _).drew.cell rfl,(HWA.o.head.other (a:=⟨bl,a,none⟩) d3 _).drew.cell rfl⟩ (λhHeld=>?_)
 refine Zb ?_
 refine Z8 ?_
 clear hHeld
 exact A.o):p:=h ⟨k⟩
theorem zbv (k:q) (h:Gu q->p:=by
 intro A
 replace rx:=rx.below hb rx.lt
 replace q7:=Nat.le_trans q7 hb.size
 refine YQ ?_
 intro hB
 refine hK.out _ _ ⟨x0,x1⟩ (λhHeld=>?_)
 refine Zb ?_
 refine tk2 2 aj rfl λK hK=>?_
 revert hK
 revert K
 revert hHeld
 revert hB
 revert q7
 revert rx
 exact A.o):p:=h ⟨k⟩
theorem zbx (k:q) (h:Gu q->p:=by
 intro A
 replace HNX:=Ag (HNX.o.below hb)
 replace HDX:=Ag (HDX.o.below hb)
 revert HDX
 revert HNX
 exact A.o):p:=h ⟨k⟩
theorem zby (h:p:=by
 have e1:=HE.o
 rw[LH (by rw[e0]; exact H0.o),e0] at e1
 refine⟨_,rfl,hB,_,by rw[e1]; rfl,?_⟩
 rw[HO.o,LH (by rw[e0]; exact H0.o)]
 exact Gt.nil _ _):p:=h
theorem zbz (h:p:=by
 refine⟨_,rfl,hwz _ _ FI HB5.o,_,rfl,?_⟩
 have h:=HU.o.mono (G:=λb=>b≠ob) λb hb _=>by omega
 exact(Ak.on h (hkz _ λh=>h rfl)).mono λ_ _ _=>trivial):p:=h
theorem zbA (h:p:=by
 injection hcs with hv _
 subst hv
 exact⟨[],none,0,rfl,Nat.le_refl _,λh=>absurd h aA⟩):p:=h
theorem zbC (k:q) (h:Gu q->p:=by
 intro A
 replace HP:=Ag (Gs.on HP.o (Below.same' hb _))
 replace HQ:=Ag (Gs.on HQ.o (Below.same' hb _))
 replace HA:=Ag (Gs.on HA.o (Below.same' hb _))
 revert HA
 revert HQ
 revert HP
 exact A.o):p:=h ⟨k⟩
theorem zbF (h:p:=by
 have t1:(pe != 0)=true:=by simp[h1]
 have HE:=Ag (show dF ⟨neg,num,den⟩=pe by rw[HR.o,LH h1])
 clear h1
 go_wp2
 go_ret
 exact⟨_,rfl,hB,by rw[HE.o]; rfl⟩):p:=h
theorem zbG (k:q) (h:Gu q->p:=by
 intro A
 refine Ym ?_
 intro HNX
 have HDX:=Ag (Ah.mono (n:=x.den) (G:=(Ext (Old F w.heap.size) (w.heap.size+3))) hd (λb hb _=>.inl hb))
 revert HDX
 revert HNX
 exact A.o):p:=h ⟨k⟩
theorem zbH (k:q) (h:Gu q->p:=by
 intro A
 refine ZY ?_
 intro HNY
 have HDY:=Ag (Ah.mono (n:=y.den) (G:=(Ext (Old F w.heap.size) (w.heap.size+3))) hd (λb hb _=>.inl hb))
 revert HDY
 revert HNY
 exact A.o):p:=h ⟨k⟩
theorem zbI (k:q) (h:Gu q->p:=by
 intro A
 obtain⟨hr,hB,hz'⟩:=aI hW
 have hz:w.heap.size+1<=W.heap.size:=FI
 clear hz'
 revert hz
 revert hB
 revert hr
 exact A.o):p:=h ⟨k⟩
theorem zbJ (h:p:=by
 exact⟨_,rfl,hwz _ _ (Nat.le_refl _) hB,_,_,rfl,(HN.o.on (hkz _ FI)).mono (λb hb _=>by omega),(HD.o.on (hkz _ FI)).mono (λb hb _=>by omega)⟩):p:=h
theorem zbK (k:q) (h:Gu q->p:=by
 intro A
 have HDY:=Ag (hu.mono (G:=(Ext (Old F w.heap.size) (w.heap.size+3))) (λb hb _=>hb.elim .inl λh=>.inr FI))
 revert HDY
 exact A.o):p:=h ⟨k⟩
theorem zbM (k:q) (h:Gu q->p:=by
 intro A
 obtain⟨W5,hW5,rx,hb5,hz5⟩:=dW wb 42 #[.bool r.neg,.slice An r.num.length cn,.slice Ad r.den.length cd]
 rw[<-hW5]
 replace HRV:=Ag (Ak.below HRV.o hb5)
 have amB:=hbl.trans (hb5.mono (by have:=hbl.size; omega))
 have HB5:=Ag (HBB.o.trans (hb5.mono hbz))
 have x0':=rx.cell (i:=0) rfl
 have x1':=rx.cell (i:=1) rfl
 have x2':=rx.cell (i:=2) rfl
 clear hW5 hz5 hb5
 revert x2'
 revert x1'
 revert x0'
 revert HB5
 revert amB
 revert HRV
 revert rx
 revert W5
 exact A.o):p:=h ⟨k⟩
theorem zbN (k:q) (h:Gu q->p:=by
 intro A
 have hsr:=oK (l:=nd.weights.take k) (λx hx=>HNW.o x (List.mem_of_mem_take hx))
 have hsl:(nd.weights.take k).length<=k:=aB
 revert hsl
 revert hsr
 exact A.o):p:=h ⟨k⟩
theorem zbP (k:q) (h:Gu q->p:=by
 intro A
 rw[<-HWZ.o]
 refine ZW ?_
 exact A.o):p:=h ⟨k⟩
theorem zbQ (k:q) (h:Gu q->p:=by
 intro A
 replace u0:=ah u0 hb
 replace u1:=ah u1 hb
 replace u2:=ah u2 hb
 refine Zx ?_
 intro x0 x1 x2
 replace y0:=ah y0 hb
 replace y1:=ah y1 hb
 replace y2:=ah y2 hb
 replace HST:=Ag (HST.o.below hb)
 replace HUV:=Ag (HUV.o.below hb)
 replace HXV:=Ag (HXV.o.below hb)
 replace HYV:=Ag (HYV.o.below hb)
 revert HYV
 revert HXV
 revert HUV
 revert HST
 revert y2
 revert y1
 revert y0
 revert x2
 revert x1
 revert x0
 revert u2
 revert u1
 revert u0
 exact A.o):p:=h ⟨k⟩
theorem zbR (k:q) (h:Gu q->p:=by
 intro A
 have HF:=Ag (show dw x=3 by unfold dw; rw[LH FI])
 revert HF
 exact A.o):p:=h ⟨k⟩
theorem zbT (h:p:=by
 rw[List.erase_cons_tail (by simpa using hji)]
 simp only[oJ,Bool.and_eq_true,List.all_eq_true]
 exact⟨λk hk=>hok.1 k (List.mem_of_mem_erase hk),ih hok.2⟩):p:=h
theorem zbU (h:p:=by
 go_wp2
 go_ret
 exact⟨by rw[HF.o]; rfl,rfl⟩):p:=h
theorem zbV (h:p:=by
 go_wp2
 go_ret
 exact⟨_,rfl,aG hbel _,by rw[HF.o]; rfl⟩):p:=h
theorem zbW (h:p:=by
 rintro e w' ⟨_,rfl,hb,rfl⟩
 exact hK.out _ _ hb (by rw[LK rfl]; rfl)):p:=h
theorem zbZ (h:p:=by
 obtain⟨W1,hw,hr,hb,hz⟩:=dI wk 3 #[.int .i64 2,.int .i64 1,.int .i64 1]
 rw[<-hw]
 exact hK.out _ _ hb (Row.zM (l:=[2,1,1]) (F:=λ_=>True) hr trivial)):p:=h
theorem zb0 (h:p:=by
 exact⟨_,rfl,hB,_,by rw[e0]; rfl,_,_,_,rfl⟩):p:=h
theorem zb1 (k:q) (h:Gu q->p:=by
 intro A
 obtain⟨W,hW⟩:∃ W:World,W=wr.alloc (.cells #[.int .i64 n.kind,.int .i64 n.aH,.int .i64 n.info,.slice A3 n.next.length c3,.slice A4 n.weights.length c4,.slice A5 n.pay.length c5] 51):=⟨_,rfl⟩
 rw[<-hW]
 revert hW
 revert W
 exact A.o):p:=h ⟨k⟩
theorem zb2 (k:q) (h:Gu q->p:=by
 intro A
 rw[List.getElem?_set_ne FI,List.getElem?_set_ne FI,List.getElem?_set_ne FI,h0]
 exact A.o):p:=h ⟨k⟩
theorem zb3 (h:p:=by
 have t1:(fe != 0)=true:=by simp[h0]
 have HF:=Ag (HE.o.trans (LH h0))
 clear h0 hact
 dsimp only
 go_wp2
 go_ret
 exact⟨_,rfl,hB1,by rw[HF.o]; rfl⟩):p:=h
theorem zb4 (k:q) (h:Gu q->p:=by
 intro A
 dsimp only
 refine hK.out _ _ ⟨u0,u1,u2,q0,q1',q2,n2,n3,n4,n5,pc⟩ (λhHeld=>?_)
 revert hHeld
 exact A.o):p:=h ⟨k⟩
theorem zb6 (h:p:=by
 have HF:=Ag (show aQ g=2 by unfold aQ; rw[LH (by unfold jE; omega)])
 exact Zu):p:=h
theorem zb8 (h:p:=by
 have HE:=Ag (show dM l=4 by unfold dM; rw[LH h1])
 have d1:decide ((1024:Int) < (l.length:Int))=true:=LK FI
 clear h1
 go_in
 exact ZN):p:=h
theorem zb9 (h:p:=by
 have:=OwnRows.rows (F:=λb=>w.heap.size<=b) hown hrow FI (λ_ _=>by omega) (c:=g.F8.length) (by rw[dD]; omega)
 rw[dD] at this
 exact this):p:=h
theorem zca (h:p:=by
 have e0:=HE.o
 rw[LG au,LH H2.o] at e0
 exact⟨_,rfl,HB.o,_,by rw[e0]; rfl,by rw[HO.o,LH (by rw[e0]; decide)]; exact AA.nil _ _⟩):p:=h
theorem zcb (k:q) (h:Gu q->p:=by
 intro A
 have HUB:=Ag HST.o.uy
 have HAV:=Ag (show RtV wd (λb=>b≠ub) (.agg #[.bool (ak acc).neg,.slice A2 (ak acc).num.length c2,.slice B2 (ak acc).den.length d2]) acc from Ak.make rfl HST.o.fine.1 HST.o.fine.2)
 revert HAV
 revert HUB
 exact A.o):p:=h ⟨k⟩
theorem zcc (h:p:=by
 dsimp only
 go_wp2_with fail
 refine(agE w).mono ?_
 rintro e w1 ⟨v,rfl,hb1,hv⟩
 have HV:=Ag hv
 clear hv
 go_wp2
 go_ret
 exact⟨_,rfl,hb1,HV.o⟩):p:=h
theorem zcd (k:q) (h:Gu q->p:=by
 intro A
 have HR:=Ag (show dF r=if dQ r.num r.den≠0 then dQ r.num r.den else if (r.num.length=0/\r.neg=true)\/Nat.gcd (aF r.num) (aF r.den)≠1 then 3 else 0 from rfl)
 have HU:=Ag hu
 have HK:=Ag (λh=>wS (num:=r.num) (den:=r.den) h)
 revert HK
 revert HU
 revert HR
 exact A.o):p:=h ⟨k⟩
theorem zce (h:p:=by
 exact⟨_,rfl,hwz _ _ FI hB,by rw[HZ.o]; exact NmV.zero _ _ _ _ _ _⟩):p:=h
theorem zcf (k:q) (h:Gu q->p:=by
 intro A
 refine Zb ?_
 refine tk2 10 aj rfl λK hK=>?_
 revert hK
 revert K
 exact A.o):p:=h ⟨k⟩
theorem zcg (k:q) (h:Gu q->p:=by
 intro A
 have q0:=hrz.cell (i:=0) rfl
 have y0:=hrz.frozen 0
 have q1:=hrz.cell (i:=1) rfl
 have y1:=hrz.frozen 1
 have q2:=hrz.cell (i:=2) rfl
 have y2:=hrz.frozen 2
 revert y2
 revert q2
 revert y1
 revert q1
 revert y0
 revert q0
 exact A.o):p:=h ⟨k⟩
theorem zch (k:q) (h:Gu q->p:=by
 intro A
 obtain⟨Wz,hWz,hrz,hwz,hkz⟩:=aY rz (.bool (ak (x+y)).neg) (.slice Am (ak (x+y)).num.length cm) (.slice Bm (ak (x+y)).den.length dm)
 refine Zg ?_
 clear hWz
 revert hkz
 revert hwz
 revert hrz
 revert Wz
 exact A.o):p:=h ⟨k⟩
theorem zci (k:q) (h:Gu q->p:=by
 intro A
 replace u0:=ah u0 hb
 replace u1:=ah u1 hb
 replace u2:=ah u2 hb
 replace z1:=ah z1 hb
 replace z2:=ah z2 hb
 replace p0:=ah p0 hb
 replace p1:=ah p1 hb
 replace l0:=ah l0 hb
 replace l1:=ah l1 hb
 replace l2:=ah l2 hb
 replace HUV:=Ag (HUV.o.below hb)
 replace HZV:=Ag (HZV.o.below hb)
 revert HZV
 revert HUV
 revert l2
 revert l1
 revert l0
 revert p1
 revert p0
 revert z2
 revert z1
 revert u2
 revert u1
 revert u0
 exact A.o):p:=h ⟨k⟩
theorem zcl (k:q) (h:Gu q->p:=by
 intro A
 have HD:=Ag (hu.mono (G:=(λb=>w.heap.size+1<=b)) (λb hb _=>by omega))
 replace HN:=Ag (HN.o.below hb)
 refine Ye ?_
 revert HN
 revert HD
 exact A.o):p:=h ⟨k⟩
theorem zcn (h:p:=by
 have t2:(e2 != 0)=true:=by simp[h2]
 have HE:=Ag (show dQ num den=e2 by rw[HP.o,LG (by simpa using h1),LH h2])
 clear h1 h2
 exact ZN):p:=h
theorem zco (h:p:=by
 show(dig x.num.natAbs).length<=500000/\(dig x.den).length<=500000
 omega):p:=h
theorem zcp (k:q) (h:Gu q->p:=by
 intro A
 replace HE:=Ag (HE.o.trans (LG au))
 replace HO:=Ag (HO.o.trans (LG au))
 revert HO
 revert HE
 exact A.o):p:=h ⟨k⟩
theorem zcq (k:q) (h:Gu q->p:=by
 intro A
 replace u0:=ah u0 hb
 replace u1:=ah u1 hb
 replace u2:=ah u2 hb
 replace z1:=ah z1 hb
 replace l0:=ah l0 hb
 replace l1:=ah l1 hb
 replace l2:=ah l2 hb
 replace HST:=Ag (HST.o.below hb)
 replace HUV:=Ag (HUV.o.below hb)
 replace HZV:=Ag (HZV.o.below hb)
 revert HZV
 revert HUV
 revert HST
 revert l2
 revert l1
 revert l0
 revert z1
 revert u2
 revert u1
 revert u0
 exact A.o):p:=h ⟨k⟩
theorem zcr (h:p:=by
 rintro e w2 ⟨_,rfl,hb2,rfl⟩
 have hB2:=hB1.trans (hb2.mono hB1.size)
 rw[<-HF.o]
 dsimp only
 go_wp2
 go_ret
 exact⟨_,rfl,hB2,rfl⟩):p:=h
theorem zcs (h:p:=by
 refine⟨k+1,FI,by go_num,?_,hbel.drew.trans (hb.mono hbel.size)⟩
 have e2:=HY.o
 rw[<-HEQ.o] at e2
 exact qX HX.o e2 HP.o):p:=h
theorem zct (h:p:=by
 have e0:=HE.o
 rw[LG au,LH H2.o] at e0
 exact⟨_,rfl,HB.o,_,by rw[e0]; rfl,λ_=>rfl,λh=>absurd (e0.symm.trans h) au⟩):p:=h
theorem zcu (h:p:=by
 go_wp2_with fail
 go_ret
 exact⟨_,rfl,HB6.o,rfl⟩):p:=h
theorem zcv (k:q) (h:Gu q->p:=by
 intro A
 have u0:=HST.o.uy.cell (i:=0) rfl
 have u1:=HST.o.uy.cell (i:=1) rfl
 have u2:=HST.o.uy.cell (i:=2) rfl
 have HUB:=Ag HST.o.uy
 revert HUB
 revert u2
 revert u1
 revert u0
 exact A.o):p:=h ⟨k⟩
theorem zcx (k:q) (h:Gu q->p:=by
 intro A
 have HF:=Ag (show iG aC x=3 by unfold iG; rw[LH FI])
 revert HF
 exact A.o):p:=h ⟨k⟩
theorem zcz (k:q) (h:Gu q->p:=by
 intro A
 refine Zo ?_
 have hb:Below W5.heap.size W5 W5.drew:=aG (Below.refl _ W5) 1
 revert hb
 exact A.o):p:=h ⟨k⟩
theorem zcA (k:q) (h:Gu q->p:=by
 intro A
 have k3:=((hWo.alloc _).drew).put HV.o hown1 hgrow rfl hat
 have k4:Below w.heap.size w w1:=((hWb.alloc FI _).drew).grown hgrow aB (λk hk=>by have:=hnb k hk; omega)
 have rv1:=k2.cell HV.o
 have fv1:=k2.frozen n.info.toNat
 revert fv1
 revert rv1
 revert k4
 revert k3
 exact A.o):p:=h ⟨k⟩
theorem zcB (k:q) (h:Gu q->p:=by
 intro A
 have fl:=HWA.o.rl.frozen a
 obtain⟨yl,hyl⟩:=Gl (show a < t'.l.length by rw[hlen.l]; exact hlt)
 have sl:wr.cell? ⟨bl,a,none⟩=some (.int .i64 yl):=HWA.o.rl.cell (by simp[mW,hyl])
 clear hyl
 refine tk2 16 aj rfl λK hK=>?_
 revert hK
 revert K
 revert sl
 revert yl
 revert fl
 exact A.o):p:=h ⟨k⟩
theorem zcF (k:q) (h:Gu q->p:=by
 intro A
 obtain⟨rx,ry,rz,hB,hz⟩:=qB hW
 refine Zn ?_
 clear rx ry
 revert hz
 revert hB
 revert rz
 exact A.o):p:=h ⟨k⟩
theorem zcG (k:q) (h:Gu q->p:=by
 intro A
 refine(check_any w1 w.heap.size F _ _ g fb vn vi vp V M _ _ xr yr HFA.o HSM.o HFO.o HX.o HY.o HFX.o HFY.o HX4.o HY4.o HT.o).mono ?_
 exact A.o):p:=h ⟨k⟩
theorem zcI (h:p:=by
 unfold Oper.wp
 simp[execOp,hop,hl,hc,hr,Result.andThen]
 exact hK' _ _ (hK _ ((Below.refl _ _).alloc (Nat.le_refl _) _) aA hrow)):p:=h
theorem zcJ (h:p:=by
 rw[Addr.add_lit] at hu
 rw[Nat.add_assoc]
 exact hu):p:=h
theorem zcN (k:q) (h:Gu q->p:=by
 intro A
 obtain⟨hin0,hin1⟩:=HIN.o n (List.mem_of_getElem? HX.o) hkd
 have hd:(n.kind==2)=true:=by simp[hkd]
 have HKD:=Ag hkd
 obtain⟨l,hl⟩:=Gl (l:=ig g.F7 g.F8.length k) (k:=n.info.toNat) (by rw[dD]; omega)
 obtain⟨v,hv⟩:=Gl (l:=vs) (k:=n.info.toNat) (by rw[hown.len,dD]; omega)
 revert hv
 revert v
 revert hl
 revert l
 revert HKD
 revert hd
 revert hin1
 revert hin0
 exact A.o):p:=h ⟨k⟩
theorem zcP (k:q) (h:Gu q->p:=by
 intro A
 replace o0:=ah o0 hb
 replace o1:=ah o1 hb
 replace o2:=ah o2 hb
 replace HRA:=Ag (HRA.o.below hb)
 replace Bh:=Ag (Bh.o.below hb)
 revert Bh
 revert HRA
 revert o2
 revert o1
 revert o0
 exact A.o):p:=h ⟨k⟩
theorem zcQ (k:q) (h:Gu q->p:=by
 intro A
 refine Zx ?_
 intro x0 x1 x2
 replace HG:=Ag (HG.o.on (Below.same' hb _))
 replace hbx:=hbx.trans (hb.mono hbx.size)
 revert hbx
 revert HG
 revert x2
 revert x1
 revert x0
 exact A.o):p:=h ⟨k⟩
theorem zcR (k:q) (h:Gu q->p:=by
 intro A
 have ano:=hok.1 i hi'
 obtain⟨x,hx⟩:∃ x,ops[j]? = some x:=⟨ops[j]'(hlt j aA),by simp[hlt j aA]⟩
 obtain⟨y,hy⟩:∃ y,ops[i]? = some y:=⟨ops[i]'(hlt i hi),by simp[hlt i hi]⟩
 obtain⟨f1,f2,f3⟩:=agx hx hy ano
 have f3':=f3 (yP j aA)
 have ex:iQ ops j=x.dst:=by simp[iQ,hx]
 have ey:iQ ops i=y.dst:=by simp[iQ,hy]
 revert ey
 revert ex
 revert f3'
 revert f3
 revert f2
 revert f1
 revert hy
 revert y
 revert hx
 revert x
 revert ano
 exact A.o):p:=h ⟨k⟩
theorem zcS (k:q) (h:Gu q->p:=by
 intro A
 replace HUB:=Ag (HUB.o.below hb mF)
 replace HAV:=Ag (Ak.below HAV.o hb)
 replace hbel:=hbel.trans (hb.mono hbel.size)
 replace mF:=Nat.lt_of_lt_of_le mF hb.size
 revert mF
 revert hbel
 revert HAV
 revert HUB
 exact A.o):p:=h ⟨k⟩
theorem zcT (k:q) (h:Gu q->p:=by
 intro A
 obtain⟨Wz,hWz,hrz,hwz,hkz⟩:=aY ro (.bool false) (.slice none 0 0) (.slice none 0 0)
 refine Zg ?_
 clear hWz
 revert hkz
 revert hwz
 revert hrz
 revert Wz
 exact A.o):p:=h ⟨k⟩
theorem zcU (h:p:=by
 have d3:((x:Int)==0)=false:=beq_false_of_ne FI
 have HE:=Ag (show dM l=0 by rw[HX.o,LG hz])
 clear hz
 exact ZN):p:=h
theorem zcV (k:q) (h:Gu q->p:=by
 intro A
 have hm:=Nat.mul_le_mul (show L.length+1<=1000001 by omega) hby
 obtain⟨i0,hi,hz0,hz1,hz2⟩:=info_parts hi0
 revert hz2
 revert hz1
 revert hz0
 revert hi
 revert i0
 revert hm
 exact A.o):p:=h ⟨k⟩
theorem zcX (k:q) (h:Gu q->p:=by
 intro A
 have x0:=rz.cell (i:=0) rfl
 have x1:=rz.cell (i:=1) rfl
 have x2:=rz.cell (i:=2) rfl
 revert x2
 revert x1
 revert x0
 exact A.o):p:=h ⟨k⟩
theorem zcZ (h:p:=by
 refine⟨l,_,cap,by rw[hll],by rw[hll]; exact hl,λ_=>⟨b,off,rfl,trivial,?_,λk n hk=>hp k n hk⟩⟩
 exact zav):p:=h
theorem zc0 (k:q) (h:Gu q->p:=by
 intro A
 have HXV:=Ag (Ak.mono (Ak.make (r:=ak x) rfl hn hd) (G:=λb=>(Old F w.heap.size b\/wa.heap.size<=b)/\b≠ub) (λb hb _=>⟨.inl hb,by have:=hb.2; omega⟩))
 revert HXV
 exact A.o):p:=h ⟨k⟩
theorem zc2 (k:q) (h:Gu q->p:=by
 intro A
 have dx:decide (x=0)=false:=LJ hx0
 have dy:decide (y=0)=false:=LJ hy0
 have lx:=fU x
 revert lx
 revert dy
 revert dx
 exact A.o):p:=h ⟨k⟩
theorem zc3 (h:p:=by
 have:i.bytes*n<=1000*1000000:=Nat.mul_le_mul FI hn
 omega):p:=h
theorem zc4 (h:p:=by
 intro u w' hb hi
 exact hK.out _ _ hb (Aj.keep hi.limbs (λb h _=>Nat.le_trans hS.2.2.2.2.2.1 h) (Same.refl _ _))):p:=h
theorem zc5 (h:p:=by
 have h1:=kF (dP HF.o).1 (List.mem_of_getElem? HNN.o) hk2
 have h2:=HP.o
 exact⟨n.aH.toNat,FI,FI⟩):p:=h
theorem zc7 (h:p:=by
 rw[HSN.o,hs0]
 exact⟨HST.o.len,HST.o.row,HST.o.grid,λi l hl=>by rw[aaU]; exact HST.o.vals i l hl⟩):p:=h
theorem zc9 (k:q) (h:Gu q->p:=by
 intro A
 have HPS:=Ag (show seatE g pl=0->fQ g=0/\0<=pl/\pl<=1 from aaN)
 revert HPS
 exact A.o):p:=h ⟨k⟩
theorem zdb (k:q) (h:Gu q->p:=by
 intro A
 replace hbq:=hbq.trans (hb.mono hbq.size)
 dsimp only
 refine hK.out _ _ ⟨u0,u1,u2,l0,l1,l2,m0⟩ (λhHeld=>?_)
 revert hHeld
 revert hbq
 exact A.o):p:=h ⟨k⟩
theorem zdd (h:p:=by
 have t1:(e1 != 0)=true:=by simp[h1]
 have HE:=Ag (show dQ num den=e1 by rw[HP.o,LH h1])
 clear h1
 exact ZN):p:=h
theorem zde (h:p:=by
 obtain⟨k,hk⟩:=List.getElem?_of_mem hr
 exact(hp k r hk).2):p:=h
theorem zdf (k:q) (h:Gu q->p:=by
 intro A
 have HX:=Ag ha.old
 have HY:=Ag hb.old
 revert HY
 revert HX
 exact A.o):p:=h ⟨k⟩
theorem zdg (k:q) (h:Gu q->p:=by
 intro A
 replace HG:=Ag (HG.o.on (Below.same' hb F))
 revert HG
 exact A.o):p:=h ⟨k⟩
theorem zdh (k:q) (h:Gu q->p:=by
 intro A
 have HXR:=Ag (show ∀ x∈xs,rl x<=10 from λx hx=>by have:=HX4.o.rl x hx; omega)
 have HYR:=Ag (show ∀ x∈ys,rl x<=10 from λx hx=>by have:=HY4.o.rl x hx; omega)
 revert HYR
 revert HXR
 exact A.o):p:=h ⟨k⟩
theorem zdj (h:p:=by
 have d3:((x:Int)==0)=true:=by rw[hz];rfl
 have HE:=Ag (show dM l=3 by rw[HX.o,LH hz])
 clear hz
 exact ZN):p:=h
theorem zdl (k:q) (h:Gu q->p:=by
 intro A
 rw[List.take_of_length_le (Nat.le_refl _)] at hsr ⊢
 obtain⟨tot,htot⟩:=Gp (rE nd.weights)
 rw[<-htot] at hsr ⊢
 have EG:=Ag htot
 revert EG
 revert hsr
 revert htot
 revert tot
 exact A.o):p:=h ⟨k⟩
theorem zdn (k:q) (h:Gu q->p:=by
 intro A
 have H4:=Ag (Aj.mono (G:=(λb=>w.heap.size+2<=b)) hu (λb hb _=>by omega))
 rw[h4]
 revert H4
 exact A.o):p:=h ⟨k⟩
theorem zdq (k:q) (h:Gu q->p:=by
 intro A
 rw[hgrow.cell_far _ aB (λe=>by have:=(HO.o.lt _ e.symm).2; simp at this),World.cell?_drew,World.cell?_alloc_lt _ _ _ aB]
 exact A.o):p:=h ⟨k⟩
theorem zdr (k:q) (h:Gu q->p:=by
 intro A
 show wpList _ _ _ _ _ _
 exact A.o):p:=h ⟨k⟩
theorem zds (k:q) (h:Gu q->p:=by
 intro A
 obtain⟨v,hv⟩:=Gl hin2
 obtain⟨l,hl⟩:=Gl (l:=ls) (k:=i) (by rw[<-HST.o.grid.len]; exact hin2)
 have hown:=HST.o.grid.own i v l hv hl
 have hvb:=HST.o.own v (List.mem_of_getElem? hv)
 have hnv:v.ownBlock≠some nb:=hown.apart rx au
 revert hnv
 revert hvb
 revert hown
 revert hl
 revert l
 revert hv
 revert v
 exact A.o):p:=h ⟨k⟩
theorem zdu (k:q) (h:Gu q->p:=by
 intro A
 have t1:(e0 != 0)=true:=by simp[h0]
 have hr0:nG inf.actions l=14:=by rw[AV.o,LH h0]
 have HE:=Ag ((mZ HLE.o HP.o HK.o HL.o (by rw[hr0]; decide)).trans hr0)
 clear hr0
 revert HE
 revert t1
 exact A.o):p:=h ⟨k⟩
theorem zdv (k:q) (h:Gu q->p:=by
 intro A
 have HU:=Ag (AA.keep (G:=(λ_=>True)) hvp (λ_ _ _=>trivial) (Same.refl _ _))
 obtain⟨Au,cu,e⟩:=hvp.open
 revert e
 revert cu
 revert Au
 revert HU
 exact A.o):p:=h ⟨k⟩
theorem zdx (k:q) (h:Gu q->p:=by
 intro A
 replace HG:=Ag (HG.o.below hb)
 replace HL:=Ag (HL.o.below hb)
 replace HR:=Ag (HR.o.below hb)
 revert HR
 revert HL
 revert HG
 exact A.o):p:=h ⟨k⟩
theorem zdy (k:q) (h:Gu q->p:=by
 intro A
 have HVE:=Ag (λh=>aaT (g:=g) (xr:=xr) (yr:=yr) h HX4.o HY4.o)
 obtain⟨ve,hve⟩:=Gp (qh g xr yr)
 revert hve
 revert ve
 revert HVE
 exact A.o):p:=h ⟨k⟩
theorem zdz (h:p:=by
 exact⟨_,rfl,hB,_,by rw[HPE.o,LH H0.o]; rfl,by rw[HPO.o,LH H0.o]; exact AA.nil _ _⟩):p:=h
theorem zdB (k:q) (h:Gu q->p:=by
 intro C
 obtain⟨W,hW,rx,rz,hB,hz⟩:=alloc2 w 74 #[.bool (ay x).neg,.slice A (ay x).num.length c,.slice B (ay x).den.length d] 42 #[.bool false,.slice none 0 0,.slice none 0 0]
 rw[<-hW]
 refine Yv ?_
 clear hW rx
 revert hz
 revert hB
 revert rz
 revert W
 exact C.o):p:=h ⟨k⟩
theorem zdC (h:p:=by
 have hl:=Gn h
 rw[List.drop_eq_getElem_cons hl]
 have:l[k]=x:=by simpa [hl] using h
 rw[this]
 rfl):p:=h
theorem zdD (k:q) (h:Gu q->p:=by
 intro A
 have hpf:=zl hs (show k+1<=P by omega)
 have HE:=Ag (show lH g=13 by unfold lH; rw[HPT.o,hpf]; rfl)
 have HO:=Ag (show jy g = [] by unfold jy; rw[HPT.o,hpf]; rfl)
 clear hpf
 revert HO
 revert HE
 exact A.o):p:=h ⟨k⟩
theorem zdF (h:p:=by
 exact h1.perm (λp=>by simp only[List.mem_cons]; constructor <;> (rintro(h | h | h) <;> simp[h]))):p:=h
theorem zdG (k:q) (h:Gu q->p:=by
 intro A
 have HXL:=Ag (HRL.o row (List.mem_of_getElem? AV.o) x (List.mem_of_getElem? hx))
 revert HXL
 exact A.o):p:=h ⟨k⟩
theorem zdH (k:q) (h:Gu q->p:=by
 intro A
 dsimp only
 refine hK.out _ _ ⟨u0,u1,u2,m1,y0,y1,y2⟩ (λhHeld=>?_)
 revert hHeld
 exact A.o):p:=h ⟨k⟩
theorem zdI (k:q) (h:Gu q->p:=by
 intro A
 have HPV:=Ag (hu.mono (G:=(λb=>(Old F w.heap.size b\/wa.heap.size<=b)/\b≠ub)) (λb hb _=>hb.elim id λh=>⟨.inr FI,FI⟩))
 revert HPV
 exact A.o):p:=h ⟨k⟩
theorem zdJ (h:p:=by
 exact⟨_,by rw[HF.o]; rfl,by rw[HF.o]; intro h; simp at h,by rw[HF.o]; exact HWA.o,hgr⟩):p:=h
theorem zdK (k:q) (h:Gu q->p:=by
 intro A
 have d0:((l1.length:Int) != (l2.length:Int))=false:=aB
 have Q0:=Ag q0
 revert Q0
 revert d0
 exact A.o):p:=h ⟨k⟩
theorem zdL (k:q) (h:Gu q->p:=by
 intro A
 have e0:=HE.o
 rw[LH H0.o] at e0
 revert e0
 exact A.o):p:=h ⟨k⟩
theorem zdM (k:q) (h:Gu q->p:=by
 intro A
 refine zaI ?_
 have h5:=HO.o.raws (G:=λb=>w.heap.size<=b) (λb hb=>hb) (λb hb=>hb)
 rw[HL.o,List.take_of_length_le FI] at h5
 revert h5
 exact A.o):p:=h ⟨k⟩
theorem zdN (k:q) (h:Gu q->p:=by
 intro A
 have HSM:=Ag hsm
 have HFX:=Ag hfx
 have HFY:=Ag hfy
 have HX4:=Ag hx4
 have HY4:=Ag hy4
 revert HY4
 revert HX4
 revert HFY
 revert HFX
 revert HSM
 exact A.o):p:=h ⟨k⟩
theorem zdP (h:p:=by
 go_wp2
 go_ret
 exact⟨_,rfl,hB2,by rw[HE.o]; rfl⟩):p:=h
theorem zdQ (h:p:=by
 exact⟨_,rfl,HB2.o,_,by rw[HPE.o,LG au]; rfl,by rw[HPO.o,LG au]; exact HVP.o⟩):p:=h
theorem zdS (k:q) (h:Gu q->p:=by
 intro A
 have hb:Below wa.heap.size wa wa.drew:=aG (Below.refl _ wa) 1
 revert hb
 exact A.o):p:=h ⟨k⟩
theorem zdT (h:p:=by
 rw[hgrow.block b aB (λe=>by have:=hnb b e.symm; omega)]
 exact Below.heap_alloc W _ b FI):p:=h
theorem zdV (h:p:=by
 exact⟨_,by rw[HF.o]; rfl,by rw[HF.o]; intro h; simp at h,by rw[HF.o]; exact ahZ,hgg⟩):p:=h
theorem zdW (h:p:=by
 go_wp2
 go_ret
 exact⟨_,rfl,hB,by rw[HR.o]; rfl⟩):p:=h
theorem zdY (k:q) (h:Gu q->p:=by
 intro A
 replace HP1:=Ag (HP1.o.below hb)
 replace HP2:=Ag (HP2.o.below hb)
 replace HT1:=Ag (HT1.o.below hb)
 revert HT1
 revert HP2
 revert HP1
 exact A.o):p:=h ⟨k⟩
theorem zdZ (k:q) (h:Gu q->p:=by
 intro A
 have h2:(ay x).den.length<=1024:=FI
 have d1:decide ((1024:Int) < ((ay x).num.length:Int))=false:=aB
 have d2:decide ((1024:Int) < ((ay x).den.length:Int))=false:=aB
 revert d2
 revert d1
 revert h2
 exact A.o):p:=h ⟨k⟩
theorem zd2 (k:q) (h:Gu q->p:=by
 intro A
 have H5:=Ag (Aj.mono (G:=(λb=>w.heap.size+2<=b)) hu (λb hb _=>by omega))
 revert H5
 exact A.o):p:=h ⟨k⟩
theorem zd3 (k:q) (h:Gu q->p:=by
 intro A
 rw[List.getElem?_map,List.getElem?_map]
 exact A.o):p:=h ⟨k⟩
theorem zd5 (h:p:=by
 have d2:decide ((1000000000:Int)<=(x:Int))=true:=LK FI
 clear hbad
 exact ZN):p:=h
theorem zd6 (h:p:=by
 exact⟨_,rfl,hwz _ _ FI hB,_,by rw[HO.o],by rw[HR.o]; exact Ak.zero _ _ _ _ _ _⟩):p:=h
theorem zea (k:q) (h:Gu q->p:=by
 intro A
 replace HX:=Ag (Gs.on HX.o (Below.same' hb _))
 replace HY:=Ag (Gs.on HY.o (Below.same' hb _))
 revert HY
 revert HX
 exact A.o):p:=h ⟨k⟩
theorem zeb (k:q) (h:Gu q->p:=by
 intro A
 have hrow:=oW Dv.o HPJ.o HRR.o (by rw[hse]; decide)
 have HF:=Ag ((mZ HLE.o HP.o HK.o HL.o (by rw[hrow,hse]; decide)).trans (hrow.trans hse))
 revert HF
 revert hrow
 exact A.o):p:=h ⟨k⟩
theorem zed (k:q) (h:Gu q->p:=by
 intro A
 have HF:=Ag (show bP g.F7 (f+1) a par dep t=(-1,rd) by rw[HR.o,HV2.o,LH hng]; simp)
 have hdn:decide (0<=rn)=false:=LJ FI
 revert hdn
 revert HF
 exact A.o):p:=h ⟨k⟩
theorem zee (k:q) (h:Gu q->p:=by
 intro A
 have HM:=Ag (show Gt wn (λ_=>True) vm rP by rw[<-uQ]; exact Gt.keep hu (λ_ _ _=>trivial) (Same.refl _ _))
 refine Yq ?_
 revert HM
 exact A.o):p:=h ⟨k⟩
theorem zef (h:p:=by
 exact⟨_,rfl,hB2,.pointer none,by rw[HF.o]; rfl,by rw[HF.o]; intro h; simp at h⟩):p:=h
theorem zeg (k:q) (h:Gu q->p:=by
 intro A
 have HP:=Ag (show dQ num den=if dM num≠0 then dM num else if dM den≠0 then dM den else if den.length=0 then 6 else 0 from rfl)
 revert HP
 exact A.o):p:=h ⟨k⟩
theorem zeh (h:p:=by
 exact⟨_,rfl,hB,_,by rw[e0]; rfl,λ_=>rfl,λh=>absurd (e0.symm.trans h) H0.o⟩):p:=h
