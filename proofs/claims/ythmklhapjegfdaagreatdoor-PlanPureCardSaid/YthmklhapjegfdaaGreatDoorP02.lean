/- Moves in a drawn region: a list of operations taken one by one; a call that comes next. -/
import Derived.Test.YthmklhapjegfdaaGreatDoorP04
import Derived.OrdersHeld
import Derived.Deep.RegionHeld
set_option linter.all false
namespace Go.Proofs.YthmklhapjegfdaaGreatDoor
section
variable {P:Program} {md:Region.Mode} {ops:Array Oper} {Q:Exit→Act→World→Prop} {S:World→Prop}
def Tk (_:List Nat) (g:Prop):Prop:=g
theorem tk0 {g:Prop} (l:List Nat) (h:Tk l g):g:=h
theorem tk1 {g:Prop} (h:g):Tk [] g:=h
theorem tk {i:Nat} {is:List Nat} {oi:Oper} {v:Value} {fuel:Nat} {listed:Array Bool} {a:Act} {w:World} (hi:ops[i]? = some oi)
  (hs:Region.noSelect ops=true) (hf:Region.free md ops listed i=true) (hr:(Region.ready md ops listed).contains i=true)
  (hQ:∀ c a w,Q (.panic c) (a.put oi.dst v) w→Q (.panic c) a w) (hy:YieldsIf P ops S oi v a) (hS:S w)
  (h:Tk is (wpAnyH P md ops Q S fuel (listed.setIfInBounds i true) (a.put oi.dst v) w)):Tk (i :: is) (wpAnyH P md ops Q S (fuel+1) listed a w) :=
 wpAnyH_take hi hs hf hr hQ hy hS h
theorem tk2 (i:Nat) {fuel:Nat} {listed:Array Bool} {a:Act} {w:World} {o:Oper} (hr:Region.ready md ops listed = [i]) (ho:ops[i]? = some o)
  (h:∀ K':Act→World→Prop,Shut (∀ a w,S w→(S w→wpAnyH P md ops Q S fuel (listed.setIfInBounds i true) a w)→K' a w)→if Region.wanted o (yielded ops a.tmps)=true then Oper.wp P o a w K' Q else K' (a.put o.dst undef) w):wpAnyH P md ops Q S (fuel+1) listed a w :=
 wpAnyH_ready hr (by simp) (AllReadyH.cons ho h AllReadyH.nil)
end
theorem tkm {q g:Prop} (l:List Nat) (k:q) (h:Mhid q→Tk l g:=by
 intro hq
 repeat (refine tk (v:=?_) rfl (by kernel_rfl) (by kernel_rfl) (by kernel_rfl) (fun _ _ _ h=>h) (Or.inl ⟨by rfl,?_⟩) hHeld ?_;rotate_left;(focus intro wx hSx;(try dsimp only at hSx);go_split_ands;go_simp;try with_reducible rfl);try simp only[Act.put,List.getElem_toArray,List.getElem_cons_zero,List.getElem_cons_succ,List.setIfInBounds_toArray,List.set_cons_zero,List.set_cons_succ])
 exact tk1 hq.out):g:=tk0 l (h ⟨k⟩)
theorem Za {p q:Prop} (k:q) (h:Mhid q→p:=by
 intro hq
 try simp only[Act.put,lq1,lq2,lq3,lq4,lq5,lq6]
 exact hq.out):p:=h ⟨k⟩
theorem Zb {p q:Prop} (k:q) (h:Mhid q→p:=by
 intro hq
 replace x0:=aj x0 hb
 replace x1:=aj x1 hb
 replace x2:=aj x2 hb
 replace y0:=aj y0 hb
 replace y1:=aj y1 hb
 replace y2:=aj y2 hb
 replace HX:=Af (HX.out.below hb)
 replace HY:=Af (HY.out.below hb)
 revert HY
 revert HX
 revert y2
 revert y1
 revert y0
 revert x2
 revert x1
 revert x0
 exact hq.out):p:=h ⟨k⟩
theorem Zc {p q:Prop} (k:q) (h:Mhid q→p:=by
 intro hq
 replace hz:=Nat.le_trans hz hb.size
 replace hB:=hB.trans (hb.mono hB.size)
 revert hB
 revert hz
 exact hq.out):p:=h ⟨k⟩
theorem Zd {p q:Prop} (k:q) (h:Mhid q→p:=by
 intro hq
 replace HF0:=Af (RV.fine.below HF0.out hb)
 replace HF1:=Af (RV.fine.below HF1.out hb)
 replace HF3:=Af (RV.fine.below HF3.out hb)
 replace HT:=Af (HT.out.on hb)
 replace hB:=hB.trans (hb.mono hB.size)
 revert hB
 revert HT
 revert HF3
 revert HF1
 revert HF0
 exact hq.out):p:=h ⟨k⟩
theorem Ze {p q:Prop} (k:q) (h:Mhid q→p:=by
 intro hq
 obtain⟨W,hW,rx,ry,rz,hB,hz⟩:=kY w 118 #[.bool (au x).neg,.slice A (au x).num.length c,.slice B (au x).den.length d] 118 #[.bool (au y).neg,.slice A' (au y).num.length c',.slice B' (au y).den.length d'] 118 #[.bool false,.slice none 0 0,.slice none 0 0]
 rw[← hW]
 clear hW
 replace HX:=Af (HX.out.on (Below.same' hB _))
 replace HY:=Af (HY.out.on (Below.same' hB _))
 revert HY
 revert HX
 revert hz
 revert hB
 revert rz
 revert ry
 revert rx
 revert W
 exact hq.out):p:=h ⟨k⟩
theorem Zf {p q:Prop} (k:q) (h:Mhid q→p:=by
 intro hq
 refine wp_region_held_drew (S:=fun w'=>w'.cell? ⟨w.heap.size,0,none⟩=some (.bool (au x).neg)∧w'.cell? ⟨w.heap.size,1,none⟩=some (.slice A (au x).num.length c)∧w'.cell? ⟨w.heap.size,2,none⟩=some (.slice B (au x).den.length d)∧w'.cell? ⟨w.heap.size+1,0,none⟩=some (.bool (au y).neg)∧w'.cell? ⟨w.heap.size+1,1,none⟩=some (.slice A' (au y).num.length c')∧w'.cell? ⟨w.heap.size+1,2,none⟩=some (.slice B' (au y).den.length d')) ah ⟨x0,x1,x2,y0,y1,y2⟩ (fun hHeld=>?_)
 revert hHeld
 exact hq.out):p:=h ⟨k⟩
theorem Zg {p q:Prop} (k:q) (h:Mhid q→p:=by
 intro hq
 replace rg:=rg.below hb rg.lt
 replace rz:=rz.below hb rz.lt
 replace rn:=rn.below hb rn.lt
 replace rt:=rt.below hb rt.lt
 replace HG:=Af (HG.out.on (Below.same' hb _))
 revert HG
 revert rt
 revert rn
 revert rz
 revert rg
 exact hq.out):p:=h ⟨k⟩
theorem Zh {p q:Prop} (k:q) (h:Mhid q→p:=by
 intro hq
 refine Zc ?_
 intro hz hB
 dsimp only
 refine hK.out _ _ ⟨x0,x1,x2,y0,y1,y2⟩ (fun hHeld=>?_)
 refine Za ?_
 revert hHeld
 revert hB
 revert hz
 exact hq.out):p:=h ⟨k⟩
theorem Zi {p q:Prop} (k:q) (h:Mhid q→p:=by
 intro hq
 have z0:=rz.cell (i:=0) rfl
 have za0:=fun o=>(rz.alloc o).cell (i:=0) rfl;have zb0:=fun o o'=>((rz.alloc o).alloc o').cell (i:=0) rfl;have z1:=rz.cell (i:=1) rfl;have za1:=fun o=>(rz.alloc o).cell (i:=1) rfl;have zb1:=fun o o'=>((rz.alloc o).alloc o').cell (i:=1) rfl;have z2:=rz.cell (i:=2) rfl;have za2:=fun o=>(rz.alloc o).cell (i:=2) rfl;have zb2:=fun o o'=>((rz.alloc o).alloc o').cell (i:=2) rfl
 have n0:=rn.cell (i:=0) rfl
 have na0:=fun o=>(rn.alloc o).cell (i:=0) rfl;have nb0:=fun o o'=>((rn.alloc o).alloc o').cell (i:=0) rfl;have n1:=rn.cell (i:=1) rfl;have na1:=fun o=>(rn.alloc o).cell (i:=1) rfl;have nb1:=fun o o'=>((rn.alloc o).alloc o').cell (i:=1) rfl;have n2:=rn.cell (i:=2) rfl;have na2:=fun o=>(rn.alloc o).cell (i:=2) rfl;have nb2:=fun o o'=>((rn.alloc o).alloc o').cell (i:=2) rfl
 revert na0
 revert n0
 revert za0
 revert z0
 exact hq.out):p:=h ⟨k⟩
theorem Zj {p q:Prop} (k:q) (h:Mhid q→p:=by
 intro hq
 have x0:=rx.cell (i:=0) rfl
 have x1:=rx.cell (i:=1) rfl
 have x2:=rx.cell (i:=2) rfl
 revert x2
 revert x1
 revert x0
 exact hq.out):p:=h ⟨k⟩
theorem Zk {p q:Prop} (k:q) (h:Mhid q→p:=by
 intro hq
 replace m1:=aj m1 hb
 replace m2:=aj m2 hb
 replace y0:=aj y0 hb
 replace y1:=aj y1 hb
 replace y2:=aj y2 hb
 replace z0:=aj z0 hb
 replace z1:=aj z1 hb
 replace z2:=aj z2 hb
 replace t0:=aj t0 hb
 replace t1:=aj t1 hb
 replace t2:=aj t2 hb
 replace HXV:=Af (Ak.below HXV.out hb)
 replace HYV:=Af (Ak.below HYV.out hb)
 replace HZV:=Af (Ak.below HZV.out hb)
 revert HZV
 revert HYV
 revert HXV
 revert t2
 revert t1
 revert t0
 revert z2
 revert z1
 revert z0
 revert y2
 revert y1
 revert y0
 revert m2
 revert m1
 exact hq.out):p:=h ⟨k⟩
theorem Zm {p q:Prop} (k:q) (h:Mhid q→p:=by
 intro hq
 refine wpAnyH_done ah ?_ _
 show wpList _ _ _ _ _ _
 have f0:=HM1.out.nodes.fz (i*6)
 have f1:=HM1.out.nodes.fz (i*6+1)
 have f2:=HM1.out.nodes.fz (i*6+2)
 have f3:=HM1.out.nodes.fz (i*6+3)
 have f4:=HM1.out.nodes.fz (i*6+4)
 have f5:=HM1.out.nodes.fz (i*6+5)
 obtain⟨q0,y0⟩:∃ v,wn.cell? ⟨gn,i*6,none⟩=some v:=HM1.out.nodes.bV hi 0 ay
 obtain⟨q1,y1⟩:∃ v,wn.cell? ⟨gn,i*6+1,none⟩=some v:=HM1.out.nodes.bV hi 1 ay
 obtain⟨q2,y2⟩:∃ v,wn.cell? ⟨gn,i*6+2,none⟩=some v:=HM1.out.nodes.bV hi 2 ay
 obtain⟨q3,y3⟩:∃ v,wn.cell? ⟨gn,i*6+3,none⟩=some v:=HM1.out.nodes.bV hi 3 ay
 obtain⟨q4,y4⟩:∃ v,wn.cell? ⟨gn,i*6+4,none⟩=some v:=HM1.out.nodes.bV hi 4 ay
 obtain⟨q5,y5⟩:∃ v,wn.cell? ⟨gn,i*6+5,none⟩=some v:=HM1.out.nodes.bV hi 5 ay
 have HMB:=Af (fun b hb=>HM.out.abt (b:=b) hb)
 have hbm:M.base≤W.heap.size:=Nat.le_of_lt (Nat.lt_of_le_of_lt HM.out.dL.1 HM.out.box.lt)
 have adz:∀ {w:World} {F:Ah},AO w F (.slice none 0 0) []:=⟨none,0,rfl,Nat.le_refl _,fun h=>absurd h aB⟩
 have HM2:=Af (HM1.out.fresh HMB.out hbm)
 revert HM2
 revert adz
 revert hbm
 revert HMB
 revert y5
 revert q5
 revert y4
 revert q4
 revert y3
 revert q3
 revert y2
 revert q2
 revert y1
 revert q1
 revert y0
 revert q0
 revert f5
 revert f4
 revert f3
 revert f2
 revert f1
 revert f0
 exact hq.out):p:=h ⟨k⟩
theorem Zn {p q:Prop} (k:q) (h:Mhid q→p:=by
 intro hq
 refine Row.alloc ?_ _
 refine Row.alloc ?_ _
 refine Row.alloc ?_ _
 refine Row.alloc ?_ _
 exact hq.out):p:=h ⟨k⟩
theorem Zo {p q:Prop} (k:q) (h:Mhid q→p:=by
 intro hq
 replace HG:=Af (HG.out.on (Below.same' hb _))
 replace HA:=Af (Ag.on HA.out (Below.same' hb _))
 replace HB:=Af (Ag.on HB.out (Below.same' hb _))
 replace HV:=Af (Ak.on HV.out (Below.same' hb _))
 replace HT:=Af (HT.out.on hb)
 revert HT
 revert HV
 revert HB
 revert HA
 revert HG
 exact hq.out):p:=h ⟨k⟩
theorem Zp {p q:Prop} (k:q) (h:Mhid q→p:=by
 intro hq
 replace HNX:=Af (HNX.out.below hb)
 replace HNY:=Af (HNY.out.below hb)
 replace HDX:=Af (HDX.out.below hb)
 replace HDY:=Af (HDY.out.below hb)
 replace HG:=Af (HG.out.below hb)
 replace HL:=Af (HL.out.below hb)
 replace HR:=Af (HR.out.below hb)
 revert HR
 revert HL
 revert HG
 revert HDY
 revert HDX
 revert HNY
 revert HNX
 exact hq.out):p:=h ⟨k⟩
theorem Zq {p q:Prop} (k:q) (h:Mhid q→p:=by
 intro hq
 have q0:=rz.cell (i:=0) rfl
 have y0:=rz.frozen 0
 have q1:=rz.cell (i:=1) rfl
 have y1:=rz.frozen 1
 have q2:=rz.cell (i:=2) rfl
 have y2:=rz.frozen 2
 revert y2
 revert q2
 revert y1
 revert q1
 revert y0
 revert q0
 exact hq.out):p:=h ⟨k⟩
theorem Zr {p q:Prop} (k:q) (h:Mhid q→p:=by
 intro hq
 refine aU (fun w'=>w'.cell? ⟨M.mb,8,none⟩=some (.slice (some ⟨gn,0,none⟩) Ln.length cn)∧w'.cell? ⟨xb,0,none⟩=some (.int .i64 3)∧w'.cell? ⟨xb,1,none⟩=some (.int .i64 0)∧w'.cell? ⟨xb,2,none⟩=some (.int .i64 0)∧w'.cell? ⟨xb,3,none⟩=some (.slice none 0 0)∧w'.cell? ⟨xb,4,none⟩=some (.slice none 0 0)∧w'.cell? ⟨xb,5,none⟩=some (.slice (some ⟨gu,0,none⟩) k cu)) 7 2 ah rfl ah ?_
 have hHeld:(fun w':World=>w'.cell? ⟨M.mb,8,none⟩=some (.slice (some ⟨gn,0,none⟩) Ln.length cn)∧w'.cell? ⟨xb,0,none⟩=some (.int .i64 3)∧w'.cell? ⟨xb,1,none⟩=some (.int .i64 0)∧w'.cell? ⟨xb,2,none⟩=some (.int .i64 0)∧w'.cell? ⟨xb,3,none⟩=some (.slice none 0 0)∧w'.cell? ⟨xb,4,none⟩=some (.slice none 0 0)∧w'.cell? ⟨xb,5,none⟩=some (.slice (some ⟨gu,0,none⟩) k cu)) wr.drew:=⟨m8,x0,x1,x2,x3,x4,x5⟩
 simp only[List.take_succ_cons,List.take_zero]
 have hb:Below wr.heap.size wr wr.drew:=aK (Below.refl _ wr) 1
 replace m8:=aj m8 hb
 replace x0:=aj x0 hb
 replace x1:=aj x1 hb
 replace x2:=aj x2 hb
 replace x3:=aj x3 hb
 replace x4:=aj x4 hb
 replace x5:=aj x5 hb
 replace HM1:=Af (HM1.out.below hb)
 replace HO:=Af (HO.out.below hb)
 replace rx:=rx.below hb rx.lt
 replace HW:=Af (HW.out.trans (Below.wrote hb _))
 replace k6:=Nat.le_trans k6 hb.size
 clear hb
 revert k6
 revert HW
 revert rx
 revert HO
 revert HM1
 revert x5
 revert x4
 revert x3
 revert x2
 revert x1
 revert x0
 revert m8
 revert hHeld
 exact hq.out):p:=h ⟨k⟩
theorem Zu {p q:Prop} (k:q) (h:Mhid q→p:=by
 intro hq
 replace HG:=Af (HG.out.on (Below.same' hb _))
 replace HA:=Af (Ag.on HA.out (Below.same' hb _))
 replace HB:=Af (Ag.on HB.out (Below.same' hb _))
 replace HT:=Af (HT.out.on hb)
 replace HP:=Af (AP.on HP.out (Below.same' hb _))
 replace HS2:=Af (Ak.on HS2.out (Below.same' hb _))
 replace HT2:=Af (Ak.on HT2.out (Below.same' hb _))
 revert HT2
 revert HS2
 revert HP
 revert HT
 revert HB
 revert HA
 revert HG
 exact hq.out):p:=h ⟨k⟩
theorem Zv {p q:Prop} (k:q) (h:Mhid q→p:=by
 intro hq
 refine Zb ?_
 intro x0 x1 x2 y0 y1 y2 HX HY
 replace HDX:=Af (HDX.out.below hb)
 replace HDY:=Af (HDY.out.below hb)
 replace HNX:=Af (HNX.out.below hb)
 replace HNY:=Af (HNY.out.below hb)
 replace HF:=Af (HF.out.below hb)
 replace HG:=Af (HG.out.below hb)
 revert HG
 revert HF
 revert HNY
 revert HNX
 revert HDY
 revert HDX
 revert HY
 revert HX
 revert y2
 revert y1
 revert y0
 revert x2
 revert x1
 revert x0
 exact hq.out):p:=h ⟨k⟩
theorem Zw {p q:Prop} (k:q) (h:Mhid q→p:=by
 intro hq
 refine wp_region_held_drew (S:=fun w'=>w'.cell? ⟨mb,mo+k,none⟩=some (.slice (some ⟨rb,ro,none⟩) row.length cp)∧w'.cell? ⟨nb,no+k,none⟩=some (.slice (some ⟨qb,qo,none⟩) row.length cq)∧w'.cell? ⟨rb,ro+j*3,none⟩=some (.bool (aH x).neg)∧w'.cell? ⟨rb,ro+j*3+1,none⟩=some (.slice Axn (aH x).num.length cxn)∧w'.cell? ⟨rb,ro+j*3+2,none⟩=some (.slice Axd (aH x).den.length cxd)∧w'.cell? ⟨qb,qo+j*3,none⟩=some (.bool (aH y).neg)∧w'.cell? ⟨qb,qo+j*3+1,none⟩=some (.slice Ayn (aH y).num.length cyn)∧w'.cell? ⟨qb,qo+j*3+2,none⟩=some (.slice Ayd (aH y).den.length cyd)∧w'.cell? ⟨qb,qo,none⟩=some (.bool (aH z).neg)∧w'.cell? ⟨qb,qo+1,none⟩=some (.slice Azn (aH z).num.length czn)∧w'.cell? ⟨qb,qo+2,none⟩=some (.slice Azd (aH z).den.length czd)) ah ⟨m1,m2,y0,y1,y2,z0,z1,z2,t0,t1,t2⟩ (fun hHeld=>?_)
 have hb:Below wd.heap.size wd wd.drew:=aK (Below.refl _ wd) 1
 refine Zk ?_
 revert hb
 revert hHeld
 exact hq.out):p:=h ⟨k⟩
theorem Zx {p q:Prop} (k:q) (h:Mhid q→p:=by
 intro hq
 simp only[List.take_succ_cons,List.take_zero]
 exact hq.out):p:=h ⟨k⟩
theorem Zy {p:Prop} (h:p:=by
 exact hK.out _ _ (Below.refl _ _) rfl):p:=h
theorem Zz {p:Prop} (h:p:=by
 go_in
 go_wp2
 go_ret
 exact⟨_,rfl,(Below.refl _ _).alloc (Nat.le_refl _) _,by rw[HF.out]; rfl⟩):p:=h
theorem ZA {p:Prop} (h:p:=by
 rintro e w1 ⟨_,rfl,hb1,rfl⟩
 have hbx2:=jL.drew.below hb1 aG
 have ahj:=hbt.drew.below hb1 aG
 dsimp only
 refine hK.out _ _ ⟨ahj.cell rfl,hbx2.cell rfl,hbx2.cell rfl,hbx2.cell rfl,hbx2.cell rfl,hbx2.cell rfl,hbx2.cell rfl⟩ (fun hHeld=>?_)
 clear hK K
 refine Za ?_
 refine tkm [7] ?_
 refine wpAnyH_done ah ?_ _
 go_wp2
 go_ret
 exact⟨_,rfl,hB1.drew.trans (hb1.mono aG),by rw[HF.out]; rfl⟩):p:=h
theorem ZB {p q:Prop} (k:q) (h:Mhid q→p:=by
 intro hq
 replace hbel:=hbel.trans (hb.mono hbel.size)
 dsimp only
 refine hK.out _ _ ⟨m1,m2,y0,y1,y2,z0,z1,z2,t0,t1,t2⟩ (fun hHeld=>?_)
 refine Za ?_
 revert hHeld
 revert hbel
 exact hq.out):p:=h ⟨k⟩
theorem ZC {p q:Prop} (k:q) (h:Mhid q→p:=by
 intro hq
 refine wpAnyH_done ah ?_ _
 show wpList _ _ _ _ _ _
 exact hq.out):p:=h ⟨k⟩
theorem ZE {p q:Prop} (k:q) (h:Mhid q→p:=by
 intro hq
 replace rz:=rz.below hb rz.lt
 refine Zc ?_
 intro hz hB
 dsimp only
 revert hB
 revert hz
 revert rz
 exact hq.out):p:=h ⟨k⟩
theorem ZF {p q:Prop} (k:q) (h:Mhid q→p:=by
 intro hq
 have hz:w.heap.size+3≤W.heap.size:=hz
 refine Zj ?_
 intro x0 x1 x2
 have y0:=ry.cell (i:=0) rfl
 have y1:=ry.cell (i:=1) rfl
 have y2:=ry.cell (i:=2) rfl
 revert y2
 revert y1
 revert y0
 revert x2
 revert x1
 revert x0
 revert hz
 exact hq.out):p:=h ⟨k⟩
theorem ZG {p q:Prop} (k:q) (h:Mhid q→p:=by
 intro hq
 have hmd:mb≠db:=byOmega
 replace m0:=cZ m0 hwx hmd
 replace m1:=cZ m1 hwx hmd
 replace RM:=Af (RM.out.wrote hwx hmd)
 replace RG:=Af (RG.out.wrote hwx (fun e=>by omega))
 replace RD:=Af hr2
 replace HO:=Af (HO.out.wrote hwx fun b hb e=>by have:=(HO.out.row.lt b (hb.resolve_left id)).1; omega)
 replace HLr:=Af (HLr.out.on (hwx.same fun b hb e=>by have:=hb.2; omega))
 replace HW:=Af (HW.out.step hwx fun i _ e=>.inr e)
 replace hsz:=Nat.le_trans hsz hwx.size
 clear hmd
 refine hK.out _ _ ⟨m0,m1⟩ (fun hHeld=>?_)
 refine Za ?_
 revert hHeld
 revert hsz
 revert HW
 revert HLr
 revert HO
 revert RD
 revert RG
 revert RM
 revert m1
 revert m0
 exact hq.out):p:=h ⟨k⟩
theorem ZH {p:Prop} (h:p:=by
 have d0:((l1.length:Int) != (l2.length:Int))=true:=aG
 have HF:=Af (show decide (l1=l2)=false by simp only[decide_eq_false_iff_not]; rintro rfl; exact q0 rfl)
 go_in
 go_wp2
 go_ret
 exact⟨_,rfl,Below.refl _ _,by rw[HF.out]; rfl⟩):p:=h
theorem ZK {p q:Prop} (k:q) (h:Mhid q→p:=by
 intro hq
 replace HT:=Af (HT.out.on hb)
 replace hB:=hB.trans (hb.mono hB.size)
 revert hB
 revert HT
 exact hq.out):p:=h ⟨k⟩
theorem ZL {p q:Prop} (k:q) (h:Mhid q→p:=by
 intro hq
 replace x0:=aj x0 hb
 replace x1:=aj x1 hb
 replace x2:=aj x2 hb
 revert x2
 revert x1
 revert x0
 exact hq.out):p:=h ⟨k⟩
theorem ZM {p q:Prop} (k:q) (h:Mhid q→p:=by
 intro hq
 obtain⟨hl,hpl⟩:=l7 L (aA:=aA) byOmega (1+cO L 0 5).toNat (bY L 0)
 have hd:=gG L 0 (n:=5) ay
 have hC:BF ⟨L,(dP L aA (1+cO L 0 5).toNat (bY L 0)).1,aA,most,zero⟩:=⟨by simp only[hl]; omega,hpl⟩
 have hJ:JM ⟨L,(dP L aA (1+cO L 0 5).toNat (bY L 0)).1,aA,most,zero⟩ 0 ⟨(dP L aA (1+cO L 0 5).toNat (bY L 0)).2,[],1,[],[]⟩:=⟨rfl,fun i v h=>by simp at h,Nat.le_refl _,by simpa using hm,by show(0:Int)≤1; decide,fun v h=>(by cases h),fun v h=>(by cases h)⟩
 obtain⟨h1,h2,h3⟩:=wZ hC (by simp only; omega) ((1+cO L 0 5).toNat+1) 0 (List.replicate aA.toNat []) _ [] [] (by simp only[hl]; omega) (Nat.zero_le _) (fun l h=>by rw[List.eq_of_mem_replicate h]; rfl) hJ aB KM.nil rfl (fun x v h=>by simp at h) (fun c x h=>by cases h)
 revert h3
 revert h2
 revert h1
 revert hJ
 revert hC
 revert hd
 revert hpl
 revert hl
 exact hq.out):p:=h ⟨k⟩
theorem ZN {p:Prop} (h:p:=by
 intro x0 x1 x2
 replace HA:=Af (HA.out.below hb)
 refine Zc ?_
 clear hz hB hb
 intro hz hB
 dsimp only
 go_wp2_with fail
 refine(vJ _ (fun _=>True) _ _ x ((1:Int):Rat) (HA.out.mono (fun _ _ _=>trivial)) HB.out byOmega (by rw[show((1:Int):Rat)=1 from rfl,qA]; omega)).mono ?_
 rintro e wn ⟨_,rfl,hb,rfl⟩
 rw[show lQ x ((1:Int):Rat)=o from HO.out.symm]
 refine ZL ?_
 clear x0 x1 x2
 intro x0 x1 x2
 replace HA:=Af (HA.out.below hb)
 replace HB:=Af (HB.out.below hb)
 refine Zc ?_
 clear hz hB hb
 intro hz hB
 dsimp only
 go_wp2
 go_ret
 exact⟨_,rfl,hB,by rw[HG.out]; rfl⟩):p:=h
theorem ZP {p q:Prop} (k:q) (h:Mhid q→p:=by
 intro hq
 refine Zb ?_
 intro x0 x1 x2 y0 y1 y2 HX HY
 replace HNX:=Af (HNX.out.below hb)
 replace HNY:=Af (HNY.out.below hb)
 revert HNY
 revert HNX
 revert HY
 revert HX
 revert y2
 revert y1
 revert y0
 revert x2
 revert x1
 revert x0
 exact hq.out):p:=h ⟨k⟩
theorem ZQ {p:Prop} (h:p:=by
 exact⟨_,rfl,hwz _ _ byOmega hB,HM.out.keep (fun b hb _=>hb.elim (fun h=>.inl h.1) fun h=>.inr byOmega) (hkz _ (fun h=>h.elim (fun h=>by have:=h.2; omega) fun h=>by omega))⟩):p:=h
theorem ZR {p q:Prop} (k:q) (h:Mhid q→p:=by
 intro hq
 refine Zg ?_
 intro rg rz rn rt HG
 replace HM:=Af (Ag.on HM.out (Below.same' hb _))
 replace HR:=Af (Ag.on HR.out (Below.same' hb _))
 replace HBK:=Af (Ag.on HBK.out (Below.same' hb _))
 revert HBK
 revert HR
 revert HM
 revert HG
 revert rt
 revert rn
 revert rz
 revert rg
 exact hq.out):p:=h ⟨k⟩
theorem ZT {p q:Prop} (k:q) (h:Mhid q→p:=by
 intro hq
 have hHeld:(fun w':World=>w'.cell? ⟨w.heap.size,0,none⟩=some (.bool (au x).neg)∧w'.cell? ⟨w.heap.size,1,none⟩=some (.slice A (au x).num.length c)∧w'.cell? ⟨w.heap.size,2,none⟩=some (.slice B (au x).den.length d)∧w'.cell? ⟨w.heap.size+1,0,none⟩=some (.bool (au y).neg)∧w'.cell? ⟨w.heap.size+1,1,none⟩=some (.slice A' (au y).num.length c')∧w'.cell? ⟨w.heap.size+1,2,none⟩=some (.slice B' (au y).den.length d')) W.drew:=⟨x0,x1,x2,y0,y1,y2⟩
 refine Zx ?_
 have hb:Below W.heap.size W W.drew:=aK (Below.refl _ W) 1
 refine Zb ?_
 revert hb
 revert hHeld
 exact hq.out):p:=h ⟨k⟩
theorem ZU {p q:Prop} (k:q) (h:Mhid q→p:=by
 intro hq
 have f5:=aN (f:=(Fact.eq (.bool true))) (hf (5,v5) aB ah) rfl
 revert f5
 exact hq.out):p:=h ⟨k⟩
theorem ZV {p q:Prop} (k:q) (h:Mhid q→p:=by
 intro hq
 obtain⟨W,hW,rx,rz,hB,hz⟩:=alloc2 w 118 #[.bool (au x).neg,.slice A (au x).num.length c,.slice B (au x).den.length d] 83 #[.bool false,.slice none 0 0,.slice none 0 0]
 rw[← hW]
 clear hW
 replace HX:=Af (HX.out.on (Below.same' hB _))
 revert HX
 revert hz
 revert hB
 revert rz
 revert rx
 revert W
 exact hq.out):p:=h ⟨k⟩
theorem ZW {p:Prop} (h:p:=by
 refine ifA rfl ?_
 refine wW _ _ _ 26 rfl 3 (.int .i64 0) 8 Tryz.underlying26 Tryz.infoInt rfl g.nodes.length rfl rfl byOmega byOmega ?_
 intro W1 hb hz hr
 exact hK.out _ _ ⟨hb,⟨_,rfl,hS.1,hr⟩,fun _ b hb=>by cases hb; exact Nat.le_refl _⟩):p:=h
theorem ZX {p:Prop} (h:p:=by
 go_in
 go_wp2
 go_quiet (fail)
 go_wp2
 go_ret
 exact⟨_,rfl,aK ((Below.refl _ _).alloc (Nat.le_refl _) _) _,by rw[HF.out]; rfl⟩):p:=h
theorem Z5 {p q:Prop} (k:q) (h:Mhid q→p:=by
 intro hq
 refine ZL ?_
 intro x0 x1 x2
 replace y0:=aj y0 hb
 replace y1:=aj y1 hb
 replace y2:=aj y2 hb
 replace s0:=aj s0 hb
 replace s1:=aj s1 hb
 replace s2:=aj s2 hb
 replace t0:=aj t0 hb
 replace t1:=aj t1 hb
 replace t2:=aj t2 hb
 replace HX:=Af (HX.out.below hb)
 replace HY:=Af (HY.out.below hb)
 replace HSV:=Af (HSV.out.below hb)
 replace HTV:=Af (HTV.out.below hb)
 revert HTV
 revert HSV
 revert HY
 revert HX
 revert t2
 revert t1
 revert t0
 revert s2
 revert s1
 revert s0
 revert y2
 revert y1
 revert y0
 revert x2
 revert x1
 revert x0
 exact hq.out):p:=h ⟨k⟩
theorem Z7 {p q:Prop} (k:q) (h:Mhid q→p:=by
 intro hq
 have x0:=rg.cell (i:=0) rfl
 have x1:=rg.cell (i:=1) rfl
 have x2:=rg.cell (i:=2) rfl
 revert x2
 revert x1
 revert x0
 exact hq.out):p:=h ⟨k⟩
theorem Z8 {p:Prop} (h:p:=by
 refine(eF wk 1 2 ay ay ay ay).mono ?_
 rintro e w' ⟨u,rfl,hb,hu⟩
 exact hK.out _ _ hb (show Ak _ _ _ q2 by rw[HQ2.out]; exact hu.mono fun _ _ _=>trivial)):p:=h
theorem Z9 {p q:Prop} (k:q) (h:Mhid q→p:=by
 intro hq
 rw[← hW]
 obtain⟨W1,hW,hbt,tY,afU⟩:=bG W 243 #[.nilFunc,.func (.func 199) #[] #[],.func (.func 200) #[] #[],.func (.func 201) #[] #[]]
 rw[← hW]
 clear hW
 have jL:=hbx.below tY byOmega
 have hB1:Below w.heap.size w W1:=hWb.trans (tY.mono byOmega)
 clear tY
 rw[← hWz] at hbt
 have z0:=hbt.lt
 clear afU
 revert z0
 revert hbt
 revert hB1
 revert jL
 revert W1
 exact hq.out):p:=h ⟨k⟩
theorem Ya {p:Prop} (h:p:=by
 go_wp2_with fail
 refine(pK _ _ _ x HV.out byOmega).mono ?_
 rintro e wn ⟨va,rfl,hb,hu⟩
 have HA:=Af hu
 clear hu
 refine ZL ?_
 clear x0 x1 x2
 intro x0 x1 x2
 replace HV:=Af (HV.out.below hb)
 refine Zc ?_
 clear hz hB hb
 intro hz hB
 clear HV
 dsimp only
 go_wp2_with fail
 refine(lW _ 1 ay ay).mono ?_
 rintro e wn ⟨vb,rfl,hb,hu⟩
 have HB:=Af (Ak.mono (G:=fun _=>True) hu (fun _ _ _=>trivial))
 clear hu
 refine ZL ?_
 clear x0 x1 x2
 exact ZN):p:=h
theorem Yb {p q:Prop} (k:q) (h:Mhid q→p:=by
 intro hq
 obtain⟨W,hW,rx,hB,hz⟩:=aO w 25 #[.int .i64 g.aA,.slice A g.nodes.length c,.slice Ai g.infos.length ci]
 rw[← hW]
 revert hz
 revert hB
 revert rx
 revert hW
 revert W
 exact hq.out):p:=h ⟨k⟩
theorem Yc {p q:Prop} (k:q) (h:Mhid q→p:=by
 intro hq
 have hsame:Same (Apart F v) w w':=⟨byOmega,fun b hb hl=>(h2.block b aG (fun e=>hb.2 e.symm)).trans (Below.heap_alloc _ _ _ hl)⟩
 have e1:(L ++ [q]).length=L.length+1:=aB
 have e2:(L ++ [q]).flatMap K.cells=L.flatMap K.cells++K.cells q:=by simp[List.flatMap_append]
 have aeA:Same (fun b=>v.ownBlock≠some b) w w':=⟨byOmega,fun b hb hl=>(h2.block b aG (fun e=>hb e.symm)).trans (Below.heap_alloc _ _ _ hl)⟩
 refine h g cap w' ⟨by rw[e1,e2]; exact h1,fun p hp=>?_⟩ ((hbel.alloc byOmega _).grown h2 aG (fun k hk=>(hown.row.lt k hk).1)) byOmega aeA
 revert hp
 revert p
 revert aeA
 revert e2
 revert e1
 revert hsame
 exact hq.out):p:=h ⟨k⟩
theorem Ye {p:Prop} (h:p:=by
 obtain⟨W1,hw,hr,hb,hz⟩:=bG wk 83 #[.bool q2.neg,.slice A1 q2.num.length c1,.slice B1 q2.den.length d1,.bool q2.neg,.slice A2 q2.num.length c2,.slice B2 q2.den.length d2]
 rw[← hw]
 exact hK.out _ _ hb (eY (L:=[⟨q2,.slice A1 q2.num.length c1,.slice B1 q2.den.length d1⟩,⟨q2,.slice A2 q2.num.length c2,.slice B2 q2.den.length d2⟩]) hr (all2 (RV.fine.below hf1 hb) (RV.fine.below hf2 hb)))):p:=h
theorem Yf {p:Prop} (h:p:=by
 obtain⟨W1,hw,hr,hb,hz⟩:=bG wk 83 #[.bool p3.neg,.slice A5 p3.num.length c5,.slice B5 p3.den.length d5,.bool p1.neg,.slice A6 p1.num.length c6,.slice B6 p1.den.length d6]
 rw[← hw]
 exact hK.out _ _ hb (eY (L:=[⟨p3,.slice A5 p3.num.length c5,.slice B5 p3.den.length d5⟩,⟨p1,.slice A6 p1.num.length c6,.slice B6 p1.den.length d6⟩]) hr (all2 (RV.fine.below hf1 hb) (RV.fine.below hf2 hb)))):p:=h
theorem Yh {p q:Prop} (k:q) (h:Mhid q→p:=by
 intro hq
 show Exit.then _ _ .normal _ _
 exact hq.out):p:=h ⟨k⟩
theorem Ym {p:Prop} (h:p:=by
 have hc:W.cell? ⟨bo,i,none⟩=some vr:=hm.row.cell (by unfold jB; rw[List.getElem?_append_left byOmega]; exact hvr)
 refine(aai W (GoF F w B1) bo n n i j vr row x hc hra hx byOmega).mono ?_
 rintro e w' ⟨u,rfl,hb,hu⟩
 refine⟨u,rfl,hb,?_⟩
 unfold jr
 rw[if_neg h0,Int.toNat_natCast,Int.toNat_natCast,hrd,List.getD_eq_getElem?_getD,hx]
 exact hu.mono fun b hb _=>hb.1):p:=h
theorem Yn {p q:Prop} (k:q) (h:Mhid q→p:=by
 intro hq
 replace rz:=rz.below hb rz.lt
 refine Zh ?_
 intro hz hB hHeld
 revert hHeld
 revert hB
 revert hz
 revert rz
 exact hq.out):p:=h ⟨k⟩
theorem Yq {p q:Prop} (k:q) (h:Mhid q→p:=by
 intro hq
 refine wpAnyH_done ah ?_ _
 exact hq.out):p:=h ⟨k⟩
theorem Yt {p:Prop} (h:p:=by
 exact⟨_,rfl,hB,_,by rw[HME.out,HF.out,if_pos H0.out]; rfl,by rw[HMO.out,HF.out,if_pos H0.out]; exact Ag.nil _ _⟩):p:=h
theorem Yv {p q:Prop} (k:q) (h:Mhid q→p:=by
 intro hq
 replace HX:=Af (HX.out.below hb)
 replace HY:=Af (HY.out.below hb)
 refine Zp ?_
 intro HNX HNY HDX HDY HG HL HR
 replace HT1:=Af (HT1.out.below hb)
 replace HT2:=Af (HT2.out.below hb)
 replace HT:=Af (HT.out.below hb)
 revert HT
 revert HT2
 revert HT1
 revert HR
 revert HL
 revert HG
 revert HDY
 revert HDX
 revert HNY
 revert HNX
 revert HY
 revert HX
 exact hq.out):p:=h ⟨k⟩
theorem Yx {p q:Prop} (k:q) (h:Mhid q→p:=by
 intro hq
 replace o0:=aj o0 hb
 replace c9:=aj c9 hb
 replace u0:=aj u0 hb
 replace p0:=aj p0 hb
 replace p1:=aj p1 hb
 replace HNV:=Af (AB.on HNV.out (Below.same' hb _))
 replace HMB:=Af (HMB.out.below hb)
 replace hBe:=hBe.trans (hb.mono hBe.size)
 revert hBe
 revert HMB
 revert HNV
 revert p1
 revert p0
 revert u0
 revert c9
 revert o0
 exact hq.out):p:=h ⟨k⟩
theorem Yy {p:Prop} (h:p:=by
 go_wp2
 go_ret
 exact⟨by rw[HE.out]; rfl,rfl⟩):p:=h
theorem Yz {p q:Prop} (k:q) (h:Mhid q→p:=by
 intro hq
 obtain⟨W9,hW9,hm9,hw9⟩:=HM2.out.setNode rfl hi ⟨⟨3,0,0,[],[],pl⟩,.slice none 0 0,.slice none 0 0,.slice (some ⟨gu,0,none⟩) k cu⟩ ⟨adz,adz,HO.out.ints fun b hb=>.inr ⟨by have:=(HO.out.row.lt b hb).1; omega,(HO.out.row.lt b hb).2⟩⟩
 have hsz:W9.heap.size=wn.heap.size:=by rw[hW9];simp
 have H9:=Af hW9
 have HM9:=Af hm9
 have HW9:=Af (HW.out.step hw9 fun j _ e=>.inr (.inr (.inr (.inl (by rw[e]; rfl)))))
 clear hW9 hm9 hw9
 revert HW9
 revert HM9
 revert H9
 revert hsz
 revert W9
 exact hq.out):p:=h ⟨k⟩
theorem YA {p q:Prop} (k:q) (h:Mhid q→p:=by
 intro hq
 have wr0:IntKind.i64.wrap (nx:Int)=(nx:Int):=IntWalk.i64_in _ byOmega
 have wr2:IntKind.i64.wrap ((nx:Int) - 1)=(nx:Int) - 1:=IntWalk.i64_in _ byOmega
 refine wp_region_held_drew (S:=fun w'=>w'.cell? ⟨p,1,none⟩=some (.slice (some ⟨b,o,none⟩) g.nodes.length c)∧w'.cell? ⟨p,5,none⟩=some (.slice (some ⟨bl,0,none⟩) g.nodes.length g.nodes.length)) ah ⟨x1,x5⟩ (fun hHeld=>?_)
 revert hHeld
 revert wr2
 revert wr0
 exact hq.out):p:=h ⟨k⟩
theorem YB {p q:Prop} (k:q) (h:Mhid q→p:=by
 intro hq
 have hw:Wrote (fun b=>v.ownBlock=some b) w w':=⟨h2.os,h2.tape,h2.output,byOmega,fun b hl hb=>(h2.block b aG (fun e=>hb e.symm)).trans (Below.heap_alloc _ _ _ hl)⟩
 have e1:(L ++ [q]).length=L.length+1:=aB
 have e2:(L ++ [q]).flatMap K.cells=L.flatMap K.cells++K.cells q:=by simp[List.flatMap_append]
 refine h g cap w' ⟨by rw[e1,e2]; exact h1,fun p hp=>?_⟩ hw (h3.imp id fun e=>by omega) byOmega
 revert hp
 revert p
 revert e2
 revert e1
 revert hw
 exact hq.out):p:=h ⟨k⟩
theorem YC {p:Prop} (h:p:=by
 exact hK.out _ _ ⟨Below.refl _ _,rfl,fun h=>(by simp[dQ] at h)⟩):p:=h
theorem YG {p q:Prop} (k:q) (h:Mhid q→p:=by
 intro hq
 refine⟨.slice A' (g.nodes.length - nx) (c - nx),by rw[HF.out]; simp,by rw[HF.out]; intro _; exact⟨A',aB,by simpa using hA'⟩,?_,(hgr.setCell (.inl (.inr (.inr rfl))) _).drew⟩
 rw[HF.out]
 have h:=HWA.out
 refine⟨(h.head.other d3 _).drew,(h.rp.other d5 _).drew,(h.rd.other d6 _).drew,?_⟩
 have:=(h.rl.set a (.int .i64 ((nx:Int) - 1))).drew
 revert this
 revert h
 exact hq.out):p:=h ⟨k⟩
theorem YI {p q:Prop} (k:q) (h:Mhid q→p:=by
 intro hq
 have hlen:=jT (N:=g.nodes.length) g.nodes (g.nodes.length+1) 0 (-1) 0 ⟨List.replicate g.nodes.length 0,List.replicate g.nodes.length 0,List.replicate g.nodes.length 0⟩ ⟨aB,aB,aB⟩
 have hT:walkT g=bJ g.nodes (g.nodes.length+1) 0 (-1) 0 ⟨List.replicate g.nodes.length 0,List.replicate g.nodes.length 0,List.replicate g.nodes.length 0⟩:=rfl
 revert hT
 revert hlen
 exact hq.out):p:=h ⟨k⟩
theorem YJ {p q:Prop} (k:q) (h:Mhid q→p:=by
 intro hq
 have hHeld:(fun w':World=>w'.cell? ⟨w.heap.size,0,none⟩=some (.bool (au x).neg)∧w'.cell? ⟨w.heap.size,1,none⟩=some (.slice A (au x).num.length c)∧w'.cell? ⟨w.heap.size,2,none⟩=some (.slice B (au x).den.length d)) W.drew:=⟨x0,x1,x2⟩
 refine Zx ?_
 have hb:Below W.heap.size W W.drew:=aK (Below.refl _ W) 1
 refine ZL ?_
 revert hb
 revert hHeld
 exact hq.out):p:=h ⟨k⟩
theorem YK {p q:Prop} (k:q) (h:Mhid q→p:=by
 intro hq
 unfold AZ
 show Exit.inBlock _ _ .normal _ _
 exact hq.out):p:=h ⟨k⟩
theorem YO {p q:Prop} (k:q) (h:Mhid q→p:=by
 intro hq
 have HNY:=Af (Aj.mono (n:=y.num.natAbs) (G:=(Ext (Old F w.heap.size) (w.heap.size+3))) hn (fun b hb _=>.inl hb))
 revert HNY
 exact hq.out):p:=h ⟨k⟩
theorem YQ {p q:Prop} (k:q) (h:Mhid q→p:=by
 intro hq
 refine Zx ?_
 have hb:Below wr.heap.size wr wr.drew:=aK (Below.refl _ wr) 1
 revert hb
 exact hq.out):p:=h ⟨k⟩
theorem YR {p:Prop} (h:p:=by
 exact⟨_,rfl,(Below.refl _ _).alloc (Nat.le_refl _) _,.pointer none,by rw[HF.out]; rfl,by rw[HF.out]; intro h; simp at h⟩):p:=h
theorem YS {p q:Prop} (k:q) (h:Mhid q→p:=by
 intro hq
 replace hr:=hr.below hb hr.lt
 refine Zc ?_
 intro hz hB
 revert hB
 revert hz
 revert hr
 exact hq.out):p:=h ⟨k⟩
theorem YT {p q:Prop} (k:q) (h:Mhid q→p:=by
 intro hq
 refine ZL ?_
 intro x0 x1 x2
 replace HG:=Af (HG.out.on (Below.same' hb _))
 revert HG
 revert x2
 revert x1
 revert x0
 exact hq.out):p:=h ⟨k⟩
theorem YU {p:Prop} (h:p:=by
 go_wp2
 go_quiet (fail)
 go_wp2
 go_ret
 exact⟨_,rfl,aK hbel _,by rw[HF.out]; rfl⟩):p:=h
theorem YX {p q:Prop} (k:q) (h:Mhid q→p:=by
 intro hq
 show wpList _ _ _ _ _ _
 exact hq.out):p:=h ⟨k⟩
theorem YZ {p q:Prop} (k:q) (h:Mhid q→p:=by
 intro hq
 have f25:=aN (f:=(Fact.eq (.bool true))) (hf (25,v25) aB ah) rfl
 revert f25
 exact hq.out):p:=h ⟨k⟩
theorem Y0 {p:Prop} (h:p:=by
 go_wp2
 go_ret
 exact⟨by first | rfl | (rw[HF.out]; rfl),rfl⟩):p:=h
theorem Y2 {p:Prop} (h:p:=by
 go_wp2
 go_ret
 exact⟨_,rfl,hB.trans (hbel.mono hB.size),by rw[HE.out]; rfl⟩):p:=h
theorem Y3 {p q:Prop} (k:q) (h:Mhid q→p:=by
 intro hq
 replace rx:=rx.below hb rx.lt
 replace ry:=ry.below hb ry.lt
 replace hB:=hB.trans (hb.mono hB.size)
 revert hB
 revert ry
 revert rx
 exact hq.out):p:=h ⟨k⟩
theorem Y4 {p q:Prop} (k:q) (h:Mhid q→p:=by
 intro hq
 replace z0:=aj z0 hb
 replace z1:=aj z1 hb
 replace z2:=aj z2 hb
 refine Zo ?_
 intro HG HA HB HV HT
 replace HP:=Af (AP.on HP.out (Below.same' hb _))
 replace HNT:=Af (Ak.on HNT.out (Below.same' hb _))
 revert HNT
 revert HP
 revert HT
 revert HV
 revert HB
 revert HA
 revert HG
 revert z2
 revert z1
 revert z0
 exact hq.out):p:=h ⟨k⟩
theorem Y5 {p q:Prop} (k:q) (h:Mhid q→p:=by
 intro hq
 have HO:=Af (show jW x=0 by unfold jW; rw[if_neg byOmega])
 have HR:=Af (show dY x=aH x by unfold dY; rw[if_neg byOmega])
 have l1:=gy x
 have l2:=gB x
 have l3:=vM x
 have h1:(au x).num.length≤1024:=by rw[kZ];omega
 have h2:(au x).den.length≤1024:=byOmega
 have d1:decide ((1024:Int) < ((au x).num.length:Int))=false:=aG
 have d2:decide ((1024:Int) < ((au x).den.length:Int))=false:=aG
 revert d2
 revert d1
 revert h2
 revert h1
 revert l3
 revert l2
 revert l1
 revert HR
 revert HO
 exact hq.out):p:=h ⟨k⟩
theorem Y8 {p:Prop} (h:p:=by
 have HF:=Af (show fU aA ni x=3 by unfold fU; rw[if_pos byOmega])
 exact Zz):p:=h
theorem Y9 {p:Prop} (h:p:=by
 refine Row.alloc ?_ _
 exact Row.tC aB rfl):p:=h
theorem zab {p q:Prop} (k:q) (h:Mhid q→p:=by
 intro hq
 obtain⟨W,hW,hr,hB,hz'⟩:=aO w 83 #[.bool false,.slice none 0 0,.slice none 0 0]
 rw[← hW]
 clear hW
 have hz:w.heap.size+1≤W.heap.size:=byOmega
 clear hz'
 revert hz
 revert hB
 revert hr
 revert W
 exact hq.out):p:=h ⟨k⟩
theorem zaf {p q:Prop} (k:q) (h:Mhid q→p:=by
 intro hq
 refine Zf ?_
 intro hHeld
 have hb:Below wn.heap.size wn wn.drew:=aK (Below.refl _ wn) 1
 revert hb
 revert hHeld
 exact hq.out):p:=h ⟨k⟩
theorem zah {p q:Prop} (k:q) (h:Mhid q→p:=by
 intro hq
 unfold RtV
 rw[HM.out]
 have hg0:0 < Nat.gcd n b:=Nat.gcd_pos_of_pos_right _ byOmega
 have HGN:=Af (Nat.gcd_dvd_left n b)
 have HG:=Af (show ∀ w,Calls Tryz.prog 143 #[.int .i64 (n:Int),.int .i64 (b:Int)] w (Ret w fun v _=>v = .int .i64 (Nat.gcd n b:Int)) from fun w=>afB w n b h1 h2)
 revert HG
 revert HGN
 revert hg0
 exact hq.out):p:=h ⟨k⟩
theorem zaj {p q:Prop} (k:q) (h:Mhid q→p:=by
 intro hq
 have hb:Below W.heap.size W W.drew:=aK (Below.refl _ W) 1
 revert hb
 exact hq.out):p:=h ⟨k⟩
theorem zan {p q:Prop} (k:q) (h:Mhid q→p:=by
 intro hq
 refine hK.out _ _ ⟨x0,x1,x2⟩ (fun hHeld=>?_)
 refine Za ?_
 revert hHeld
 exact hq.out):p:=h ⟨k⟩
theorem zao {p:Prop} (h:p:=by
 obtain⟨A,c,rfl,hc,hr⟩:=h
 obtain⟨b,o,rfl,hF,hb,hcell⟩:=hr (by have:=aJ hk; omega)
 obtain⟨u,e0,i⟩:=hcell k l hk
 rw[Nat.mul_one] at e0
 exact⟨b,o,c,u,rfl,hF,hb,e0,i⟩):p:=h
theorem zar {p:Prop} (h:p:=by
 exact⟨rfl,⟨⟨3,0,0,[],[],pl⟩,.slice none 0 0,.slice none 0 0,.slice (some ⟨gu,0,none⟩) k cu⟩,by rw[HE.out.2,hpy],by rw[HE.out.1,hpy,hsz]; exact HM9.out,HW9.out⟩):p:=h
theorem zas {p q:Prop} (k:q) (h:Mhid q→p:=by
 intro hq
 refine hK.out _ _ ⟨(HWA.out.head.other (a:=⟨bl,a,none⟩) d3 _).drew.cell rfl,(HWA.out.head.other (a:=⟨bl,a,none⟩) d3 _).drew.cell rfl⟩ (fun hHeld=>?_)
 refine Za ?_
 refine Yq ?_
 clear hHeld
 exact hq.out):p:=h ⟨k⟩
theorem zat {p q:Prop} (k:q) (h:Mhid q→p:=by
 intro hq
 have y0:=ry.cell (i:=0) rfl
 have y1:=ry.cell (i:=1) rfl
 have y2:=ry.cell (i:=2) rfl
 revert y2
 revert y1
 revert y0
 exact hq.out):p:=h ⟨k⟩
theorem zaw {p q:Prop} (k:q) (h:Mhid q→p:=by
 intro hq
 replace rx:=rx.below hb rx.lt
 replace hB:=hB.trans (hb.mono hB.size)
 revert hB
 revert rx
 exact hq.out):p:=h ⟨k⟩
theorem zay {p:Prop} (h:p:=by
 refine(aah W _ s.1 s.2 h0).mono ?_
 rintro e w' ⟨u,rfl,hb,hu⟩
 refine⟨u,rfl,hb,?_⟩
 unfold jr
 rw[if_pos h0]
 have:=hm.size
 exact hu.mono fun b hb _=>.inr byOmega):p:=h
theorem zaB {p:Prop} (h:p:=by
 exact⟨_,rfl,hwz _ _ (Nat.le_refl _) hB,_,_,rfl,(HN.out.on (hkz _ byOmega)).mono (fun b hb _=>by omega),(HD.out.on (hkz _ byOmega)).mono (fun b hb _=>by omega)⟩):p:=h
theorem zaC {p q:Prop} (k:q) (h:Mhid q→p:=by
 intro hq
 have HDY:=Af (hu.mono (G:=(Ext (Old F w.heap.size) (w.heap.size+3))) (fun b hb _=>hb.elim .inl fun h=>.inr byOmega))
 revert HDY
 exact hq.out):p:=h ⟨k⟩
theorem zaD {p q:Prop} (k:q) (h:Mhid q→p:=by
 intro hq
 replace HW:=Af (HW.out.trans (Below.wrote hb _))
 replace k6:=Nat.le_trans k6 hb.size
 revert k6
 revert HW
 exact hq.out):p:=h ⟨k⟩
theorem zaF {p q:Prop} (k:q) (h:Mhid q→p:=by
 intro hq
 replace hzr:=Nat.le_trans hzr hb.size
 replace hbel:=hbel.trans (hb.mono hbel.size)
 dsimp only
 refine hK.out _ _ ⟨o0,o1,o2⟩ (fun hHeld=>?_)
 refine Za ?_
 revert hHeld
 revert hbel
 revert hzr
 exact hq.out):p:=h ⟨k⟩
theorem zaG {p q:Prop} (k:q) (h:Mhid q→p:=by
 intro hq
 replace hs1:=hs1.below hb hs1.lt
 replace ht1:=ht1.below hb ht1.lt
 replace hB:=hB.trans (hb.mono hB.size)
 revert hB
 revert ht1
 revert hs1
 exact hq.out):p:=h ⟨k⟩
theorem zaH {p q:Prop} (k:q) (h:Mhid q→p:=by
 intro hq
 have HF:=Af (show dH x=3 by unfold dH; rw[if_pos byOmega])
 revert HF
 exact hq.out):p:=h ⟨k⟩
theorem zaI {p:Prop} (h:p:=by
 rw[List.erase_cons_tail (by simpa using hji)]
 simp only[lg,Bool.and_eq_true,List.all_eq_true]
 exact⟨fun k hk=>hok.1 k (List.mem_of_mem_erase hk),ih hok.2⟩):p:=h
theorem zaJ {p:Prop} (h:p:=by
 rintro e w' ⟨_,rfl,hb,rfl⟩
 exact hK.out _ _ hb (by rw[decide_eq_true rfl]; rfl)):p:=h
theorem zaM {p:Prop} (h:p:=by
 refine(eF wk 3 4 ay ay ay ay).mono ?_
 rintro e w' ⟨u,rfl,hb,hu⟩
 exact hK.out _ _ hb (show Ak _ _ _ p3 by rw[HP3.out]; exact hu.mono fun _ _ _=>trivial)):p:=h
theorem zaN {p:Prop} (h:p:=by
 refine(eF wk 1 4 ay ay ay ay).mono ?_
 rintro e w' ⟨u,rfl,hb,hu⟩
 exact hK.out _ _ hb (show Ak _ _ _ p1 by rw[HP1.out]; exact hu.mono fun _ _ _=>trivial)):p:=h
theorem zaO {p q:Prop} (k:q) (h:Mhid q→p:=by
 intro hq
 have HNX:=Af (Aj.mono (n:=x.num.natAbs) (G:=(Ext (Old F w.heap.size) (w.heap.size+3))) hn (fun b hb _=>.inl hb))
 revert HNX
 exact hq.out):p:=h ⟨k⟩
theorem zaR {p:Prop} (h:p:=by
 go_wp2
 refine bodyPost_ret (results_none rfl _ _ _) rfl ?_
 exact⟨rfl,_,_,Lv,rfl,rfl,by first | exact HM.out | (rw[e]; exact HM.out),Wrote.refl _ _⟩):p:=h
theorem zaS {p q:Prop} (k:q) (h:Mhid q→p:=by
 intro hq
 refine Zx ?_
 have hb:Below W7.heap.size W7 W7.drew:=aK (Below.refl _ W7) 1
 obtain⟨wn,hwn⟩:=named W7.drew
 rw[← hwn] at hb hHeld ⊢
 have hzn:=hb.size
 replace HM:=Af (HM.out.below hb)
 revert HM
 revert hzn
 revert hHeld
 revert hb
 revert hwn
 revert wn
 exact hq.out):p:=h ⟨k⟩
theorem zaT {p:Prop} (h:p:=by
 dsimp only
 go_wp2_with fail
 refine(adr w).mono ?_
 rintro e w1 ⟨v,rfl,hb1,hv⟩
 have HV:=Af hv
 clear hv
 go_wp2
 go_ret
 exact⟨_,rfl,hb1,HV.out⟩):p:=h
theorem zaU {p:Prop} (h:p:=by
 exact⟨_,rfl,hwz _ _ byOmega hB,by rw[HZ.out]; exact NmV.zero _ _ _ _ _ _⟩):p:=h
theorem zaV {p q:Prop} (k:q) (h:Mhid q→p:=by
 intro hq
 replace rz:=rz.below hb rz.lt
 refine Zc ?_
 intro hz hB
 revert hB
 revert hz
 revert rz
 exact hq.out):p:=h ⟨k⟩
theorem zaW {p q:Prop} (k:q) (h:Mhid q→p:=by
 intro hq
 rw[Array.getElem?_setIfInBounds,Array.getElem?_push,Array.getElem?_push,Array.getElem?_setIfInBounds]
 simp only[Array.size_push,Array.size_setIfInBounds]
 exact hq.out):p:=h ⟨k⟩
theorem zaX {p q:Prop} (k:q) (h:Mhid q→p:=by
 intro hq
 rw[Nat.mul_one] at ec
 rw[← hgr.cell b3 _ ajz (by rintro(h | h | h) <;> simp_all)] at ec
 have HD:=Af (show n.next.drop j=ch :: n.next.drop (j+1) by rw[List.drop_eq_getElem_cons hjt]; congr 1; simpa [hjt] using hch)
 revert HD
 revert ec
 exact hq.out):p:=h ⟨k⟩
theorem zaY {p:Prop} (h:p:=by
 rw[List.take_of_length_le byOmega,List.length_map,hbl] at hrw
 have HRW:=Af hrw
 clear hrw hbl HM
 go_wp2
 go_ret
 exact⟨_,rfl,hB,HRW.out⟩):p:=h
theorem zaZ {p:Prop} (h:p:=by
 refine⟨k+1,byOmega,by go_num,?_,hbel.drew.trans (hb.mono hbel.size)⟩
 have e2:=HY.out
 rw[← HEQ.out] at e2
 exact kG HX.out e2 HP.out):p:=h
theorem za3 {p q:Prop} (k:q) (h:Mhid q→p:=by
 intro hq
 have HF:=Af (show jD aA x=3 by unfold jD; rw[if_pos byOmega])
 revert HF
 exact hq.out):p:=h ⟨k⟩
theorem za4 {p q:Prop} (k:q) (h:Mhid q→p:=by
 intro hq
 have g0:wk.cell? ⟨zb,0,none⟩=some (.bool q0.neg):=hS.1
 have g1:wk.cell? ⟨zb,1,none⟩=some (.slice A0 q0.num.length c0):=hS.2.1
 have g2:wk.cell? ⟨zb,2,none⟩=some (.slice B0 q0.den.length d0):=hS.2.2.1
 revert g2
 revert g1
 revert g0
 exact hq.out):p:=h ⟨k⟩
theorem za5 {p q:Prop} (k:q) (h:Mhid q→p:=by
 intro hq
 replace HZ:=Af (Ag.on HZ.out (Below.same' hb _))
 refine Zd ?_
 revert HZ
 exact hq.out):p:=h ⟨k⟩
theorem zbc {p q:Prop} (k:q) (h:Mhid q→p:=by
 intro hq
 have fl:=HWA.out.rl.frozen a
 obtain⟨yl,hyl⟩:=aF (show a < t'.l.length by rw[hlen.l]; exact hlt)
 have sl:wr.cell? ⟨bl,a,none⟩=some (.int .i64 yl):=HWA.out.rl.cell (by simp[jU,hyl])
 clear hyl
 refine tk2 16 ah rfl fun K hK=>?_
 revert hK
 revert K
 revert sl
 revert yl
 revert fl
 exact hq.out):p:=h ⟨k⟩
theorem zbg {p q:Prop} (k:q) (h:Mhid q→p:=by
 intro hq
 replace o0:=aj o0 hb
 replace o1:=aj o1 hb
 replace o2:=aj o2 hb
 replace HRA:=Af (HRA.out.below hb)
 replace BU:=Af (BU.out.below hb)
 revert BU
 revert HRA
 revert o2
 revert o1
 revert o0
 exact hq.out):p:=h ⟨k⟩
theorem zbh {p q:Prop} (k:q) (h:Mhid q→p:=by
 intro hq
 replace hcu:=aj hcu hb
 replace f0:=aj f0 hb
 replace f1:=aj f1 hb
 replace f2:=aj f2 hb
 refine ZL ?_
 revert f2
 revert f1
 revert f0
 revert hcu
 exact hq.out):p:=h ⟨k⟩
theorem zbi {p q:Prop} (k:q) (h:Mhid q→p:=by
 intro hq
 have aiN:=hok.1 i hi'
 obtain⟨x,hx⟩:∃ x,ops[j]? = some x:=⟨ops[j]'(hlt j aB),by simp[hlt j aB]⟩
 obtain⟨y,hy⟩:∃ y,ops[i]? = some y:=⟨ops[i]'(hlt i hi),by simp[hlt i hi]⟩
 obtain⟨f1,f2,f3⟩:=adl hx hy aiN
 have f3':=f3 (sZ j aB)
 have ex:gK ops j=x.dst:=by simp[gK,hx]
 have ey:gK ops i=y.dst:=by simp[gK,hy]
 revert ey
 revert ex
 revert f3'
 revert f3
 revert f2
 revert f1
 revert hy
 revert y
 revert hx
 revert x
 revert aiN
 exact hq.out):p:=h ⟨k⟩
theorem zbk {p q:Prop} (k:q) (h:Mhid q→p:=by
 intro hq
 have hm:=Nat.mul_le_mul (show L.length+1≤1000001 by omega) hby
 obtain⟨i0,hi,hz0,hz1,hz2⟩:=info_parts hi0
 revert hz2
 revert hz1
 revert hz0
 revert hi
 revert i0
 revert hm
 exact hq.out):p:=h ⟨k⟩
theorem zbl {p q:Prop} (k:q) (h:Mhid q→p:=by
 intro hq
 have x0:=r7.cell (i:=0) rfl
 have x1:=r7.cell (i:=1) rfl
 have x2:=r7.cell (i:=2) rfl
 revert x2
 revert x1
 revert x0
 exact hq.out):p:=h ⟨k⟩
theorem zbm {p q:Prop} (k:q) (h:Mhid q→p:=by
 intro hq
 have m8:=HM1.out.box.cell (i:=8) rfl
 refine Zj ?_
 intro x0 x1 x2
 have x3:=rx.cell (i:=3) rfl
 have x4:=rx.cell (i:=4) rfl
 have x5:=rx.cell (i:=5) rfl
 revert x5
 revert x4
 revert x3
 revert x2
 revert x1
 revert x0
 revert m8
 exact hq.out):p:=h ⟨k⟩
theorem zbo {p q:Prop} (k:q) (h:Mhid q→p:=by
 intro hq
 have dx:decide (x=0)=false:=decide_eq_false hx0
 have dy:decide (y=0)=false:=decide_eq_false hy0
 have lx:=gy x
 revert lx
 revert dy
 revert dx
 exact hq.out):p:=h ⟨k⟩
theorem zbp {p q:Prop} (k:q) (h:Mhid q→p:=by
 intro hq
 refine(jk wn (fun _=>True) _ _ (aH x) (aH 0) (HXV.out.mono fun _ _ _=>trivial) (H0V.out.mono fun _ _ _=>trivial) HLX.out HL0.out).mono ?_
 exact hq.out):p:=h ⟨k⟩
theorem zbq {p q:Prop} (k:q) (h:Mhid q→p:=by
 intro hq
 refine(jk wn (fun _=>True) _ _ (aH y) (aH z) (HYV.out.mono fun _ _ _=>trivial) (HZV.out.mono fun _ _ _=>trivial) HLY.out HLZ.out).mono ?_
 exact hq.out):p:=h ⟨k⟩
theorem zbr {p:Prop} (h:p:=by
 have e:some g=some b:=hb
 cases e
 rfl):p:=h
theorem zbs {p:Prop} (h:p:=by
 have h1:=qH (iG HF.out).1 (List.mem_of_getElem? HNN.out) hk2
 have h2:=HP.out
 exact⟨n.aC.toNat,byOmega,byOmega⟩):p:=h
theorem zbv {p q:Prop} (k:q) (h:Mhid q→p:=by
 intro hq
 rw[show(List.map (List.map aH) _).length=3 from rfl] at e
 revert e
 exact hq.out):p:=h ⟨k⟩
theorem zbx {p q:Prop} (k:q) (h:Mhid q→p:=by
 intro hq
 have hS:∀ (G:Ah),(∀ b,G b→b≠bo)→Same G wr (wr.setCell ⟨bo,k,none⟩ v):=fun G hG=>Same.setCell G wr (p:=⟨bo,k,none⟩) (fun h=>hG bo h rfl) _
 revert hS
 exact hq.out):p:=h ⟨k⟩
theorem zbB {p:Prop} (h:p:=by
 exact⟨_,rfl,HBF.out,_,by rw[Dl.out]; rfl,by rw[HU.out,if_pos (by rw[Dl.out]; decide)]; exact Ag.nil _ _⟩):p:=h
theorem zbH {p q:Prop} (k:q) (h:Mhid q→p:=by
 intro hq
 refine(gq _ _ _ x HX.out).mono ?_
 exact hq.out):p:=h ⟨k⟩
theorem zbI {p q:Prop} (k:q) (h:Mhid q→p:=by
 intro hq
 replace HR:=Af (Ag.on HR.out (Below.same' hb _))
 replace HP:=Af (AP.on HP.out (Below.same' hb _))
 refine ZK ?_
 revert HP
 revert HR
 exact hq.out):p:=h ⟨k⟩
theorem zbL {p q:Prop} (k:q) (h:Mhid q→p:=by
 intro hq
 have HUB:=Af (fun b (e:u.ownBlock=some b)=>HM.out.own.row.lt b e)
 revert HUB
 exact hq.out):p:=h ⟨k⟩
theorem zbM {p:Prop} (h:p:=by
 go_wp2
 go_quiet (fail)
 go_wp2
 go_ret
 exact⟨_,rfl,aK (hbel.alloc hbel.size _) _,by rw[HF.out]; rfl⟩):p:=h
theorem zbO {p q:Prop} (k:q) (h:Mhid q→p:=by
 intro hq
 have f24:=aN (f:=(Fact.eq (.bool true))) (hf (24,v24) aB ah) rfl
 revert f24
 exact hq.out):p:=h ⟨k⟩
theorem zbP {p:Prop} (h:p:=by
 exact h1.perm (fun p=>by simp only[List.mem_cons]; constructor <;> (rintro(h | h | h) <;> simp[h]))):p:=h
theorem zbQ {p:Prop} (h:p:=by
 exact⟨_,rfl,hwz _ _ (Nat.le_refl _) hB,(HM.out.on (hkz _ byOmega)).mono (fun b hb _=>by omega)⟩):p:=h
theorem zbT {p q:Prop} (k:q) (h:Mhid q→p:=by
 intro hq
 have hz:w.heap.size+2≤W.heap.size:=hz
 refine Zj ?_
 revert hz
 exact hq.out):p:=h ⟨k⟩
theorem zbU {p:Prop} (h:p:=by
 exact⟨_,by rw[HF.out]; rfl,by rw[HF.out]; intro h; simp at h,by rw[HF.out]; exact HWA.out,hgr⟩):p:=h
theorem zbV {p q:Prop} (k:q) (h:Mhid q→p:=by
 intro hq
 have d0:((l1.length:Int) != (l2.length:Int))=false:=aG
 have Q0:=Af q0
 revert Q0
 revert d0
 exact hq.out):p:=h ⟨k⟩
theorem zbY {p q:Prop} (k:q) (h:Mhid q→p:=by
 intro hq
 replace HN:=Af (HN.out.on (Below.same' hb _))
 refine ZK ?_
 revert HN
 exact hq.out):p:=h ⟨k⟩
theorem zb3 {p q:Prop} (k:q) (h:Mhid q→p:=by
 intro hq
 have HM:=Af (Ag.keep (G:=(fun _=>True)) hu (fun _ _ _=>trivial) (Same.refl _ _))
 revert HM
 exact hq.out):p:=h ⟨k⟩
theorem zb4 {p q:Prop} (k:q) (h:Mhid q→p:=by
 intro hq
 have HR:=Af (Ag.keep (G:=(fun _=>True)) hu (fun _ _ _=>trivial) (Same.refl _ _))
 revert HR
 exact hq.out):p:=h ⟨k⟩
theorem zb5 {p:Prop} (h:p:=by
 have hl:=aJ h
 rw[List.drop_eq_getElem_cons hl]
 have:l[k]=x:=by simpa [hl] using h
 rw[this]
 rfl):p:=h
theorem zb6 {p:Prop} (h:p:=by
 exact⟨_,by rw[HF.out]; rfl,by rw[HF.out]; intro h; simp at h,by rw[HF.out]; exact aeB,hgg⟩):p:=h
theorem zb7 {p:Prop} (h:p:=by
 go_wp2
 go_ret
 exact⟨_,rfl,hB,by rw[HR.out]; rfl⟩):p:=h
theorem zb8 {p:Prop} (h:p:=by
 go_wp2
 go_ret
 exact⟨_,rfl,hB,by rw[HE.out]; rfl⟩):p:=h
theorem zb9 {p:Prop} (h:p:=by
 rw[show(1:Rat).num=1 from rfl,show(1:Rat).den=1 from rfl,show(1:Int).natAbs=1 from rfl,iJ]
 rfl):p:=h
theorem zca {p q:Prop} (k:q) (h:Mhid q→p:=by
 intro hq
 replace HP1:=Af (HP1.out.below hb)
 replace HP2:=Af (HP2.out.below hb)
 replace HT1:=Af (HT1.out.below hb)
 revert HT1
 revert HP2
 revert HP1
 exact hq.out):p:=h ⟨k⟩
theorem zcb {p q:Prop} (k:q) (h:Mhid q→p:=by
 intro hq
 refine hK.out _ _ ⟨x0,x1,x2,y0,y1,y2,s0,s1,s2,t0,t1,t2⟩ (fun hHeld=>?_)
 refine Za ?_
 revert hHeld
 exact hq.out):p:=h ⟨k⟩
theorem zce {p q:Prop} (k:q) (h:Mhid q→p:=by
 intro hq
 replace HR4:=Af (HR4.out.below hb HR4.out.lt)
 replace HMR:=Af (HMR.out.below hb)
 replace HD4:=Af (HD4.out.keep (fun _ h _=>h) (Below.same' hb _))
 replace HB4:=Af (HB4.out.trans (hb.mono HB4.out.size))
 replace Dv:=Af (Dv.out.trans (hb.mono Dv.out.size))
 replace hc4:=aj hc4 hb
 replace hz4:=Nat.le_trans hz4 hb.size
 revert hz4
 revert hc4
 revert Dv
 revert HB4
 revert HD4
 revert HMR
 revert HR4
 exact hq.out):p:=h ⟨k⟩
theorem zcf {p q:Prop} (k:q) (h:Mhid q→p:=by
 intro hq
 replace HM:=Af (Ag.on HM.out (Below.same' hb _))
 revert HM
 exact hq.out):p:=h ⟨k⟩
theorem zcg {p q:Prop} (k:q) (h:Mhid q→p:=by
 intro hq
 simp only[Array.getD_eq_getD_getElem?,Array.getElem?_push]
 exact hq.out):p:=h ⟨k⟩
theorem zch {p q:Prop} (k:q) (h:Mhid q→p:=by
 intro hq
 have HF:=Af (show bJ g.nodes (f+1) a par dep t=(-1,rd) by rw[HR.out,HV2.out,if_pos hng]; simp)
 have hdn:decide (0≤rn)=false:=decide_eq_false byOmega
 revert hdn
 revert HF
 exact hq.out):p:=h ⟨k⟩
theorem zci {p q:Prop} (k:q) (h:Mhid q→p:=by
 intro hq
 replace HDX:=Af (HDX.out.below hb)
 replace HDY:=Af (HDY.out.below hb)
 revert HDY
 revert HDX
 exact hq.out):p:=h ⟨k⟩
theorem zcj {p:Prop} (h:p:=by
 exact⟨_,rfl,hB2,.pointer none,by rw[HF.out]; rfl,by rw[HF.out]; intro h; simp at h⟩):p:=h
theorem zck {p:Prop} (h:p:=by
 have:=congrArg List.length hn
 simp at this
 omega):p:=h
end Go.Proofs.YthmklhapjegfdaaGreatDoor
