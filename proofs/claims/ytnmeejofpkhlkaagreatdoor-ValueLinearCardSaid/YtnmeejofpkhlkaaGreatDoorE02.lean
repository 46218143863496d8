/- Part of a claim. -/
import Derived.Test.YtnmeejofpkhlkaaGreatDoorE04
import Derived.OrdersHeld
import Derived.Deep.RegionHeld
set_option linter.all false
namespace Go.Proofs.YtnmeejofpkhlkaaGreatDoor
open Go renaming World->FW
open Go.Region renaming ready->G7
variable {a:Act} {listed:Array Bool} {fuel:Nat} {g p q:Prop}
section
variable {P:Program} {md:Region.Mode} {ops:Array Oper} {Q:Exit->Act->FW->Prop} {S:FW->Prop}
def Tk (_:List Nat) (g:Prop):Prop:=g
theorem tk0 (l:List Nat) (h:Tk l g):g:=h
theorem tk1 (h:g):Tk [] g:=h
theorem tk {i:Nat} {is:List Nat} {oi:Oper} {v:Value} {w:FW} (hi:ops[i]? = some oi)
  (hs:Region.noSelect ops=true) (hf:Region.free md ops listed i=true) (hr:(G7 md ops listed).contains i=true)
  (hQ:∀ c a w,Q (.panic c) (a.put oi.dst v) w->Q (.panic c) a w) (hy:YieldsIf P ops S oi v a) (hS:S w)
  (h:Tk is (wpAnyH P md ops Q S fuel (listed.setIfInBounds i true) (a.put oi.dst v) w)):Tk (i :: is) (wpAnyH P md ops Q S (fuel+1) listed a w) :=
 wpAnyH_take hi hs hf hr hQ hy hS h
theorem tk2 (i:Nat) {w:FW} {o:Oper} (hr:G7 md ops listed = [i]) (ho:ops[i]? = some o)
  (h:∀ K':Act->FW->Prop,Shut (∀ a w,S w->(S w->wpAnyH P md ops Q S fuel (listed.setIfInBounds i true) a w)->K' a w)->if Region.wanted o (yielded ops a.tmps)=true then Oper.wp P o a w K' Q else K' (a.put o.dst undef) w):wpAnyH P md ops Q S (fuel+1) listed a w :=
 wpAnyH_ready hr (by simp) (AllReadyH.cons ho h AllReadyH.nil)
end
theorem tkm (l:List Nat) (k:q) (h:FN q->Tk l g:=by
 intro hq
 repeat (refine tk (v:=?_) rfl (by kernel_rfl) (by kernel_rfl) (by kernel_rfl) (λ_ _ _ h=>h) (Or.inl ⟨by rfl,?_⟩) hHeld ?_;rotate_left;(focus intro wx hSx;(try dsimp only at hSx);go_split_ands;go_simp;try with_reducible rfl);try simp only[Act.put,List.getElem_toArray,List.getElem_cons_zero,List.getElem_cons_succ,List.setIfInBounds_toArray,List.set_cons_zero,List.set_cons_succ])
 exact tk1 hq.out):g:=tk0 l (h ⟨k⟩)
theorem zZ (k:q) (h:FN q->p:=by
 intro hq
 replace x0:=ah x0 hb
 replace x1:=ah x1 hb
 replace x2:=ah x2 hb
 replace y0:=ah y0 hb
 replace y1:=ah y1 hb
 replace y2:=ah y2 hb
 replace HX:=Ac (HX.out.below hb)
 replace HY:=Ac (HY.out.below hb)
 revert HY
 revert HX
 revert y2
 revert y1
 revert y0
 revert x2
 revert x1
 revert x0
 exact hq.out):p:=h ⟨k⟩
theorem Za (k:q) (h:FN q->p:=by
 intro hq
 replace hz:=Nat.le_trans hz hb.size
 replace hB:=hB.trans (hb.mono hB.size)
 dsimp only
 refine hK.out _ _ ⟨x0,x1,x2,y0,y1,y2⟩ (λhHeld=>?_)
 try simp only[Act.put,lq1,lq2,lq3,lq4,lq5,lq6]
 revert hHeld
 revert hB
 revert hz
 exact hq.out):p:=h ⟨k⟩
theorem Zb (k:q) (h:FN q->p:=by
 intro hq
 try simp only[Act.put,lq1,lq2,lq3,lq4,lq5,lq6]
 exact hq.out):p:=h ⟨k⟩
theorem Zc (k:q) (h:FN q->p:=by
 intro hq
 replace hz:=Nat.le_trans hz hb.size
 replace hB:=hB.trans (hb.mono hB.size)
 revert hB
 revert hz
 exact hq.out):p:=h ⟨k⟩
theorem Zd (k:q) (h:FN q->p:=by
 intro hq
 have x0:=rx.cell (i:=0) rfl
 have x1:=rx.cell (i:=1) rfl
 have x2:=rx.cell (i:=2) rfl
 revert x2
 revert x1
 revert x0
 exact hq.out):p:=h ⟨k⟩
theorem Ze (k:q) (h:FN q->p:=by
 intro hq
 refine zZ ?_
 intro x0 x1 x2 y0 y1 y2 HX HY
 replace HNX:=Ac (HNX.out.below hb)
 replace HNY:=Ac (HNY.out.below hb)
 replace HDX:=Ac (HDX.out.below hb)
 replace HDY:=Ac (HDY.out.below hb)
 revert HDY
 revert HDX
 revert HNY
 revert HNX
 revert HY
 revert HX
 revert y2
 revert y1
 revert y0
 revert x2
 revert x1
 revert x0
 exact hq.out):p:=h ⟨k⟩
theorem Zf (k:q) (h:FN q->p:=by
 intro hq
 refine wp_region_held_drew (S:=λw'=>w'.cell? ⟨w.heap.size,0,none⟩=some (.bool (aB x).neg)/\w'.cell? ⟨w.heap.size,1,none⟩=some (.slice A (aB x).num.length c)/\w'.cell? ⟨w.heap.size,2,none⟩=some (.slice B (aB x).den.length d)/\w'.cell? ⟨w.heap.size+1,0,none⟩=some (.bool (aB y).neg)/\w'.cell? ⟨w.heap.size+1,1,none⟩=some (.slice A' (aB y).num.length c')/\w'.cell? ⟨w.heap.size+1,2,none⟩=some (.slice B' (aB y).den.length d')) ak ⟨x0,x1,x2,y0,y1,y2⟩ (λhHeld=>?_)
 revert hHeld
 exact hq.out):p:=h ⟨k⟩
theorem Zg (k:q) (h:FN q->p:=by
 intro hq
 replace x0:=ah x0 hb
 replace x1:=ah x1 hb
 replace x2:=ah x2 hb
 replace HG:=Ac (HG.out.on (Below.same' hb _))
 revert HG
 revert x2
 revert x1
 revert x0
 exact hq.out):p:=h ⟨k⟩
theorem Zi (k:q) (h:FN q->p:=by
 intro hq
 obtain⟨W,hW,rx,ry,rz,hB,hz⟩:=qx w 114 #[.bool (aB x).neg,.slice A (aB x).num.length c,.slice B (aB x).den.length d] 114 #[.bool (aB y).neg,.slice A' (aB y).num.length c',.slice B' (aB y).den.length d'] 114 #[.bool false,.slice none 0 0,.slice none 0 0]
 rw[<-hW]
 clear hW
 replace HX:=Ac (HX.out.on (Below.same' hB _))
 replace HY:=Ac (HY.out.on (Below.same' hB _))
 revert HY
 revert HX
 revert hz
 revert hB
 revert rz
 revert ry
 revert rx
 revert W
 exact hq.out):p:=h ⟨k⟩
theorem Zj (k:q) (h:FN q->p:=by
 intro hq
 refine aW (λw'=>w'.cell? ⟨w.heap.size,0,none⟩=some (.bool (au x).neg)/\w'.cell? ⟨w.heap.size,1,none⟩=some (.slice A (au x).num.length c)/\w'.cell? ⟨w.heap.size,2,none⟩=some (.slice B (au x).den.length d)/\w'.cell? ⟨w.heap.size+1,0,none⟩=some (.bool (au y).neg)/\w'.cell? ⟨w.heap.size+1,1,none⟩=some (.slice A' (au y).num.length c')/\w'.cell? ⟨w.heap.size+1,2,none⟩=some (.slice B' (au y).den.length d')) 7 1 ak rfl ak ?_
 have hHeld:(λw':World=>w'.cell? ⟨w.heap.size,0,none⟩=some (.bool (au x).neg)/\w'.cell? ⟨w.heap.size,1,none⟩=some (.slice A (au x).num.length c)/\w'.cell? ⟨w.heap.size,2,none⟩=some (.slice B (au x).den.length d)/\w'.cell? ⟨w.heap.size+1,0,none⟩=some (.bool (au y).neg)/\w'.cell? ⟨w.heap.size+1,1,none⟩=some (.slice A' (au y).num.length c')/\w'.cell? ⟨w.heap.size+1,2,none⟩=some (.slice B' (au y).den.length d')) wn.drew:=⟨x0,x1,x2,y0,y1,y2⟩
 simp only[List.take_succ_cons,List.take_zero]
 have hb:Below wn.heap.size wn wn.drew:=aI (Below.refl _ wn) 1
 refine Ze ?_
 revert hb
 revert hHeld
 exact hq.out):p:=h ⟨k⟩
theorem Zk (k:q) (h:FN q->p:=by
 intro hq
 have q0:=rz.cell (i:=0) rfl
 have y0:=rz.frozen 0
 have q1:=rz.cell (i:=1) rfl
 have y1:=rz.frozen 1
 have q2:=rz.cell (i:=2) rfl
 have y2:=rz.frozen 2
 revert y2
 revert q2
 revert y1
 revert q1
 revert y0
 revert q0
 exact hq.out):p:=h ⟨k⟩
theorem Zl (h:p:=by
 have HN1:=Ac (Ae.below (n:=aH num) HNN.out hb)
 have HD1:=Ac (Ae.below (n:=aH den) HDD.out hb)
 clear hb
 dsimp only
 go_wp2_with fail
 refine(iR w1 F _ _ (aH num) (aH den) HN1.out HD1.out hl1 hl2).mono ?_
 rintro e w2 ⟨va,rfl,hb,hu⟩
 rw[<-HG.out] at hu
 obtain⟨A2,c2,rfl,_,hN2⟩:=hu
 have hB2:=hB1.trans (hb.mono hB1.size)
 replace x0:=ah x0 hb
 replace x1:=ah x1 hb
 replace x2:=ah x2 hb
 obtain⟨b2,o2,rfl,_,hb2,hx2⟩:=hN2 hpos
 have ex:=hx2 0 g (by rw[HDG.out]; rfl)
 unfold dF at ex
 rw[Nat.mul_one,Nat.add_zero] at ex
 clear hb hx2 hb2
 dsimp only
 go_wp2
 go_ret
 exact⟨_,rfl,hB2,by rw[HT.out]; rfl⟩):p:=h
theorem Zm (k:q) (h:FN q->p:=by
 intro hq
 replace HT:=Ac (HT.out.on hb)
 replace hB:=hB.trans (hb.mono hB.size)
 revert hB
 revert HT
 exact hq.out):p:=h ⟨k⟩
theorem Zn (k:q) (h:FN q->p:=by
 intro hq
 refine wpAnyH_done ak ?_ _
 show wpList _ _ _ _ _ _
 have f0:=HM1.out.Fg.fz (i*6)
 have f1:=HM1.out.Fg.fz (i*6+1)
 have f2:=HM1.out.Fg.fz (i*6+2)
 have f3:=HM1.out.Fg.fz (i*6+3)
 have f4:=HM1.out.Fg.fz (i*6+4)
 have f5:=HM1.out.Fg.fz (i*6+5)
 obtain⟨q0,y0⟩:∃ v,wn.cell? ⟨gn,i*6,none⟩=some v:=HM1.out.Fg.dH hi 0 aA
 obtain⟨q1,y1⟩:∃ v,wn.cell? ⟨gn,i*6+1,none⟩=some v:=HM1.out.Fg.dH hi 1 aA
 obtain⟨q2,y2⟩:∃ v,wn.cell? ⟨gn,i*6+2,none⟩=some v:=HM1.out.Fg.dH hi 2 aA
 obtain⟨q3,y3⟩:∃ v,wn.cell? ⟨gn,i*6+3,none⟩=some v:=HM1.out.Fg.dH hi 3 aA
 obtain⟨q4,y4⟩:∃ v,wn.cell? ⟨gn,i*6+4,none⟩=some v:=HM1.out.Fg.dH hi 4 aA
 obtain⟨q5,y5⟩:∃ v,wn.cell? ⟨gn,i*6+5,none⟩=some v:=HM1.out.Fg.dH hi 5 aA
 have HMB:=Ac (λb hb=>HM.out.aeh (b:=b) hb)
 have hbm:M.base<=W.heap.size:=Nat.le_of_lt (Nat.lt_of_le_of_lt HM.out.fK.1 HM.out.box.lt)
 have agM:∀ {w:World} {F:FI},Aj w F (.slice none 0 0) []:=⟨none,0,rfl,Nat.le_refl _,λh=>absurd h aF⟩
 have HM2:=Ac (HM1.out.fresh HMB.out hbm)
 revert HM2
 revert agM
 revert hbm
 revert HMB
 revert y5
 revert q5
 revert y4
 revert q4
 revert y3
 revert q3
 revert y2
 revert q2
 revert y1
 revert q1
 revert y0
 revert q0
 revert f5
 revert f4
 revert f3
 revert f2
 revert f1
 revert f0
 exact hq.out):p:=h ⟨k⟩
theorem Zo (k:q) (h:FN q->p:=by
 intro hq
 have hsz:=hws.size
 replace x0:=aY x0 hws EN
 replace x1:=aY x1 hws EN
 replace x2:=aY x2 hws EN
 replace HG:=Ac (HG.out.on (hws.same λb hb e=>by have:=hb.2; omega))
 replace HN1:=Ac (HN1.out.on (hws.same λb hb e=>by have:=hb.2; omega))
 replace HN2:=Ac (HN2.out.on (hws.same λb hb e=>by have:=hb.2; omega))
 replace HT:=Ac (HT.out.wr hws EN)
 replace hB:=Below.wr hB hws hB.size λb e=>by omega
 revert hB
 revert HT
 revert HN2
 revert HN1
 revert HG
 revert x2
 revert x1
 revert x0
 revert hsz
 exact hq.out):p:=h ⟨k⟩
theorem Zp (k:q) (h:FN q->p:=by
 intro hq
 refine Row.alloc ?_ _
 refine Row.alloc ?_ _
 refine Row.alloc ?_ _
 refine Row.alloc ?_ _
 exact hq.out):p:=h ⟨k⟩
theorem Zq (h:p:=by
 exact⟨_,rfl,hwz _ _ EN hB,HM.out.keep (λb hb _=>hb.elim (λh=>.inl h.1) λh=>.inr EN) (hkz _ (λh=>h.elim (λh=>by have:=h.2; omega) λh=>by omega))⟩):p:=h
theorem Zt (h:p:=by
 go_in
 go_wp2
 go_ret
 exact⟨_,rfl,(Below.refl _ _).alloc (Nat.le_refl _) _,by rw[HF.out]; rfl⟩):p:=h
theorem Zv (k:q) (h:FN q->p:=by
 intro hq
 simp only[List.take_succ_cons,List.take_zero]
 exact hq.out):p:=h ⟨k⟩
theorem Zw (k:q) (h:FN q->p:=by
 intro hq
 replace z0:=ah z0 hb
 replace z1:=ah z1 hb
 replace z2:=ah z2 hb
 replace s0:=ah s0 hb
 replace s1:=ah s1 hb
 replace s2:=ah s2 hb
 replace a0:=ah a0 hb
 replace a1:=ah a1 hb
 replace a2:=ah a2 hb
 replace t0:=ah t0 hb
 replace t1:=ah t1 hb
 replace t2:=ah t2 hb
 replace b0:=ah b0 hb
 replace b1:=ah b1 hb
 replace b2:=ah b2 hb
 replace HZW:=Ac (Ah.below HZW.out hb)
 replace HAW:=Ac (Ah.below HAW.out hb)
 replace HBW:=Ac (Ah.below HBW.out hb)
 replace HS2:=Ac (Ah.below HS2.out hb)
 replace Df:=Ac (Ah.below Df.out hb)
 revert Df
 revert HS2
 revert HBW
 revert HAW
 revert HZW
 revert b2
 revert b1
 revert b0
 revert t2
 revert t1
 revert t0
 revert a2
 revert a1
 revert a0
 revert s2
 revert s1
 revert s0
 revert z2
 revert z1
 revert z0
 exact hq.out):p:=h ⟨k⟩
theorem Zx (k:q) (h:FN q->p:=by
 intro hq
 refine wpAnyH_done ak ?_ _
 show wpList _ _ _ _ _ _
 exact hq.out):p:=h ⟨k⟩
theorem Zy (k:q) (h:FN q->p:=by
 intro hq
 replace HG:=Ac (HG.out.on (Below.same' hb _))
 replace HA:=Ac (FM.on HA.out (Below.same' hb _))
 replace HB:=Ac (FM.on HB.out (Below.same' hb _))
 replace HV:=Ac (Ah.on HV.out (Below.same' hb _))
 revert HV
 revert HB
 revert HA
 revert HG
 exact hq.out):p:=h ⟨k⟩
theorem Zz (k:q) (h:FN q->p:=by
 intro hq
 have hHeld:(λw':World=>w'.cell? ⟨w.heap.size,0,none⟩=some (.bool (au x).neg)/\w'.cell? ⟨w.heap.size,1,none⟩=some (.slice A (au x).num.length c)/\w'.cell? ⟨w.heap.size,2,none⟩=some (.slice B (au x).den.length d)/\w'.cell? ⟨w.heap.size+1,0,none⟩=some (.bool (au y).neg)/\w'.cell? ⟨w.heap.size+1,1,none⟩=some (.slice A' (au y).num.length c')/\w'.cell? ⟨w.heap.size+1,2,none⟩=some (.slice B' (au y).den.length d')) W.drew:=⟨x0,x1,x2,y0,y1,y2⟩
 refine Zv ?_
 have hb:Below W.heap.size W W.drew:=aI (Below.refl _ W) 1
 revert hb
 revert hHeld
 exact hq.out):p:=h ⟨k⟩
theorem ZA (k:q) (h:FN q->p:=by
 intro hq
 replace HX:=Ac (HX.out.below hb)
 replace HY:=Ac (HY.out.below hb)
 replace HNX:=Ac (HNX.out.below hb)
 replace HNY:=Ac (HNY.out.below hb)
 replace HDX:=Ac (HDX.out.below hb)
 replace HDY:=Ac (HDY.out.below hb)
 replace HG:=Ac (HG.out.below hb)
 replace HL:=Ac (HL.out.below hb)
 replace HR:=Ac (HR.out.below hb)
 replace HT1:=Ac (HT1.out.below hb)
 replace HT2:=Ac (HT2.out.below hb)
 replace HT:=Ac (HT.out.below hb)
 revert HT
 revert HT2
 revert HT1
 revert HR
 revert HL
 revert HG
 revert HDY
 revert HDX
 revert HNY
 revert HNX
 revert HY
 revert HX
 exact hq.out):p:=h ⟨k⟩
theorem ZB (k:q) (h:FN q->p:=by
 intro hq
 refine aW (λw'=>w'.cell? ⟨M.mb,8,none⟩=some (.slice (some ⟨gn,0,none⟩) Ln.length cn)/\w'.cell? ⟨xb,0,none⟩=some (.int .i64 3)/\w'.cell? ⟨xb,1,none⟩=some (.int .i64 0)/\w'.cell? ⟨xb,2,none⟩=some (.int .i64 0)/\w'.cell? ⟨xb,3,none⟩=some (.slice none 0 0)/\w'.cell? ⟨xb,4,none⟩=some (.slice none 0 0)/\w'.cell? ⟨xb,5,none⟩=some (.slice (some ⟨gu,0,none⟩) k cu)) 7 2 ak rfl ak ?_
 have hHeld:(λw':World=>w'.cell? ⟨M.mb,8,none⟩=some (.slice (some ⟨gn,0,none⟩) Ln.length cn)/\w'.cell? ⟨xb,0,none⟩=some (.int .i64 3)/\w'.cell? ⟨xb,1,none⟩=some (.int .i64 0)/\w'.cell? ⟨xb,2,none⟩=some (.int .i64 0)/\w'.cell? ⟨xb,3,none⟩=some (.slice none 0 0)/\w'.cell? ⟨xb,4,none⟩=some (.slice none 0 0)/\w'.cell? ⟨xb,5,none⟩=some (.slice (some ⟨gu,0,none⟩) k cu)) wr.drew:=⟨m8,x0,x1,x2,x3,x4,x5⟩
 refine Zv ?_
 have hb:Below wr.heap.size wr wr.drew:=aI (Below.refl _ wr) 1
 replace m8:=ah m8 hb
 replace x0:=ah x0 hb
 replace x1:=ah x1 hb
 replace x2:=ah x2 hb
 replace x3:=ah x3 hb
 replace x4:=ah x4 hb
 replace x5:=ah x5 hb
 replace HM1:=Ac (HM1.out.below hb)
 replace HO:=Ac (HO.out.below hb)
 replace rx:=rx.below hb rx.lt
 replace HW:=Ac (HW.out.trans (Below.wrote hb _))
 replace k6:=Nat.le_trans k6 hb.size
 clear hb
 revert k6
 revert HW
 revert rx
 revert HO
 revert HM1
 revert x5
 revert x4
 revert x3
 revert x2
 revert x1
 revert x0
 revert m8
 revert hHeld
 exact hq.out):p:=h ⟨k⟩
theorem ZC (h:p:=by
 have HT:=Ac he
 clear he HE
 go_wp2_with fail
 refine(iR W F _ _ (aH num) (aH den) HNN.out HDD.out hl1 hl2).mono ?_
 rintro e w1 ⟨va,rfl,hb,hu⟩
 rw[<-HG.out] at hu
 obtain⟨A1,c1,rfl,_,_⟩:=hu
 have hB1:=hB.trans (hb.mono hB.size)
 replace x0:=ah x0 hb
 replace x1:=ah x1 hb
 replace x2:=ah x2 hb
 exact Zl):p:=h
theorem ZE (k:q) (h:FN q->p:=by
 intro hq
 replace rz:=rz.below hb rz.lt
 refine Zc ?_
 intro hz hB
 revert hB
 revert hz
 revert rz
 exact hq.out):p:=h ⟨k⟩
theorem ZF (k:q) (h:FN q->p:=by
 intro hq
 refine zZ ?_
 intro x0 x1 x2 y0 y1 y2 HX HY
 replace HDX:=Ac (HDX.out.below hb)
 replace HDY:=Ac (HDY.out.below hb)
 replace HNX:=Ac (HNX.out.below hb)
 replace HNY:=Ac (HNY.out.below hb)
 replace HF:=Ac (HF.out.below hb)
 replace HG:=Ac (HG.out.below hb)
 revert HG
 revert HF
 revert HNY
 revert HNX
 revert HDY
 revert HDX
 revert HY
 revert HX
 revert y2
 revert y1
 revert y0
 revert x2
 revert x1
 revert x0
 exact hq.out):p:=h ⟨k⟩
theorem ZG (k:q) (h:FN q->p:=by
 intro hq
 refine Zd ?_
 intro x0 x1 x2
 have y0:=ry.cell (i:=0) rfl
 have y1:=ry.cell (i:=1) rfl
 have y2:=ry.cell (i:=2) rfl
 revert y2
 revert y1
 revert y0
 revert x2
 revert x1
 revert x0
 exact hq.out):p:=h ⟨k⟩
theorem ZH (k:q) (h:FN q->p:=by
 intro hq
 refine Zg ?_
 intro x0 x1 x2 HG
 replace HP:=Ac (FM.on HP.out (Below.same' hb _))
 replace RW:=Ac (FK.on RW.out (Below.same' hb _))
 replace RL:=Ac (AO.on RL.out (Below.same' hb _))
 refine Zm ?_
 intro HT hB
 revert hB
 revert HT
 revert RL
 revert RW
 revert HP
 revert HG
 revert x2
 revert x1
 revert x0
 exact hq.out):p:=h ⟨k⟩
theorem ZI (h:p:=by
 rintro e w1 ⟨_,rfl,hb1,rfl⟩
 have hbx2:=jh.drew.below hb1 aG
 have alv:=hbt.drew.below hb1 aG
 dsimp only
 refine hK.out _ _ ⟨alv.cell rfl,hbx2.cell rfl,hbx2.cell rfl,hbx2.cell rfl,hbx2.cell rfl,hbx2.cell rfl,hbx2.cell rfl⟩ (λhHeld=>?_)
 clear hK K
 refine Zb ?_
 refine tkm [7] ?_
 refine wpAnyH_done ak ?_ _
 go_wp2
 go_ret
 exact⟨_,rfl,hB1.drew.trans (hb1.mono aG),by rw[HF.out]; rfl⟩):p:=h
theorem ZJ (k:q) (h:FN q->p:=by
 intro hq
 obtain⟨W,hW,rx,hB,hz⟩:=aJ w 27 #[.int .i64 g.ay,.slice A g.Fg.length c,.slice Ai g.Fh.length ci]
 rw[<-hW]
 revert hz
 revert hB
 revert rx
 revert hW
 revert W
 exact hq.out):p:=h ⟨k⟩
theorem ZK (k:q) (h:FN q->p:=by
 intro hq
 replace eu:=ah eu hb
 replace p0:=ah p0 hb
 replace p1:=ah p1 hb
 replace p2:=ah p2 hb
 replace ex0:=ah ex0 hb
 replace ex1:=ah ex1 hb
 replace ex2:=ah ex2 hb
 replace HRV:=Ac (HRV.out.below hb)
 replace HON:=Ac (HON.out.below hb)
 replace HNM:=Ac (HNM.out.below hb)
 replace rs:=rs.below hb rs.lt
 replace hzr:=Nat.le_trans hzr hb.size
 replace hbel:=hbel.trans (hb.mono hbel.size)
 revert hbel
 revert hzr
 revert rs
 revert HNM
 revert HON
 revert HRV
 revert ex2
 revert ex1
 revert ex0
 revert p2
 revert p1
 revert p0
 revert eu
 exact hq.out):p:=h ⟨k⟩
theorem ZL (k:q) (h:FN q->p:=by
 intro hq
 replace x0:=ah x0 hb
 replace x1:=ah x1 hb
 replace x2:=ah x2 hb
 revert x2
 revert x1
 revert x0
 exact hq.out):p:=h ⟨k⟩
theorem ZM (k:q) (h:FN q->p:=by
 intro hq
 have hmd:mb≠db:=EN
 replace m0:=aY m0 hwx hmd
 replace m1:=aY m1 hwx hmd
 replace RM:=Ac (RM.out.wrote hwx hmd)
 replace RG:=Ac (RG.out.wrote hwx (λe=>by omega))
 replace RD:=Ac hr2
 replace HO:=Ac (HO.out.wrote hwx λb hb e=>by have:=(HO.out.row.lt b (hb.resolve_left id)).1; omega)
 replace HLr:=Ac (HLr.out.on (hwx.same λb hb e=>by have:=hb.2; omega))
 replace HW:=Ac (HW.out.step hwx λi _ e=>.inr e)
 replace hsz:=Nat.le_trans hsz hwx.size
 clear hmd
 refine hK.out _ _ ⟨m0,m1⟩ (λhHeld=>?_)
 refine Zb ?_
 revert hHeld
 revert hsz
 revert HW
 revert HLr
 revert HO
 revert RD
 revert RG
 revert RM
 revert m1
 revert m0
 exact hq.out):p:=h ⟨k⟩
theorem ZN (k:q) (h:FN q->p:=by
 intro hq
 obtain⟨W,hW,rx,rz,hB,hz⟩:=alloc2 w 114 #[.bool (aB x).neg,.slice A (aB x).num.length c,.slice B (aB x).den.length d] 42 #[.bool false,.slice none 0 0,.slice none 0 0]
 rw[<-hW]
 clear hW
 replace HX:=Ac (HX.out.on (Below.same' hB _))
 revert HX
 revert hz
 revert hB
 revert rz
 revert rx
 revert W
 exact hq.out):p:=h ⟨k⟩
theorem ZO (k:q) (h:FN q->p:=by
 intro hq
 replace rz:=rz.below hb rz.lt
 refine Za ?_
 intro hz hB hHeld
 revert hHeld
 revert hB
 revert hz
 revert rz
 exact hq.out):p:=h ⟨k⟩
theorem ZP (h:p:=by
 go_wp2
 go_ret
 exact⟨by rw[HE.out]; rfl,rfl⟩):p:=h
theorem ZR (k:q) (h:FN q->p:=by
 intro hq
 show Exit.then _ _ .normal _ _
 exact hq.out):p:=h ⟨k⟩
theorem ZU (k:q) (h:FN q->p:=by
 intro hq
 replace u0:=ah u0 hb
 replace u1:=ah u1 hb
 replace u2:=ah u2 hb
 replace m1:=ah m1 hb
 replace y0:=ah y0 hb
 replace y1:=ah y1 hb
 replace y2:=ah y2 hb
 replace HXV:=Ac (Ah.below HXV.out hb)
 revert HXV
 revert y2
 revert y1
 revert y0
 revert m1
 revert u2
 revert u1
 revert u0
 exact hq.out):p:=h ⟨k⟩
theorem ZV (k:q) (h:FN q->p:=by
 intro hq
 refine hK.out _ _ ⟨x0,x1,x2⟩ (λhHeld=>?_)
 refine Zb ?_
 revert hHeld
 exact hq.out):p:=h ⟨k⟩
theorem ZW (k:q) (h:FN q->p:=by
 intro hq
 refine oP _ _ _ 22 rfl 3 (.int .i64 0) 8 Tryz.underlying22 Tryz.infoInt rfl g.Fg.length rfl rfl EN EN ?_
 exact hq.out):p:=h ⟨k⟩
theorem ZX (k:q) (h:FN q->p:=by
 intro hq
 replace u0:=ah u0 hb
 replace u1:=ah u1 hb
 replace u2:=ah u2 hb
 replace t0:=ah t0 hb
 replace t1:=ah t1 hb
 replace t2:=ah t2 hb
 replace m1:=ah m1 hb
 replace m2:=ah m2 hb
 replace y0:=ah y0 hb
 replace y1:=ah y1 hb
 replace y2:=ah y2 hb
 replace z0:=ah z0 hb
 replace z1:=ah z1 hb
 replace z2:=ah z2 hb
 replace HXV:=Ac (Ah.below HXV.out hb)
 replace HYV:=Ac (Ah.below HYV.out hb)
 replace HAV:=Ac (Ah.below HAV.out hb)
 replace HTV:=Ac (Ah.below HTV.out hb)
 revert HTV
 revert HAV
 revert HYV
 revert HXV
 revert z2
 revert z1
 revert z0
 revert y2
 revert y1
 revert y0
 revert m2
 revert m1
 revert t2
 revert t1
 revert t0
 revert u2
 revert u1
 revert u0
 exact hq.out):p:=h ⟨k⟩
theorem ZY (h:p:=by
 refine⟨_,rfl,hB,?_⟩
 unfold RtV
 rw[HMM.out]
 obtain⟨_,_,hh,hn,hd⟩:=HX.out
 cases hh
 exact Ah.make rfl (hn.keep (λb hb _=>hb.1) (Below.same' hB _)) (hd.keep (λb hb _=>hb.1) (Below.same' hB _))):p:=h
theorem Z4 (k:q) (h:FN q->p:=by
 intro hq
 obtain⟨hl,hpl⟩:=qg L (ay:=ay) EN (1+dY L 0 5).toNat (dR L 0)
 have hd:=jc L 0 (n:=5) aA
 have hC:BL ⟨L,(fU L ay (1+dY L 0 5).toNat (dR L 0)).1,ay,most,zero⟩:=⟨by simp only[hl]; omega,hpl⟩
 have hJ:JM ⟨L,(fU L ay (1+dY L 0 5).toNat (dR L 0)).1,ay,most,zero⟩ 0 ⟨(fU L ay (1+dY L 0 5).toNat (dR L 0)).2,[],1,[],[]⟩:=⟨rfl,λi v h=>by simp at h,Nat.le_refl _,by simpa using hm,by show(0:Int)<=1; decide,λv h=>(by cases h),λv h=>(by cases h)⟩
 obtain⟨h1,h2,h3⟩:=aaP hC (by simp only; omega) ((1+dY L 0 5).toNat+1) 0 (List.replicate ay.toNat []) _ [] [] (by simp only[hl]; omega) (Nat.zero_le _) (λl h=>by rw[List.eq_of_mem_replicate h]; rfl) hJ aF KM.nil rfl (λx v h=>by simp at h) (λc x h=>by cases h)
 revert h3
 revert h2
 revert h1
 revert hJ
 revert hC
 revert hd
 revert hpl
 revert hl
 exact hq.out):p:=h ⟨k⟩
theorem Z5 (k:q) (h:FN q->p:=by
 intro hq
 obtain⟨W,hW,hr,hB,hz'⟩:=aJ w 42 #[.bool false,.slice none 0 0,.slice none 0 0]
 rw[<-hW]
 clear hW
 have hz:w.heap.size+1<=W.heap.size:=EN
 clear hz'
 revert hz
 revert hB
 revert hr
 revert W
 exact hq.out):p:=h ⟨k⟩
theorem Z7 (h:p:=by
 intro x0 x1 x2
 replace HA:=Ac (HA.out.below hb)
 refine Zc ?_
 clear hz hB hb
 intro hz hB
 dsimp only
 go_wp2_with fail
 refine(acF _ (λ_=>True) _ _ x ((1:Int):Rat) (HA.out.mono (λ_ _ _=>trivial)) HB.out EN (by rw[show((1:Int):Rat)=1 from rfl,qy]; omega)).mono ?_
 rintro e wn ⟨_,rfl,hb,rfl⟩
 rw[show jC x ((1:Int):Rat)=o from HO.out.symm]
 refine ZL ?_
 clear x0 x1 x2
 intro x0 x1 x2
 replace HA:=Ac (HA.out.below hb)
 replace HB:=Ac (HB.out.below hb)
 refine Zc ?_
 clear hz hB hb
 intro hz hB
 dsimp only
 go_wp2
 go_ret
 exact⟨_,rfl,hB,by rw[HG.out]; rfl⟩):p:=h
theorem Z8 (k:q) (h:FN q->p:=by
 intro hq
 refine wp_region_held_drew (S:=λw'=>w'.cell? ⟨ub,0,none⟩=some (.bool (au acc).neg)/\w'.cell? ⟨ub,1,none⟩=some (.slice A2 (au acc).num.length c2)/\w'.cell? ⟨ub,2,none⟩=some (.slice B2 (au acc).den.length d2)/\w'.cell? ⟨mb,mo+k,none⟩=some (.slice (some ⟨rb,ro,none⟩) row.length cr)/\w'.cell? ⟨rb,ro+j*3,none⟩=some (.bool (au x).neg)/\w'.cell? ⟨rb,ro+j*3+1,none⟩=some (.slice An (au x).num.length cn)/\w'.cell? ⟨rb,ro+j*3+2,none⟩=some (.slice Ad (au x).den.length cd)) ak ⟨u0,u1,u2,m1,y0,y1,y2⟩ (λhHeld=>?_)
 have hb:Below wd.heap.size wd wd.drew:=aI (Below.refl _ wd) 1
 refine ZU ?_
 revert hb
 revert hHeld
 exact hq.out):p:=h ⟨k⟩
theorem Z9 (k:q) (h:FN q->p:=by
 intro hq
 refine wp_region_held_drew (S:=λw'=>w'.cell? ⟨b,o+k,none⟩=some (.slice (some ⟨b3,o3,none⟩) l.length cr)/\w'.cell? ⟨ob,0,none⟩=some (.bool (au one).neg)/\w'.cell? ⟨ob,1,none⟩=some (.slice A1 (au one).num.length c1)/\w'.cell? ⟨ob,2,none⟩=some (.slice B1 (au one).den.length d1')/\w'.cell? ⟨b3,o3+j*3,none⟩=some (.bool false)/\w'.cell? ⟨b3,o3+j*3+1,none⟩=some (.slice A4 (au x).num.length c4)/\w'.cell? ⟨b3,o3+j*3+2,none⟩=some (.slice A5 (au x).den.length c5)) ak ⟨eu,p0,p1,p2,ex0,ex1,ex2⟩ (λhHeld=>?_)
 have hb:Below wn.heap.size wn wn.drew:=aI (Below.refl _ wn) 1
 refine ZK ?_
 revert hb
 revert hHeld
 exact hq.out):p:=h ⟨k⟩
theorem Ya (k:q) (h:FN q->p:=by
 intro hq
 replace HN1:=Ac (HN1.out.on (Below.same' hb _))
 replace HN2:=Ac (HN2.out.on (Below.same' hb _))
 refine Zm ?_
 intro HT hB
 revert hB
 revert HT
 revert HN2
 revert HN1
 exact hq.out):p:=h ⟨k⟩
theorem Yb (h:p:=by
 exact⟨Am1,cm1,Am2,cm2,LL2,lo2+1,rfl,rfl,FM.keep (G:=λb=>b < lo2+1) HM1.out (λb hb _=>by have:=hb.2; omega) (Same.refl _ _),HO2.out,Ce.out,HG.out.keep (G:=λb=>b < lo2+1) (λb hb _=>by have:=hb.2; omega) (Same.refl _ _),HT.out,hB,EN,EN,x0,x1,x2⟩):p:=h
theorem Yd (k:q) (h:FN q->p:=by
 intro hq
 have HNY:=Ac (Ae.mono (n:=y.num.natAbs) (G:=(Ext (Old F w.heap.size) (w.heap.size+3))) hn (λb hb _=>.inl hb))
 revert HNY
 exact hq.out):p:=h ⟨k⟩
theorem Ye (k:q) (h:FN q->p:=by
 intro hq
 obtain⟨W,hW,rx,ry,rz,hB,hz⟩:=qx w 42 #[.bool (au x).neg,.slice A (au x).num.length c,.slice B (au x).den.length d] 42 #[.bool (au y).neg,.slice A' (au y).num.length c',.slice B' (au y).den.length d'] 42 #[.bool false,.slice none 0 0,.slice none 0 0]
 rw[<-hW]
 clear hW
 replace HX:=Ac (HX.out.on (Below.same' hB _))
 replace HY:=Ac (HY.out.on (Below.same' hB _))
 revert HY
 revert HX
 revert hz
 revert hB
 revert rz
 revert ry
 revert rx
 revert W
 exact hq.out):p:=h ⟨k⟩
theorem Yf (k:q) (h:FN q->p:=by
 intro hq
 refine wpAnyH_done ak ?_ _
 exact hq.out):p:=h ⟨k⟩
theorem Yg (k:q) (h:FN q->p:=by
 intro hq
 have rJ:=HXX.out.bel.size
 replace HD:=Ac (HD.out.below hb)
 replace HXX:=Ac (HXX.out.below hb)
 replace hKF:=Ac (hKF.out.trans (gq hb W3.heap.size))
 replace hBW:=Ac (hBW.out.trans (hb.mono rJ))
 clear rJ
 revert hBW
 revert hKF
 revert HXX
 revert HD
 exact hq.out):p:=h ⟨k⟩
theorem Yh (h:p:=by
 go_in
 go_wp2
 go_quiet (fail)
 go_wp2
 go_ret
 exact⟨_,rfl,aI ((Below.refl _ _).alloc (Nat.le_refl _) _) _,by rw[HF.out]; rfl⟩):p:=h
theorem Yi (k:q) (h:FN q->p:=by
 intro hq
 have hz2:=hB.size
 replace HG:=Ac (HG.out.on (Below.same' hB F))
 replace HM:=Ac (FM.below HM.out hB)
 replace HT:=Ac (HT.out.on hB)
 refine Zd ?_
 revert HT
 revert HM
 revert HG
 revert hz2
 exact hq.out):p:=h ⟨k⟩
theorem Yj (k:q) (h:FN q->p:=by
 intro hq
 refine ZL ?_
 intro x0 x1 x2
 replace t0:=ah t0 hb
 replace t1:=ah t1 hb
 replace t2:=ah t2 hb
 replace HG:=Ac (HG.out.on (Below.same' hb _))
 refine Zm ?_
 intro HT hB
 replace HM1:=Ac (FM.on HM1.out (Below.same' hb _))
 revert HM1
 revert hB
 revert HT
 revert HG
 revert t2
 revert t1
 revert t0
 revert x2
 revert x1
 revert x0
 exact hq.out):p:=h ⟨k⟩
theorem Ym (k:q) (h:FN q->p:=by
 intro hq
 refine aW (λw'=>w'.cell? ⟨w.heap.size,0,none⟩=some (.bool (au x).neg)/\w'.cell? ⟨w.heap.size,1,none⟩=some (.slice A (au x).num.length c)/\w'.cell? ⟨w.heap.size,2,none⟩=some (.slice B (au x).den.length d)/\w'.cell? ⟨w.heap.size+1,0,none⟩=some (.bool (au y).neg)/\w'.cell? ⟨w.heap.size+1,1,none⟩=some (.slice A' (au y).num.length c')/\w'.cell? ⟨w.heap.size+1,2,none⟩=some (.slice B' (au y).den.length d')) 16 1 ak rfl ak ?_
 refine Zz ?_
 exact hq.out):p:=h ⟨k⟩
theorem Yn (k:q) (h:FN q->p:=by
 intro hq
 have y0:wn.cell? ⟨bo,j*3,none⟩=_:=HD.out.made.cell (j:=0) HLX.out EN rfl
 have y1:=HD.out.made.cell (j:=1) HLX.out EN rfl
 have y2:=HD.out.made.cell (j:=2) HLX.out EN rfl
 have g0:=HD.out.made.row.frozen (j*3)
 have g1:=HD.out.made.row.frozen (j*3+1)
 have g2:=HD.out.made.row.frozen (j*3+2)
 revert g2
 revert g1
 revert g0
 revert y2
 revert y1
 revert y0
 exact hq.out):p:=h ⟨k⟩
theorem Yo (h:p:=by
 have d0:((l1.length:Int) != (l2.length:Int))=true:=aG
 have HF:=Ac (show decide (l1=l2)=false by simp only[decide_eq_false_iff_not]; rintro rfl; exact q0 rfl)
 go_in
 go_wp2
 go_ret
 exact⟨_,rfl,Below.refl _ _,by rw[HF.out]; rfl⟩):p:=h
theorem Yp (k:q) (h:FN q->p:=by
 intro hq
 replace R3:=Ac (FK.on R3.out (Below.same' hb _))
 replace R6:=Ac (FK.on R6.out (Below.same' hb _))
 replace hB:=hB.trans (hb.mono hB.size)
 revert hB
 revert R6
 revert R3
 exact hq.out):p:=h ⟨k⟩
theorem Yq (k:q) (h:FN q->p:=by
 intro hq
 rw[<-hW]
 obtain⟨W1,hW,hbt,yG,ajK⟩:=fV W 243 #[.nilFunc,.func (.func 190) #[] #[],.func (.func 191) #[] #[],.func (.func 192) #[] #[]]
 rw[<-hW]
 clear hW
 have jh:=hbx.below yG EN
 have hB1:Below w.heap.size w W1:=hWb.trans (yG.mono EN)
 clear yG
 rw[<-hWz] at hbt
 have z0:=hbt.lt
 clear ajK
 revert z0
 revert hbt
 revert hB1
 revert jh
 revert W1
 exact hq.out):p:=h ⟨k⟩
theorem Yr (h:p:=by
 go_wp2_with fail
 refine(xG _ _ _ x HV.out EN).mono ?_
 rintro e wn ⟨va,rfl,hb,hu⟩
 have HA:=Ac hu
 clear hu
 refine ZL ?_
 clear x0 x1 x2
 intro x0 x1 x2
 replace HV:=Ac (HV.out.below hb)
 refine Zc ?_
 clear hz hB hb
 intro hz hB
 clear HV
 dsimp only
 go_wp2_with fail
 refine(qZ _ 1 aA aA).mono ?_
 rintro e wn ⟨vb,rfl,hb,hu⟩
 have HB:=Ac (Ah.mono (G:=λ_=>True) hu (λ_ _ _=>trivial))
 clear hu
 refine ZL ?_
 clear x0 x1 x2
 exact Z7):p:=h
theorem Yt (k:q) (h:FN q->p:=by
 intro hq
 obtain⟨W,hW,hr,hr2,hB,hz⟩:=alloc2 w 42 #[.bool false,.slice A (dig x.num.natAbs).length c,.slice B (au x).den.length d] 42 #[.bool false,.slice A (dig x.num.natAbs).length c,.slice B (au x).den.length d]
 rw[<-hW]
 clear hW
 have t0:=hr2.cell (i:=0) rfl
 have t1:=hr2.cell (i:=1) rfl
 have t2:=hr2.cell (i:=2) rfl
 revert t2
 revert t1
 revert t0
 revert hz
 revert hB
 revert hr2
 revert hr
 revert W
 exact hq.out):p:=h ⟨k⟩
theorem Yv (k:q) (h:FN q->p:=by
 intro hq
 replace HVP:=Ac (HVP.out.below hb)
 replace HVQ:=Ac (HVQ.out.below hb)
 replace HVD:=Ac (HVD.out.below hb)
 revert HVD
 revert HVQ
 revert HVP
 exact hq.out):p:=h ⟨k⟩
theorem Yw (k:q) (h:FN q->p:=by
 intro hq
 have HNX:=Ac (Ae.mono (n:=x.num.natAbs) (G:=(Ext (Old F w.heap.size) (w.heap.size+3))) hn (λb hb _=>.inl hb))
 revert HNX
 exact hq.out):p:=h ⟨k⟩
theorem Yy (k:q) (h:FN q->p:=by
 intro hq
 have hsame:Same (Apart F v) w w':=⟨EN,λb hb hl=>(h2.block b aG (λe=>hb.2 e.symm)).trans (Below.heap_alloc _ _ _ hl)⟩
 have e1:(L ++ [q]).length=L.length+1:=aF
 have e2:(L ++ [q]).flatMap K.cells=L.flatMap K.cells++K.cells q:=by simp[List.flatMap_append]
 have ahB:Same (λb=>v.ownBlock≠some b) w w':=⟨EN,λb hb hl=>(h2.block b aG (λe=>hb e.symm)).trans (Below.heap_alloc _ _ _ hl)⟩
 refine h g cap w' ⟨by rw[e1,e2]; exact h1,λp hp=>?_⟩ ((hbel.alloc EN _).grown h2 aG (λk hk=>(hown.row.lt k hk).1)) EN ahB
 revert hp
 revert p
 revert ahB
 revert e2
 revert e1
 revert hsame
 exact hq.out):p:=h ⟨k⟩
theorem Yz (k:q) (h:FN q->p:=by
 intro hq
 refine wp_region_held_drew (S:=λw'=>w'.cell? ⟨gb,0,none⟩=some (.int .i64 bZ.ay)/\w'.cell? ⟨gb,1,none⟩=some (.slice A bZ.Fg.length c)/\w'.cell? ⟨gb,2,none⟩=some (.slice Ai bZ.Fh.length ci)) ak ⟨x0,x1,x2⟩ (λhHeld=>?_)
 revert hHeld
 exact hq.out):p:=h ⟨k⟩
theorem YB (k:q) (h:FN q->p:=by
 intro hq
 have c0:wn.cell? ⟨bo,k*3,none⟩=some (.bool false):=HM.out.cell (j:=0) hget EN rfl
 have c1:=HM.out.cell (j:=1) hget EN rfl
 have c2:=HM.out.cell (j:=2) hget EN rfl
 have f0:=HM.out.row.frozen (k*3)
 have f1:=HM.out.row.frozen (k*3+1)
 have f2:=HM.out.row.frozen (k*3+2)
 revert f2
 revert f1
 revert f0
 revert c2
 revert c1
 revert c0
 exact hq.out):p:=h ⟨k⟩
theorem YD (k:q) (h:FN q->p:=by
 intro hq
 replace HG:=Ac (HG.out.on (Below.same' hb _))
 replace HM:=Ac (FM.on HM.out (Below.same' hb _))
 replace hB:=hB.trans (hb.mono hB.size)
 refine ZL ?_
 intro x0 x1 x2
 revert x2
 revert x1
 revert x0
 revert hB
 revert HM
 revert HG
 exact hq.out):p:=h ⟨k⟩
theorem YE (k:q) (h:FN q->p:=by
 intro hq
 replace hr:=hr.below hb hr.lt
 refine Zc ?_
 intro hz hB
 revert hB
 revert hz
 revert hr
 exact hq.out):p:=h ⟨k⟩
theorem YG (k:q) (h:FN q->p:=by
 intro hq
 have HAV:=Ac (show RtV wb (λb=>(Old F w.heap.size b\/wa.heap.size<=b)/\b≠ub) (.agg #[.bool (au acc).neg,.slice A2 (au acc).num.length c2,.slice B2 (au acc).den.length d2]) acc from Ah.make rfl HST.out.fine.1 HST.out.fine.2)
 revert HAV
 exact hq.out):p:=h ⟨k⟩
theorem YI (k:q) (h:FN q->p:=by
 intro hq
 refine ZL ?_
 intro x0 x1 x2
 replace x3:=ah x3 hb
 replace x4:=ah x4 hb
 replace x5:=ah x5 hb
 replace HV:=Ac (HV.out.on (Below.same' hb _))
 replace HRB:=Ac (HRB.out.below hb HRB.out.lt)
 replace hzz:=Nat.le_trans hzz hb.size
 replace hB:=hB.trans (hb.mono hB.size)
 revert hB
 revert hzz
 revert HRB
 revert HV
 revert x5
 revert x4
 revert x3
 revert x2
 revert x1
 revert x0
 exact hq.out):p:=h ⟨k⟩
theorem YL (k:q) (h:FN q->p:=by
 intro hq
 replace HAV:=Ac (Ah.below HAV.out hb)
 replace HUB:=Ac (HUB.out.below hb HUB.out.lt)
 replace hBn:=hBn.trans (hb.mono EN)
 replace mW:=Nat.lt_of_lt_of_le mW hb.size
 revert mW
 revert hBn
 revert HUB
 revert HAV
 exact hq.out):p:=h ⟨k⟩
theorem YO (k:q) (h:FN q->p:=by
 intro hq
 refine zZ ?_
 intro x0 x1 x2 y0 y1 y2 HX HY
 replace HNX:=Ac (HNX.out.below hb)
 replace HNY:=Ac (HNY.out.below hb)
 revert HNY
 revert HNX
 revert HY
 revert HX
 revert y2
 revert y1
 revert y0
 revert x2
 revert x1
 revert x0
 exact hq.out):p:=h ⟨k⟩
theorem YP (k:q) (h:FN q->p:=by
 intro hq
 replace xc:=ah xc hb
 replace ri:=ah ri hb
 replace q0:=ah q0 hb
 replace q1:=ah q1 hb
 replace q2:=ah q2 hb
 replace e0:=ah e0 hb
 replace e1:=ah e1 hb
 replace e2':=ah e2' hb
 replace x3:=ah x3 hb
 replace t0:=ah t0 hb
 replace t1:=ah t1 hb
 replace t2:=ah t2 hb
 replace HVB:=Ac (HVB.out.below hb)
 replace HRU:=Ac (HRU.out.below hb)
 replace HRX:=Ac (HRX.out.below hb)
 replace HRY:=Ac (HRY.out.below hb)
 replace HNU:=Ac (FK.below HNU.out hb)
 replace kq2:=Nat.lt_of_lt_of_le kq2 hb.size
 revert kq2
 revert HNU
 revert HRY
 revert HRX
 revert HRU
 revert HVB
 revert t2
 revert t1
 revert t0
 revert x3
 revert e2'
 revert e1
 revert e0
 revert q2
 revert q1
 revert q0
 revert ri
 revert xc
 exact hq.out):p:=h ⟨k⟩
theorem YQ (k:q) (h:FN q->p:=by
 intro hq
 obtain⟨W1,hW1,rn,hB1,hz1⟩:=aJ w 127 #[.int .i64 n.kind,.int .i64 n.aC,.int .i64 n.info,.slice A3 n.next.length c3,.slice A4 n.weights.length c4,.slice A5 n.pay.length c5]
 rw[<-hW1]
 clear hW1
 obtain⟨nb,hnb⟩:=FH w.heap.size
 rw[<-hnb] at rn ⊢
 have k9:w.heap.size<=nb:=EN
 have k10:nb < W1.heap.size:=rn.lt
 have hg1:=grown_below hB1 (Nat.le_refl _) (some bb)
 have hzz:=hB1.size
 replace pc:=ah pc hB1
 replace xc:=ah xc hB1
 replace fc:=ah fc hB1
 replace HV:=Ac (HV.out.on (Below.same' hB1 _))
 have HRB:=Ac (HE.out.row.below hB1 aof)
 have hB:=hB1
 clear hB1 hz1 hnb
 have x0:=rn.cell (i:=0) rfl
 have x1:=rn.cell (i:=1) rfl
 have x2:=rn.cell (i:=2) rfl
 have x3:=rn.cell (i:=3) rfl
 have x4:=rn.cell (i:=4) rfl
 have x5:=rn.cell (i:=5) rfl
 revert x5
 revert x4
 revert x3
 revert x2
 revert x1
 revert x0
 revert hB
 revert HRB
 revert HV
 revert fc
 revert xc
 revert pc
 revert hzz
 revert hg1
 revert k10
 revert k9
 revert rn
 revert nb
 revert W1
 exact hq.out):p:=h ⟨k⟩
theorem YS (k:q) (h:FN q->p:=by
 intro hq
 refine hK.out _ _ ⟨ah u0 ((Below.refl _ _).alloc (Nat.le_refl _) _),ah u1 ((Below.refl _ _).alloc (Nat.le_refl _) _),ah u2 ((Below.refl _ _).alloc (Nat.le_refl _) _),ah m1 ((Below.refl _ _).alloc (Nat.le_refl _) _),ah y0 ((Below.refl _ _).alloc (Nat.le_refl _) _),ah y1 ((Below.refl _ _).alloc (Nat.le_refl _) _),ah y2 ((Below.refl _ _).alloc (Nat.le_refl _) _)⟩ (λhHeld=>?_)
 refine Zb ?_
 refine tk2 11 ak rfl λK hK=>?_
 revert hK
 revert K
 revert hHeld
 exact hq.out):p:=h ⟨k⟩
theorem YT (k:q) (h:FN q->p:=by
 intro hq
 replace z0:=ah z0 hb
 replace b0:=ah b0 hb
 refine ZL ?_
 intro x0 x1 x2
 replace x3:=ah x3 hb
 replace x4:=ah x4 hb
 replace x5:=ah x5 hb
 have rJ:=HXX.out.bel.size
 replace HD:=Ac (HD.out.below hb)
 replace HXX:=Ac (HXX.out.below hb)
 replace HV:=Ac (HV.out.on (Below.same' hb _))
 replace hKF:=Ac (hKF.out.trans (gq hb W3.heap.size))
 replace hBW:=Ac (hBW.out.trans (hb.mono rJ))
 clear rJ
 revert hBW
 revert hKF
 revert HV
 revert HXX
 revert HD
 revert x5
 revert x4
 revert x3
 revert x2
 revert x1
 revert x0
 revert b0
 revert z0
 exact hq.out):p:=h ⟨k⟩
theorem YW (k:q) (h:FN q->p:=by
 intro hq
 replace hB:=hB.trans (hb.mono hB.size)
 dsimp only
 revert hB
 exact hq.out):p:=h ⟨k⟩
theorem YZ (k:q) (h:FN q->p:=by
 intro hq
 refine(ug W F _ _ g m HG.out HS.out HM.out HT.out hlm HBB.out HE0.out).mono ?_
 exact hq.out):p:=h ⟨k⟩
theorem Y0 (k:q) (h:FN q->p:=by
 intro hq
 replace hbel:=hbel.trans (hb.mono hbel.size)
 dsimp only
 refine hK.out _ _ ⟨z0,z1,z2,s0,s1,s2,a0,a1,a2,t0,t1,t2,b0,b1,b2⟩ (λhHeld=>?_)
 refine Zb ?_
 revert hHeld
 revert hbel
 exact hq.out):p:=h ⟨k⟩
theorem Y2 (k:q) (h:FN q->p:=by
 intro hq
 replace y0:=ah y0 hb
 replace y1:=ah y1 hb
 replace y2:=ah y2 hb
 replace hul:=ah hul hb
 replace z0:=ah z0 hb
 replace HGc:=Ac (HGc.out.on (Below.same' hb F))
 replace HO':=Ac (HO'.out.below hb)
 replace aZ:=aZ.trans (hb.mono aZ.size)
 revert aZ
 revert HO'
 revert HGc
 revert z0
 revert hul
 revert y2
 revert y1
 revert y0
 exact hq.out):p:=h ⟨k⟩
theorem Y4 (k:q) (h:FN q->p:=by
 intro hq
 replace hzr:=Nat.le_trans hzr hb.size
 replace hbel:=hbel.trans (hb.mono hbel.size)
 revert hbel
 revert hzr
 exact hq.out):p:=h ⟨k⟩
theorem Y5 (k:q) (h:FN q->p:=by
 intro hq
 have wr0:IntKind.i64.wrap (nx:Int)=(nx:Int):=IntWalk.i64_in _ EN
 have wr2:IntKind.i64.wrap ((nx:Int) - 1)=(nx:Int) - 1:=IntWalk.i64_in _ EN
 refine wp_region_held_drew (S:=λw'=>w'.cell? ⟨p,1,none⟩=some (.slice (some ⟨b,o,none⟩) g.Fg.length c)/\w'.cell? ⟨p,5,none⟩=some (.slice (some ⟨bl,0,none⟩) g.Fg.length g.Fg.length)) ak ⟨x1,x5⟩ (λhHeld=>?_)
 revert hHeld
 revert wr2
 revert wr0
 exact hq.out):p:=h ⟨k⟩
theorem Y6 (k:q) (h:FN q->p:=by
 intro hq
 have hw:Wrote (λb=>v.ownBlock=some b) w w':=⟨h2.os,h2.tape,h2.output,EN,λb hl hb=>(h2.block b aG (λe=>hb e.symm)).trans (Below.heap_alloc _ _ _ hl)⟩
 have e1:(L ++ [q]).length=L.length+1:=aF
 have e2:(L ++ [q]).flatMap K.cells=L.flatMap K.cells++K.cells q:=by simp[List.flatMap_append]
 refine h g cap w' ⟨by rw[e1,e2]; exact h1,λp hp=>?_⟩ hw (h3.imp id λe=>by omega) EN
 revert hp
 revert p
 revert e2
 revert e1
 revert hw
 exact hq.out):p:=h ⟨k⟩
theorem Y7 (h:p:=by
 exact hK.out _ _ ⟨Below.refl _ _,rfl,λh=>(by simp[fZ] at h)⟩):p:=h
theorem zab (h:p:=by
 have hrun:=run_make_row' (P:=P) t e z bytes ht hinfo hz1 .i64 .i64 n hbytes EN w
 unfold Oper.wp
 simp[execOp,hop,hl,hc,hrun,Result.andThen]
 have hbel:Below w.heap.size w (w.alloc (.cells (madeCells #[z] n) e)):=(Below.refl _ _).alloc (Nat.le_refl _) _
 exact hK _ hbel aF (Row.made w z n e)):p:=h
theorem zac (k:q) (h:FN q->p:=by
 intro hq
 refine Zv ?_
 have hb:Below wr.heap.size wr wr.drew:=aI (Below.refl _ wr) 1
 revert hb
 exact hq.out):p:=h ⟨k⟩
theorem zaf (k:q) (h:FN q->p:=by
 intro hq
 show wpList _ _ _ _ _ _
 exact hq.out):p:=h ⟨k⟩
theorem zah (k:q) (h:FN q->p:=by
 intro hq
 obtain⟨W,hW,rx,rz,hB,hz⟩:=alloc2 w 42 #[.bool (au x).neg,.slice A (au x).num.length c,.slice B (au x).den.length d] 42 #[.bool false,.slice none 0 0,.slice none 0 0]
 rw[<-hW]
 clear hW
 replace HX:=Ac (HX.out.on (Below.same' hB _))
 revert HX
 revert hz
 revert hB
 revert rz
 revert rx
 revert W
 exact hq.out):p:=h ⟨k⟩
theorem zai (h:p:=by
 go_wp2
 go_quiet (fail)
 go_wp2
 go_ret
 exact⟨_,rfl,aI (hbel.alloc hbel.size _) _,by rw[HF.out]; rfl⟩):p:=h
theorem zaj (k:q) (h:FN q->p:=by
 intro hq
 refine⟨.slice A' (g.Fg.length - nx) (c - nx),by rw[HF.out]; simp,by rw[HF.out]; intro _; exact⟨A',aF,by simpa using hA'⟩,?_,(hgr.setCell (.inl (.inr (.inr rfl))) _).drew⟩
 rw[HF.out]
 have h:=HWA.out
 refine⟨(h.head.other d3 _).drew,(h.rp.other d5 _).drew,(h.rd.other d6 _).drew,?_⟩
 have:=(h.rl.set a (.int .i64 ((nx:Int) - 1))).drew
 revert this
 revert h
 exact hq.out):p:=h ⟨k⟩
theorem zal (k:q) (h:FN q->p:=by
 intro hq
 have hlen:=qQ (N:=g.Fg.length) g.Fg (g.Fg.length+1) 0 (-1) 0 ⟨List.replicate g.Fg.length 0,List.replicate g.Fg.length 0,List.replicate g.Fg.length 0⟩ ⟨aF,aF,aF⟩
 have hT:walkT g=dJ g.Fg (g.Fg.length+1) 0 (-1) 0 ⟨List.replicate g.Fg.length 0,List.replicate g.Fg.length 0,List.replicate g.Fg.length 0⟩:=rfl
 revert hT
 revert hlen
 exact hq.out):p:=h ⟨k⟩
theorem zam (k:q) (h:FN q->p:=by
 intro hq
 refine(jO adp (λb=>b < db2) db2 A3 c3 two 0 _ g rd2 (HN2.out.keep (G:=λb=>b < db2) (λb hb _=>by have:=hb.2; omega) (Same.refl _ _)) (Nat.lt_irrefl _) b3 (HG.out.keep (G:=λb=>b < db2) (λb hb _=>by have:=hb.2; omega) (Same.refl _ _)) HF.out.acts (by have:=HF.out.small.Fh; omega)).mono ?_
 exact hq.out):p:=h ⟨k⟩
theorem zan (k:q) (h:FN q->p:=by
 intro hq
 have hB3:=hB2.trans (hb3.mono hB2.size)
 have HTT:=Ac (ht.keep (G:=Ext F w.heap.size) (λb hb _=>.inr EN) (Same.refl _ _))
 dsimp only
 revert HTT
 revert hB3
 exact hq.out):p:=h ⟨k⟩
theorem zao (h:p:=by
 exact⟨_,rfl,hwz _ _ (Nat.le_refl _) hB,(HM.out.on (hkz _ EN)).mono (λb hb _=>by omega)⟩):p:=h
theorem zaq (k:q) (h:FN q->p:=by
 intro hq
 refine Zb ?_
 refine Zx ?_
 have f0:=HUB.out.frozen 0
 have f1:=HUB.out.frozen 1
 have f2:=HUB.out.frozen 2
 obtain⟨Wz,hWz,hrz,hwz⟩:=ajs HUB.out (.bool (au pr).neg) (.slice A4 (au pr).num.length c4) (.slice B4 (au pr).den.length d4)
 have HWZ:=Ac hWz
 revert HWZ
 revert hwz
 revert hrz
 revert hWz
 revert Wz
 revert f2
 revert f1
 revert f0
 exact hq.out):p:=h ⟨k⟩
theorem zar (k:q) (h:FN q->p:=by
 intro hq
 refine(AllReadyH.cons (o:=_) rfl (λK hK=>?_) AllReadyH.nil)
 revert hK
 revert K
 exact hq.out):p:=h ⟨k⟩
theorem zas (h:p:=by
 have hrows:=HO.out.rows (G:=Ext F w.heap.size) (λb h=>h) (λb h=>.inr EN)
 rw[HLM.out,List.take_of_length_le EN] at hrows
 have HRW:=Ac hrows
 have HBF:=Ac (HB.out.trans (hbel.mono hWz))
 clear hrows HO hol hbel
 go_wp2
 go_ret
 exact⟨_,rfl,HBF.out,HRW.out⟩):p:=h
theorem zat (h:p:=by
 refine ifA rfl ?_
 refine ZW ?_
 intro W1 hb hz hr
 exact hK.out _ _ ⟨hb,⟨_,rfl,hS.1,hr⟩,λ_ b hb=>by cases hb; exact Nat.le_refl _⟩):p:=h
theorem zau (k:q) (h:FN q->p:=by
 intro hq
 have hHeld:(λw':World=>w'.cell? ⟨w.heap.size,0,none⟩=some (.bool (aB x).neg)/\w'.cell? ⟨w.heap.size,1,none⟩=some (.slice A (aB x).num.length c)/\w'.cell? ⟨w.heap.size,2,none⟩=some (.slice B (aB x).den.length d)) W.drew:=⟨x0,x1,x2⟩
 refine Zv ?_
 have hb:Below W.heap.size W W.drew:=aI (Below.refl _ W) 1
 refine ZL ?_
 revert hb
 revert hHeld
 exact hq.out):p:=h ⟨k⟩
theorem zay (k:q) (h:FN q->p:=by
 intro hq
 refine⟨_,rfl,hbel,?_⟩
 have h5:=HO.out.raws (G:=λb=>w.heap.size<=b) (λb hb=>hb) (λb hb=>hb)
 rw[HL.out,List.take_of_length_le EN] at h5
 unfold BD
 revert h5
 exact hq.out):p:=h ⟨k⟩
theorem zaA (k:q) (h:FN q->p:=by
 intro hq
 have hb:Below wn.heap.size wn wn.drew:=aI (Below.refl _ wn) 1
 revert hb
 exact hq.out):p:=h ⟨k⟩
theorem zaB (k:q) (h:FN q->p:=by
 intro hq
 show Exit.inBlock _ _ .normal _ _
 exact hq.out):p:=h ⟨k⟩
theorem zaE (h:p:=by
 exact⟨_,rfl,(Below.refl _ _).alloc (Nat.le_refl _) _,.pointer none,by rw[HF.out]; rfl,by rw[HF.out]; intro h; simp at h⟩):p:=h
theorem zaF (h:p:=by
 exact⟨_,rfl,hB,_,by rw[HME.out,HF.out,L8 H0.out]; rfl,by rw[HMO.out,HF.out,L8 H0.out]; exact FM.nil _ _⟩):p:=h
theorem zaG (k:q) (h:FN q->p:=by
 intro hq
 replace HO3:=Ac (HO3.out.below hb)
 replace hBe:=hBe.trans (hb.mono hBe.size)
 revert hBe
 revert HO3
 exact hq.out):p:=h ⟨k⟩
theorem zaH (h:p:=by
 rintro e w' ⟨u,rfl,hb,hu⟩
 exact hK.out _ _ hb (Ah.mono hu (λ_ _ _=>trivial))):p:=h
theorem zaI (k:q) (h:FN q->p:=by
 intro hq
 have HNX:=Ac (Ae.mono (n:=x.num.natAbs) (G:=Old F w.heap.size) hn (λb hb _=>hb))
 have HDX:=Ac (Ae.mono (n:=x.den) (G:=Old F w.heap.size) hd (λb hb _=>hb))
 revert HDX
 revert HNX
 exact hq.out):p:=h ⟨k⟩
theorem zaL (h:p:=by
 go_wp2
 go_ret
 exact⟨by first | rfl | (rw[HF.out]; rfl),rfl⟩):p:=h
theorem zaM (h:p:=by
 dsimp only
 go_wp2
 go_ret
 exact⟨_,rfl,hB,by rw[HF.out]; rfl⟩):p:=h
theorem zaN (k:q) (h:FN q->p:=by
 intro hq
 have HWz:=Ac hWz
 have HDZ:=Ac hdz
 have HBZ:=Ac hbz
 have HKZ:=Ac (hkz.from W3.heap.size)
 have HXZ:=Ac (HXX.out.blocks EN (λc hc=>adE c EN) hbz)
 replace hKF:=Ac (hKF.out.trans HKZ.out)
 replace hBW:=Ac (hBW.out.trans HBZ.out)
 revert hBW
 revert hKF
 revert HXZ
 revert HKZ
 revert HBZ
 revert HDZ
 revert HWz
 exact hq.out):p:=h ⟨k⟩
theorem zaP (k:q) (h:FN q->p:=by
 intro hq
 have hz:w.heap.size+3<=W.heap.size:=hz
 refine ZG ?_
 revert hz
 exact hq.out):p:=h ⟨k⟩
theorem zaT (h:p:=by
 go_wp2
 go_ret
 exact⟨_,rfl,hB.trans (hbel.mono hB.size),by rw[HE.out]; rfl⟩):p:=h
theorem zaW (k:q) (h:FN q->p:=by
 intro hq
 refine⟨_,cap,by rw[List.length_map],by rw[List.length_map]; exact hcap,λ_=>⟨g,0,rfl,hG g hb,hg,λk x hk=>?_⟩⟩
 rw[List.getElem?_map] at hk
 revert hk
 revert x
 revert k
 exact hq.out):p:=h ⟨k⟩
theorem zaX (k:q) (h:FN q->p:=by
 intro hq
 refine ZE ?_
 intro rz hz hB
 dsimp only
 revert hB
 revert hz
 revert rz
 exact hq.out):p:=h ⟨k⟩
theorem zaY (k:q) (h:FN q->p:=by
 intro hq
 refine ZO ?_
 intro rz hz hB hHeld
 refine Zx ?_
 clear hHeld
 refine Zk ?_
 revert hB
 revert hz
 revert rz
 exact hq.out):p:=h ⟨k⟩
theorem zaZ (h:p:=by
 have HF:=Ac (show fA ay ni x=3 by unfold fA; rw[L8 EN])
 exact Zt):p:=h
theorem za0 (h:p:=by
 refine Row.alloc ?_ _
 exact Row.xY aF rfl):p:=h
theorem za2 (k:q) (h:FN q->p:=by
 intro hq
 have HRL:(au x).num.length=(dig x.num.natAbs).length/\(au x).den.length=(dig x.den).length:=⟨rfl,rfl⟩
 clear HRL
 exact hq.out):p:=h ⟨k⟩
theorem za5 (h:p:=by
 have t3:((den.length:Int)==0)=false:=beq_false_of_ne EN
 have HE:=Ac (show eF num den=0 by rw[HP.out,L6 (by simpa using h1),L6 (by simpa using h2),L6 h3])
 clear h1 h2 h3
 exact ZP):p:=h
theorem za6 (k:q) (h:FN q->p:=by
 intro hq
 obtain⟨W,hW,rx,rp,hB,hz⟩:=alloc2 w 27 #[.int .i64 g.ay,.slice A g.Fg.length c,.slice Ai g.Fh.length ci] 3 #[.int .i64 pl]
 rw[<-hW]
 refine Yi ?_
 clear hW
 intro hz2 HG HM HT
 intro x0 x1 x2
 have p0:=rp.cell (i:=0) rfl
 clear rx rp
 revert p0
 revert x2
 revert x1
 revert x0
 revert HT
 revert HM
 revert HG
 revert hz2
 revert hz
 revert hB
 revert W
 exact hq.out):p:=h ⟨k⟩
theorem za7 (k:q) (h:FN q->p:=by
 intro hq
 have hz:w.heap.size+2<=W.heap.size:=hz
 refine Zd ?_
 intro x0 x1 x2
 revert x2
 revert x1
 revert x0
 revert hz
 exact hq.out):p:=h ⟨k⟩
theorem za8 (k:q) (h:FN q->p:=by
 intro hq
 obtain⟨Wz,hWz,hrz,hwz,hkz⟩:=bG rz (.bool false) (.slice none 0 0) (.slice none 0 0)
 refine Zh ?_
 clear hWz
 revert hkz
 revert hwz
 revert hrz
 revert Wz
 exact hq.out):p:=h ⟨k⟩
theorem za9 (k:q) (h:FN q->p:=by
 intro hq
 unfold RtV
 rw[HM.out]
 have hg0:0 < Nat.gcd n b:=Nat.gcd_pos_of_pos_right _ EN
 have HGN:=Ac (Nat.gcd_dvd_left n b)
 have HG:=Ac (show ∀ w,Calls Tryz.prog 91 #[.int .i64 (n:Int),.int .i64 (b:Int)] w (Ret w λv _=>v = .int .i64 (Nat.gcd n b:Int)) from λw=>aji w n b h1 h2)
 revert HG
 revert HGN
 revert hg0
 exact hq.out):p:=h ⟨k⟩
theorem zba (k:q) (h:FN q->p:=by
 intro hq
 have HN:=Ac (hu.mono (G:=(λb=>w.heap.size+1<=b)) (λb hb _=>by omega))
 refine YE ?_
 intro hr hz hB
 dsimp only
 revert hB
 revert hz
 revert hr
 revert HN
 exact hq.out):p:=h ⟨k⟩
theorem zbd (k:q) (h:FN q->p:=by
 intro hq
 rw[Nat.mul_one] at hvr
 have lq:=FK.keep (G:=Old F w.heap.size) hra (λb hb hl=>⟨hb,hl⟩) (Same.refl _ _)
 revert lq
 revert hvr
 exact hq.out):p:=h ⟨k⟩
theorem zbe (h:p:=by
 have t3:((den.length:Int)==0)=true:=by rw[h3];rfl
 have HE:=Ac (show eF num den=6 by rw[HP.out,L6 (by simpa using h1),L6 (by simpa using h2),L8 h3])
 clear h1 h2 h3
 exact ZP):p:=h
theorem zbf (h:p:=by
 refine⟨_,rfl,(h.set 0 a0).set 1 a1,?_⟩
 have h0:Wrote (λk=>k=b) w w:=Wrote.refl _ _
 exact(h0.setCell (p:=⟨b,0,none⟩) (.inl rfl) a0).setCell (p:=⟨b,1,none⟩) (.inl rfl) a1):p:=h
theorem zbg (h:p:=by
 go_in
 go_wp2
 go_ret
 exact⟨_,rfl,(Below.refl _ _).alloc (Nat.le_refl _) _,by rw[HE.out]; rfl⟩):p:=h
theorem zbi (h:p:=by
 exact⟨rfl,⟨⟨3,0,0,[],[],pl⟩,.slice none 0 0,.slice none 0 0,.slice (some ⟨gu,0,none⟩) k cu⟩,by rw[HE.out.2,hpy],by rw[HE.out.1,hpy,hsz]; exact HM9.out,HW9.out⟩):p:=h
theorem zbj (k:q) (h:FN q->p:=by
 intro hq
 have HG:=Ac hg
 have HM:=Ac hm
 have HS:=Ac hsm
 have HT:=Ac hT
 have HBB:=Ac hb
 have HE0:=Ac h0
 revert HE0
 revert HBB
 revert HT
 revert HS
 revert HM
 revert HG
 exact hq.out):p:=h ⟨k⟩
theorem zbk (k:q) (h:FN q->p:=by
 intro hq
 replace HM1:=Ac (FM.on HM1.out (hws.same λb hb e=>by have:=hb; omega))
 have HO2:=Ac (ho.widen (G:=λ_=>True) (λ_ _ _=>trivial))
 have Ce:=Ac hll
 revert Ce
 revert HO2
 revert HM1
 exact hq.out):p:=h ⟨k⟩
theorem zbm (k:q) (h:FN q->p:=by
 intro hq
 have HM:=Ac (FM.keep (G:=(λ_=>True)) hu (λ_ _ _=>trivial) (Same.refl _ _))
 revert HM
 exact hq.out):p:=h ⟨k⟩
theorem zbn (k:q) (h:FN q->p:=by
 intro hq
 refine hK.out _ _ ⟨(HWA.out.head.other (a:=⟨bl,a,none⟩) d3 _).drew.cell rfl,(HWA.out.head.other (a:=⟨bl,a,none⟩) d3 _).drew.cell rfl⟩ (λhHeld=>?_)
 refine Zb ?_
 refine Yf ?_
 clear hHeld
 exact hq.out):p:=h ⟨k⟩
theorem zbo (k:q) (h:FN q->p:=by
 intro hq
 have x0:=rz.cell (i:=0) rfl
 have x1:=rz.cell (i:=1) rfl
 have x2:=rz.cell (i:=2) rfl
 revert x2
 revert x1
 revert x0
 exact hq.out):p:=h ⟨k⟩
theorem zbq (k:q) (h:FN q->p:=by
 intro hq
 replace HNX:=Ac (HNX.out.below hb)
 replace HDX:=Ac (HDX.out.below hb)
 revert HDX
 revert HNX
 exact hq.out):p:=h ⟨k⟩
theorem zbs (k:q) (h:FN q->p:=by
 intro hq
 replace RT:=Ac (FK.on RT.out (Below.same' hb _))
 refine Zm ?_
 intro HT hB
 revert hB
 revert HT
 revert RT
 exact hq.out):p:=h ⟨k⟩
theorem zbt (k:q) (h:FN q->p:=by
 intro hq
 refine Zg ?_
 intro x0 x1 x2 HG
 refine Zm ?_
 intro HT hB
 replace HM1:=Ac (FM.on HM1.out (Below.same' hb _))
 revert HM1
 revert hB
 revert HT
 revert HG
 revert x2
 revert x1
 revert x0
 exact hq.out):p:=h ⟨k⟩
theorem zbw (h:p:=by
 have t1:(pe != 0)=true:=by simp[h1]
 have HE:=Ac (show fM ⟨neg,num,den⟩=pe by rw[HR.out,L8 h1])
 clear h1
 go_wp2
 go_ret
 exact⟨_,rfl,hB,by rw[HE.out]; rfl⟩):p:=h
theorem zbx (k:q) (h:FN q->p:=by
 intro hq
 refine Yw ?_
 intro HNX
 have HDX:=Ac (Ae.mono (n:=x.den) (G:=(Ext (Old F w.heap.size) (w.heap.size+3))) hd (λb hb _=>.inl hb))
 revert HDX
 revert HNX
 exact hq.out):p:=h ⟨k⟩
theorem zby (k:q) (h:FN q->p:=by
 intro hq
 refine Yd ?_
 intro HNY
 have HDY:=Ac (Ae.mono (n:=y.den) (G:=(Ext (Old F w.heap.size) (w.heap.size+3))) hd (λb hb _=>.inl hb))
 revert HDY
 revert HNY
 exact hq.out):p:=h ⟨k⟩
theorem zbz (k:q) (h:FN q->p:=by
 intro hq
 refine(xM w1 (Ext F W.heap.size) bp g m up place vn' vi' vu' vp' _ 84 #[] bH HP.out Dq.out HFT.out ⟨enters' Tryz.func84 ak ak,λW' n v _ hv _=>uf W' _ v n hv⟩ uh hn100 hlm).mono ?_
 exact hq.out):p:=h ⟨k⟩
theorem zbA (h:p:=by
 exact⟨_,rfl,hwz _ _ (Nat.le_refl _) hB,_,_,rfl,(HN.out.on (hkz _ EN)).mono (λb hb _=>by omega),(HD.out.on (hkz _ EN)).mono (λb hb _=>by omega)⟩):p:=h
theorem zbB (k:q) (h:FN q->p:=by
 intro hq
 have HDY:=Ac (hu.mono (G:=(Ext (Old F w.heap.size) (w.heap.size+3))) (λb hb _=>hb.elim .inl λh=>.inr EN))
 revert HDY
 exact hq.out):p:=h ⟨k⟩
theorem zbC (k:q) (h:FN q->p:=by
 intro hq
 replace HW:=Ac (HW.out.trans (Below.wrote hb _))
 replace k6:=Nat.le_trans k6 hb.size
 revert k6
 revert HW
 exact hq.out):p:=h ⟨k⟩
theorem zbF (k:q) (h:FN q->p:=by
 intro hq
 have HF:=Ac (show dw x=3 by unfold dw; rw[L8 EN])
 revert HF
 exact hq.out):p:=h ⟨k⟩
theorem zbH (h:p:=by
 rw[List.erase_cons_tail (by simpa using hji)]
 simp only[oO,Bool.and_eq_true,List.all_eq_true]
 exact⟨λk hk=>hok.1 k (List.mem_of_mem_erase hk),ih hok.2⟩):p:=h
theorem zbJ (k:q) (h:FN q->p:=by
 intro hq
 have hB1:=hB.trans (hb1.mono hB.size)
 have hz3:=hb1.size
 have HP:=Ac hpl'
 have Dq:=Ac zh
 revert Dq
 revert HP
 revert hz3
 revert hB1
 exact hq.out):p:=h ⟨k⟩
theorem zbM (h:p:=by
 go_wp2
 go_quiet (fail)
 go_wp2
 go_ret
 exact⟨_,rfl,aI hbel _,by rw[HF.out]; rfl⟩):p:=h
theorem zbN (h:p:=by
 have t1:(fe != 0)=true:=by simp[h0]
 have HF:=Ac (HE.out.trans (L8 h0))
 clear h0 hact
 dsimp only
 go_wp2
 go_ret
 exact⟨_,rfl,hB1,by rw[HF.out]; rfl⟩):p:=h
theorem zbO (k:q) (h:FN q->p:=by
 intro hq
 obtain⟨W9,hW9,hm9,hw9⟩:=HM2.out.setNode rfl hi ⟨⟨3,0,0,[],[],pl⟩,.slice none 0 0,.slice none 0 0,.slice (some ⟨gu,0,none⟩) k cu⟩ ⟨agM,agM,HO.out.ints λb hb=>.inr ⟨by have:=(HO.out.row.lt b hb).1; omega,(HO.out.row.lt b hb).2⟩⟩
 revert hw9
 revert hm9
 revert hW9
 revert W9
 exact hq.out):p:=h ⟨k⟩
theorem zbQ (h:p:=by
 have HF:=Ac (show bF g=2 by unfold bF; rw[L8 (by unfold jH; omega)])
 exact Zt):p:=h
theorem zbS (h:p:=by
 have HE:=Ac (show dP l=4 by unfold dP; rw[L8 h1])
 have d1:decide ((1024:Int) < (l.length:Int))=true:=Mc EN
 clear h1
 go_in
 exact ZP):p:=h
theorem zbT (h:p:=by
 go_wp2
 refine bodyPost_ret (results_none rfl _ _ _) rfl ?_
 exact⟨rfl,_,_,Lv,rfl,rfl,by first | exact HM.out | (rw[e]; exact HM.out),Wrote.refl _ _⟩):p:=h
theorem zbV (k:q) (h:FN q->p:=by
 intro hq
 have HUB:=Ac HST.out.tu
 have HAV:=Ac (show RtV wd (λb=>b≠ub) (.agg #[.bool (au acc).neg,.slice A2 (au acc).num.length c2,.slice B2 (au acc).den.length d2]) acc from Ah.make rfl HST.out.fine.1 HST.out.fine.2)
 revert HAV
 revert HUB
 exact hq.out):p:=h ⟨k⟩
theorem zbW (h:p:=by
 dsimp only
 go_wp2_with fail
 refine(agt w).mono ?_
 rintro e w1 ⟨v,rfl,hb1,hv⟩
 have HV:=Ac hv
 clear hv
 go_wp2
 go_ret
 exact⟨_,rfl,hb1,HV.out⟩):p:=h
theorem zbX (k:q) (h:FN q->p:=by
 intro hq
 have HR:=Ac (show fM r=if eF r.num r.den≠0 then eF r.num r.den else if (r.num.length=0/\r.neg=true)\/Nat.gcd (aH r.num) (aH r.den)≠1 then 3 else 0 from rfl)
 have HU:=Ac hu
 have HK:=Ac (λh=>wu (num:=r.num) (den:=r.den) h)
 revert HK
 revert HU
 revert HR
 exact hq.out):p:=h ⟨k⟩
theorem zbY (h:p:=by
 exact⟨_,rfl,hwz _ _ EN hB,by rw[HZ.out]; exact NmV.zero _ _ _ _ _ _⟩):p:=h
theorem zbZ (k:q) (h:FN q->p:=by
 intro hq
 obtain⟨Wz,hWz,hrz,hwz,hkz⟩:=bG rz (.bool (au (x+y)).neg) (.slice Am (au (x+y)).num.length cm) (.slice Bm (au (x+y)).den.length dm)
 refine Zh ?_
 clear hWz
 revert hkz
 revert hwz
 revert hrz
 revert Wz
 exact hq.out):p:=h ⟨k⟩
theorem zb1 (k:q) (h:FN q->p:=by
 intro hq
 have HD:=Ac (hu.mono (G:=(λb=>w.heap.size+1<=b)) (λb hb _=>by omega))
 replace HN:=Ac (HN.out.below hb)
 refine YE ?_
 revert HN
 revert HD
 exact hq.out):p:=h ⟨k⟩
theorem zb4 (h:p:=by
 have t2:(e2 != 0)=true:=by simp[h2]
 have HE:=Ac (show eF num den=e2 by rw[HP.out,L6 (by simpa using h1),L8 h2])
 clear h1 h2
 exact ZP):p:=h
theorem zb5 (k:q) (h:FN q->p:=by
 intro hq
 refine zaG ?_
 intro HO3 hBe
 dsimp only
 refine hK.out _ _ ⟨u0,u1,u2,t0,t1,t2,m1,m2,y0,y1,y2,z0,z1,z2⟩ (λhHeld=>?_)
 refine Zb ?_
 revert hHeld
 revert hBe
 revert HO3
 exact hq.out):p:=h ⟨k⟩
theorem zb6 (k:q) (h:FN q->p:=by
 intro hq
 rw[Array.getElem?_setIfInBounds,Array.getElem?_push,Array.getElem?_push,Array.getElem?_setIfInBounds]
 simp only[Array.size_push,Array.size_setIfInBounds]
 exact hq.out):p:=h ⟨k⟩
theorem zb7 (k:q) (h:FN q->p:=by
 intro hq
 obtain⟨k,hk⟩:=List.getElem?_of_mem hl
 revert hk
 revert k
 exact hq.out):p:=h ⟨k⟩
theorem zb8 (k:q) (h:FN q->p:=by
 intro hq
 obtain⟨W,hW,rx,hB,hz⟩:=aJ w 27 #[.int .i64 g.ay,.slice (some ⟨b,q,none⟩) g.Fg.length c,.slice Ai g.Fh.length ci]
 rw[<-hW]
 revert hz
 revert hB
 revert rx
 revert hW
 revert W
 exact hq.out):p:=h ⟨k⟩
theorem zb9 (h:p:=by
 rintro e w2 ⟨_,rfl,hb2,rfl⟩
 have hB2:=hB1.trans (hb2.mono hB1.size)
 rw[<-HF.out]
 dsimp only
 go_wp2
 go_ret
 exact⟨_,rfl,hB2,rfl⟩):p:=h
theorem zca (h:p:=by
 refine⟨k+1,EN,by go_num,?_,hbel.drew.trans (hb.mono hbel.size)⟩
 have e2:=HY.out
 rw[<-HEQ.out] at e2
 exact nU HX.out e2 HP.out):p:=h
theorem zcb (k:q) (h:FN q->p:=by
 intro hq
 refine Zd ?_
 intro x0 x1 x2
 have x3:=rx.cell (i:=3) rfl
 have x4:=rx.cell (i:=4) rfl
 have x5:=rx.cell (i:=5) rfl
 revert x5
 revert x4
 revert x3
 revert x2
 revert x1
 revert x0
 exact hq.out):p:=h ⟨k⟩
theorem zcc (k:q) (h:FN q->p:=by
 intro hq
 have u0:=HST.out.tu.cell (i:=0) rfl
 have u1:=HST.out.tu.cell (i:=1) rfl
 have u2:=HST.out.tu.cell (i:=2) rfl
 have HUB:=Ac HST.out.tu
 revert HUB
 revert u2
 revert u1
 revert u0
 exact hq.out):p:=h ⟨k⟩
theorem zcd (k:q) (h:FN q->p:=by
 intro hq
 refine Zg ?_
 intro x0 x1 x2 HG
 replace RO:=Ac (FK.on RO.out (Below.same' hb _))
 revert RO
 revert HG
 revert x2
 revert x1
 revert x0
 exact hq.out):p:=h ⟨k⟩
theorem zcf (k:q) (h:FN q->p:=by
 intro hq
 have HF:=Ac (show iV ay x=3 by unfold iV; rw[L8 EN])
 revert HF
 exact hq.out):p:=h ⟨k⟩
theorem zch (h:p:=by
 obtain⟨W1,hw,hr,hb,hz⟩:=fV wk 42 #[.bool false,.slice none 0 0,.slice none 0 0]
 rw[<-hw]
 exact hK.out _ _ hb ⟨_,rfl,hz5,hr⟩):p:=h
theorem zci (k:q) (h:FN q->p:=by
 intro hq
 refine Zg ?_
 intro x0 x1 x2 HG
 refine Ya ?_
 intro HN1 HN2 HT hB
 replace hgl:=Nat.lt_of_lt_of_le hgl hb.size
 revert hgl
 revert hB
 revert HT
 revert HN2
 revert HN1
 revert HG
 revert x2
 revert x1
 revert x0
 exact hq.out):p:=h ⟨k⟩
theorem zcj (k:q) (h:FN q->p:=by
 intro hq
 have fl:=HWA.out.rl.frozen a
 obtain⟨yl,hyl⟩:=FC (show a < t'.l.length by rw[hlen.l]; exact hlt)
 have sl:wr.cell? ⟨bl,a,none⟩=some (.int .i64 yl):=HWA.out.rl.cell (by simp[iZ,hyl])
 clear hyl
 refine tk2 16 ak rfl λK hK=>?_
 revert hK
 revert K
 revert sl
 revert yl
 revert fl
 exact hq.out):p:=h ⟨k⟩
theorem zcs (h:p:=by
 rintro e w' ⟨u,rfl,hb,hu⟩
 exact hK.out _ _ hb (FM.keep (G:=(λ_=>True)) hu (λ_ _ _=>trivial) (Same.refl _ _))):p:=h
theorem zct (k:q) (h:FN q->p:=by
 intro hq
 obtain⟨bo,hbo⟩:=FH w.heap.size
 have hbo1:bo<=w.heap.size:=EN
 have adv:w.heap.size<=bo:=EN
 have hbo3:bo < w1.heap.size:=EN
 revert hbo3
 revert adv
 revert hbo1
 revert hbo
 revert bo
 exact hq.out):p:=h ⟨k⟩
theorem zcu (k:q) (h:FN q->p:=by
 intro hq
 refine(zT w2 _ _ rs HU.out hrl (λx hx=>by have:=HRL.out x hx; omega)).mono ?_
 exact hq.out):p:=h ⟨k⟩
theorem zcw (k:q) (h:FN q->p:=by
 intro hq
 replace o0:=ah o0 hb
 replace o1:=ah o1 hb
 replace o2:=ah o2 hb
 replace HRA:=Ac (HRA.out.below hb)
 replace BH:=Ac (BH.out.below hb)
 revert BH
 revert HRA
 revert o2
 revert o1
 revert o0
 exact hq.out):p:=h ⟨k⟩
theorem zcx (k:q) (h:FN q->p:=by
 intro hq
 have w0:∀ (m:List (List Rat)),AP g m->∀ q:Int,dV m (gG g q c)=eP (aO (aK g) m) (sQ g q c):=λm hm q=>(aaq hf hp (rG (hm.nP hf)) q c c (Nat.le_refl _) hc).symm
 revert w0
 exact hq.out):p:=h ⟨k⟩
theorem zcy (k:q) (h:FN q->p:=by
 intro hq
 have am6:=hok.1 i hi'
 obtain⟨x,hx⟩:∃ x,ops[j]? = some x:=⟨ops[j]'(hlt j aF),by simp[hlt j aF]⟩
 obtain⟨y,hy⟩:∃ y,ops[i]? = some y:=⟨ops[i]'(hlt i hi),by simp[hlt i hi]⟩
 obtain⟨f1,f2,f3⟩:=agi hx hy am6
 have f3':=f3 (xQ j aF)
 have ex:jg ops j=x.dst:=by simp[jg,hx]
 have ey:jg ops i=y.dst:=by simp[jg,hy]
 revert ey
 revert ex
 revert f3'
 revert f3
 revert f2
 revert f1
 revert hy
 revert y
 revert hx
 revert x
 revert am6
 exact hq.out):p:=h ⟨k⟩
theorem zcz (k:q) (h:FN q->p:=by
 intro hq
 have H9:=Ac hW9
 have HM9:=Ac hm9
 have HW9:=Ac (HW.out.step hw9 λj _ e=>.inr (.inr (.inr (.inl (by rw[e]; rfl)))))
 revert HW9
 revert HM9
 revert H9
 exact hq.out):p:=h ⟨k⟩
theorem zcA (k:q) (h:FN q->p:=by
 intro hq
 replace HUB:=Ac (HUB.out.below hb mW)
 replace HAV:=Ac (Ah.below HAV.out hb)
 replace hbel:=hbel.trans (hb.mono hbel.size)
 replace mW:=Nat.lt_of_lt_of_le mW hb.size
 revert mW
 revert hbel
 revert HAV
 revert HUB
 exact hq.out):p:=h ⟨k⟩
theorem zcB (h:p:=by
 have d3:((x:Int)==0)=false:=beq_false_of_ne EN
 have HE:=Ac (show dP l=0 by rw[HX.out,L6 hz])
 clear hz
 exact ZP):p:=h
theorem zcC (k:q) (h:FN q->p:=by
 intro hq
 have hb:Below W.heap.size W W.drew:=aI (Below.refl _ W) 1
 revert hb
 exact hq.out):p:=h ⟨k⟩
theorem zcE (k:q) (h:FN q->p:=by
 intro hq
 have hm:=Nat.mul_le_mul (show L.length+1<=1000001 by omega) hby
 obtain⟨i0,hi,hz0,hz1,hz2⟩:=info_parts hi0
 revert hz2
 revert hz1
 revert hz0
 revert hi
 revert i0
 revert hm
 exact hq.out):p:=h ⟨k⟩
theorem zcH (k:q) (h:FN q->p:=by
 intro hq
 have hm:=HM.out
 rw[show xs.length - k=0 by omega,List.replicate_zero,List.append_nil] at hm
 revert hm
 exact hq.out):p:=h ⟨k⟩
theorem zcI (k:q) (h:FN q->p:=by
 intro hq
 have HXV:=Ac (Ah.mono (Ah.make (r:=au x) rfl hn hd) (G:=λb=>(Old F w.heap.size b\/wa.heap.size<=b)/\b≠ub) (λb hb _=>⟨.inl hb,by have:=hb.2; omega⟩))
 revert HXV
 exact hq.out):p:=h ⟨k⟩
theorem zcK (h:p:=by
 exact⟨_,rfl,hB,_,by rw[HME.out,HF.out,L8 aA]; rfl,by rw[HMO.out,HF.out,L8 aA]; exact FM.nil _ _⟩):p:=h
theorem zcL (k:q) (h:FN q->p:=by
 intro hq
 have dx:decide (x=0)=false:=L9 hx0
 have dy:decide (y=0)=false:=L9 hy0
 have lx:=gy x
 revert lx
 revert dy
 revert dx
 exact hq.out):p:=h ⟨k⟩
theorem zcM (h:p:=by
 have e:some g=some b:=hb
 cases e
 rfl):p:=h
theorem zcO (h:p:=by
 rw[List.eq_replicate_iff]
 refine⟨aF,λb hb=>?_⟩
 obtain⟨y,_,rfl⟩:=List.mem_map.1 hb
 exact Rat.zero_mul y):p:=h
theorem zcS (h:p:=by
 have t1:(e1 != 0)=true:=by simp[h1]
 have HE:=Ac (show eF num den=e1 by rw[HP.out,L8 h1])
 clear h1
 exact ZP):p:=h
theorem zcT (k:q) (h:FN q->p:=by
 intro hq
 have HX:=Ac ha.old
 have HY:=Ac hb.old
 revert HY
 revert HX
 exact hq.out):p:=h ⟨k⟩
theorem zcV (h:p:=by
 have d3:((x:Int)==0)=true:=by rw[hz];rfl
 have HE:=Ac (show dP l=3 by rw[HX.out,L8 hz])
 clear hz
 exact ZP):p:=h
theorem zcX (k:q) (h:FN q->p:=by
 intro hq
 replace rx:=rx.below hb rx.lt
 replace ry:=ry.below hb ry.lt
 revert ry
 revert rx
 exact hq.out):p:=h ⟨k⟩
theorem zcZ (k:q) (h:FN q->p:=by
 intro hq
 have H4:=Ac (Ag.mono (G:=(λb=>w.heap.size+2<=b)) hu (λb hb _=>by omega))
 rw[h4]
 revert H4
 exact hq.out):p:=h ⟨k⟩
theorem zc3 (k:q) (h:FN q->p:=by
 intro hq
 refine(iU _ _ _ x HX.out).mono ?_
 exact hq.out):p:=h ⟨k⟩
theorem zc5 (h:p:=by
 unfold rl
 rw[show(1:Rat).num=1 from rfl,show(1:Rat).den=1 from rfl,show(1:Int).natAbs=1 from rfl,iL]
 rfl):p:=h
theorem zc6 (k:q) (h:FN q->p:=by
 intro hq
 have t1:(e0 != 0)=true:=by simp[h0]
 have hr0:nS inf.actions l=14:=by rw[AZ.out,L8 h0]
 have HE:=Ac ((nH HLE.out HP.out HK.out HL.out (by rw[hr0]; decide)).trans hr0)
 clear hr0
 revert HE
 revert t1
 exact hq.out):p:=h ⟨k⟩
theorem zc8 (k:q) (h:FN q->p:=by
 intro hq
 replace HG:=Ac (HG.out.below hb)
 replace HL:=Ac (HL.out.below hb)
 replace HR:=Ac (HR.out.below hb)
 revert HR
 revert HL
 revert HG
 exact hq.out):p:=h ⟨k⟩
theorem zc9 (k:q) (h:FN q->p:=by
 intro hq
 have jo:=hbel.trans (hb2.mono hbel.size)
 have HO2:=Ac (HO.out.below hb2)
 revert HO2
 revert jo
 exact hq.out):p:=h ⟨k⟩
theorem zda (k:q) (h:FN q->p:=by
 intro hq
 obtain⟨vr,hvr,hra⟩:=hcm k (row.map au) (by rw[List.getElem?_map,AZ.out]; rfl)
 revert hra
 revert hvr
 revert vr
 exact hq.out):p:=h ⟨k⟩
theorem zdb (h:p:=by
 have hl:=FD h
 rw[List.drop_eq_getElem_cons hl]
 have:l[k]=x:=by simpa [hl] using h
 rw[this]
 rfl):p:=h
theorem zdd (k:q) (h:FN q->p:=by
 intro hq
 rw[L8 EN,Int.toNat_natCast,List.getD_eq_getElem?_getD,hn]
 exact hq.out):p:=h ⟨k⟩
theorem zdg (h:p:=by
 exact h1.perm (λp=>by simp only[List.mem_cons]; constructor <;> (rintro(h | h | h) <;> simp[h]))):p:=h
theorem zdh (k:q) (h:FN q->p:=by
 intro hq
 have HXL:=Ac (HRL.out row (List.mem_of_getElem? AZ.out) x (List.mem_of_getElem? hx))
 revert HXL
 exact hq.out):p:=h ⟨k⟩
theorem zdi (k:q) (h:FN q->p:=by
 intro hq
 dsimp only
 refine hK.out _ _ ⟨u0,u1,u2,m1,y0,y1,y2⟩ (λhHeld=>?_)
 revert hHeld
 exact hq.out):p:=h ⟨k⟩
theorem zdj (k:q) (h:FN q->p:=by
 intro hq
 have HPV:=Ac (hu.mono (G:=(λb=>(Old F w.heap.size b\/wa.heap.size<=b)/\b≠ub)) (λb hb _=>hb.elim id λh=>⟨.inr EN,EN⟩))
 revert HPV
 exact hq.out):p:=h ⟨k⟩
theorem zdk (k:q) (h:FN q->p:=by
 intro hq
 replace HM2:=Ac (FM.on HM2.out (Below.same' hb _))
 replace HM:=Ac (FM.on HM.out (Below.same' hb _))
 revert HM
 revert HM2
 exact hq.out):p:=h ⟨k⟩
theorem zdl (h:p:=by
 exact⟨_,by rw[HF.out]; rfl,by rw[HF.out]; intro h; simp at h,by rw[HF.out]; exact HWA.out,hgr⟩):p:=h
theorem zdm (h:p:=by
 have h:=FK.on HU.out (jG (F:=λb=>F b\/w.heap.size<=b) HGZ.out HNG.out)
 rw[Et.out]
 exact h):p:=h
theorem zdo (h:p:=by
 go_wp2
 go_ret
 exact⟨_,rfl,hB2,by rw[HE.out]; rfl⟩):p:=h
theorem zdq (k:q) (h:FN q->p:=by
 intro hq
 have hb:Below wc.heap.size wc wc.drew:=aI (Below.refl _ wc) 1
 revert hb
 exact hq.out):p:=h ⟨k⟩
theorem zdr (k:q) (h:FN q->p:=by
 intro hq
 have hall:xs.take k=xs:=List.take_of_length_le EN
 revert hall
 exact hq.out):p:=h ⟨k⟩
theorem zdu (h:p:=by
 exact⟨_,by rw[HF.out]; rfl,by rw[HF.out]; intro h; simp at h,by rw[HF.out]; exact ahC,hgg⟩):p:=h
theorem zdv (h:p:=by
 go_wp2
 go_ret
 exact⟨_,rfl,hB,by rw[HR.out]; rfl⟩):p:=h
theorem zdw (h:p:=by
 rw[Mc rfl]
 refine YW ?_
 clear hB hb
 intro hB
 go_wp2
 go_ret
 exact⟨_,rfl,hB,rfl⟩):p:=h
theorem zdy (k:q) (h:FN q->p:=by
 intro hq
 replace HP1:=Ac (HP1.out.below hb)
 replace HP2:=Ac (HP2.out.below hb)
 replace HT1:=Ac (HT1.out.below hb)
 revert HT1
 revert HP2
 revert HP1
 exact hq.out):p:=h ⟨k⟩
theorem zdz (k:q) (h:FN q->p:=by
 intro hq
 have h2:(aB x).den.length<=1024:=EN
 have d1:decide ((1024:Int) < ((aB x).num.length:Int))=false:=aG
 have d2:decide ((1024:Int) < ((aB x).den.length:Int))=false:=aG
 revert d2
 revert d1
 revert h2
 exact hq.out):p:=h ⟨k⟩
theorem zdB (k:q) (h:FN q->p:=by
 intro hq
 have H5:=Ac (Ag.mono (G:=(λb=>w.heap.size+2<=b)) hu (λb hb _=>by omega))
 revert H5
 exact hq.out):p:=h ⟨k⟩
theorem zdE (h:p:=by
 have d2:decide ((1000000000:Int)<=(x:Int))=true:=Mc EN
 clear hbad
 exact ZP):p:=h
theorem zdF (h:p:=by
 exact⟨_,rfl,hwz _ _ EN hB,_,by rw[HO.out],by rw[HR.out]; exact Ah.zero _ _ _ _ _ _⟩):p:=h
theorem zdK (k:q) (h:FN q->p:=by
 intro hq
 replace HP:=Ac (FM.on HP.out (Below.same' hb _))
 revert HP
 exact hq.out):p:=h ⟨k⟩
theorem zdL (k:q) (h:FN q->p:=by
 intro hq
 have hrow:=o8 CX.out HPJ.out HRR.out (by rw[hse]; decide)
 have HF:=Ac ((nH HLE.out HP.out HK.out HL.out (by rw[hrow,hse]; decide)).trans (hrow.trans hse))
 revert HF
 revert hrow
 exact hq.out):p:=h ⟨k⟩
theorem zdM (k:q) (h:FN q->p:=by
 intro hq
 refine Zb ?_
 refine Zx ?_
 exact hq.out):p:=h ⟨k⟩
theorem zdO (k:q) (h:FN q->p:=by
 intro hq
 have HF:=Ac (show dJ g.Fg (f+1) a par dep t=(-1,rd) by rw[HR.out,HV2.out,L8 hng]; simp)
 have hdn:decide (0<=rn)=false:=L9 EN
 revert hdn
 revert HF
 exact hq.out):p:=h ⟨k⟩
theorem zdP (k:q) (h:FN q->p:=by
 intro hq
 dsimp only
 refine ZV ?_
 exact hq.out):p:=h ⟨k⟩
theorem zdQ (h:p:=by
 exact⟨_,rfl,hB2,.pointer none,by rw[HF.out]; rfl,by rw[HF.out]; intro h; simp at h⟩):p:=h
theorem zdR (h:p:=by
 exact⟨vj,h3,FK.keep h4 (λb hb _=>hb.imp id λh=>by omega) (Same.refl _ _)⟩):p:=h
theorem zdS (k:q) (h:FN q->p:=by
 intro hq
 have HP:=Ac (show eF num den=if dP num≠0 then dP num else if dP den≠0 then dP den else if den.length=0 then 6 else 0 from rfl)
 revert HP
 exact hq.out):p:=h ⟨k⟩
theorem zdT (k:q) (h:FN q->p:=by
 intro hq
 refine Zg ?_
 intro x0 x1 x2 HG
 replace HU5:=Ac (FK.on HU5.out (Below.same' hb _))
 revert HU5
 revert HG
 revert x2
 revert x1
 revert x0
 exact hq.out):p:=h ⟨k⟩
theorem zdU (h:p:=by
 have:=congrArg List.length hn
 simp at this
 omega):p:=h
end Go.Proofs.YtnmeejofpkhlkaaGreatDoor
