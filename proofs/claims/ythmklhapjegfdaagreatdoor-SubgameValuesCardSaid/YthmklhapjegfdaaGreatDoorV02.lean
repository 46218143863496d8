/- Moves in a drawn region: a list of operations taken one by one; a call that comes next. -/
import Derived.Test.YthmklhapjegfdaaGreatDoorV04
import Derived.OrdersHeld
import Derived.Deep.RegionHeld
set_option linter.all false
namespace Go.Proofs.YthmklhapjegfdaaGreatDoor
section
variable {P:Program} {md:Region.Mode} {ops:Array Oper} {Q:Exit→Act→World→Prop} {S:World→Prop}
def Tk (_:List Nat) (g:Prop):Prop:=g
theorem tk0 {g:Prop} (l:List Nat) (h:Tk l g):g:=h
theorem tk1 {g:Prop} (h:g):Tk [] g:=h
theorem tk {i:Nat} {is:List Nat} {oi:Oper} {v:Value} {fuel:Nat} {listed:Array Bool} {a:Act} {w:World} (hi:ops[i]? = some oi)
  (hs:Region.noSelect ops=true) (hf:Region.free md ops listed i=true) (hr:(Region.ready md ops listed).contains i=true)
  (hQ:∀ c a w,Q (.panic c) (a.put oi.dst v) w→Q (.panic c) a w) (hy:YieldsIf P ops S oi v a) (hS:S w)
  (h:Tk is (wpAnyH P md ops Q S fuel (listed.setIfInBounds i true) (a.put oi.dst v) w)):Tk (i :: is) (wpAnyH P md ops Q S (fuel+1) listed a w) :=
 wpAnyH_take hi hs hf hr hQ hy hS h
theorem tk2 (i:Nat) {fuel:Nat} {listed:Array Bool} {a:Act} {w:World} {o:Oper} (hr:Region.ready md ops listed = [i]) (ho:ops[i]? = some o)
  (h:∀ K':Act→World→Prop,Shut (∀ a w,S w→(S w→wpAnyH P md ops Q S fuel (listed.setIfInBounds i true) a w)→K' a w)→if Region.wanted o (yielded ops a.tmps)=true then Oper.wp P o a w K' Q else K' (a.put o.dst undef) w):wpAnyH P md ops Q S (fuel+1) listed a w :=
 wpAnyH_ready hr (by simp) (AllReadyH.cons ho h AllReadyH.nil)
end
theorem tkm {q g:Prop} (l:List Nat) (k:q) (h:Mhid q→Tk l g:=by
 intro hq
 repeat (refine tk (v:=?_) rfl (by kernel_rfl) (by kernel_rfl) (by kernel_rfl) (fun _ _ _ h=>h) (Or.inl ⟨by rfl,?_⟩) hHeld ?_;rotate_left;(focus intro wx hSx;(try dsimp only at hSx);go_split_ands;go_simp;try with_reducible rfl);try simp only[Act.put,List.getElem_toArray,List.getElem_cons_zero,List.getElem_cons_succ,List.setIfInBounds_toArray,List.set_cons_zero,List.set_cons_succ])
 exact tk1 hq.out):g:=tk0 l (h ⟨k⟩)
theorem Za {p q:Prop} (k:q) (h:Mhid q→p:=by
 intro hq
 replace x0:=ah x0 hb
 replace x1:=ah x1 hb
 replace x2:=ah x2 hb
 replace y0:=ah y0 hb
 replace y1:=ah y1 hb
 replace y2:=ah y2 hb
 replace HG:=Ac (HG.out.on (Below.same' hb _))
 replace HP:=Ac (HP.out.on (Below.same' hb _))
 revert HP
 revert HG
 revert y2
 revert y1
 revert y0
 revert x2
 revert x1
 revert x0
 exact hq.out):p:=h ⟨k⟩
theorem Zb {p q:Prop} (k:q) (h:Mhid q→p:=by
 intro hq
 replace x0:=ah x0 hb
 replace x1:=ah x1 hb
 replace x2:=ah x2 hb
 replace y0:=ah y0 hb
 replace y1:=ah y1 hb
 replace y2:=ah y2 hb
 replace HX:=Ac (HX.out.below hb)
 replace HY:=Ac (HY.out.below hb)
 replace HNX:=Ac (HNX.out.below hb)
 replace HNY:=Ac (HNY.out.below hb)
 revert HNY
 revert HNX
 revert HY
 revert HX
 revert y2
 revert y1
 revert y0
 revert x2
 revert x1
 revert x0
 exact hq.out):p:=h ⟨k⟩
theorem Zc {p q:Prop} (k:q) (h:Mhid q→p:=by
 intro hq
 try simp only[Act.put,lq1,lq2,lq3,lq4,lq5,lq6]
 exact hq.out):p:=h ⟨k⟩
theorem Zd {p q:Prop} (k:q) (h:Mhid q→p:=by
 intro hq
 replace hz:=Nat.le_trans hz hb.size
 replace hB:=hB.trans (hb.mono hB.size)
 revert hB
 revert hz
 exact hq.out):p:=h ⟨k⟩
theorem Ze {p q:Prop} (k:q) (h:Mhid q→p:=by
 intro hq
 refine Row.alloc ?_ _
 refine Row.alloc ?_ _
 refine Row.alloc ?_ _
 exact hq.out):p:=h ⟨k⟩
theorem Zf {p q:Prop} (k:q) (h:Mhid q→p:=by
 intro hq
 replace HT:=Ac (HT.out.on hb)
 replace hB:=hB.trans (hb.mono hB.size)
 revert hB
 revert HT
 exact hq.out):p:=h ⟨k⟩
theorem Zg {p q:Prop} (k:q) (h:Mhid q→p:=by
 intro hq
 refine bD (fun w'=>w'.cell? ⟨w.heap.size,0,none⟩=some (.bool (aG x).neg)∧w'.cell? ⟨w.heap.size,1,none⟩=some (.slice A (aG x).num.length c)∧w'.cell? ⟨w.heap.size,2,none⟩=some (.slice B (aG x).den.length d)∧w'.cell? ⟨w.heap.size+1,0,none⟩=some (.bool (aG y).neg)∧w'.cell? ⟨w.heap.size+1,1,none⟩=some (.slice A' (aG y).num.length c')∧w'.cell? ⟨w.heap.size+1,2,none⟩=some (.slice B' (aG y).den.length d')) 7 1 ak rfl ak ?_
 have hHeld:(fun w':World=>w'.cell? ⟨w.heap.size,0,none⟩=some (.bool (aG x).neg)∧w'.cell? ⟨w.heap.size,1,none⟩=some (.slice A (aG x).num.length c)∧w'.cell? ⟨w.heap.size,2,none⟩=some (.slice B (aG x).den.length d)∧w'.cell? ⟨w.heap.size+1,0,none⟩=some (.bool (aG y).neg)∧w'.cell? ⟨w.heap.size+1,1,none⟩=some (.slice A' (aG y).num.length c')∧w'.cell? ⟨w.heap.size+1,2,none⟩=some (.slice B' (aG y).den.length d')) wn.drew:=⟨x0,x1,x2,y0,y1,y2⟩
 simp only[List.take_succ_cons,List.take_zero]
 have hb:Below wn.heap.size wn wn.drew:=aK (Below.refl _ wn) 1
 refine Zb ?_
 intro x0 x1 x2 y0 y1 y2 HX HY HNX HNY
 replace HDX:=Ac (HDX.out.below hb)
 replace HDY:=Ac (HDY.out.below hb)
 replace HVP:=Ac (HVP.out.below hb)
 replace HVQ:=Ac (HVQ.out.below hb)
 replace HVD:=Ac (HVD.out.below hb)
 replace rz:=rz.below hb rz.lt
 refine Zd ?_
 clear hb
 revert rz
 revert HVD
 revert HVQ
 revert HVP
 revert HDY
 revert HDX
 revert HNY
 revert HNX
 revert HY
 revert HX
 revert y2
 revert y1
 revert y0
 revert x2
 revert x1
 revert x0
 revert hHeld
 exact hq.out):p:=h ⟨k⟩
theorem Zh {p q:Prop} (k:q) (h:Mhid q→p:=by
 intro hq
 refine Zd ?_
 intro hz hB
 dsimp only
 refine hK.out _ _ ⟨x0,x1,x2,y0,y1,y2⟩ (fun hHeld=>?_)
 refine Zc ?_
 revert hHeld
 revert hB
 revert hz
 exact hq.out):p:=h ⟨k⟩
theorem Zi {p:Prop} (h:p:=by
 have HN1:=Ac (Aj.below (n:=aH num) HNN.out hb)
 have HD1:=Ac (Aj.below (n:=aH den) HDD.out hb)
 clear hb
 dsimp only
 go_wp2_with fail
 refine(iD w1 F _ _ (aH num) (aH den) HN1.out HD1.out hl1 hl2).mono ?_
 rintro e w2 ⟨va,rfl,hb,hu⟩
 rw[← HG.out] at hu
 obtain⟨A2,c2,rfl,_,hN2⟩:=hu
 have hB2:=hB1.trans (hb.mono hB1.size)
 replace x0:=ah x0 hb
 replace x1:=ah x1 hb
 replace x2:=ah x2 hb
 obtain⟨b2,o2,rfl,_,hb2,hx2⟩:=hN2 hpos
 have ex:=hx2 0 g (by rw[HDG.out]; rfl)
 unfold dA at ex
 rw[Nat.mul_one,Nat.add_zero] at ex
 clear hb hx2 hb2
 dsimp only
 go_wp2
 go_ret
 exact⟨_,rfl,hB2,by rw[HT.out]; rfl⟩):p:=h
theorem Zj {p q:Prop} (k:q) (h:Mhid q→p:=by
 intro hq
 replace HG:=Ac (HG.out.on (Below.same' hb _))
 replace HM:=Ac (Ae.on HM.out (Below.same' hb _))
 replace HP:=Ac (Ah.on HP.out (Below.same' hb _))
 replace HV:=Ac (Ae.on HV.out (Below.same' hb _))
 revert HV
 revert HP
 revert HM
 revert HG
 exact hq.out):p:=h ⟨k⟩
theorem Zk {p q:Prop} (k:q) (h:Mhid q→p:=by
 intro hq
 refine wpAnyH_done ak ?_ _
 show wpList _ _ _ _ _ _
 have f0:=HM1.out.nodes.fz (i*6)
 have f1:=HM1.out.nodes.fz (i*6+1)
 have f2:=HM1.out.nodes.fz (i*6+2)
 have f3:=HM1.out.nodes.fz (i*6+3)
 have f4:=HM1.out.nodes.fz (i*6+4)
 have f5:=HM1.out.nodes.fz (i*6+5)
 obtain⟨q0,y0⟩:∃ v,wn.cell? ⟨gn,i*6,none⟩=some v:=HM1.out.nodes.dF hi 0 aA
 obtain⟨q1,y1⟩:∃ v,wn.cell? ⟨gn,i*6+1,none⟩=some v:=HM1.out.nodes.dF hi 1 aA
 obtain⟨q2,y2⟩:∃ v,wn.cell? ⟨gn,i*6+2,none⟩=some v:=HM1.out.nodes.dF hi 2 aA
 obtain⟨q3,y3⟩:∃ v,wn.cell? ⟨gn,i*6+3,none⟩=some v:=HM1.out.nodes.dF hi 3 aA
 obtain⟨q4,y4⟩:∃ v,wn.cell? ⟨gn,i*6+4,none⟩=some v:=HM1.out.nodes.dF hi 4 aA
 obtain⟨q5,y5⟩:∃ v,wn.cell? ⟨gn,i*6+5,none⟩=some v:=HM1.out.nodes.dF hi 5 aA
 have HMB:=Ac (fun b hb=>HM.out.acj (b:=b) hb)
 have hbm:M.base≤W.heap.size:=Nat.le_of_lt (Nat.lt_of_le_of_lt HM.out.eP.1 HM.out.box.lt)
 have ae0:∀ {w:World} {F:Ag},Ah w F (.slice none 0 0) []:=⟨none,0,rfl,Nat.le_refl _,fun h=>absurd h ay⟩
 have HM2:=Ac (HM1.out.fresh HMB.out hbm)
 revert HM2
 revert ae0
 revert hbm
 revert HMB
 revert y5
 revert q5
 revert y4
 revert q4
 revert y3
 revert q3
 revert y2
 revert q2
 revert y1
 revert q1
 revert y0
 revert q0
 revert f5
 revert f4
 revert f3
 revert f2
 revert f1
 revert f0
 exact hq.out):p:=h ⟨k⟩
theorem Zm {p q:Prop} (k:q) (h:Mhid q→p:=by
 intro hq
 refine wp_region_held_drew (S:=fun w'=>w'.cell? ⟨w.heap.size,0,none⟩=some (.bool (aN x).neg)∧w'.cell? ⟨w.heap.size,1,none⟩=some (.slice A (aN x).num.length c)∧w'.cell? ⟨w.heap.size,2,none⟩=some (.slice B (aN x).den.length d)∧w'.cell? ⟨w.heap.size+1,0,none⟩=some (.bool (aN y).neg)∧w'.cell? ⟨w.heap.size+1,1,none⟩=some (.slice A' (aN y).num.length c')∧w'.cell? ⟨w.heap.size+1,2,none⟩=some (.slice B' (aN y).den.length d')) ak ⟨x0,x1,x2,y0,y1,y2⟩ (fun hHeld=>?_)
 revert hHeld
 exact hq.out):p:=h ⟨k⟩
theorem Zo {p:Prop} (h:p:=by
 go_in
 go_wp2
 go_ret
 exact⟨_,rfl,(Below.refl _ _).alloc (Nat.le_refl _) _,by rw[HF.out]; rfl⟩):p:=h
theorem Zp {p q:Prop} (k:q) (h:Mhid q→p:=by
 intro hq
 rw[← hW]
 replace HX:=Ac (HX.out.on (Below.same' hB _))
 replace HY:=Ac (HY.out.on (Below.same' hB _))
 have hz:w.heap.size+3≤W.heap.size:=hz
 have x0:=rx.cell (i:=0) rfl
 have x1:=rx.cell (i:=1) rfl
 have x2:=rx.cell (i:=2) rfl
 have y0:=ry.cell (i:=0) rfl
 have y1:=ry.cell (i:=1) rfl
 have y2:=ry.cell (i:=2) rfl
 revert y2
 revert y1
 revert y0
 revert x2
 revert x1
 revert x0
 revert hz
 revert HY
 revert HX
 exact hq.out):p:=h ⟨k⟩
theorem Zq {p q:Prop} (k:q) (h:Mhid q→p:=by
 intro hq
 replace x0:=ah x0 hb
 replace x1:=ah x1 hb
 replace x2:=ah x2 hb
 replace y0:=ah y0 hb
 replace y1:=ah y1 hb
 replace y2:=ah y2 hb
 replace HX:=Ac (HX.out.below hb)
 replace HY:=Ac (HY.out.below hb)
 revert HY
 revert HX
 revert y2
 revert y1
 revert y0
 revert x2
 revert x1
 revert x0
 exact hq.out):p:=h ⟨k⟩
theorem Zr {p:Prop} (h:p:=by
 exact⟨_,_,_,_,_,_,_,_,_,_,_,_,_,rfl,hrw,aa7.on (hww.same (fun b hb=>by omega)),aa8.on (hww.same (fun b hb=>by omega)),wG.on (hww.same (fun b hb=>by omega)),hz4.wrote hww byOmega,hb64.wrote hww byOmega,Wrote.below hB4 hww (fun k hk=>by omega) hB4.size,byOmega,byOmega,byOmega,byOmega,byOmega,byOmega,byOmega,byOmega,byOmega,byOmega,byOmega⟩):p:=h
theorem Zt {p q:Prop} (k:q) (h:Mhid q→p:=by
 intro hq
 refine bD (fun w'=>w'.cell? ⟨M.mb,8,none⟩=some (.slice (some ⟨gn,0,none⟩) Ln.length cn)∧w'.cell? ⟨xb,0,none⟩=some (.int .i64 3)∧w'.cell? ⟨xb,1,none⟩=some (.int .i64 0)∧w'.cell? ⟨xb,2,none⟩=some (.int .i64 0)∧w'.cell? ⟨xb,3,none⟩=some (.slice none 0 0)∧w'.cell? ⟨xb,4,none⟩=some (.slice none 0 0)∧w'.cell? ⟨xb,5,none⟩=some (.slice (some ⟨gu,0,none⟩) k cu)) 7 2 ak rfl ak ?_
 have hHeld:(fun w':World=>w'.cell? ⟨M.mb,8,none⟩=some (.slice (some ⟨gn,0,none⟩) Ln.length cn)∧w'.cell? ⟨xb,0,none⟩=some (.int .i64 3)∧w'.cell? ⟨xb,1,none⟩=some (.int .i64 0)∧w'.cell? ⟨xb,2,none⟩=some (.int .i64 0)∧w'.cell? ⟨xb,3,none⟩=some (.slice none 0 0)∧w'.cell? ⟨xb,4,none⟩=some (.slice none 0 0)∧w'.cell? ⟨xb,5,none⟩=some (.slice (some ⟨gu,0,none⟩) k cu)) wr.drew:=⟨m8,x0,x1,x2,x3,x4,x5⟩
 simp only[List.take_succ_cons,List.take_zero]
 have hb:Below wr.heap.size wr wr.drew:=aK (Below.refl _ wr) 1
 replace m8:=ah m8 hb
 replace x0:=ah x0 hb
 replace x1:=ah x1 hb
 replace x2:=ah x2 hb
 replace x3:=ah x3 hb
 replace x4:=ah x4 hb
 replace x5:=ah x5 hb
 replace HM1:=Ac (HM1.out.below hb)
 replace HO:=Ac (HO.out.below hb)
 replace rx:=rx.below hb rx.lt
 replace HW:=Ac (HW.out.trans (Below.wrote hb _))
 replace k6:=Nat.le_trans k6 hb.size
 clear hb
 revert k6
 revert HW
 revert rx
 revert HO
 revert HM1
 revert x5
 revert x4
 revert x3
 revert x2
 revert x1
 revert x0
 revert m8
 revert hHeld
 exact hq.out):p:=h ⟨k⟩
theorem Zu {p q:Prop} (k:q) (h:Mhid q→p:=by
 intro hq
 replace HX:=Ac (HX.out.below hb)
 replace HY:=Ac (HY.out.below hb)
 replace HNX:=Ac (HNX.out.below hb)
 replace HNY:=Ac (HNY.out.below hb)
 replace HDX:=Ac (HDX.out.below hb)
 replace HDY:=Ac (HDY.out.below hb)
 replace HG:=Ac (HG.out.below hb)
 replace HL:=Ac (HL.out.below hb)
 replace HR:=Ac (HR.out.below hb)
 replace HT1:=Ac (HT1.out.below hb)
 replace HT2:=Ac (HT2.out.below hb)
 replace HT:=Ac (HT.out.below hb)
 revert HT
 revert HT2
 revert HT1
 revert HR
 revert HL
 revert HG
 revert HDY
 revert HDX
 revert HNY
 revert HNX
 revert HY
 revert HX
 exact hq.out):p:=h ⟨k⟩
theorem Zv {p q:Prop} (k:q) (h:Mhid q→p:=by
 intro hq
 have q0:=rz.cell (i:=0) rfl
 have y0:=rz.frozen 0
 have q1:=rz.cell (i:=1) rfl
 have y1:=rz.frozen 1
 have q2:=rz.cell (i:=2) rfl
 have y2:=rz.frozen 2
 revert y2
 revert q2
 revert y1
 revert q1
 revert y0
 revert q0
 exact hq.out):p:=h ⟨k⟩
theorem Zw {p q:Prop} (k:q) (h:Mhid q→p:=by
 intro hq
 refine Zb ?_
 intro x0 x1 x2 y0 y1 y2 HX HY HNX HNY
 replace HDX:=Ac (HDX.out.below hb)
 replace HDY:=Ac (HDY.out.below hb)
 revert HDY
 revert HDX
 revert HNY
 revert HNX
 revert HY
 revert HX
 revert y2
 revert y1
 revert y0
 revert x2
 revert x1
 revert x0
 exact hq.out):p:=h ⟨k⟩
theorem Zx {p:Prop} (h:p:=by
 have HT:=Ac he
 clear he HE
 go_wp2_with fail
 refine(iD W F _ _ (aH num) (aH den) HNN.out HDD.out hl1 hl2).mono ?_
 rintro e w1 ⟨va,rfl,hb,hu⟩
 rw[← HG.out] at hu
 obtain⟨A1,c1,rfl,_,_⟩:=hu
 have hB1:=hB.trans (hb.mono hB.size)
 replace x0:=ah x0 hb
 replace x1:=ah x1 hb
 replace x2:=ah x2 hb
 exact Zi):p:=h
theorem Zz {p:Prop} (h:p:=by
 exact⟨_,rfl,hwz _ _ byOmega hB,HM.out.keep (fun b hb _=>hb.elim (fun h=>.inl h.1) fun h=>.inr byOmega) (hkz _ (fun h=>h.elim (fun h=>by have:=h.2; omega) fun h=>by omega))⟩):p:=h
theorem ZA {p q:Prop} (k:q) (h:Mhid q→p:=by
 intro hq
 refine wpAnyH_done ak ?_ _
 show wpList _ _ _ _ _ _
 exact hq.out):p:=h ⟨k⟩
theorem ZB {p q:Prop} (k:q) (h:Mhid q→p:=by
 intro hq
 simp only[List.take_succ_cons,List.take_zero]
 exact hq.out):p:=h ⟨k⟩
theorem ZC {p q:Prop} (k:q) (h:Mhid q→p:=by
 intro hq
 refine Za ?_
 intro x0 x1 x2 y0 y1 y2 HG HP
 replace HN:=Ac (Ah.on HN.out (Below.same' hb _))
 replace HS:=Ac (Ah.on HS.out (Below.same' hb _))
 refine Zf ?_
 intro HT hB
 revert hB
 revert HT
 revert HS
 revert HN
 revert HP
 revert HG
 revert y2
 revert y1
 revert y0
 revert x2
 revert x1
 revert x0
 exact hq.out):p:=h ⟨k⟩
theorem ZE {p:Prop} (h:p:=by
 rintro e w1 ⟨_,rfl,hb1,rfl⟩
 have hbx2:=fQ.drew.below hb1 aB
 have aiY:=hbt.drew.below hb1 aB
 dsimp only
 refine hK.out _ _ ⟨aiY.cell rfl,hbx2.cell rfl,hbx2.cell rfl,hbx2.cell rfl,hbx2.cell rfl,hbx2.cell rfl,hbx2.cell rfl⟩ (fun hHeld=>?_)
 clear hK K
 refine Zc ?_
 refine tkm [7] ?_
 refine wpAnyH_done ak ?_ _
 go_wp2
 go_ret
 exact⟨_,rfl,hB1.drew.trans (hb1.mono aB),by rw[HF.out]; rfl⟩):p:=h
theorem ZF {p q:Prop} (k:q) (h:Mhid q→p:=by
 intro hq
 replace eu:=ah eu hb
 replace p0:=ah p0 hb
 replace p1:=ah p1 hb
 replace p2:=ah p2 hb
 replace ex0:=ah ex0 hb
 replace ex1:=ah ex1 hb
 replace ex2:=ah ex2 hb
 replace HRV:=Ac (HRV.out.below hb)
 replace HON:=Ac (HON.out.below hb)
 replace HNM:=Ac (HNM.out.below hb)
 replace rs:=rs.below hb rs.lt
 replace hzr:=Nat.le_trans hzr hb.size
 replace hbel:=hbel.trans (hb.mono hbel.size)
 revert hbel
 revert hzr
 revert rs
 revert HNM
 revert HON
 revert HRV
 revert ex2
 revert ex1
 revert ex0
 revert p2
 revert p1
 revert p0
 revert eu
 exact hq.out):p:=h ⟨k⟩
theorem ZG {p q:Prop} (k:q) (h:Mhid q→p:=by
 intro hq
 replace v0:=ah v0 hb
 replace v1:=ah v1 hb
 replace v2:=ah v2 hb
 replace a0:=ah a0 hb
 replace a1:=ah a1 hb
 replace a2:=ah a2 hb
 replace x3:=ah x3 hb
 replace ec:=ah ec hb
 replace er:=ah er hb
 replace e0:=ah e0 hb
 replace e1:=ah e1 hb
 replace e2:=ah e2 hb
 replace rv:=rv.below hb rv.lt
 replace HF:=Ac (HF.out.below hb)
 replace HYJ:=Ac (HYJ.out.below hb)
 replace hbk:=hbk.trans (hb.mono (Nat.le_of_lt k8))
 replace k8:=Nat.lt_of_lt_of_le k8 hb.size
 replace hBk:=hBk.trans (hb.mono hBk.size)
 revert hBk
 revert k8
 revert hbk
 revert HYJ
 revert HF
 revert rv
 revert e2
 revert e1
 revert e0
 revert er
 revert ec
 revert x3
 revert a2
 revert a1
 revert a0
 revert v2
 revert v1
 revert v0
 exact hq.out):p:=h ⟨k⟩
theorem ZH {p q:Prop} (k:q) (h:Mhid q→p:=by
 intro hq
 replace x0:=ah x0 hb
 replace x1:=ah x1 hb
 replace x2:=ah x2 hb
 replace y0:=ah y0 hb
 replace y1:=ah y1 hb
 replace y2:=ah y2 hb
 replace z0:=ah z0 hb
 replace z1:=ah z1 hb
 replace z2:=ah z2 hb
 replace q0:=ah q0 hb
 replace q1:=ah q1 hb
 replace q2:=ah q2 hb
 replace HG:=Ac (HG.out.on (Below.same' hb _))
 replace HP:=Ac (HP.out.on (Below.same' hb _))
 revert HP
 revert HG
 revert q2
 revert q1
 revert q0
 revert z2
 revert z1
 revert z0
 revert y2
 revert y1
 revert y0
 revert x2
 revert x1
 revert x0
 exact hq.out):p:=h ⟨k⟩
theorem ZI {p q:Prop} (k:q) (h:Mhid q→p:=by
 intro hq
 refine Za ?_
 intro x0 x1 x2 y0 y1 y2 HG HP
 replace HmK:=Ac (Ae.on HmK.out (Below.same' hb _))
 replace HoK:=Ac (Ae.on HoK.out (Below.same' hb _))
 replace HRR:=Ac (Ae.on HRR.out (Below.same' hb _))
 revert HRR
 revert HoK
 revert HmK
 revert HP
 revert HG
 revert y2
 revert y1
 revert y0
 revert x2
 revert x1
 revert x0
 exact hq.out):p:=h ⟨k⟩
theorem ZJ {p q:Prop} (k:q) (h:Mhid q→p:=by
 intro hq
 obtain⟨W,hW,rx,ry,rz,hB,hz⟩:=qR w 118 #[.bool (aN x).neg,.slice A (aN x).num.length c,.slice B (aN x).den.length d] 118 #[.bool (aN y).neg,.slice A' (aN y).num.length c',.slice B' (aN y).den.length d'] 118 #[.bool false,.slice none 0 0,.slice none 0 0]
 refine Zp ?_
 clear hW rx ry
 revert hz
 revert hB
 revert rz
 revert W
 exact hq.out):p:=h ⟨k⟩
theorem ZK {p q:Prop} (k:q) (h:Mhid q→p:=by
 intro hq
 have hmd:mb≠db:=byOmega
 replace m0:=bY m0 hwx hmd
 replace m1:=bY m1 hwx hmd
 replace RM:=Ac (RM.out.wrote hwx hmd)
 replace RG:=Ac (RG.out.wrote hwx (fun e=>by omega))
 replace RD:=Ac hr2
 replace HO:=Ac (HO.out.wrote hwx fun b hb e=>by have:=(HO.out.row.lt b (hb.resolve_left id)).1; omega)
 replace HLr:=Ac (HLr.out.on (hwx.same fun b hb e=>by have:=hb.2; omega))
 replace HW:=Ac (HW.out.step hwx fun i _ e=>.inr e)
 replace hsz:=Nat.le_trans hsz hwx.size
 clear hmd
 refine hK.out _ _ ⟨m0,m1⟩ (fun hHeld=>?_)
 refine Zc ?_
 revert hHeld
 revert hsz
 revert HW
 revert HLr
 revert HO
 revert RD
 revert RG
 revert RM
 revert m1
 revert m0
 exact hq.out):p:=h ⟨k⟩
theorem ZL {p q:Prop} (k:q) (h:Mhid q→p:=by
 intro hq
 have x0:=rx.cell (i:=0) rfl
 have x1:=rx.cell (i:=1) rfl
 have x2:=rx.cell (i:=2) rfl
 revert x2
 revert x1
 revert x0
 exact hq.out):p:=h ⟨k⟩
theorem ZM {p q:Prop} (k:q) (h:Mhid q→p:=by
 intro hq
 obtain⟨W,hW,hrw,hww⟩:=aaV bP (.int .i64 x.kind) (.int .i64 x.aF) (.int .i64 0) (.slice A6' x.next.length c6') (.slice A9' x.weights.length c9') (.slice Dv x.pay.length agn)
 rw[← hW]
 clear hW
 have szw:=hww.size
 have l14:=bP.lt
 show Exit.then _ _ .normal _ _
 revert l14
 revert szw
 revert hww
 revert hrw
 revert W
 exact hq.out):p:=h ⟨k⟩
theorem ZN {p:Prop} (h:p:=by
 go_wp2
 go_ret
 exact⟨by rw[HE.out]; rfl,rfl⟩):p:=h
theorem ZQ {p q:Prop} (k:q) (h:Mhid q→p:=by
 intro hq
 have r0:=bP.cell (i:=0) rfl
 have f0:=bP.frozen 0
 have r1:=bP.cell (i:=1) rfl
 have f1:=bP.frozen 1
 have r2:=bP.cell (i:=2) rfl
 have f2:=bP.frozen 2
 have r3:=bP.cell (i:=3) rfl
 have f3:=bP.frozen 3
 have r4:=bP.cell (i:=4) rfl
 have f4:=bP.frozen 4
 have r5:=bP.cell (i:=5) rfl
 have f5:=bP.frozen 5
 refine ZA ?_
 revert f5
 revert r5
 revert f4
 revert r4
 revert f3
 revert r3
 revert f2
 revert r2
 revert f1
 revert r1
 revert f0
 revert r0
 exact hq.out):p:=h ⟨k⟩
theorem ZR {p:Prop} (h:p:=by
 replace x2:=ah x2 hb
 replace HA:=Ac (HA.out.below hb)
 refine Zd ?_
 clear hz hB hb
 intro hz hB
 dsimp only
 go_wp2_with fail
 refine(aaO _ (fun _=>True) _ _ x ((1:Int):Rat) (HA.out.mono (fun _ _ _=>trivial)) HB.out byOmega (by rw[show((1:Int):Rat)=1 from rfl,aaR]; omega)).mono ?_
 rintro e wn ⟨_,rfl,hb,rfl⟩
 rw[show jh x ((1:Int):Rat)=o from HO.out.symm]
 replace x0:=ah x0 hb
 replace x1:=ah x1 hb
 replace x2:=ah x2 hb
 replace HA:=Ac (HA.out.below hb)
 replace HB:=Ac (HB.out.below hb)
 refine Zd ?_
 clear hz hB hb
 intro hz hB
 dsimp only
 go_wp2
 go_ret
 exact⟨_,rfl,hB,by rw[HG.out]; rfl⟩):p:=h
theorem ZT {p:Prop} (h:p:=by
 refine⟨_,rfl,hB,?_⟩
 unfold RtV
 rw[HMM.out]
 obtain⟨_,_,hh,hn,hd⟩:=HX.out
 cases hh
 exact AL.make rfl (hn.keep (fun b hb _=>hb.1) (Below.same' hB _)) (hd.keep (fun b hb _=>hb.1) (Below.same' hB _))):p:=h
theorem ZU {p q:Prop} (k:q) (h:Mhid q→p:=by
 intro hq
 refine wp_region_held_drew (S:=fun w'=>w'.cell? ⟨b,o+k,none⟩=some (.slice (some ⟨b3,o3,none⟩) l.length cr)∧w'.cell? ⟨ob,0,none⟩=some (.bool (aG one).neg)∧w'.cell? ⟨ob,1,none⟩=some (.slice A1 (aG one).num.length c1)∧w'.cell? ⟨ob,2,none⟩=some (.slice B1 (aG one).den.length d1')∧w'.cell? ⟨b3,o3+j*3,none⟩=some (.bool false)∧w'.cell? ⟨b3,o3+j*3+1,none⟩=some (.slice A4 (aG x).num.length c4)∧w'.cell? ⟨b3,o3+j*3+2,none⟩=some (.slice A5 (aG x).den.length c5)) ak ⟨eu,p0,p1,p2,ex0,ex1,ex2⟩ (fun hHeld=>?_)
 have hb:Below wn.heap.size wn wn.drew:=aK (Below.refl _ wn) 1
 refine ZF ?_
 revert hb
 revert hHeld
 exact hq.out):p:=h ⟨k⟩
theorem ZW {p q:Prop} (k:q) (h:Mhid q→p:=by
 intro hq
 have sz3:=hb.size
 have hb63:=hb62.below hb hb62.lt
 have hz3:=hz2.below hb hz2.lt
 have hB3:=hB2.trans (hb.mono hB2.size)
 refine hK.out _ _ ⟨hb63.cell rfl,hb63.cell rfl,hb63.cell rfl,hb63.cell rfl,hb63.cell rfl⟩ (fun hHeld=>?_)
 refine Zc ?_
 revert hHeld
 revert hB3
 revert hz3
 revert hb63
 revert sz3
 exact hq.out):p:=h ⟨k⟩
theorem ZX {p q:Prop} (k:q) (h:Mhid q→p:=by
 intro hq
 have sz4:=hb.size
 have hb64:=hb63.below hb hb63.lt
 have hz4:=hz3.below hb hz3.lt
 have hB4:=hB3.trans (hb.mono hB3.size)
 refine hK.out _ _ ⟨hb64.cell rfl,hb64.cell rfl,hb64.cell rfl,hb64.cell rfl,hb64.cell rfl⟩ (fun hHeld=>?_)
 refine Zc ?_
 revert hHeld
 revert hB4
 revert hz4
 revert hb64
 revert sz4
 exact hq.out):p:=h ⟨k⟩
theorem ZY {p q:Prop} (k:q) (h:Mhid q→p:=by
 intro hq
 replace rz:=rz.below hb rz.lt
 refine Zd ?_
 intro hz hB
 dsimp only
 revert hB
 revert hz
 revert rz
 exact hq.out):p:=h ⟨k⟩
theorem Z4 {p:Prop} (h:p:=by
 refine ifA rfl ?_
 refine lD _ _ _ 26 rfl 3 (.int .i64 0) 8 Tryz.underlying26 Tryz.infoInt rfl g.nodes.length rfl rfl byOmega byOmega ?_
 intro W1 hb hz hr
 exact hK.out _ _ ⟨hb,⟨_,rfl,hS.1,hr⟩,fun _ b hb=>by cases hb; exact Nat.le_refl _⟩):p:=h
theorem Z5 {p q:Prop} (k:q) (h:Mhid q→p:=by
 intro hq
 have hHeld:(fun w':World=>w'.cell? ⟨w.heap.size,0,none⟩=some (.bool (aG x).neg)∧w'.cell? ⟨w.heap.size,1,none⟩=some (.slice A (aG x).num.length c)∧w'.cell? ⟨w.heap.size,2,none⟩=some (.slice B (aG x).den.length d)∧w'.cell? ⟨w.heap.size+1,0,none⟩=some (.bool (aG y).neg)∧w'.cell? ⟨w.heap.size+1,1,none⟩=some (.slice A' (aG y).num.length c')∧w'.cell? ⟨w.heap.size+1,2,none⟩=some (.slice B' (aG y).den.length d')) W.drew:=⟨x0,x1,x2,y0,y1,y2⟩
 refine ZB ?_
 have hb:Below W.heap.size W W.drew:=aK (Below.refl _ W) 1
 revert hb
 revert hHeld
 exact hq.out):p:=h ⟨k⟩
theorem Z7 {p:Prop} (h:p:=by
 refine Row.alloc ?_ _
 exact Row.ji ay rfl):p:=h
theorem Z8 {p:Prop} (h:p:=by
 go_in
 go_wp2
 go_quiet (fail)
 go_wp2
 go_ret
 exact⟨_,rfl,aK ((Below.refl _ _).alloc (Nat.le_refl _) _) _,by rw[HF.out]; rfl⟩):p:=h
theorem Ya {p q:Prop} (k:q) (h:Mhid q→p:=by
 intro hq
 have hB:Below w.heap.size w w1:=((Below.refl w.heap.size w).alloc (Nat.le_refl _) _).trans (hb1.mono ay)
 revert hB
 exact hq.out):p:=h ⟨k⟩
theorem Yb {p:Prop} (h:p:=by
 go_wp2_with fail
 refine(yC _ _ _ x HV.out byOmega).mono ?_
 rintro e wn ⟨va,rfl,hb,hu⟩
 have HA:=Ac hu
 clear hu
 replace x0:=ah x0 hb
 replace x1:=ah x1 hb
 replace x2:=ah x2 hb
 replace HV:=Ac (HV.out.below hb)
 refine Zd ?_
 clear hz hB hb
 intro hz hB
 clear HV
 dsimp only
 go_wp2_with fail
 refine(aaL _ 1 aA aA).mono ?_
 rintro e wn ⟨vb,rfl,hb,hu⟩
 have HB:=Ac (AL.mono (G:=fun _=>True) hu (fun _ _ _=>trivial))
 clear hu
 replace x0:=ah x0 hb
 replace x1:=ah x1 hb
 exact ZR):p:=h
theorem Yc {p q:Prop} (k:q) (h:Mhid q→p:=by
 intro hq
 refine Zj ?_
 intro HG HM HP HV
 replace HGP:=Ac (HGP.out.on (Below.same' hb _))
 replace HX:=Ac (Ah.on HX.out (Below.same' hb _))
 replace Di:=Ac (Ae.on Di.out (Below.same' hb _))
 replace HSR:=Ac (Ae.on HSR.out (Below.same' hb _))
 replace HI1:=Ac (Az.on HI1.out (Below.same' hb _))
 revert HI1
 revert HSR
 revert Di
 revert HX
 revert HGP
 revert HV
 revert HP
 revert HM
 revert HG
 exact hq.out):p:=h ⟨k⟩
theorem Yd {p q:Prop} (k:q) (h:Mhid q→p:=by
 intro hq
 obtain⟨wz,hW,hrw,hww⟩:=af7 rx (.int .i64 P1.au) (.slice An1 P1.nodes.length cn1) (.slice Ai1 names.length ci1)
 rw[← hW]
 clear hW
 replace x0:=bY x0 hww (show ¬ gb=gp by omega)
 replace x1:=bY x1 hww (show ¬ gb=gp by omega)
 replace x2:=bY x2 hww (show ¬ gb=gp by omega)
 replace e1:=bY e1 hww (show ¬ pb=gp by omega)
 replace HGP:=Ac (AB.keep (G:=(fun _=>True)) (HGP.out.on (hww.same fun b hb e=>hb e)) (fun _ _ _=>trivial) (Same.refl _ _))
 replace HX:=Ac (Ah.keep (G:=(fun _=>True)) (HX.out.on (hww.same fun b hb e=>hb e)) (fun _ _ _=>trivial) (Same.refl _ _))
 have HRW:=Ac hrw
 have HBW:=Ac (Wrote.below hbw hww (fun b e=>by have e':b=gp:=e; omega) hbw.size)
 clear hrw hww
 refine hK.out _ _ ⟨x0,x1,x2,e1⟩ (fun hHeld=>?_)
 refine Zc ?_
 revert hHeld
 revert HBW
 revert HRW
 revert HX
 revert HGP
 revert e1
 revert x2
 revert x1
 revert x0
 revert wz
 exact hq.out):p:=h ⟨k⟩
theorem Yg {p q:Prop} (k:q) (h:Mhid q→p:=by
 intro hq
 obtain⟨W,hW,hr,hB,hz'⟩:=aP w 83 #[.bool false,.slice none 0 0,.slice none 0 0]
 rw[← hW]
 clear hW
 have hz:w.heap.size+1≤W.heap.size:=byOmega
 clear hz'
 revert hz
 revert hB
 revert hr
 revert W
 exact hq.out):p:=h ⟨k⟩
theorem Yh {p q:Prop} (k:q) (h:Mhid q→p:=by
 intro hq
 rw[← hW]
 obtain⟨W1,hW,hbt,vI,ahn⟩:=aT W 243 #[.nilFunc,.func (.func 199) #[] #[],.func (.func 200) #[] #[],.func (.func 201) #[] #[]]
 rw[← hW]
 clear hW
 have fQ:=hbx.below vI byOmega
 have hB1:Below w.heap.size w W1:=hWb.trans (vI.mono byOmega)
 clear vI
 rw[← hWz] at hbt
 have z0:=hbt.lt
 clear ahn
 revert z0
 revert hbt
 revert hB1
 revert fQ
 revert W1
 exact hq.out):p:=h ⟨k⟩
theorem Yi {p q:Prop} (k:q) (h:Mhid q→p:=by
 intro hq
 obtain⟨W,hW,hr,hr2,hB,hz⟩:=alloc2 w 83 #[.bool false,.slice A (dig x.num.natAbs).length c,.slice B (aG x).den.length d] 83 #[.bool false,.slice A (dig x.num.natAbs).length c,.slice B (aG x).den.length d]
 rw[← hW]
 clear hW
 have t0:=hr2.cell (i:=0) rfl
 have t1:=hr2.cell (i:=1) rfl
 have t2:=hr2.cell (i:=2) rfl
 revert t2
 revert t1
 revert t0
 revert hz
 revert hB
 revert hr2
 revert hr
 revert W
 exact hq.out):p:=h ⟨k⟩
theorem Yl {p q:Prop} (k:q) (h:Mhid q→p:=by
 intro hq
 have hsame:Same (Apart F v) w w':=⟨byOmega,fun b hb hl=>(h2.block b aB (fun e=>hb.2 e.symm)).trans (Below.heap_alloc _ _ _ hl)⟩
 have e1:(L ++ [q]).length=L.length+1:=ay
 have e2:(L ++ [q]).flatMap K.cells=L.flatMap K.cells++K.cells q:=by simp[List.flatMap_append]
 have afC:Same (fun b=>v.ownBlock≠some b) w w':=⟨byOmega,fun b hb hl=>(h2.block b aB (fun e=>hb e.symm)).trans (Below.heap_alloc _ _ _ hl)⟩
 refine h g cap w' ⟨by rw[e1,e2]; exact h1,fun p hp=>?_⟩ ((hbel.alloc byOmega _).grown h2 aB (fun k hk=>(hown.row.lt k hk).1)) byOmega afC
 revert hp
 revert p
 revert afC
 revert e2
 revert e1
 revert hsame
 exact hq.out):p:=h ⟨k⟩
theorem Yo {p q:Prop} (k:q) (h:Mhid q→p:=by
 intro hq
 replace x0:=ah x0 hb
 replace x1:=ah x1 hb
 replace x2:=ah x2 hb
 replace e1:=ah e1 hb
 refine Zj ?_
 intro HG HM HP HV
 refine Zf ?_
 intro HT hB
 replace hbel:=hbel.trans (hb.mono hbel.size)
 revert hbel
 revert hB
 revert HT
 revert HV
 revert HP
 revert HM
 revert HG
 revert e1
 revert x2
 revert x1
 revert x0
 exact hq.out):p:=h ⟨k⟩
theorem Yp {p q:Prop} (k:q) (h:Mhid q→p:=by
 intro hq
 replace HA:=Ac (HA.out.on (Below.same' hb _))
 replace HM:=Ac (Ah.on HM.out (Below.same' hb _))
 replace HW:=Ac (HW.out.on (Below.same' hb _))
 refine Zf ?_
 revert HW
 revert HM
 revert HA
 exact hq.out):p:=h ⟨k⟩
theorem Yq {p q:Prop} (k:q) (h:Mhid q→p:=by
 intro hq
 refine ZB ?_
 have hb:Below wr.heap.size wr wr.drew:=aK (Below.refl _ wr) 1
 revert hb
 exact hq.out):p:=h ⟨k⟩
theorem Yt {p q:Prop} (k:q) (h:Mhid q→p:=by
 intro hq
 have ahJ:=hok.1 i hi'
 obtain⟨x,hx⟩:∃ x,ops[j]? = some x:=⟨ops[j]'(hlt j ay),by simp[hlt j ay]⟩
 obtain⟨y,hy⟩:∃ y,ops[i]? = some y:=⟨ops[i]'(hlt i hi),by simp[hlt i hi]⟩
 obtain⟨f1,f2,f3⟩:=aaM hx hy ahJ
 have f3':=f3 (pq j ay)
 have ex:dY ops j=x.dst:=by simp[dY,hx]
 have ey:dY ops i=y.dst:=by simp[dY,hy]
 revert ey
 revert ex
 revert f3'
 revert f3
 revert f2
 revert f1
 revert hy
 revert y
 revert hx
 revert x
 revert ahJ
 exact hq.out):p:=h ⟨k⟩
theorem Yx {p q:Prop} (k:q) (h:Mhid q→p:=by
 intro hq
 refine Zc ?_
 refine ZA ?_
 have ff:=HST.out.row.frozen i'
 obtain⟨Wz,hWz⟩:=named (wq.setCell ⟨bo,i',none⟩ (.slice (some ⟨g',0,none⟩) (L.length+1) cap))
 have hst2:=HST.out.set (by rintro⟨h | h,_⟩ <;> omega) (Nat.le_refl _) (Nat.lt_succ_self i') (.slice (some ⟨g',0,none⟩) (L.length+1) cap)
 have hown2:=HO.out.same (aa4 (b:=bo) (by rintro((h | h) | h) <;> omega) i' (.slice (some ⟨g',0,none⟩) (L.length+1) cap))
 rw[← hWz] at hst2 hown2
 have C9:=Ac hst2
 have HO2:=Ac hown2
 have rx2:=sto hWz rx aB
 have rn2:=sto hWz rn aB
 have HB2:=Ac (stb hWz hB aB)
 have k7:lim≤Wz.heap.size:=by rw[hWz];simp;omega
 revert k7
 revert HB2
 revert rn2
 revert rx2
 revert HO2
 revert C9
 revert hown2
 revert hst2
 revert hWz
 revert Wz
 revert ff
 exact hq.out):p:=h ⟨k⟩
theorem YF {p q:Prop} (k:q) (h:Mhid q→p:=by
 intro hq
 refine wpAnyH_done ak ?_ _
 exact hq.out):p:=h ⟨k⟩
theorem YH {p:Prop} (h:p:=by
 have h0:Wrote (fun k=>k=b) w w:=Wrote.refl _ _
 exact(((((h0.setCell (p:=⟨b,0,none⟩) (.inl rfl) v0).setCell (p:=⟨b,1,none⟩) (.inl rfl) v1).setCell (p:=⟨b,2,none⟩) (.inl rfl) v2).setCell (p:=⟨b,3,none⟩) (.inl rfl) v3).setCell (p:=⟨b,4,none⟩) (.inl rfl) v4).setCell (p:=⟨b,5,none⟩) (.inl rfl) v5):p:=h
theorem YJ {p q:Prop} (k:q) (h:Mhid q→p:=by
 intro hq
 have sz2:=hb.size
 have hb62:=hb61.below hb hb61.lt
 have hz2:=hz1.below hb hz1.lt
 have hB2:=hB1.trans (hb.mono hB1.size)
 refine hK.out _ _ ⟨hb62.cell rfl,hb62.cell rfl,hb62.cell rfl,hb62.cell rfl,hb62.cell rfl⟩ (fun hHeld=>?_)
 refine Zc ?_
 revert hHeld
 revert hB2
 revert hz2
 revert hb62
 revert sz2
 exact hq.out):p:=h ⟨k⟩
theorem YL {p q:Prop} (k:q) (h:Mhid q→p:=by
 intro hq
 obtain⟨W9,hW9,hm9,hw9⟩:=HM2.out.setNode rfl hi ⟨⟨3,0,0,[],[],pl⟩,.slice none 0 0,.slice none 0 0,.slice (some ⟨gu,0,none⟩) k cu⟩ ⟨ae0,ae0,HO.out.ints fun b hb=>.inr ⟨by have:=(HO.out.row.lt b hb).1; omega,(HO.out.row.lt b hb).2⟩⟩
 have hsz:W9.heap.size=wn.heap.size:=by rw[hW9];simp
 have H9:=Ac hW9
 have HM9:=Ac hm9
 have HW9:=Ac (HW.out.step hw9 fun j _ e=>.inr (.inr (.inr (.inl (by rw[e]; rfl)))))
 clear hW9 hm9 hw9
 revert HW9
 revert HM9
 revert H9
 revert hsz
 revert W9
 exact hq.out):p:=h ⟨k⟩
theorem YM {p q:Prop} (k:q) (h:Mhid q→p:=by
 intro hq
 replace hr:=hr.below hb hr.lt
 refine Zd ?_
 intro hz hB
 revert hB
 revert hz
 revert hr
 exact hq.out):p:=h ⟨k⟩
theorem YN {p q:Prop} (k:q) (h:Mhid q→p:=by
 intro hq
 replace hzr:=Nat.le_trans hzr hb.size
 replace hbel:=hbel.trans (hb.mono hbel.size)
 revert hbel
 revert hzr
 exact hq.out):p:=h ⟨k⟩
theorem YO {p q:Prop} (k:q) (h:Mhid q→p:=by
 intro hq
 have wr0:IntKind.i64.wrap (nx:Int)=(nx:Int):=IntWalk.i64_in _ byOmega
 have wr2:IntKind.i64.wrap ((nx:Int) - 1)=(nx:Int) - 1:=IntWalk.i64_in _ byOmega
 refine wp_region_held_drew (S:=fun w'=>w'.cell? ⟨p,1,none⟩=some (.slice (some ⟨b,o,none⟩) g.nodes.length c)∧w'.cell? ⟨p,5,none⟩=some (.slice (some ⟨bl,0,none⟩) g.nodes.length g.nodes.length)) ak ⟨x1,x5⟩ (fun hHeld=>?_)
 revert hHeld
 revert wr2
 revert wr0
 exact hq.out):p:=h ⟨k⟩
theorem YP {p q:Prop} (k:q) (h:Mhid q→p:=by
 intro hq
 have hw:Wrote (fun b=>v.ownBlock=some b) w w':=⟨h2.os,h2.tape,h2.output,byOmega,fun b hl hb=>(h2.block b aB (fun e=>hb e.symm)).trans (Below.heap_alloc _ _ _ hl)⟩
 have e1:(L ++ [q]).length=L.length+1:=ay
 have e2:(L ++ [q]).flatMap K.cells=L.flatMap K.cells++K.cells q:=by simp[List.flatMap_append]
 refine h g cap w' ⟨by rw[e1,e2]; exact h1,fun p hp=>?_⟩ hw (h3.imp id fun e=>by omega) byOmega
 revert hp
 revert p
 revert e2
 revert e1
 revert hw
 exact hq.out):p:=h ⟨k⟩
theorem YQ {p:Prop} (h:p:=by
 exact hK.out _ _ ⟨Below.refl _ _,rfl,fun h=>(by simp[fB] at h)⟩):p:=h
theorem YU {p:Prop} (h:p:=by
 have hrun:=run_make_row' (P:=P) t e z bytes ht hinfo hz1 .i64 .i64 n hbytes byOmega w
 unfold Oper.wp
 simp[execOp,hop,hl,hc,hrun,Result.andThen]
 have hbel:Below w.heap.size w (w.alloc (.cells (madeCells #[z] n) e)):=(Below.refl _ _).alloc (Nat.le_refl _) _
 exact hK _ hbel ay (Row.made w z n e)):p:=h
theorem YV {p q:Prop} (k:q) (h:Mhid q→p:=by
 intro hq
 obtain⟨W,hW,hbx,hWb,hWz⟩:=aT w1 98 #[.int .i64 g.au,.slice An g.nodes.length cn,.slice Ax g.infos.length cx,.slice Ap (aQ g.nodes).1.length cp,.slice Al (aQ g.nodes).2.length cl,.slice As (aW g).length cs]
 rw[← hW]
 revert hWz
 revert hWb
 revert hbx
 revert hW
 revert W
 exact hq.out):p:=h ⟨k⟩
theorem YX {p q:Prop} (k:q) (h:Mhid q→p:=by
 intro hq
 show wpList _ _ _ _ _ _
 exact hq.out):p:=h ⟨k⟩
theorem YZ {p:Prop} (h:p:=by
 go_wp2
 go_quiet (fail)
 go_wp2
 go_ret
 exact⟨_,rfl,aK (hbel.alloc hbel.size _) _,by rw[HF.out]; rfl⟩):p:=h
theorem Y1 {p q:Prop} (k:q) (h:Mhid q→p:=by
 intro hq
 refine⟨.slice A' (g.nodes.length - nx) (c - nx),by rw[HF.out]; simp,by rw[HF.out]; intro _; exact⟨A',ay,by simpa using hA'⟩,?_,(hgr.setCell (.inl (.inr (.inr rfl))) _).drew⟩
 rw[HF.out]
 have h:=HWA.out
 refine⟨(h.head.other d3 _).drew,(h.rp.other d5 _).drew,(h.rd.other d6 _).drew,?_⟩
 have:=(h.rl.set a (.int .i64 ((nx:Int) - 1))).drew
 revert this
 revert h
 exact hq.out):p:=h ⟨k⟩
theorem Y3 {p q:Prop} (k:q) (h:Mhid q→p:=by
 intro hq
 have hlen:=oG (N:=g.nodes.length) g.nodes (g.nodes.length+1) 0 (-1) 0 ⟨List.replicate g.nodes.length 0,List.replicate g.nodes.length 0,List.replicate g.nodes.length 0⟩ ⟨ay,ay,ay⟩
 have hT:walkT g=dB g.nodes (g.nodes.length+1) 0 (-1) 0 ⟨List.replicate g.nodes.length 0,List.replicate g.nodes.length 0,List.replicate g.nodes.length 0⟩:=rfl
 revert hT
 revert hlen
 exact hq.out):p:=h ⟨k⟩
theorem Y4 {p q:Prop} (k:q) (h:Mhid q→p:=by
 intro hq
 replace rz:=rz.below hb rz.lt
 refine Zh ?_
 intro hz hB hHeld
 revert hHeld
 revert hB
 revert hz
 revert rz
 exact hq.out):p:=h ⟨k⟩
theorem Y5 {p q:Prop} (k:q) (h:Mhid q→p:=by
 intro hq
 show Exit.then _ _ .normal _ _
 exact hq.out):p:=h ⟨k⟩
theorem Y7 {p:Prop} (h:p:=by
 exact hK.out _ _ ⟨hb,⟨_,rfl,hS.2.2.2.1,hr⟩,fun _ b hb=>by cases hb; exact Nat.le_refl _⟩):p:=h
theorem zab {p q:Prop} (k:q) (h:Mhid q→p:=by
 intro hq
 replace HVP:=Ac (HVP.out.below hb)
 replace HVQ:=Ac (HVQ.out.below hb)
 replace HVD:=Ac (HVD.out.below hb)
 revert HVD
 revert HVQ
 revert HVP
 exact hq.out):p:=h ⟨k⟩
theorem zac {p q:Prop} (k:q) (h:Mhid q→p:=by
 intro hq
 refine⟨_,rfl,hbel,?_⟩
 have h5:=HO.out.aaC (G:=fun b=>w.heap.size≤b) (fun b hb=>hb) (fun b hb=>hb)
 rw[HL.out,List.take_of_length_le byOmega] at h5
 unfold Bo
 revert h5
 exact hq.out):p:=h ⟨k⟩
theorem zaf {p q:Prop} (k:q) (h:Mhid q→p:=by
 intro hq
 have HNX:=Ac (Aj.mono (n:=x.num.natAbs) (G:=(Ext (Old F w.heap.size) (w.heap.size+3))) hn (fun b hb _=>.inl hb))
 revert HNX
 exact hq.out):p:=h ⟨k⟩
theorem zah {p q:Prop} (k:q) (h:Mhid q→p:=by
 intro hq
 have HNY:=Ac (Aj.mono (n:=y.num.natAbs) (G:=(Ext (Old F w.heap.size) (w.heap.size+3))) hn (fun b hb _=>.inl hb))
 revert HNY
 exact hq.out):p:=h ⟨k⟩
theorem zaj {p q:Prop} (k:q) (h:Mhid q→p:=by
 intro hq
 obtain⟨W,hW,hbx,hWb,hWz⟩:=aT w 98 #[.int .i64 g.au,.slice A g.nodes.length c,.slice Ai g.infos.length ci,.slice Ap par.length cp,.slice Al last.length cl,.slice As sets.length cs]
 rw[← hW]
 revert hWz
 revert hWb
 revert hbx
 revert hW
 revert W
 exact hq.out):p:=h ⟨k⟩
theorem zak {p:Prop} (h:p:=by
 exact⟨_,rfl,(Below.refl _ _).alloc (Nat.le_refl _) _,.pointer none,by rw[HF.out]; rfl,by rw[HF.out]; intro h; simp at h⟩):p:=h
theorem zal {p q:Prop} (k:q) (h:Mhid q→p:=by
 intro hq
 have hu2:RtV wn (Ext (Old F w.heap.size) (w.heap.size+3)) vm (x+y):=by rw[HJ.out] at hu;exact hu.mono (fun b hb _=>hb.elim id fun h=>.inr byOmega)
 have HM:=Ac hu2
 revert HM
 revert hu2
 exact hq.out):p:=h ⟨k⟩
theorem zam {p:Prop} (h:p:=by
 have HF:=Ac (show jr inn (q:Int)=y by unfold jr; simp[List.getD_eq_getElem?_getD,hy])
 clear hr hxx hy hx
 show Calls Tryz.prog _ #[.int .i64 q,.pointer (some ⟨bc,0,none⟩)] w _
 go_in
 go_wp2
 go_ret
 exact⟨by rw[HF.out]; rfl,0,rfl⟩):p:=h
theorem zan {p:Prop} (h:p:=by
 have d0:((l1.length:Int) != (l2.length:Int))=true:=aB
 have HF:=Ac (show decide (l1=l2)=false by simp only[decide_eq_false_iff_not]; rintro rfl; exact q0 rfl)
 go_in
 go_wp2
 go_ret
 exact⟨_,rfl,Below.refl _ _,by rw[HF.out]; rfl⟩):p:=h
theorem zao {p q:Prop} (k:q) (h:Mhid q→p:=by
 intro hq
 replace HM:=Ac (HM.out.below hb)
 replace HN:=Ac (Ak.keep HN.out (fun _ h _=>h) (Below.same' hb _))
 replace HD:=Ac (Ak.keep HD.out (fun _ h _=>h) (Below.same' hb _))
 replace hbel:=hbel.trans (hb.mono hbel.size)
 revert hbel
 revert HD
 revert HN
 revert HM
 exact hq.out):p:=h ⟨k⟩
theorem zas {p q:Prop} (k:q) (h:Mhid q→p:=by
 intro hq
 replace x0:=ah x0 hb
 replace x1:=ah x1 hb
 replace x2:=ah x2 hb
 revert x2
 revert x1
 revert x0
 exact hq.out):p:=h ⟨k⟩
theorem zat {p:Prop} (h:p:=by
 go_wp2
 go_ret
 exact⟨by first | rfl | (rw[HF.out]; rfl),rfl⟩):p:=h
theorem zav {p q:Prop} (k:q) (h:Mhid q→p:=by
 intro hq
 obtain⟨W,hW⟩:∃ W:World,W=wr.alloc (.cells #[.int .i64 n.kind,.int .i64 n.aF,.int .i64 n.info,.slice A3 n.next.length c3,.slice A4 n.weights.length c4,.slice A5 n.pay.length c5] 61):=⟨_,rfl⟩
 rw[← hW]
 have cx:W.cell? ⟨wr.heap.size,2,none⟩=some (.int .i64 n.info):=by rw[hW];simp
 revert cx
 revert hW
 revert W
 exact hq.out):p:=h ⟨k⟩
theorem zay {p:Prop} (h:p:=by
 go_wp2
 go_ret
 exact⟨_,rfl,hB.trans (hbel.mono hB.size),by rw[HE.out]; rfl⟩):p:=h
theorem zaB {p:Prop} (h:p:=by
 have HF:=Ac (show dU au ni x=3 by unfold dU; rw[if_pos byOmega])
 exact Zo):p:=h
theorem zaD {p q:Prop} (k:q) (h:Mhid q→p:=by
 intro hq
 refine(AllReadyH.cons (o:=_) rfl (fun K hK=>?_) AllReadyH.nil)
 revert hK
 revert K
 exact hq.out):p:=h ⟨k⟩
theorem zaG {p:Prop} (h:p:=by
 have t3:((den.length:Int)==0)=false:=beq_false_of_ne byOmega
 have HE:=Ac (show dM num den=0 by rw[HP.out,if_neg (by simpa using h1),if_neg (by simpa using h2),if_neg h3])
 clear h1 h2 h3
 exact ZN):p:=h
theorem zaH {p q:Prop} (k:q) (h:Mhid q→p:=by
 intro hq
 unfold RtV
 rw[HM.out]
 have hg0:0 < Nat.gcd n b:=Nat.gcd_pos_of_pos_right _ byOmega
 have HGN:=Ac (Nat.gcd_dvd_left n b)
 have HG:=Ac (show ∀ w,Calls Tryz.prog 143 #[.int .i64 (n:Int),.int .i64 (b:Int)] w (Ret w fun v _=>v = .int .i64 (Nat.gcd n b:Int)) from fun w=>agZ w n b h1 h2)
 revert HG
 revert HGN
 revert hg0
 exact hq.out):p:=h ⟨k⟩
theorem zaI {p q:Prop} (k:q) (h:Mhid q→p:=by
 intro hq
 replace HmK:=Ac (Ae.on HmK.out (Below.same' hb _))
 replace U4:=Ac (Az.on U4.out (Below.same' hb _))
 revert U4
 revert HmK
 exact hq.out):p:=h ⟨k⟩
theorem zaK {p q:Prop} (k:q) (h:Mhid q→p:=by
 intro hq
 have HN:=Ac (hu.mono (G:=(fun b=>w.heap.size+1≤b)) (fun b hb _=>by omega))
 refine YM ?_
 intro hr hz hB
 dsimp only
 revert hB
 revert hz
 revert hr
 revert HN
 exact hq.out):p:=h ⟨k⟩
theorem zaM {p q:Prop} (k:q) (h:Mhid q→p:=by
 intro hq
 have v0:=hbx.cell (i:=0) rfl
 have v1:=hbx.cell (i:=1) rfl
 have v2:=hbx.cell (i:=2) rfl
 have v3:=hbx.cell (i:=3) rfl
 have v4:=hbx.cell (i:=4) rfl
 have v5:=hbx.cell (i:=5) rfl
 revert v5
 revert v4
 revert v3
 revert v2
 revert v1
 revert v0
 exact hq.out):p:=h ⟨k⟩
theorem zaN {p q:Prop} (k:q) (h:Mhid q→p:=by
 intro hq
 have e1:(dO (r:Int) (iP names names.length) x).next.length=x.next.length:=List.length_map _
 revert e1
 exact hq.out):p:=h ⟨k⟩
theorem zaP {p:Prop} (h:p:=by
 have t3:((den.length:Int)==0)=true:=by rw[h3];rfl
 have HE:=Ac (show dM num den=6 by rw[HP.out,if_neg (by simpa using h1),if_neg (by simpa using h2),if_pos h3])
 clear h1 h2 h3
 exact ZN):p:=h
theorem zaR {p:Prop} (h:p:=by
 go_in
 go_wp2
 go_ret
 exact⟨_,rfl,(Below.refl _ _).alloc (Nat.le_refl _) _,by rw[HE.out]; rfl⟩):p:=h
theorem zaS {p q:Prop} (k:q) (h:Mhid q→p:=by
 intro hq
 obtain⟨W,hW,rx,hB,hz⟩:=aP w 25 #[.int .i64 g.au,.slice A g.nodes.length c,.slice Ai g.infos.length ci]
 rw[← hW]
 revert hz
 revert hB
 revert rx
 revert hW
 revert W
 exact hq.out):p:=h ⟨k⟩
theorem zaU {p:Prop} (h:p:=by
 exact⟨rfl,⟨⟨3,0,0,[],[],pl⟩,.slice none 0 0,.slice none 0 0,.slice (some ⟨gu,0,none⟩) k cu⟩,by rw[HE.out.2,hpy],by rw[HE.out.1,hpy,hsz]; exact HM9.out,HW9.out⟩):p:=h
theorem zaV {p q:Prop} (k:q) (h:Mhid q→p:=by
 intro hq
 obtain⟨W,hW,rx,ry,rz,hB,hz⟩:=qR w 83 #[.bool (aG x).neg,.slice A (aG x).num.length c,.slice B (aG x).den.length d] 83 #[.bool (aG y).neg,.slice A' (aG y).num.length c',.slice B' (aG y).den.length d'] 83 #[.bool false,.slice none 0 0,.slice none 0 0]
 refine Zp ?_
 clear hW rx ry
 revert hz
 revert hB
 revert rz
 revert W
 exact hq.out):p:=h ⟨k⟩
theorem zaX {p q:Prop} (k:q) (h:Mhid q→p:=by
 intro hq
 refine hK.out _ _ ⟨(HWA.out.head.other (a:=⟨bl,a,none⟩) d3 _).drew.cell rfl,(HWA.out.head.other (a:=⟨bl,a,none⟩) d3 _).drew.cell rfl⟩ (fun hHeld=>?_)
 refine Zc ?_
 refine YF ?_
 clear hHeld
 exact hq.out):p:=h ⟨k⟩
theorem zaZ {p q:Prop} (k:q) (h:Mhid q→p:=by
 intro hq
 have:=(Row.new (w.alloc (.cells #[.int .i64 g.au,.slice A g.nodes.length c,.slice Ai g.infos.length ci] 25)) 98 #[.int .i64 0,.slice none 0 0,.slice none 0 0,.slice none 0 0,.slice none 0 0,.slice none 0 0]).below hb1 ay
 revert this
 exact hq.out):p:=h ⟨k⟩
theorem za1 {p q:Prop} (k:q) (h:Mhid q→p:=by
 intro hq
 rw[List.length_map]
 refine Nat.le_trans (List.length_filter_le _ _) ?_
 exact hq.out):p:=h ⟨k⟩
theorem za3 {p q:Prop} (k:q) (h:Mhid q→p:=by
 intro hq
 replace HST:=Ac (HST.out.below hb)
 replace HO:=Ac (HO.out.below hb)
 replace rx:=rx.below hb rx.lt
 replace rn:=rn.below hb rn.lt
 replace k6:=Nat.le_trans k6 hb.size
 replace hB:=hB.trans (hb.mono hB.size)
 revert hB
 revert k6
 revert rn
 revert rx
 revert HO
 revert HST
 exact hq.out):p:=h ⟨k⟩
theorem za5 {p:Prop} (h:p:=by
 have t1:(pe != 0)=true:=by simp[h1]
 have HE:=Ac (show eY ⟨neg,num,den⟩=pe by rw[HR.out,if_pos h1])
 clear h1
 go_wp2
 go_ret
 exact⟨_,rfl,hB,by rw[HE.out]; rfl⟩):p:=h
theorem za6 {p:Prop} (h:p:=by
 exact⟨_,rfl,hwz _ _ (Nat.le_refl _) hB,_,_,rfl,(HN.out.on (hkz _ byOmega)).mono (fun b hb _=>by omega),(HD.out.on (hkz _ byOmega)).mono (fun b hb _=>by omega)⟩):p:=h
theorem za7 {p:Prop} (h:p:=by
 obtain⟨W1,hw,hr,hb,hz⟩:=aT wk 70 #[.slice none 0 0]
 rw[← hw]
 exact hK.out _ _ ⟨hb,⟨_,_,rfl,hS.2.2.1,hr⟩,fun _ b hb=>by cases hb; exact Nat.le_refl _⟩):p:=h
theorem za8 {p q:Prop} (k:q) (h:Mhid q→p:=by
 intro hq
 replace HW:=Ac (HW.out.trans (Below.wrote hb _))
 replace k6:=Nat.le_trans k6 hb.size
 revert k6
 revert HW
 exact hq.out):p:=h ⟨k⟩
theorem zba {p:Prop} (h:p:=by
 refine ifA rfl ?_
 refine lD _ _ _ 26 rfl 3 (.int .i64 0) 8 Tryz.underlying26 Tryz.infoInt rfl g.nodes.length rfl rfl byOmega byOmega ?_
 intro W1 hb hz hr
 exact Y7):p:=h
theorem zbc {p q:Prop} (k:q) (h:Mhid q→p:=by
 intro hq
 have HF:=Ac (show bZ x=3 by unfold bZ; rw[if_pos byOmega])
 revert HF
 exact hq.out):p:=h ⟨k⟩
theorem zbd {p q:Prop} (k:q) (h:Mhid q→p:=by
 intro hq
 rw[← hW]
 refine Ze ?_
 refine Ze ?_
 exact hq.out):p:=h ⟨k⟩
theorem zbf {p:Prop} (h:p:=by
 rw[List.erase_cons_tail (by simpa using hji)]
 simp only[jL,Bool.and_eq_true,List.all_eq_true]
 exact⟨fun k hk=>hok.1 k (List.mem_of_mem_erase hk),ih hok.2⟩):p:=h
theorem zbg {p q:Prop} (k:q) (h:Mhid q→p:=by
 intro hq
 replace x4:=ah x4 hb
 replace ew:=ah ew hb
 replace H4:=Ac (H4.out.on (Below.same' hb F))
 replace rz:=rz.below hb rz.lt
 replace hzz:=Nat.le_trans hzz hb.size
 replace hB:=hB.trans (hb.mono hB.size)
 revert hB
 revert hzz
 revert rz
 revert H4
 revert ew
 revert x4
 exact hq.out):p:=h ⟨k⟩
theorem zbh {p q:Prop} (k:q) (h:Mhid q→p:=by
 intro hq
 have HHq:=Ac (HH.out.below hbq)
 have fZ:=hbel.trans (hbq.mono hbel.size)
 have hgl:=HH.out.row.lt
 have HU:=Ac (show Az wq (fun b=>w.heap.size≤b∧b≠ob) vq (xs.map aG) from Az.keep hu (fun b hb _=>⟨by have:=hB.size; omega,byOmega⟩) (Same.refl _ _))
 revert HU
 revert hgl
 revert fZ
 revert HHq
 exact hq.out):p:=h ⟨k⟩
theorem zbk {p q:Prop} (k:q) (h:Mhid q→p:=by
 intro hq
 show Exit.inBlock _ _ .normal _ _
 exact hq.out):p:=h ⟨k⟩
theorem zbo {p:Prop} (h:p:=by
 have HF:=Ac (show bF g=2 by unfold bF; rw[if_pos (by unfold iq; omega)])
 exact Zo):p:=h
theorem zbq {p:Prop} (h:p:=by
 have HE:=Ac (show dG l=4 by unfold dG; rw[if_pos h1])
 have d1:decide ((1024:Int) < (l.length:Int))=true:=decide_eq_true byOmega
 clear h1
 go_in
 exact ZN):p:=h
theorem zbr {p:Prop} (h:p:=by
 go_wp2
 refine bodyPost_ret (results_none rfl _ _ _) rfl ?_
 exact⟨rfl,_,_,Lv,rfl,rfl,by first | exact HM.out | (rw[e]; exact HM.out),Wrote.refl _ _⟩):p:=h
theorem zbs {p:Prop} (h:p:=by
 refine Row.alloc ?_ _
 exact Z7):p:=h
theorem zbt {p q:Prop} (k:q) (h:Mhid q→p:=by
 intro hq
 have y0:=HHq.out.cell HP0.out
 have g0:=HHq.out.row.frozen k
 have HW2:=Ac (HHq.out.set (k:=k) (q:=(.slice Aq xs.length cq,xs.map aG)) (by rw[HLL.out]; exact hkm) HU.out)
 have HBZ:=Ac (fZ.setCell (p:=⟨ob,k,none⟩) hob3 (.slice Aq xs.length cq))
 revert HBZ
 revert HW2
 revert g0
 revert y0
 exact hq.out):p:=h ⟨k⟩
theorem zbu {p:Prop} (h:p:=by
 dsimp only
 go_wp2_with fail
 refine(aen w).mono ?_
 rintro e w1 ⟨v,rfl,hb1,hv⟩
 have HV:=Ac hv
 clear hv
 go_wp2
 go_ret
 exact⟨_,rfl,hb1,HV.out⟩):p:=h
theorem zbw {p q:Prop} (k:q) (h:Mhid q→p:=by
 intro hq
 have HR:=Ac (show eY r=if dM r.num r.den≠0 then dM r.num r.den else if (r.num.length=0∧r.neg=true)∨Nat.gcd (aH r.num) (aH r.den)≠1 then 3 else 0 from rfl)
 have HU:=Ac hu
 have HK:=Ac (fun h=>sN (num:=r.num) (den:=r.den) h)
 revert HK
 revert HU
 revert HR
 exact hq.out):p:=h ⟨k⟩
theorem zbx {p q:Prop} (k:q) (h:Mhid q→p:=by
 intro hq
 obtain⟨Wz,hWz,hrz,hwz,hkz⟩:=dJ rz (.bool (aG (x+y)).neg) (.slice Am (aG (x+y)).num.length cm) (.slice Bm (aG (x+y)).den.length dm)
 refine Zn ?_
 clear hWz
 revert hkz
 revert hwz
 revert hrz
 revert Wz
 exact hq.out):p:=h ⟨k⟩
theorem zbz {p q:Prop} (k:q) (h:Mhid q→p:=by
 intro hq
 have HD:=Ac (hu.mono (G:=(fun b=>w.heap.size+1≤b)) (fun b hb _=>by omega))
 replace HN:=Ac (HN.out.below hb)
 refine YM ?_
 revert HN
 revert HD
 exact hq.out):p:=h ⟨k⟩
theorem zbB {p:Prop} (h:p:=by
 have t2:(e2 != 0)=true:=by simp[h2]
 have HE:=Ac (show dM num den=e2 by rw[HP.out,if_neg (by simpa using h1),if_pos h2])
 clear h1 h2
 exact ZN):p:=h
theorem zbC {p q:Prop} (k:q) (h:Mhid q→p:=by
 intro hq
 have t1:(pe != 0)=false:=by rw[h1];rfl
 have hk:=HK.out h1
 have hnn:Aj W F (.slice A num.length c) (aH num):=by unfold Aj;rw[← hk.1];exact HN.out
 have hdd:Aj W F (.slice B den.length d) (aH den):=by unfold Aj;rw[← hk.2.1];exact HD.out
 revert hdd
 revert hnn
 revert hk
 revert t1
 exact hq.out):p:=h ⟨k⟩
theorem zbD {p q:Prop} (k:q) (h:Mhid q→p:=by
 intro hq
 rw[Array.getElem?_setIfInBounds,Array.getElem?_push,Array.getElem?_push,Array.getElem?_setIfInBounds]
 simp only[Array.size_push,Array.size_setIfInBounds]
 exact hq.out):p:=h ⟨k⟩
theorem zbE {p q:Prop} (k:q) (h:Mhid q→p:=by
 intro hq
 try simp only[Act.put,List.setIfInBounds_toArray,List.set_cons_zero,List.set_cons_succ]
 exact hq.out):p:=h ⟨k⟩
theorem zbF {p:Prop} (h:p:=by
 refine⟨k+1,byOmega,by go_num,?_,hbel.drew.trans (hb.mono hbel.size)⟩
 have e2:=HY.out
 rw[← HEQ.out] at e2
 exact je HX.out e2 HP.out):p:=h
theorem zbG {p q:Prop} (k:q) (h:Mhid q→p:=by
 intro hq
 have x0:=hbx2.cell (i:=0) rfl
 have x1:=hbx2.cell (i:=1) rfl
 have x2:=hbx2.cell (i:=2) rfl
 revert x2
 revert x1
 revert x0
 exact hq.out):p:=h ⟨k⟩
theorem zbI {p q:Prop} (k:q) (h:Mhid q→p:=by
 intro hq
 have hd:(er != 0)=true:=by simp[he]
 revert hd
 exact hq.out):p:=h ⟨k⟩
theorem zbJ {p q:Prop} (k:q) (h:Mhid q→p:=by
 intro hq
 have HF:=Ac (show ig au x=3 by unfold ig; rw[if_pos byOmega])
 revert HF
 exact hq.out):p:=h ⟨k⟩
theorem zbK {p:Prop} (h:p:=by
 have hB:Below w.heap.size w W:=Wrote.below hst.bel hww (fun k hk=>by omega) hbz
 exact h1.keep (fun b hb _=>.inl hb) (Below.same' hB F)):p:=h
theorem zbL {p q:Prop} (k:q) (h:Mhid q→p:=by
 intro hq
 have t0:=r3.cell (i:=0) rfl
 have f0:=r3.frozen 0
 have t1:=r3.cell (i:=1) rfl
 have f1:=r3.frozen 1
 have t2:=r3.cell (i:=2) rfl
 have f2:=r3.frozen 2
 revert f2
 revert t2
 revert f1
 revert t1
 revert f0
 revert t0
 exact hq.out):p:=h ⟨k⟩
theorem zbO {p q:Prop} (k:q) (h:Mhid q→p:=by
 intro hq
 refine hK.out _ _ ⟨p0,p1,p2,e1,v1⟩ (fun hHeld=>?_)
 refine Zc ?_
 revert hHeld
 exact hq.out):p:=h ⟨k⟩
theorem zbR {p q:Prop} (k:q) (h:Mhid q→p:=by
 intro hq
 have fl:=HWA.out.rl.frozen a
 obtain⟨yl,hyl⟩:=aC (show a < t'.l.length by rw[hlen.l]; exact hlt)
 have sl:wr.cell? ⟨bl,a,none⟩=some (.int .i64 yl):=HWA.out.rl.cell (by simp[dX,hyl])
 clear hyl
 refine tk2 16 ak rfl fun K hK=>?_
 revert hK
 revert K
 revert sl
 revert yl
 revert fl
 exact hq.out):p:=h ⟨k⟩
theorem zbW {p:Prop} (h:p:=by
 have:=congrArg List.length hn
 simp at this
 omega):p:=h
theorem zbZ {p q:Prop} (k:q) (h:Mhid q→p:=by
 intro hq
 replace o0:=ah o0 hb
 replace o1:=ah o1 hb
 replace o2:=ah o2 hb
 replace HRA:=Ac (HRA.out.below hb)
 replace BO:=Ac (BO.out.below hb)
 revert BO
 revert HRA
 revert o2
 revert o1
 revert o0
 exact hq.out):p:=h ⟨k⟩
theorem zb0 {p q:Prop} (k:q) (h:Mhid q→p:=by
 intro hq
 refine(clone_any w3 F _ x.pay (H5.out.on (Below.same' hB3 F)) byOmega).mono ?_
 exact hq.out):p:=h ⟨k⟩
theorem zb1 {p:Prop} (h:p:=by
 have:L = []:=List.eq_nil_of_length_eq_zero h0
 subst this
 exact Yz):p:=h
theorem zb2 {p:Prop} (h:p:=by
 have d3:((x:Int)==0)=false:=beq_false_of_ne byOmega
 have HE:=Ac (show dG l=0 by rw[HX.out,if_neg hz])
 clear hz
 exact ZN):p:=h
theorem zb3 {p q:Prop} (k:q) (h:Mhid q→p:=by
 intro hq
 simp only[ne_eq,not_true_eq_false,false_and,false_iff]
 have:j < listed.size:=by rw[hsz];exact hj
 revert this
 exact hq.out):p:=h ⟨k⟩
theorem zb4 {p q:Prop} (k:q) (h:Mhid q→p:=by
 intro hq
 refine hK.out _ _ ⟨r1u.cell rfl,r1u.cell rfl,r1u.cell rfl,r2u.cell rfl,hbu.cell rfl,hbu.cell rfl,hbu.cell rfl,hbu.cell rfl,hbu.cell rfl,hbu.cell rfl⟩ (fun hHeld=>?_)
 refine Zc ?_
 revert hHeld
 exact hq.out):p:=h ⟨k⟩
theorem zb6 {p q:Prop} (k:q) (h:Mhid q→p:=by
 intro hq
 have hm:=Nat.mul_le_mul (show L.length+1≤1000001 by omega) hby
 obtain⟨i0,hi,hz0,hz1,hz2⟩:=info_parts hi0
 revert hz2
 revert hz1
 revert hz0
 revert hi
 revert i0
 revert hm
 exact hq.out):p:=h ⟨k⟩
theorem zb9 {p q:Prop} (k:q) (h:Mhid q→p:=by
 intro hq
 have m8:=HM1.out.box.cell (i:=8) rfl
 refine ZL ?_
 intro x0 x1 x2
 have x3:=rx.cell (i:=3) rfl
 have x4:=rx.cell (i:=4) rfl
 have x5:=rx.cell (i:=5) rfl
 revert x5
 revert x4
 revert x3
 revert x2
 revert x1
 revert x0
 revert m8
 exact hq.out):p:=h ⟨k⟩
theorem zcb {p q:Prop} (k:q) (h:Mhid q→p:=by
 intro hq
 dsimp only
 refine hK.out _ _ ⟨v0,v1,v2,a0,a1,a2,x3,ec,er,e0,e1,e2⟩ (fun hHeld=>?_)
 refine Zc ?_
 revert hHeld
 exact hq.out):p:=h ⟨k⟩
theorem zcc {p:Prop} (h:p:=by
 have e:some g=some b:=hb
 cases e
 rfl):p:=h
theorem zcd {p q:Prop} (k:q) (h:Mhid q→p:=by
 intro hq
 obtain⟨hin0,hin1⟩:=HIN.out n (List.mem_of_getElem? HX.out) hkd
 have hd:(n.kind==2)=true:=by simp[hkd]
 have HKD:=Ac hkd
 obtain⟨l,hl⟩:=aC (l:=eG g.nodes g.infos.length k) (k:=n.info.toNat) (by rw[bC]; omega)
 obtain⟨v,hv⟩:=aC (l:=vs) (k:=n.info.toNat) (by rw[hown.len,bC]; omega)
 revert hv
 revert v
 revert hl
 revert l
 revert HKD
 revert hd
 revert hin1
 revert hin0
 exact hq.out):p:=h ⟨k⟩
theorem zcg {p:Prop} (h:p:=by
 intro W1 hb hz hr
 exact hK.out _ _ ⟨hb,⟨_,rfl,hS.2.2.1,hr⟩,fun _ b hb=>by cases hb; exact Nat.le_refl _⟩):p:=h
theorem zcj {p q:Prop} (k:q) (h:Mhid q→p:=by
 intro hq
 rw[← hwa]
 have hi:=Row.iL (l:=[2]) (F:=(fun _=>True)) hr trivial
 revert hi
 exact hq.out):p:=h ⟨k⟩
theorem zcl {p:Prop} (h:p:=by
 have t1:(e1 != 0)=true:=by simp[h1]
 have HE:=Ac (show dM num den=e1 by rw[HP.out,if_pos h1])
 clear h1
 exact ZN):p:=h
theorem zcp {p:Prop} (h:p:=by
 have d3:((x:Int)==0)=true:=by rw[hz];rfl
 have HE:=Ac (show dG l=3 by rw[HX.out,if_pos hz])
 clear hz
 exact ZN):p:=h
theorem zcs {p q:Prop} (k:q) (h:Mhid q→p:=by
 intro hq
 have d2:((l.length:Int) != inf.actions)=true:=aB
 have h3:lJ inf.actions l=3:=by unfold lJ;rw[if_pos hact]
 have HE:=Ac ((lC HLE.out HP.out HK.out HL.out (by rw[h3]; decide)).trans h3)
 revert HE
 revert h3
 revert d2
 exact hq.out):p:=h ⟨k⟩
theorem zcx {p q:Prop} (k:q) (h:Mhid q→p:=by
 intro hq
 have t1:(e0 != 0)=true:=by simp[h0]
 have hr0:lJ inf.actions l=14:=by rw[BJ.out,if_pos h0]
 have HE:=Ac ((lC HLE.out HP.out HK.out HL.out (by rw[hr0]; decide)).trans hr0)
 clear hr0
 revert HE
 revert t1
 exact hq.out):p:=h ⟨k⟩
theorem zcy {p q:Prop} (k:q) (h:Mhid q→p:=by
 intro hq
 have hb61:=hb60.below hb hb60.lt
 have hz1:=hz0.below hb hz0.lt
 have hB1:=hB0.trans (hb.mono hB0.size)
 refine hK.out _ _ ⟨hb61.cell rfl,hb61.cell rfl,hb61.cell rfl,hb61.cell rfl,hb61.cell rfl⟩ (fun hHeld=>?_)
 refine Zc ?_
 revert hHeld
 revert hB1
 revert hz1
 revert hb61
 exact hq.out):p:=h ⟨k⟩
theorem zcz {p q:Prop} (k:q) (h:Mhid q→p:=by
 intro hq
 refine wpAnyH_ready (rs:=[12]) (by decide +kernel) ay ?_
 refine zaD ?_
 exact hq.out):p:=h ⟨k⟩
theorem zcA {p q:Prop} (k:q) (h:Mhid q→p:=by
 intro hq
 have hu2:=hu.mono (G:=Apart (fun b=>(F b∧b < w.heap.size)∨bo < b) u) (fun b hb _=>⟨.inr byOmega,fun e=>by have:=(HO.out.row.lt b e).2; omega⟩)
 revert hu2
 exact hq.out):p:=h ⟨k⟩
theorem zcD {p q:Prop} (k:q) (h:Mhid q→p:=by
 intro hq
 rw[hgrow.cell_far _ aB (fun e=>by have:=(HO.out.lt _ e.symm).2; simp at this),World.cell?_drew,World.cell?_alloc_lt _ _ _ aB]
 exact hq.out):p:=h ⟨k⟩
theorem zcE {p q:Prop} (k:q) (h:Mhid q→p:=by
 intro hq
 replace HG:=Ac (HG.out.below hb)
 replace HL:=Ac (HL.out.below hb)
 replace HR:=Ac (HR.out.below hb)
 revert HR
 revert HL
 revert HG
 exact hq.out):p:=h ⟨k⟩
theorem zcF {p q:Prop} (k:q) (h:Mhid q→p:=by
 intro hq
 replace HST:=Ac (HST.out.on (bW.block bo byOmega) ⟨bW.size,fun b hb _=>bW.block b hb.2⟩)
 replace rx:=rx.of_block (bW.block _ byOmega)
 replace rn:=rn.of_block (bW.block _ byOmega)
 replace hB:=hB.trans (bW.mono byOmega)
 replace k6:=Nat.le_trans k6 bW.size
 revert k6
 revert hB
 revert rn
 revert rx
 revert HST
 exact hq.out):p:=h ⟨k⟩
theorem zcG {p q:Prop} (k:q) (h:Mhid q→p:=by
 intro hq
 refine Zf ?_
 intro HT hB
 replace hbel:=hbel.trans (hb.mono hbel.size)
 revert hbel
 revert hB
 revert HT
 exact hq.out):p:=h ⟨k⟩
theorem zcH {p q:Prop} (k:q) (h:Mhid q→p:=by
 intro hq
 have inn:∀ k:Nat,jr (iR g.nodes R) (k:Int)=true↔k < g.nodes.length∧In g.nodes R k:=fun k=>by unfold jr;rw[Int.toNat_natCast];exact uG hg hr k
 revert inn
 exact hq.out):p:=h ⟨k⟩
theorem zcK {p:Prop} (h:p:=by
 exact h1.perm (fun p=>by simp only[List.mem_cons]; constructor <;> (rintro(h | h | h) <;> simp[h]))):p:=h
theorem zcL {p:Prop} (h:p:=by
 exact⟨_,rfl,hwz _ _ (Nat.le_refl _) hB,(HM.out.on (hkz _ byOmega)).mono (fun b hb _=>by omega)⟩):p:=h
theorem zcM {p:Prop} (h:p:=by
 exact⟨_,by rw[HF.out]; rfl,by rw[HF.out]; intro h; simp at h,by rw[HF.out]; exact HWA.out,hgr⟩):p:=h
theorem zcN {p q:Prop} (k:q) (h:Mhid q→p:=by
 intro hq
 obtain⟨W,hW,hrw,hww⟩:=af7 r3 (.int .i64 0) (.slice none 0 0) (.slice none 0 0)
 rw[← hW]
 clear hW
 revert hww
 revert hrw
 revert W
 exact hq.out):p:=h ⟨k⟩
theorem zcP {p:Prop} (h:p:=by
 go_wp2
 go_ret
 exact⟨_,rfl,hB2,by rw[HE.out]; rfl⟩):p:=h
theorem zcR {p q:Prop} (k:q) (h:Mhid q→p:=by
 intro hq
 have hb:Below wn.heap.size wn wn.drew:=aK (Below.refl _ wn) 1
 revert hb
 exact hq.out):p:=h ⟨k⟩
theorem zcS {p:Prop} (h:p:=by
 rw[hgrow.block b aB (fun e=>by have:=hnb b e.symm; omega)]
 exact Below.heap_alloc W _ b byOmega):p:=h
theorem zcT {p:Prop} (h:p:=by
 have hl:=aI h
 rw[List.drop_eq_getElem_cons hl]
 have:l[k]=x:=by simpa [hl] using h
 rw[this]
 rfl):p:=h
theorem zcV {p:Prop} (h:p:=by
 exact⟨_,by rw[HF.out]; rfl,by rw[HF.out]; intro h; simp at h,by rw[HF.out]; exact afD,hgg⟩):p:=h
theorem zcW {p:Prop} (h:p:=by
 go_wp2
 go_ret
 exact⟨_,rfl,hB,by rw[HR.out]; rfl⟩):p:=h
theorem zcZ {p q:Prop} (k:q) (h:Mhid q→p:=by
 intro hq
 refine(open_any _ F _ _ g roots (HG.out.on (Same.alloc _ _ _)) (HR.out.on (Same.alloc _ _ _)) HS.out hl).mono ?_
 exact hq.out):p:=h ⟨k⟩
theorem zc1 {p:Prop} (h:p:=by
 have d2:decide ((1000000000:Int)≤(x:Int))=true:=decide_eq_true byOmega
 clear hbad
 exact ZN):p:=h
theorem zc2 {p:Prop} (h:p:=by
 exact Row.ji ay rfl):p:=h
theorem zc3 {p:Prop} (h:p:=by
 go_wp2
 go_ret
 exact⟨_,rfl,hB,rfl⟩):p:=h
theorem zc4 {p:Prop} (h:p:=by
 exact Own.ints (by simpa [Own] using HO.out) (fun b hb=>by have:=(HO.out.lt b hb).1; omega)):p:=h
theorem zc6 {p q:Prop} (k:q) (h:Mhid q→p:=by
 intro hq
 refine Za ?_
 intro x0 x1 x2 y0 y1 y2 HG HP
 refine Zf ?_
 intro HT hB
 revert hB
 revert HT
 revert HP
 revert HG
 revert y2
 revert y1
 revert y0
 revert x2
 revert x1
 revert x0
 exact hq.out):p:=h ⟨k⟩
theorem zc7 {p q:Prop} (k:q) (h:Mhid q→p:=by
 intro hq
 refine Zc ?_
 refine ZA ?_
 exact hq.out):p:=h ⟨k⟩
theorem zc8 {p q:Prop} (k:q) (h:Mhid q→p:=by
 intro hq
 have hrow:=mW CW.out HPJ.out HRR.out (by rw[hse]; decide)
 have HF:=Ac ((lC HLE.out HP.out HK.out HL.out (by rw[hrow,hse]; decide)).trans (hrow.trans hse))
 revert HF
 revert hrow
 exact hq.out):p:=h ⟨k⟩
theorem zda {p:Prop} (h:p:=by
 rw[hy] at ho
 cases ho
 rw[ex] at hd
 exact f3' d hd):p:=h
theorem zdb {p q:Prop} (k:q) (h:Mhid q→p:=by
 intro hq
 have HF:=Ac (show dB g.nodes (f+1) a par dep t=(-1,rd) by rw[HR.out,HV2.out,if_pos hng]; simp)
 have hdn:decide (0≤rn)=false:=decide_eq_false byOmega
 revert hdn
 revert HF
 exact hq.out):p:=h ⟨k⟩
theorem zdc {p:Prop} (h:p:=by
 exact⟨_,rfl,hB2,.pointer none,by rw[HF.out]; rfl,by rw[HF.out]; intro h; simp at h⟩):p:=h
theorem zdd {p q:Prop} (k:q) (h:Mhid q→p:=by
 intro hq
 have HP:=Ac (show dM num den=if dG num≠0 then dG num else if dG den≠0 then dG den else if den.length=0 then 6 else 0 from rfl)
 revert HP
 exact hq.out):p:=h ⟨k⟩
theorem zde {p:Prop} (h:p:=by
 rw[hx] at ho
 cases ho
 rw[ey] at hd
 exact f1 d hd):p:=h
end Go.Proofs.YthmklhapjegfdaaGreatDoor
