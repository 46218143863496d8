/- Moves in a drawn region: a list of operations taken one by one; a call that comes next. -/
import Derived.Test.YtnmeejofpkhlkaaGreatDoorR04
import Derived.OrdersHeld
import Derived.Deep.RegionHeld
set_option linter.all false
namespace Go.Proofs.YtnmeejofpkhlkaaGreatDoor
section
variable {P:Program} {md:Region.Mode} {ops:Array Oper} {Q:Exit→Act→World→Prop} {S:World→Prop}
def Tk (_:List Nat) (g:Prop):Prop:=g
theorem tk0 {g:Prop} (l:List Nat) (h:Tk l g):g:=h
theorem tk1 {g:Prop} (h:g):Tk [] g:=h
theorem tk {i:Nat} {is:List Nat} {oi:Oper} {v:Value} {fuel:Nat} {listed:Array Bool} {a:Act} {w:World} (hi:ops[i]? = some oi)
  (hs:Region.noSelect ops=true) (hf:Region.free md ops listed i=true) (hr:(Region.ready md ops listed).contains i=true)
  (hQ:∀ c a w,Q (.panic c) (a.put oi.dst v) w→Q (.panic c) a w) (hy:YieldsIf P ops S oi v a) (hS:S w)
  (h:Tk is (wpAnyH P md ops Q S fuel (listed.setIfInBounds i true) (a.put oi.dst v) w)):Tk (i :: is) (wpAnyH P md ops Q S (fuel+1) listed a w) :=
 wpAnyH_take hi hs hf hr hQ hy hS h
theorem tk2 (i:Nat) {fuel:Nat} {listed:Array Bool} {a:Act} {w:World} {o:Oper} (hr:Region.ready md ops listed = [i]) (ho:ops[i]? = some o)
  (h:∀ K':Act→World→Prop,Shut (∀ a w,S w→(S w→wpAnyH P md ops Q S fuel (listed.setIfInBounds i true) a w)→K' a w)→if Region.wanted o (yielded ops a.tmps)=true then Oper.wp P o a w K' Q else K' (a.put o.dst undef) w):wpAnyH P md ops Q S (fuel+1) listed a w :=
 wpAnyH_ready hr (by simp) (AllReadyH.cons ho h AllReadyH.nil)
end
theorem tkm {q g:Prop} (l:List Nat) (k:q) (h:Mhid q→Tk l g:=by
 intro hq
 repeat (refine tk (v:=?_) rfl (by kernel_rfl) (by kernel_rfl) (by kernel_rfl) (fun _ _ _ h=>h) (Or.inl ⟨by rfl,?_⟩) hHeld ?_;rotate_left;(focus intro wx hSx;(try dsimp only at hSx);go_split_ands;go_simp;try with_reducible rfl);try simp only[Act.put,List.getElem_toArray,List.getElem_cons_zero,List.getElem_cons_succ,List.setIfInBounds_toArray,List.set_cons_zero,List.set_cons_succ])
 exact tk1 hq.out):g:=tk0 l (h ⟨k⟩)
theorem Za {p q:Prop} (k:q) (h:Mhid q→p:=by
 intro hq
 replace x0:=ak x0 hb
 replace x1:=ak x1 hb
 replace x2:=ak x2 hb
 replace y0:=ak y0 hb
 replace y1:=ak y1 hb
 replace y2:=ak y2 hb
 replace HX:=Ag (HX.out.below hb)
 replace HY:=Ag (HY.out.below hb)
 revert HY
 revert HX
 revert y2
 revert y1
 revert y0
 revert x2
 revert x1
 revert x0
 exact hq.out):p:=h ⟨k⟩
theorem Zb {p q:Prop} (k:q) (h:Mhid q→p:=by
 intro hq
 try simp only[Act.put,lq1,lq2,lq3,lq4,lq5,lq6]
 exact hq.out):p:=h ⟨k⟩
theorem Zc {p q:Prop} (k:q) (h:Mhid q→p:=by
 intro hq
 replace hz:=Nat.le_trans hz hb.size
 replace hB:=hB.trans (hb.mono hB.size)
 revert hB
 revert hz
 exact hq.out):p:=h ⟨k⟩
theorem Zd {p q:Prop} (k:q) (h:Mhid q→p:=by
 intro hq
 replace HF0:=Ag (RV.fine.below HF0.out hb)
 replace HF1:=Ag (RV.fine.below HF1.out hb)
 replace HF3:=Ag (RV.fine.below HF3.out hb)
 replace HT:=Ag (HT.out.on hb)
 replace hB:=hB.trans (hb.mono hB.size)
 revert hB
 revert HT
 revert HF3
 revert HF1
 revert HF0
 exact hq.out):p:=h ⟨k⟩
theorem Ze {p q:Prop} (k:q) (h:Mhid q→p:=by
 intro hq
 obtain⟨W,hW,rx,ry,rz,hB,hz⟩:=lC w 114 #[.bool (au x).neg,.slice A (au x).num.length c,.slice B (au x).den.length d] 114 #[.bool (au y).neg,.slice A' (au y).num.length c',.slice B' (au y).den.length d'] 114 #[.bool false,.slice none 0 0,.slice none 0 0]
 rw[← hW]
 clear hW
 replace HX:=Ag (HX.out.on (Below.same' hB _))
 replace HY:=Ag (HY.out.on (Below.same' hB _))
 revert HY
 revert HX
 revert hz
 revert hB
 revert rz
 revert ry
 revert rx
 revert W
 exact hq.out):p:=h ⟨k⟩
theorem Zf {p q:Prop} (k:q) (h:Mhid q→p:=by
 intro hq
 refine Zc ?_
 intro hz hB
 dsimp only
 refine hK.out _ _ ⟨x0,x1,x2,y0,y1,y2⟩ (fun hHeld=>?_)
 refine Zb ?_
 revert hHeld
 revert hB
 revert hz
 exact hq.out):p:=h ⟨k⟩
theorem Zg {p q:Prop} (k:q) (h:Mhid q→p:=by
 intro hq
 refine wp_region_held_drew (S:=fun w'=>w'.cell? ⟨w.heap.size,0,none⟩=some (.bool (au x).neg)∧w'.cell? ⟨w.heap.size,1,none⟩=some (.slice A (au x).num.length c)∧w'.cell? ⟨w.heap.size,2,none⟩=some (.slice B (au x).den.length d)∧w'.cell? ⟨w.heap.size+1,0,none⟩=some (.bool (au y).neg)∧w'.cell? ⟨w.heap.size+1,1,none⟩=some (.slice A' (au y).num.length c')∧w'.cell? ⟨w.heap.size+1,2,none⟩=some (.slice B' (au y).den.length d')) ah ⟨x0,x1,x2,y0,y1,y2⟩ (fun hHeld=>?_)
 revert hHeld
 exact hq.out):p:=h ⟨k⟩
theorem Zh {p q:Prop} (k:q) (h:Mhid q→p:=by
 intro hq
 replace rg:=rg.below hb rg.lt
 replace rz:=rz.below hb rz.lt
 replace rn:=rn.below hb rn.lt
 replace rt:=rt.below hb rt.lt
 replace HG:=Ag (HG.out.on (Below.same' hb _))
 revert HG
 revert rt
 revert rn
 revert rz
 revert rg
 exact hq.out):p:=h ⟨k⟩
theorem Zi {p q:Prop} (k:q) (h:Mhid q→p:=by
 intro hq
 have x0:=rx.cell (i:=0) rfl
 have x1:=rx.cell (i:=1) rfl
 have x2:=rx.cell (i:=2) rfl
 revert x2
 revert x1
 revert x0
 exact hq.out):p:=h ⟨k⟩
theorem Zk {p q:Prop} (k:q) (h:Mhid q→p:=by
 intro hq
 refine wpAnyH_done ah ?_ _
 show wpList _ _ _ _ _ _
 have f0:=HM1.out.nodes.fz (i*6)
 have f1:=HM1.out.nodes.fz (i*6+1)
 have f2:=HM1.out.nodes.fz (i*6+2)
 have f3:=HM1.out.nodes.fz (i*6+3)
 have f4:=HM1.out.nodes.fz (i*6+4)
 have f5:=HM1.out.nodes.fz (i*6+5)
 obtain⟨q0,y0⟩:∃ v,wn.cell? ⟨gn,i*6,none⟩=some v:=HM1.out.nodes.bY hi 0 ay
 obtain⟨q1,y1⟩:∃ v,wn.cell? ⟨gn,i*6+1,none⟩=some v:=HM1.out.nodes.bY hi 1 ay
 obtain⟨q2,y2⟩:∃ v,wn.cell? ⟨gn,i*6+2,none⟩=some v:=HM1.out.nodes.bY hi 2 ay
 obtain⟨q3,y3⟩:∃ v,wn.cell? ⟨gn,i*6+3,none⟩=some v:=HM1.out.nodes.bY hi 3 ay
 obtain⟨q4,y4⟩:∃ v,wn.cell? ⟨gn,i*6+4,none⟩=some v:=HM1.out.nodes.bY hi 4 ay
 obtain⟨q5,y5⟩:∃ v,wn.cell? ⟨gn,i*6+5,none⟩=some v:=HM1.out.nodes.bY hi 5 ay
 have HMB:=Ag (fun b hb=>HM.out.abW (b:=b) hb)
 have hbm:M.base≤W.heap.size:=Nat.le_of_lt (Nat.lt_of_le_of_lt HM.out.dL.1 HM.out.box.lt)
 have aed:∀ {w:World} {F:Foot},AA w F (.slice none 0 0) []:=⟨none,0,rfl,Nat.le_refl _,fun h=>absurd h aB⟩
 have HM2:=Ag (HM1.out.fresh HMB.out hbm)
 revert HM2
 revert aed
 revert hbm
 revert HMB
 revert y5
 revert q5
 revert y4
 revert q4
 revert y3
 revert q3
 revert y2
 revert q2
 revert y1
 revert q1
 revert y0
 revert q0
 revert f5
 revert f4
 revert f3
 revert f2
 revert f1
 revert f0
 exact hq.out):p:=h ⟨k⟩
theorem Zl {p q:Prop} (k:q) (h:Mhid q→p:=by
 intro hq
 replace HG:=Ag (HG.out.on (Below.same' hb _))
 replace HA:=Ag (RawRowsAt.on HA.out (Below.same' hb _))
 replace HB:=Ag (RawRowsAt.on HB.out (Below.same' hb _))
 replace HV:=Ag (Ak.on HV.out (Below.same' hb _))
 replace HT:=Ag (HT.out.on hb)
 revert HT
 revert HV
 revert HB
 revert HA
 revert HG
 exact hq.out):p:=h ⟨k⟩
theorem Zm {p q:Prop} (k:q) (h:Mhid q→p:=by
 intro hq
 refine Row.alloc ?_ _
 refine Row.alloc ?_ _
 refine Row.alloc ?_ _
 refine Row.alloc ?_ _
 exact hq.out):p:=h ⟨k⟩
theorem Zn {p q:Prop} (k:q) (h:Mhid q→p:=by
 intro hq
 have q0:=rz.cell (i:=0) rfl
 have y0:=rz.frozen 0
 have q1:=rz.cell (i:=1) rfl
 have y1:=rz.frozen 1
 have q2:=rz.cell (i:=2) rfl
 have y2:=rz.frozen 2
 revert y2
 revert q2
 revert y1
 revert q1
 revert y0
 revert q0
 exact hq.out):p:=h ⟨k⟩
theorem Zo {p q:Prop} (k:q) (h:Mhid q→p:=by
 intro hq
 replace HNX:=Ag (HNX.out.below hb)
 replace HNY:=Ag (HNY.out.below hb)
 replace HDX:=Ag (HDX.out.below hb)
 replace HDY:=Ag (HDY.out.below hb)
 replace HG:=Ag (HG.out.below hb)
 replace HL:=Ag (HL.out.below hb)
 replace HR:=Ag (HR.out.below hb)
 revert HR
 revert HL
 revert HG
 revert HDY
 revert HDX
 revert HNY
 revert HNX
 exact hq.out):p:=h ⟨k⟩
theorem Zq {p q:Prop} (k:q) (h:Mhid q→p:=by
 intro hq
 simp only[List.take_succ_cons,List.take_zero]
 exact hq.out):p:=h ⟨k⟩
theorem Zr {p q:Prop} (k:q) (h:Mhid q→p:=by
 intro hq
 refine aX (fun w'=>w'.cell? ⟨M.mb,8,none⟩=some (.slice (some ⟨gn,0,none⟩) Ln.length cn)∧w'.cell? ⟨xb,0,none⟩=some (.int .i64 3)∧w'.cell? ⟨xb,1,none⟩=some (.int .i64 0)∧w'.cell? ⟨xb,2,none⟩=some (.int .i64 0)∧w'.cell? ⟨xb,3,none⟩=some (.slice none 0 0)∧w'.cell? ⟨xb,4,none⟩=some (.slice none 0 0)∧w'.cell? ⟨xb,5,none⟩=some (.slice (some ⟨gu,0,none⟩) k cu)) 7 2 ah rfl ah ?_
 have hHeld:(fun w':World=>w'.cell? ⟨M.mb,8,none⟩=some (.slice (some ⟨gn,0,none⟩) Ln.length cn)∧w'.cell? ⟨xb,0,none⟩=some (.int .i64 3)∧w'.cell? ⟨xb,1,none⟩=some (.int .i64 0)∧w'.cell? ⟨xb,2,none⟩=some (.int .i64 0)∧w'.cell? ⟨xb,3,none⟩=some (.slice none 0 0)∧w'.cell? ⟨xb,4,none⟩=some (.slice none 0 0)∧w'.cell? ⟨xb,5,none⟩=some (.slice (some ⟨gu,0,none⟩) k cu)) wr.drew:=⟨m8,x0,x1,x2,x3,x4,x5⟩
 refine Zq ?_
 have hb:Below wr.heap.size wr wr.drew:=aI (Below.refl _ wr) 1
 replace m8:=ak m8 hb
 replace x0:=ak x0 hb
 replace x1:=ak x1 hb
 replace x2:=ak x2 hb
 replace x3:=ak x3 hb
 replace x4:=ak x4 hb
 replace x5:=ak x5 hb
 replace HM1:=Ag (HM1.out.below hb)
 replace HO:=Ag (HO.out.below hb)
 replace rx:=rx.below hb rx.lt
 replace HW:=Ag (HW.out.trans (Below.wrote hb _))
 replace k6:=Nat.le_trans k6 hb.size
 clear hb
 revert k6
 revert HW
 revert rx
 revert HO
 revert HM1
 revert x5
 revert x4
 revert x3
 revert x2
 revert x1
 revert x0
 revert m8
 revert hHeld
 exact hq.out):p:=h ⟨k⟩
theorem Zt {p q:Prop} (k:q) (h:Mhid q→p:=by
 intro hq
 replace HG:=Ag (HG.out.on (Below.same' hb _))
 replace HA:=Ag (RawRowsAt.on HA.out (Below.same' hb _))
 replace HB:=Ag (RawRowsAt.on HB.out (Below.same' hb _))
 replace HT:=Ag (HT.out.on hb)
 replace HP:=Ag (AB.on HP.out (Below.same' hb _))
 replace HS2:=Ag (Ak.on HS2.out (Below.same' hb _))
 replace HT2:=Ag (Ak.on HT2.out (Below.same' hb _))
 revert HT2
 revert HS2
 revert HP
 revert HT
 revert HB
 revert HA
 revert HG
 exact hq.out):p:=h ⟨k⟩
theorem Zu {p q:Prop} (k:q) (h:Mhid q→p:=by
 intro hq
 refine Za ?_
 intro x0 x1 x2 y0 y1 y2 HX HY
 replace HDX:=Ag (HDX.out.below hb)
 replace HDY:=Ag (HDY.out.below hb)
 replace HNX:=Ag (HNX.out.below hb)
 replace HNY:=Ag (HNY.out.below hb)
 replace HF:=Ag (HF.out.below hb)
 replace HG:=Ag (HG.out.below hb)
 revert HG
 revert HF
 revert HNY
 revert HNX
 revert HDY
 revert HDX
 revert HY
 revert HX
 revert y2
 revert y1
 revert y0
 revert x2
 revert x1
 revert x0
 exact hq.out):p:=h ⟨k⟩
theorem Zv {p:Prop} (h:p:=by
 exact hK.out _ _ (Below.refl _ _) rfl):p:=h
theorem Zw {p q:Prop} (k:q) (h:Mhid q→p:=by
 intro hq
 refine wpAnyH_done ah ?_ _
 show wpList _ _ _ _ _ _
 exact hq.out):p:=h ⟨k⟩
theorem Zx {p q:Prop} (k:q) (h:Mhid q→p:=by
 intro hq
 have hz:w.heap.size+3≤W.heap.size:=hz
 refine Zi ?_
 intro x0 x1 x2
 have y0:=ry.cell (i:=0) rfl
 have y1:=ry.cell (i:=1) rfl
 have y2:=ry.cell (i:=2) rfl
 revert y2
 revert y1
 revert y0
 revert x2
 revert x1
 revert x0
 revert hz
 exact hq.out):p:=h ⟨k⟩
theorem Zy {p:Prop} (h:p:=by
 go_in
 go_wp2
 go_ret
 exact⟨_,rfl,(Below.refl _ _).alloc (Nat.le_refl _) _,by rw[HF.out]; rfl⟩):p:=h
theorem Zz {p:Prop} (h:p:=by
 rintro e w1 ⟨_,rfl,hb1,rfl⟩
 have hbx2:=jY.drew.below hb1 aF
 have aii:=hbt.drew.below hb1 aF
 dsimp only
 refine hK.out _ _ ⟨aii.cell rfl,hbx2.cell rfl,hbx2.cell rfl,hbx2.cell rfl,hbx2.cell rfl,hbx2.cell rfl,hbx2.cell rfl⟩ (fun hHeld=>?_)
 clear hK K
 refine Zb ?_
 refine tkm [7] ?_
 refine wpAnyH_done ah ?_ _
 go_wp2
 go_ret
 exact⟨_,rfl,hB1.drew.trans (hb1.mono aF),by rw[HF.out]; rfl⟩):p:=h
theorem ZA {p q:Prop} (k:q) (h:Mhid q→p:=by
 intro hq
 replace y0:=ak y0 hb
 replace y1:=ak y1 hb
 replace y2:=ak y2 hb
 replace v0:=ak v0 hb
 replace v1:=ak v1 hb
 replace v2:=ak v2 hb
 replace m1:=ak m1 hb
 replace t0:=ak t0 hb
 replace t1:=ak t1 hb
 replace t2:=ak t2 hb
 replace u0:=ak u0 hb
 replace u1:=ak u1 hb
 replace u2:=ak u2 hb
 replace s1:=ak s1 hb
 replace x0:=ak x0 hb
 replace x1:=ak x1 hb
 replace x2:=ak x2 hb
 replace HXV:=Ag (Ak.below HXV.out hb)
 replace HTV:=Ag (Ak.below HTV.out hb)
 replace HYV:=Ag (Ak.below HYV.out hb)
 replace HWW:=Ag (Ak.below HWW.out hb)
 replace HUV:=Ag (Ak.below HUV.out hb)
 revert HUV
 revert HWW
 revert HYV
 revert HTV
 revert HXV
 revert x2
 revert x1
 revert x0
 revert s1
 revert u2
 revert u1
 revert u0
 revert t2
 revert t1
 revert t0
 revert m1
 revert v2
 revert v1
 revert v0
 revert y2
 revert y1
 revert y0
 exact hq.out):p:=h ⟨k⟩
theorem ZB {p q:Prop} (k:q) (h:Mhid q→p:=by
 intro hq
 refine Za ?_
 intro x0 x1 x2 y0 y1 y2 HX HY
 replace HNX:=Ag (HNX.out.below hb)
 replace HNY:=Ag (HNY.out.below hb)
 revert HNY
 revert HNX
 revert HY
 revert HX
 revert y2
 revert y1
 revert y0
 revert x2
 revert x1
 revert x0
 exact hq.out):p:=h ⟨k⟩
theorem ZC {p q:Prop} (k:q) (h:Mhid q→p:=by
 intro hq
 replace rz:=rz.below hb rz.lt
 refine Zc ?_
 intro hz hB
 revert hB
 revert hz
 revert rz
 exact hq.out):p:=h ⟨k⟩
theorem ZE {p q:Prop} (k:q) (h:Mhid q→p:=by
 intro hq
 replace HM:=Ag (RawRowsAt.on HM.out (Below.same' hb _))
 replace HR:=Ag (RawRowsAt.on HR.out (Below.same' hb _))
 revert HR
 revert HM
 exact hq.out):p:=h ⟨k⟩
theorem ZF {p:Prop} (h:p:=by
 exact⟨_,rfl,hwz _ _ byOmega hB,HM.out.keep (fun b hb _=>hb.elim (fun h=>.inl h.1) fun h=>.inr byOmega) (hkz _ (fun h=>h.elim (fun h=>by have:=h.2; omega) fun h=>by omega))⟩):p:=h
theorem ZG {p q:Prop} (k:q) (h:Mhid q→p:=by
 intro hq
 have hmd:mb≠db:=byOmega
 replace m0:=dh m0 hwx hmd
 replace m1:=dh m1 hwx hmd
 replace RM:=Ag (RM.out.wrote hwx hmd)
 replace RG:=Ag (RG.out.wrote hwx (fun e=>by omega))
 replace RD:=Ag hr2
 replace HO:=Ag (HO.out.wrote hwx fun b hb e=>by have:=(HO.out.row.lt b (hb.resolve_left id)).1; omega)
 replace HLr:=Ag (HLr.out.on (hwx.same fun b hb e=>by have:=hb.2; omega))
 replace HW:=Ag (HW.out.step hwx fun i _ e=>.inr e)
 replace hsz:=Nat.le_trans hsz hwx.size
 clear hmd
 refine hK.out _ _ ⟨m0,m1⟩ (fun hHeld=>?_)
 refine Zb ?_
 revert hHeld
 revert hsz
 revert HW
 revert HLr
 revert HO
 revert RD
 revert RG
 revert RM
 revert m1
 revert m0
 exact hq.out):p:=h ⟨k⟩
theorem ZH {p:Prop} (h:p:=by
 have d0:((l1.length:Int) != (l2.length:Int))=true:=aF
 have HF:=Ag (show decide (l1=l2)=false by simp only[decide_eq_false_iff_not]; rintro rfl; exact q0 rfl)
 go_in
 go_wp2
 go_ret
 exact⟨_,rfl,Below.refl _ _,by rw[HF.out]; rfl⟩):p:=h
theorem ZK {p:Prop} (h:p:=by
 replace x2:=ak x2 hb
 replace HA:=Ag (HA.out.below hb)
 refine Zc ?_
 clear hz hB hb
 intro hz hB
 dsimp only
 go_wp2_with fail
 refine(wL _ (fun _=>True) _ _ x ((1:Int):Rat) (HA.out.mono (fun _ _ _=>trivial)) HB.out byOmega (by rw[show((1:Int):Rat)=1 from rfl,sF]; omega)).mono ?_
 rintro e wn ⟨_,rfl,hb,rfl⟩
 rw[show mQ x ((1:Int):Rat)=o from HO.out.symm]
 replace x0:=ak x0 hb
 replace x1:=ak x1 hb
 replace x2:=ak x2 hb
 replace HA:=Ag (HA.out.below hb)
 replace HB:=Ag (HB.out.below hb)
 refine Zc ?_
 clear hz hB hb
 intro hz hB
 dsimp only
 go_wp2
 go_ret
 exact⟨_,rfl,hB,by rw[HG.out]; rfl⟩):p:=h
theorem ZL {p q:Prop} (k:q) (h:Mhid q→p:=by
 intro hq
 obtain⟨hl,hpl⟩:=nC L (aA:=aA) byOmega (1+dw L 0 5).toNat (cZ L 0)
 have hd:=iw L 0 (n:=5) ay
 have hC:BH ⟨L,(dR L aA (1+dw L 0 5).toNat (cZ L 0)).1,aA,most,zero⟩:=⟨by simp only[hl]; omega,hpl⟩
 have hJ:JM ⟨L,(dR L aA (1+dw L 0 5).toNat (cZ L 0)).1,aA,most,zero⟩ 0 ⟨(dR L aA (1+dw L 0 5).toNat (cZ L 0)).2,[],1,[],[]⟩:=⟨rfl,fun i v h=>by simp at h,Nat.le_refl _,by simpa using hm,by show(0:Int)≤1; decide,fun v h=>(by cases h),fun v h=>(by cases h)⟩
 obtain⟨h1,h2,h3⟩:=yg hC (by simp only; omega) ((1+dw L 0 5).toNat+1) 0 (List.replicate aA.toNat []) _ [] [] (by simp only[hl]; omega) (Nat.zero_le _) (fun l h=>by rw[List.eq_of_mem_replicate h]; rfl) hJ aB KM.nil rfl (fun x v h=>by simp at h) (fun c x h=>by cases h)
 revert h3
 revert h2
 revert h1
 revert hJ
 revert hC
 revert hd
 revert hpl
 revert hl
 exact hq.out):p:=h ⟨k⟩
theorem ZM {p q:Prop} (k:q) (h:Mhid q→p:=by
 intro hq
 replace HT:=Ag (HT.out.on hb)
 replace hB:=hB.trans (hb.mono hB.size)
 revert hB
 revert HT
 exact hq.out):p:=h ⟨k⟩
theorem ZO {p q:Prop} (k:q) (h:Mhid q→p:=by
 intro hq
 replace x0:=ak x0 hb
 replace x1:=ak x1 hb
 replace x2:=ak x2 hb
 replace y0:=ak y0 hb
 replace y1:=ak y1 hb
 replace y2:=ak y2 hb
 replace s0:=ak s0 hb
 replace s1:=ak s1 hb
 replace s2:=ak s2 hb
 replace t0:=ak t0 hb
 replace t1:=ak t1 hb
 replace t2:=ak t2 hb
 replace HX:=Ag (HX.out.below hb)
 replace HY:=Ag (HY.out.below hb)
 replace HSV:=Ag (HSV.out.below hb)
 replace HTV:=Ag (HTV.out.below hb)
 revert HTV
 revert HSV
 revert HY
 revert HX
 revert t2
 revert t1
 revert t0
 revert s2
 revert s1
 revert s0
 revert y2
 revert y1
 revert y0
 revert x2
 revert x1
 revert x0
 exact hq.out):p:=h ⟨k⟩
theorem ZP {p q:Prop} (k:q) (h:Mhid q→p:=by
 intro hq
 have hHeld:(fun w':World=>w'.cell? ⟨w.heap.size,0,none⟩=some (.bool (au x).neg)∧w'.cell? ⟨w.heap.size,1,none⟩=some (.slice A (au x).num.length c)∧w'.cell? ⟨w.heap.size,2,none⟩=some (.slice B (au x).den.length d)∧w'.cell? ⟨w.heap.size+1,0,none⟩=some (.bool (au y).neg)∧w'.cell? ⟨w.heap.size+1,1,none⟩=some (.slice A' (au y).num.length c')∧w'.cell? ⟨w.heap.size+1,2,none⟩=some (.slice B' (au y).den.length d')) W.drew:=⟨x0,x1,x2,y0,y1,y2⟩
 refine Zq ?_
 have hb:Below W.heap.size W W.drew:=aI (Below.refl _ W) 1
 refine Za ?_
 revert hb
 revert hHeld
 exact hq.out):p:=h ⟨k⟩
theorem ZQ {p q:Prop} (k:q) (h:Mhid q→p:=by
 intro hq
 have f5:=aJ (f:=(Fact.eq (.bool true))) (hf (5,v5) aB ah) rfl
 revert f5
 exact hq.out):p:=h ⟨k⟩
theorem ZR {p q:Prop} (k:q) (h:Mhid q→p:=by
 intro hq
 obtain⟨W,hW,rx,rz,hB,hz⟩:=alloc2 w 114 #[.bool (au x).neg,.slice A (au x).num.length c,.slice B (au x).den.length d] 42 #[.bool false,.slice none 0 0,.slice none 0 0]
 rw[← hW]
 clear hW
 replace HX:=Ag (HX.out.on (Below.same' hB _))
 revert HX
 revert hz
 revert hB
 revert rz
 revert rx
 revert W
 exact hq.out):p:=h ⟨k⟩
theorem ZT {p:Prop} (h:p:=by
 refine ifA rfl ?_
 refine xZ _ _ _ 22 rfl 3 (.int .i64 0) 8 Tryz.underlying22 Tryz.infoInt rfl g.nodes.length rfl rfl byOmega byOmega ?_
 intro W1 hb hz hr
 exact hK.out _ _ ⟨hb,⟨_,rfl,hS.1,hr⟩,fun _ b hb=>by cases hb; exact Nat.le_refl _⟩):p:=h
theorem ZU {p:Prop} (h:p:=by
 go_in
 go_wp2
 go_quiet (fail)
 go_wp2
 go_ret
 exact⟨_,rfl,aI ((Below.refl _ _).alloc (Nat.le_refl _) _) _,by rw[HF.out]; rfl⟩):p:=h
theorem ZW {p:Prop} (h:p:=by
 go_wp2_with fail
 refine(qF _ _ _ x HV.out byOmega).mono ?_
 rintro e wn ⟨va,rfl,hb,hu⟩
 have HA:=Ag hu
 clear hu
 replace x0:=ak x0 hb
 replace x1:=ak x1 hb
 replace x2:=ak x2 hb
 replace HV:=Ag (HV.out.below hb)
 refine Zc ?_
 clear hz hB hb
 intro hz hB
 clear HV
 dsimp only
 go_wp2_with fail
 refine(mZ _ 1 ay ay).mono ?_
 rintro e wn ⟨vb,rfl,hb,hu⟩
 have HB:=Ag (Ak.mono (G:=fun _=>True) hu (fun _ _ _=>trivial))
 clear hu
 replace x0:=ak x0 hb
 replace x1:=ak x1 hb
 exact ZK):p:=h
theorem ZY {p q:Prop} (k:q) (h:Mhid q→p:=by
 intro hq
 have x0:=rg.cell (i:=0) rfl
 have x1:=rg.cell (i:=1) rfl
 have x2:=rg.cell (i:=2) rfl
 revert x2
 revert x1
 revert x0
 exact hq.out):p:=h ⟨k⟩
theorem Z4 {p:Prop} (h:p:=by
 refine(fP wk 1 2 ay ay ay ay).mono ?_
 rintro e w' ⟨u,rfl,hb,hu⟩
 exact hK.out _ _ hb (show Ak _ _ _ q2 by rw[HQ2.out]; exact hu.mono fun _ _ _=>trivial)):p:=h
theorem Z5 {p q:Prop} (k:q) (h:Mhid q→p:=by
 intro hq
 rw[← hW]
 obtain⟨W1,hW,hbt,uQ,agQ⟩:=bH W 243 #[.nilFunc,.func (.func 190) #[] #[],.func (.func 191) #[] #[],.func (.func 192) #[] #[]]
 rw[← hW]
 clear hW
 have jY:=hbx.below uQ byOmega
 have hB1:Below w.heap.size w W1:=hWb.trans (uQ.mono byOmega)
 clear uQ
 rw[← hWz] at hbt
 have z0:=hbt.lt
 clear agQ
 revert z0
 revert hbt
 revert hB1
 revert jY
 revert W1
 exact hq.out):p:=h ⟨k⟩
theorem Z7 {p q:Prop} (k:q) (h:Mhid q→p:=by
 intro hq
 replace rz:=rz.below hb rz.lt
 refine Zf ?_
 intro hz hB hHeld
 revert hHeld
 revert hB
 revert hz
 revert rz
 exact hq.out):p:=h ⟨k⟩
theorem Z8 {p q:Prop} (k:q) (h:Mhid q→p:=by
 intro hq
 obtain⟨W,hW,rx,hB,hz⟩:=aO w 27 #[.int .i64 g.aA,.slice A g.nodes.length c,.slice Ai g.infos.length ci]
 rw[← hW]
 revert hz
 revert hB
 revert rx
 revert hW
 revert W
 exact hq.out):p:=h ⟨k⟩
theorem Ya {p q:Prop} (k:q) (h:Mhid q→p:=by
 intro hq
 have hsame:Same (Apart F v) w w':=⟨byOmega,fun b hb hl=>(h2.block b aF (fun e=>hb.2 e.symm)).trans (Below.heap_alloc _ _ _ hl)⟩
 have e1:(L ++ [q]).length=L.length+1:=aB
 have e2:(L ++ [q]).flatMap K.cells=L.flatMap K.cells++K.cells q:=by simp[List.flatMap_append]
 have afi:Same (fun b=>v.ownBlock≠some b) w w':=⟨byOmega,fun b hb hl=>(h2.block b aF (fun e=>hb e.symm)).trans (Below.heap_alloc _ _ _ hl)⟩
 refine h g cap w' ⟨by rw[e1,e2]; exact h1,fun p hp=>?_⟩ ((hbel.alloc byOmega _).grown h2 aF (fun k hk=>(hown.row.lt k hk).1)) byOmega afi
 revert hp
 revert p
 revert afi
 revert e2
 revert e1
 revert hsame
 exact hq.out):p:=h ⟨k⟩
theorem Yb {p q:Prop} (k:q) (h:Mhid q→p:=by
 intro hq
 show Exit.then _ _ .normal _ _
 exact hq.out):p:=h ⟨k⟩
theorem Yd {p:Prop} (h:p:=by
 obtain⟨W1,hw,hr,hb,hz⟩:=bH wk 42 #[.bool q2.neg,.slice A1 q2.num.length c1,.slice B1 q2.den.length d1,.bool q2.neg,.slice A2 q2.num.length c2,.slice B2 q2.den.length d2]
 rw[← hw]
 exact hK.out _ _ hb (fM (L:=[⟨q2,.slice A1 q2.num.length c1,.slice B1 q2.den.length d1⟩,⟨q2,.slice A2 q2.num.length c2,.slice B2 q2.den.length d2⟩]) hr (all2 (RV.fine.below hf1 hb) (RV.fine.below hf2 hb)))):p:=h
theorem Ye {p:Prop} (h:p:=by
 obtain⟨W1,hw,hr,hb,hz⟩:=bH wk 42 #[.bool p3.neg,.slice A5 p3.num.length c5,.slice B5 p3.den.length d5,.bool p1.neg,.slice A6 p1.num.length c6,.slice B6 p1.den.length d6]
 rw[← hw]
 exact hK.out _ _ hb (fM (L:=[⟨p3,.slice A5 p3.num.length c5,.slice B5 p3.den.length d5⟩,⟨p1,.slice A6 p1.num.length c6,.slice B6 p1.den.length d6⟩]) hr (all2 (RV.fine.below hf1 hb) (RV.fine.below hf2 hb)))):p:=h
theorem Yg {p q:Prop} (k:q) (h:Mhid q→p:=by
 intro hq
 replace x0:=ak x0 hb
 replace x1:=ak x1 hb
 replace x2:=ak x2 hb
 revert x2
 revert x1
 revert x0
 exact hq.out):p:=h ⟨k⟩
theorem Yl {p:Prop} (h:p:=by
 have hc:W.cell? ⟨bo,i,none⟩=some vr:=hm.row.cell (by unfold restN; rw[List.getElem?_append_left byOmega]; exact hvr)
 refine(aaH W (GoF F w B1) bo n n i j vr row x hc hra hx byOmega).mono ?_
 rintro e w' ⟨u,rfl,hb,hu⟩
 refine⟨u,rfl,hb,?_⟩
 unfold fF
 rw[if_neg h0,Int.toNat_natCast,Int.toNat_natCast,hrd,List.getD_eq_getElem?_getD,hx]
 exact hu.mono fun b hb _=>hb.1):p:=h
theorem Yn {p:Prop} (h:p:=by
 exact⟨_,rfl,hB,_,by rw[HME.out,HF.out,if_pos H0.out]; rfl,by rw[HMO.out,HF.out,if_pos H0.out]; exact RawRowsAt.nil _ _⟩):p:=h
theorem Yp {p q:Prop} (k:q) (h:Mhid q→p:=by
 intro hq
 refine wpAnyH_done ah ?_ _
 exact hq.out):p:=h ⟨k⟩
theorem Yq {p q:Prop} (k:q) (h:Mhid q→p:=by
 intro hq
 have HNY:=Ag (Ah.mono (n:=y.num.natAbs) (G:=(Ext (Old F w.heap.size) (w.heap.size+3))) hn (fun b hb _=>.inl hb))
 revert HNY
 exact hq.out):p:=h ⟨k⟩
theorem Yt {p q:Prop} (k:q) (h:Mhid q→p:=by
 intro hq
 obtain⟨W,hW,hr,hB,hz'⟩:=aO w 42 #[.bool false,.slice none 0 0,.slice none 0 0]
 rw[← hW]
 clear hW
 have hz:w.heap.size+1≤W.heap.size:=byOmega
 clear hz'
 revert hz
 revert hB
 revert hr
 revert W
 exact hq.out):p:=h ⟨k⟩
theorem Yu {p q:Prop} (k:q) (h:Mhid q→p:=by
 intro hq
 replace o0:=ak o0 hb
 replace c9:=ak c9 hb
 replace u0:=ak u0 hb
 replace p0:=ak p0 hb
 replace p1:=ak p1 hb
 replace HNV:=Ag (RawsAt.on HNV.out (Below.same' hb _))
 replace HMB:=Ag (HMB.out.below hb)
 replace hBe:=hBe.trans (hb.mono hBe.size)
 revert hBe
 revert HMB
 revert HNV
 revert p1
 revert p0
 revert u0
 revert c9
 revert o0
 exact hq.out):p:=h ⟨k⟩
theorem Yx {p q:Prop} (k:q) (h:Mhid q→p:=by
 intro hq
 replace HX:=Ag (HX.out.below hb)
 replace HY:=Ag (HY.out.below hb)
 refine Zo ?_
 intro HNX HNY HDX HDY HG HL HR
 replace HT1:=Ag (HT1.out.below hb)
 replace HT2:=Ag (HT2.out.below hb)
 replace HT:=Ag (HT.out.below hb)
 revert HT
 revert HT2
 revert HT1
 revert HR
 revert HL
 revert HG
 revert HDY
 revert HDX
 revert HNY
 revert HNX
 revert HY
 revert HX
 exact hq.out):p:=h ⟨k⟩
theorem Yy {p q:Prop} (k:q) (h:Mhid q→p:=by
 intro hq
 replace hr:=hr.below hb hr.lt
 refine Zc ?_
 intro hz hB
 dsimp only
 revert hB
 revert hz
 revert hr
 exact hq.out):p:=h ⟨k⟩
theorem YA {p:Prop} (h:p:=by
 go_wp2
 go_ret
 exact⟨by rw[HE.out]; rfl,rfl⟩):p:=h
theorem YB {p q:Prop} (k:q) (h:Mhid q→p:=by
 intro hq
 have wr0:IntKind.i64.wrap (nx:Int)=(nx:Int):=IntWalk.i64_in _ byOmega
 have wr2:IntKind.i64.wrap ((nx:Int) - 1)=(nx:Int) - 1:=IntWalk.i64_in _ byOmega
 refine wp_region_held_drew (S:=fun w'=>w'.cell? ⟨p,1,none⟩=some (.slice (some ⟨b,o,none⟩) g.nodes.length c)∧w'.cell? ⟨p,5,none⟩=some (.slice (some ⟨bl,0,none⟩) g.nodes.length g.nodes.length)) ah ⟨x1,x5⟩ (fun hHeld=>?_)
 revert hHeld
 revert wr2
 revert wr0
 exact hq.out):p:=h ⟨k⟩
theorem YC {p q:Prop} (k:q) (h:Mhid q→p:=by
 intro hq
 have hw:Wrote (fun b=>v.ownBlock=some b) w w':=⟨h2.os,h2.tape,h2.output,byOmega,fun b hl hb=>(h2.block b aF (fun e=>hb e.symm)).trans (Below.heap_alloc _ _ _ hl)⟩
 have e1:(L ++ [q]).length=L.length+1:=aB
 have e2:(L ++ [q]).flatMap K.cells=L.flatMap K.cells++K.cells q:=by simp[List.flatMap_append]
 refine h g cap w' ⟨by rw[e1,e2]; exact h1,fun p hp=>?_⟩ hw (h3.imp id fun e=>by omega) byOmega
 revert hp
 revert p
 revert e2
 revert e1
 revert hw
 exact hq.out):p:=h ⟨k⟩
theorem YD {p:Prop} (h:p:=by
 exact hK.out _ _ ⟨Below.refl _ _,rfl,fun h=>(by simp[dX] at h)⟩):p:=h
theorem YG {p:Prop} (h:p:=by
 have hrun:=run_make_row' (P:=P) t e z bytes ht hinfo hz1 .i64 .i64 n hbytes byOmega w
 unfold Oper.wp
 simp[execOp,hop,hl,hc,hrun,Result.andThen]
 have hbel:Below w.heap.size w (w.alloc (.cells (madeCells #[z] n) e)):=(Below.refl _ _).alloc (Nat.le_refl _) _
 exact hK _ hbel aB (Row.made w z n e)):p:=h
theorem YI {p q:Prop} (k:q) (h:Mhid q→p:=by
 intro hq
 refine⟨.slice A' (g.nodes.length - nx) (c - nx),by rw[HF.out]; simp,by rw[HF.out]; intro _; exact⟨A',aB,by simpa using hA'⟩,?_,(hgr.setCell (.inl (.inr (.inr rfl))) _).drew⟩
 rw[HF.out]
 have h:=HWA.out
 refine⟨(h.head.other d3 _).drew,(h.rp.other d5 _).drew,(h.rd.other d6 _).drew,?_⟩
 have:=(h.rl.set a (.int .i64 ((nx:Int) - 1))).drew
 revert this
 revert h
 exact hq.out):p:=h ⟨k⟩
theorem YK {p q:Prop} (k:q) (h:Mhid q→p:=by
 intro hq
 have hlen:=kK (N:=g.nodes.length) g.nodes (g.nodes.length+1) 0 (-1) 0 ⟨List.replicate g.nodes.length 0,List.replicate g.nodes.length 0,List.replicate g.nodes.length 0⟩ ⟨aB,aB,aB⟩
 have hT:walkT g=bK g.nodes (g.nodes.length+1) 0 (-1) 0 ⟨List.replicate g.nodes.length 0,List.replicate g.nodes.length 0,List.replicate g.nodes.length 0⟩:=rfl
 revert hT
 revert hlen
 exact hq.out):p:=h ⟨k⟩
theorem YL {p q:Prop} (k:q) (h:Mhid q→p:=by
 intro hq
 have hHeld:(fun w':World=>w'.cell? ⟨w.heap.size,0,none⟩=some (.bool (au x).neg)∧w'.cell? ⟨w.heap.size,1,none⟩=some (.slice A (au x).num.length c)∧w'.cell? ⟨w.heap.size,2,none⟩=some (.slice B (au x).den.length d)) W.drew:=⟨x0,x1,x2⟩
 refine Zq ?_
 have hb:Below W.heap.size W W.drew:=aI (Below.refl _ W) 1
 refine Yg ?_
 revert hb
 revert hHeld
 exact hq.out):p:=h ⟨k⟩
theorem YM {p q:Prop} (k:q) (h:Mhid q→p:=by
 intro hq
 unfold Ba
 show Exit.inBlock _ _ .normal _ _
 exact hq.out):p:=h ⟨k⟩
theorem YR {p q:Prop} (k:q) (h:Mhid q→p:=by
 intro hq
 replace HG:=Ag (HG.out.on (Below.same' hb _))
 refine ZM ?_
 intro HT hB
 revert hB
 revert HT
 revert HG
 exact hq.out):p:=h ⟨k⟩
theorem YT {p q:Prop} (k:q) (h:Mhid q→p:=by
 intro hq
 have HNX:=Ag (Ah.mono (n:=x.num.natAbs) (G:=(Ext (Old F w.heap.size) (w.heap.size+3))) hn (fun b hb _=>.inl hb))
 revert HNX
 exact hq.out):p:=h ⟨k⟩
theorem YV {p q:Prop} (k:q) (h:Mhid q→p:=by
 intro hq
 refine Zq ?_
 have hb:Below wr.heap.size wr wr.drew:=aI (Below.refl _ wr) 1
 revert hb
 exact hq.out):p:=h ⟨k⟩
theorem YW {p:Prop} (h:p:=by
 exact⟨_,rfl,(Below.refl _ _).alloc (Nat.le_refl _) _,.pointer none,by rw[HF.out]; rfl,by rw[HF.out]; intro h; simp at h⟩):p:=h
theorem YX {p:Prop} (h:p:=by
 go_wp2
 go_quiet (fail)
 go_wp2
 go_ret
 exact⟨_,rfl,aI hbel _,by rw[HF.out]; rfl⟩):p:=h
theorem YZ {p q:Prop} (k:q) (h:Mhid q→p:=by
 intro hq
 refine Zh ?_
 intro rg rz rn rt HG
 refine ZE ?_
 intro HM HR
 replace HBK:=Ag (RawRowsAt.on HBK.out (Below.same' hb _))
 revert HBK
 revert HR
 revert HM
 revert HG
 revert rt
 revert rn
 revert rz
 revert rg
 exact hq.out):p:=h ⟨k⟩
theorem Y2 {p q:Prop} (k:q) (h:Mhid q→p:=by
 intro hq
 show wpList _ _ _ _ _ _
 exact hq.out):p:=h ⟨k⟩
theorem Y3 {p q:Prop} (k:q) (h:Mhid q→p:=by
 intro hq
 have f25:=aJ (f:=(Fact.eq (.bool true))) (hf (25,v25) aB ah) rfl
 revert f25
 exact hq.out):p:=h ⟨k⟩
theorem Y4 {p:Prop} (h:p:=by
 go_wp2
 go_ret
 exact⟨by first | rfl | (rw[HF.out]; rfl),rfl⟩):p:=h
theorem Y7 {p:Prop} (h:p:=by
 go_wp2
 go_ret
 exact⟨_,rfl,hB.trans (hbel.mono hB.size),by rw[HE.out]; rfl⟩):p:=h
theorem Y8 {p q:Prop} (k:q) (h:Mhid q→p:=by
 intro hq
 replace rx:=rx.below hb rx.lt
 replace ry:=ry.below hb ry.lt
 replace hB:=hB.trans (hb.mono hB.size)
 revert hB
 revert ry
 revert rx
 exact hq.out):p:=h ⟨k⟩
theorem Y9 {p q:Prop} (k:q) (h:Mhid q→p:=by
 intro hq
 replace z0:=ak z0 hb
 replace z1:=ak z1 hb
 replace z2:=ak z2 hb
 refine Zl ?_
 intro HG HA HB HV HT
 replace HP:=Ag (AB.on HP.out (Below.same' hb _))
 replace HNT:=Ag (Ak.on HNT.out (Below.same' hb _))
 revert HNT
 revert HP
 revert HT
 revert HV
 revert HB
 revert HA
 revert HG
 revert z2
 revert z1
 revert z0
 exact hq.out):p:=h ⟨k⟩
theorem zaa {p q:Prop} (k:q) (h:Mhid q→p:=by
 intro hq
 replace dZ:=dZ.trans (hb.mono dZ.size)
 dsimp only
 refine hK.out _ _ ⟨m2,y0,y1,y2,v0,v1,v2,m1,t0,t1,t2,u0,u1,u2,s1,x0,x1,x2⟩ (fun hHeld=>?_)
 refine Zb ?_
 revert hHeld
 revert dZ
 exact hq.out):p:=h ⟨k⟩
theorem zad {p:Prop} (h:p:=by
 go_wp2
 go_ret
 refine⟨_,rfl,hbel,?_⟩
 have h5:=HO.out.raws (G:=fun b=>w.heap.size≤b) (fun b hb=>hb) (fun b hb=>hb)
 rw[HL.out,List.take_of_length_le byOmega] at h5
 unfold CX
 rw[HW.out,List.map_map]
 exact h5):p:=h
theorem zaf {p q:Prop} (k:q) (h:Mhid q→p:=by
 intro hq
 replace HDX:=Ag (HDX.out.below hb)
 replace HDY:=Ag (HDY.out.below hb)
 revert HDY
 revert HDX
 exact hq.out):p:=h ⟨k⟩
theorem zah {p:Prop} (h:p:=by
 have HF:=Ag (show gW aA ni x=3 by unfold gW; rw[if_pos byOmega])
 exact Zy):p:=h
theorem zai {p:Prop} (h:p:=by
 refine Row.alloc ?_ _
 exact Row.uG aB rfl):p:=h
theorem zam {p q:Prop} (k:q) (h:Mhid q→p:=by
 intro hq
 refine Zg ?_
 intro hHeld
 have hb:Below wn.heap.size wn wn.drew:=aI (Below.refl _ wn) 1
 revert hb
 revert hHeld
 exact hq.out):p:=h ⟨k⟩
theorem zan {p q:Prop} (k:q) (h:Mhid q→p:=by
 intro hq
 unfold RtV
 rw[HM.out]
 have hg0:0 < Nat.gcd n b:=Nat.gcd_pos_of_pos_right _ byOmega
 have HGN:=Ag (Nat.gcd_dvd_left n b)
 have HG:=Ag (show ∀ w,Calls Tryz.prog 91 #[.int .i64 (n:Int),.int .i64 (b:Int)] w (Ret w fun v _=>v = .int .i64 (Nat.gcd n b:Int)) from fun w=>agu w n b h1 h2)
 revert HG
 revert HGN
 revert hg0
 exact hq.out):p:=h ⟨k⟩
theorem zao {p q:Prop} (k:q) (h:Mhid q→p:=by
 intro hq
 have hb:Below W.heap.size W W.drew:=aI (Below.refl _ W) 1
 revert hb
 exact hq.out):p:=h ⟨k⟩
theorem zas {p:Prop} (h:p:=by
 obtain⟨A,c,rfl,hc,hr⟩:=h
 obtain⟨b,o,rfl,hF,hb,hcell⟩:=hr (by have:=lt_of_get hk; omega)
 obtain⟨u,e0,i⟩:=hcell k l hk
 rw[Nat.mul_one] at e0
 exact⟨b,o,c,u,rfl,hF,hb,e0,i⟩):p:=h
theorem zav {p:Prop} (h:p:=by
 exact⟨rfl,⟨⟨3,0,0,[],[],pl⟩,.slice none 0 0,.slice none 0 0,.slice (some ⟨gu,0,none⟩) k cu⟩,by rw[HE.out.2,hpy],by rw[HE.out.1,hpy,hsz]; exact HM9.out,HW9.out⟩):p:=h
theorem zax {p q:Prop} (k:q) (h:Mhid q→p:=by
 intro hq
 refine hK.out _ _ ⟨(HWA.out.head.other (a:=⟨bl,a,none⟩) d3 _).drew.cell rfl,(HWA.out.head.other (a:=⟨bl,a,none⟩) d3 _).drew.cell rfl⟩ (fun hHeld=>?_)
 refine Zb ?_
 refine Yp ?_
 clear hHeld
 exact hq.out):p:=h ⟨k⟩
theorem zay {p q:Prop} (k:q) (h:Mhid q→p:=by
 intro hq
 have y0:=ry.cell (i:=0) rfl
 have y1:=ry.cell (i:=1) rfl
 have y2:=ry.cell (i:=2) rfl
 revert y2
 revert y1
 revert y0
 exact hq.out):p:=h ⟨k⟩
theorem zaA {p q:Prop} (k:q) (h:Mhid q→p:=by
 intro hq
 replace rx:=rx.below hb rx.lt
 replace hB:=hB.trans (hb.mono hB.size)
 revert hB
 revert rx
 exact hq.out):p:=h ⟨k⟩
theorem zaB {p q:Prop} (k:q) (h:Mhid q→p:=by
 intro hq
 have s1:=(hbel.cell (p:=⟨sb,so+k,none⟩) hsbl).trans HVS.out
 have x0:=(hbel.cell (p:=⟨eb,eo+j*3,none⟩) ahY).trans Hx0.out
 have x1:=(hbel.cell (p:=⟨eb,eo+j*3+1,none⟩) ahY).trans Hx1.out
 have x2:=(hbel.cell (p:=⟨eb,eo+j*3+2,none⟩) ahY).trans Hx2.out
 revert x2
 revert x1
 revert x0
 revert s1
 exact hq.out):p:=h ⟨k⟩
theorem zaD {p q:Prop} (k:q) (h:Mhid q→p:=by
 intro hq
 replace HZ:=Ag (RawRowsAt.on HZ.out (Below.same' hb _))
 refine Zd ?_
 revert HZ
 exact hq.out):p:=h ⟨k⟩
theorem zaE {p:Prop} (h:p:=by
 refine(aaG W _ s.1 s.2 h0).mono ?_
 rintro e w' ⟨u,rfl,hb,hu⟩
 refine⟨u,rfl,hb,?_⟩
 unfold fF
 rw[if_pos h0]
 have:=hm.size
 exact hu.mono fun b hb _=>.inr byOmega):p:=h
theorem zaG {p q:Prop} (k:q) (h:Mhid q→p:=by
 intro hq
 refine ZC ?_
 intro rz hz hB
 dsimp only
 revert hB
 revert hz
 revert rz
 exact hq.out):p:=h ⟨k⟩
theorem zaI {p:Prop} (h:p:=by
 exact⟨_,rfl,hwz _ _ (Nat.le_refl _) hB,_,_,rfl,(HN.out.on (hkz _ byOmega)).mono (fun b hb _=>by omega),(HD.out.on (hkz _ byOmega)).mono (fun b hb _=>by omega)⟩):p:=h
theorem zaJ {p q:Prop} (k:q) (h:Mhid q→p:=by
 intro hq
 have HDY:=Ag (hu.mono (G:=(Ext (Old F w.heap.size) (w.heap.size+3))) (fun b hb _=>hb.elim .inl fun h=>.inr byOmega))
 revert HDY
 exact hq.out):p:=h ⟨k⟩
theorem zaK {p q:Prop} (k:q) (h:Mhid q→p:=by
 intro hq
 replace HW:=Ag (HW.out.trans (Below.wrote hb _))
 replace k6:=Nat.le_trans k6 hb.size
 revert k6
 revert HW
 exact hq.out):p:=h ⟨k⟩
theorem zaM {p q:Prop} (k:q) (h:Mhid q→p:=by
 intro hq
 replace hzr:=Nat.le_trans hzr hb.size
 replace hbel:=hbel.trans (hb.mono hbel.size)
 dsimp only
 refine hK.out _ _ ⟨o0,o1,o2⟩ (fun hHeld=>?_)
 refine Zb ?_
 revert hHeld
 revert hbel
 revert hzr
 exact hq.out):p:=h ⟨k⟩
theorem zaN {p q:Prop} (k:q) (h:Mhid q→p:=by
 intro hq
 replace hs1:=hs1.below hb hs1.lt
 replace ht1:=ht1.below hb ht1.lt
 replace hB:=hB.trans (hb.mono hB.size)
 revert hB
 revert ht1
 revert hs1
 exact hq.out):p:=h ⟨k⟩
theorem zaO {p q:Prop} (k:q) (h:Mhid q→p:=by
 intro hq
 have HF:=Ag (show dI x=3 by unfold dI; rw[if_pos byOmega])
 revert HF
 exact hq.out):p:=h ⟨k⟩
theorem zaQ {p:Prop} (h:p:=by
 rw[List.erase_cons_tail (by simpa using hji)]
 simp only[l7,Bool.and_eq_true,List.all_eq_true]
 exact⟨fun k hk=>hok.1 k (List.mem_of_mem_erase hk),ih hok.2⟩):p:=h
theorem zaR {p:Prop} (h:p:=by
 rintro e w' ⟨_,rfl,hb,rfl⟩
 exact hK.out _ _ hb (by rw[decide_eq_true rfl]; rfl)):p:=h
theorem zaU {p:Prop} (h:p:=by
 refine(fP wk 3 4 ay ay ay ay).mono ?_
 rintro e w' ⟨u,rfl,hb,hu⟩
 exact hK.out _ _ hb (show Ak _ _ _ p3 by rw[HP3.out]; exact hu.mono fun _ _ _=>trivial)):p:=h
theorem zaV {p:Prop} (h:p:=by
 refine(fP wk 1 4 ay ay ay ay).mono ?_
 rintro e w' ⟨u,rfl,hb,hu⟩
 exact hK.out _ _ hb (show Ak _ _ _ p1 by rw[HP1.out]; exact hu.mono fun _ _ _=>trivial)):p:=h
theorem zaW {p q:Prop} (k:q) (h:Mhid q→p:=by
 intro hq
 obtain⟨W9,hW9,hm9,hw9⟩:=HM2.out.setNode rfl hi ⟨⟨3,0,0,[],[],pl⟩,.slice none 0 0,.slice none 0 0,.slice (some ⟨gu,0,none⟩) k cu⟩ ⟨aed,aed,HO.out.ints fun b hb=>.inr ⟨by have:=(HO.out.row.lt b hb).1; omega,(HO.out.row.lt b hb).2⟩⟩
 revert hw9
 revert hm9
 revert hW9
 revert W9
 exact hq.out):p:=h ⟨k⟩
theorem zaZ {p:Prop} (h:p:=by
 go_wp2
 refine bodyPost_ret (results_none rfl _ _ _) rfl ?_
 exact⟨rfl,_,_,Lv,rfl,rfl,by first | exact HM.out | (rw[e]; exact HM.out),Wrote.refl _ _⟩):p:=h
theorem za3 {p q:Prop} (k:q) (h:Mhid q→p:=by
 intro hq
 refine Zq ?_
 have hb:Below W7.heap.size W7 W7.drew:=aI (Below.refl _ W7) 1
 obtain⟨wn,hwn⟩:=named W7.drew
 rw[← hwn] at hb hHeld ⊢
 have hzn:=hb.size
 replace HM:=Ag (HM.out.below hb)
 revert HM
 revert hzn
 revert hHeld
 revert hb
 revert hwn
 revert wn
 exact hq.out):p:=h ⟨k⟩
theorem za4 {p:Prop} (h:p:=by
 dsimp only
 go_wp2_with fail
 refine(adZ w).mono ?_
 rintro e w1 ⟨v,rfl,hb1,hv⟩
 have HV:=Ag hv
 clear hv
 go_wp2
 go_ret
 exact⟨_,rfl,hb1,HV.out⟩):p:=h
theorem za5 {p:Prop} (h:p:=by
 exact⟨_,rfl,hwz _ _ byOmega hB,by rw[HZ.out]; exact NmV.zero _ _ _ _ _ _⟩):p:=h
theorem za7 {p q:Prop} (k:q) (h:Mhid q→p:=by
 intro hq
 rw[Array.getElem?_setIfInBounds,Array.getElem?_push,Array.getElem?_push,Array.getElem?_setIfInBounds]
 simp only[Array.size_push,Array.size_setIfInBounds]
 exact hq.out):p:=h ⟨k⟩
theorem za8 {p q:Prop} (k:q) (h:Mhid q→p:=by
 intro hq
 rw[Nat.mul_one] at ec
 rw[← hgr.cell b3 _ akF (by rintro(h | h | h) <;> simp_all)] at ec
 have HD:=Ag (show n.next.drop j=ch :: n.next.drop (j+1) by rw[List.drop_eq_getElem_cons hjt]; congr 1; simpa [hjt] using hch)
 revert HD
 revert ec
 exact hq.out):p:=h ⟨k⟩
theorem za9 {p:Prop} (h:p:=by
 rw[List.take_of_length_le byOmega,List.length_map,hbl] at hrw
 have HRW:=Ag hrw
 clear hrw hbl HM
 go_wp2
 go_ret
 exact⟨_,rfl,hB,HRW.out⟩):p:=h
theorem zba {p:Prop} (h:p:=by
 refine⟨k+1,byOmega,by go_num,?_,hbel.drew.trans (hb.mono hbel.size)⟩
 have e2:=HY.out
 rw[← HEQ.out] at e2
 exact kW HX.out e2 HP.out):p:=h
theorem zbc {p q:Prop} (k:q) (h:Mhid q→p:=by
 intro hq
 have HF:=Ag (show jS aA x=3 by unfold jS; rw[if_pos byOmega])
 revert HF
 exact hq.out):p:=h ⟨k⟩
theorem zbe {p q:Prop} (k:q) (h:Mhid q→p:=by
 intro hq
 have g0:wk.cell? ⟨zb,0,none⟩=some (.bool q0.neg):=hS.1
 have g1:wk.cell? ⟨zb,1,none⟩=some (.slice A0 q0.num.length c0):=hS.2.1
 have g2:wk.cell? ⟨zb,2,none⟩=some (.slice B0 q0.den.length d0):=hS.2.2.1
 revert g2
 revert g1
 revert g0
 exact hq.out):p:=h ⟨k⟩
theorem zbf {p q:Prop} (k:q) (h:Mhid q→p:=by
 intro hq
 have fl:=HWA.out.rl.frozen a
 obtain⟨yl,hyl⟩:=getSome (show a < t'.l.length by rw[hlen.l]; exact hlt)
 have sl:wr.cell? ⟨bl,a,none⟩=some (.int .i64 yl):=HWA.out.rl.cell (by simp[kL,hyl])
 clear hyl
 refine tk2 16 ah rfl fun K hK=>?_
 revert hK
 revert K
 revert sl
 revert yl
 revert fl
 exact hq.out):p:=h ⟨k⟩
theorem zbq {p q:Prop} (k:q) (h:Mhid q→p:=by
 intro hq
 replace o0:=ak o0 hb
 replace o1:=ak o1 hb
 replace o2:=ak o2 hb
 replace HRA:=Ag (HRA.out.below hb)
 replace BX:=Ag (BX.out.below hb)
 revert BX
 revert HRA
 revert o2
 revert o1
 revert o0
 exact hq.out):p:=h ⟨k⟩
theorem zbr {p q:Prop} (k:q) (h:Mhid q→p:=by
 intro hq
 replace hcu:=ak hcu hb
 replace f0:=ak f0 hb
 replace f1:=ak f1 hb
 replace f2:=ak f2 hb
 refine Yg ?_
 revert f2
 revert f1
 revert f0
 revert hcu
 exact hq.out):p:=h ⟨k⟩
theorem zbs {p q:Prop} (k:q) (h:Mhid q→p:=by
 intro hq
 have ajP:=hok.1 i hi'
 obtain⟨x,hx⟩:∃ x,ops[j]? = some x:=⟨ops[j]'(hlt j aB),by simp[hlt j aB]⟩
 obtain⟨y,hy⟩:∃ y,ops[i]? = some y:=⟨ops[i]'(hlt i hi),by simp[hlt i hi]⟩
 obtain⟨f1,f2,f3⟩:=adU hx hy ajP
 have f3':=f3 (uD j aB)
 have ex:iD ops j=x.dst:=by simp[iD,hx]
 have ey:iD ops i=y.dst:=by simp[iD,hy]
 revert ey
 revert ex
 revert f3'
 revert f3
 revert f2
 revert f1
 revert hy
 revert y
 revert hx
 revert x
 revert ajP
 exact hq.out):p:=h ⟨k⟩
theorem zbt {p q:Prop} (k:q) (h:Mhid q→p:=by
 intro hq
 have H9:=Ag hW9
 have HM9:=Ag hm9
 have HW9:=Ag (HW.out.step hw9 fun j _ e=>.inr (.inr (.inr (.inl (by rw[e]; rfl)))))
 revert HW9
 revert HM9
 revert H9
 exact hq.out):p:=h ⟨k⟩
theorem zbu {p q:Prop} (k:q) (h:Mhid q→p:=by
 intro hq
 replace HR:=Ag (RawRowsAt.on HR.out (Below.same' hb _))
 replace HP:=Ag (AB.on HP.out (Below.same' hb _))
 refine ZM ?_
 revert HP
 revert HR
 exact hq.out):p:=h ⟨k⟩
theorem zbw {p q:Prop} (k:q) (h:Mhid q→p:=by
 intro hq
 have hm:=Nat.mul_le_mul (show L.length+1≤1000001 by omega) hby
 obtain⟨i0,hi,hz0,hz1,hz2⟩:=info_parts hi0
 revert hz2
 revert hz1
 revert hz0
 revert hi
 revert i0
 revert hm
 exact hq.out):p:=h ⟨k⟩
theorem zby {p q:Prop} (k:q) (h:Mhid q→p:=by
 intro hq
 have x0:=r7.cell (i:=0) rfl
 have x1:=r7.cell (i:=1) rfl
 have x2:=r7.cell (i:=2) rfl
 revert x2
 revert x1
 revert x0
 exact hq.out):p:=h ⟨k⟩
theorem zbz {p q:Prop} (k:q) (h:Mhid q→p:=by
 intro hq
 have m8:=HM1.out.box.cell (i:=8) rfl
 refine Zi ?_
 intro x0 x1 x2
 have x3:=rx.cell (i:=3) rfl
 have x4:=rx.cell (i:=4) rfl
 have x5:=rx.cell (i:=5) rfl
 revert x5
 revert x4
 revert x3
 revert x2
 revert x1
 revert x0
 revert m8
 exact hq.out):p:=h ⟨k⟩
theorem zbB {p:Prop} (h:p:=by
 exact⟨_,rfl,HBF.out,_,by rw[Du.out]; rfl,by rw[HU.out,if_pos (by rw[Du.out]; decide)]; exact RawRowsAt.nil _ _⟩):p:=h
theorem zbC {p q:Prop} (k:q) (h:Mhid q→p:=by
 intro hq
 have dx:decide (x=0)=false:=decide_eq_false hx0
 have dy:decide (y=0)=false:=decide_eq_false hy0
 have lx:=gJ x
 revert lx
 revert dy
 revert dx
 exact hq.out):p:=h ⟨k⟩
theorem zbD {p:Prop} (h:p:=by
 have e:some g=some b:=hb
 cases e
 rfl):p:=h
theorem zbE {p:Prop} (h:p:=by
 have h1:=qX (iY HF.out).1 (List.mem_of_getElem? HNN.out) hk2
 have h2:=HP.out
 exact⟨n.aC.toNat,byOmega,byOmega⟩):p:=h
theorem zbF {p q:Prop} (k:q) (h:Mhid q→p:=by
 intro hq
 have hS:∀ (G:Foot),(∀ b,G b→b≠bo)→Same G wr (wr.setCell ⟨bo,k,none⟩ v):=fun G hG=>Same.setCell G wr (p:=⟨bo,k,none⟩) (fun h=>hG bo h rfl) _
 revert hS
 exact hq.out):p:=h ⟨k⟩
theorem zbH {p q:Prop} (k:q) (h:Mhid q→p:=by
 intro hq
 rw[show(List.map (List.map aG) _).length=3 from rfl] at e
 revert e
 exact hq.out):p:=h ⟨k⟩
theorem zbM {p q:Prop} (k:q) (h:Mhid q→p:=by
 intro hq
 have HR:=Ag (RawRowsAt.keep (G:=(fun _=>True)) hu (fun _ _ _=>trivial) (Same.refl _ _))
 revert HR
 exact hq.out):p:=h ⟨k⟩
theorem zbR {p q:Prop} (k:q) (h:Mhid q→p:=by
 intro hq
 refine(ig _ _ _ x HX.out).mono ?_
 exact hq.out):p:=h ⟨k⟩
theorem zbU {p q:Prop} (k:q) (h:Mhid q→p:=by
 intro hq
 have HUB:=Ag (fun b (e:u.ownBlock=some b)=>HM.out.own.row.lt b e)
 revert HUB
 exact hq.out):p:=h ⟨k⟩
theorem zbV {p:Prop} (h:p:=by
 go_wp2
 go_quiet (fail)
 go_wp2
 go_ret
 exact⟨_,rfl,aI (hbel.alloc hbel.size _) _,by rw[HF.out]; rfl⟩):p:=h
theorem zbW {p q:Prop} (k:q) (h:Mhid q→p:=by
 intro hq
 replace HX:=Ag (RawRowsAt.on HX.out (Below.same' hb _))
 replace HY:=Ag (RawRowsAt.on HY.out (Below.same' hb _))
 revert HY
 revert HX
 exact hq.out):p:=h ⟨k⟩
theorem zbX {p:Prop} (h:p:=by
 have hl:=lt_of_get h
 rw[List.drop_eq_getElem_cons hl]
 have:l[k]=x:=by simpa [hl] using h
 rw[this]
 rfl):p:=h
theorem zb3 {p q:Prop} (k:q) (h:Mhid q→p:=by
 intro hq
 have f24:=aJ (f:=(Fact.eq (.bool true))) (hf (24,v24) aB ah) rfl
 revert f24
 exact hq.out):p:=h ⟨k⟩
theorem zb4 {p:Prop} (h:p:=by
 exact h1.perm (fun p=>by simp only[List.mem_cons]; constructor <;> (rintro(h | h | h) <;> simp[h]))):p:=h
theorem zb5 {p:Prop} (h:p:=by
 exact⟨_,rfl,hwz _ _ (Nat.le_refl _) hB,(HM.out.on (hkz _ byOmega)).mono (fun b hb _=>by omega)⟩):p:=h
theorem zb6 {p q:Prop} (k:q) (h:Mhid q→p:=by
 intro hq
 have hz:w.heap.size+2≤W.heap.size:=hz
 refine Zi ?_
 revert hz
 exact hq.out):p:=h ⟨k⟩
theorem zb7 {p:Prop} (h:p:=by
 exact⟨_,by rw[HF.out]; rfl,by rw[HF.out]; intro h; simp at h,by rw[HF.out]; exact HWA.out,hgr⟩):p:=h
theorem zb8 {p q:Prop} (k:q) (h:Mhid q→p:=by
 intro hq
 have HX:=Ag ha.old
 have HY:=Ag hb.old
 revert HY
 revert HX
 exact hq.out):p:=h ⟨k⟩
theorem zb9 {p q:Prop} (k:q) (h:Mhid q→p:=by
 intro hq
 have d0:((l1.length:Int) != (l2.length:Int))=false:=aF
 have Q0:=Ag q0
 revert Q0
 revert d0
 exact hq.out):p:=h ⟨k⟩
theorem zcc {p q:Prop} (k:q) (h:Mhid q→p:=by
 intro hq
 replace HX1:=Ag (RawRowsAt.on HX1.out (Below.same' hb _))
 replace HX2:=Ag (RawRowsAt.on HX2.out (Below.same' hb _))
 revert HX2
 revert HX1
 exact hq.out):p:=h ⟨k⟩
theorem zcd {p q:Prop} (k:q) (h:Mhid q→p:=by
 intro hq
 have m1:=(hbel.cell (p:=⟨mb,mo+k,none⟩) tH).trans HVP.out
 revert m1
 exact hq.out):p:=h ⟨k⟩
theorem zce {p q:Prop} (k:q) (h:Mhid q→p:=by
 intro hq
 refine zaG ?_
 intro rz hz hB
 refine hK.out _ _ ⟨x0,x1,x2,y0,y1,y2,s0,s1,s2,t0,t1,t2⟩ (fun hHeld=>?_)
 refine Zb ?_
 revert hHeld
 revert hB
 revert hz
 revert rz
 exact hq.out):p:=h ⟨k⟩
theorem zcg {p:Prop} (h:p:=by
 exact⟨_,by rw[HF.out]; rfl,by rw[HF.out]; intro h; simp at h,by rw[HF.out]; exact afj,hgg⟩):p:=h
theorem zch {p:Prop} (h:p:=by
 go_wp2
 go_ret
 exact⟨_,rfl,hB,by rw[HR.out]; rfl⟩):p:=h
theorem zci {p:Prop} (h:p:=by
 go_wp2
 go_ret
 exact⟨_,rfl,hB,by rw[HE.out]; rfl⟩):p:=h
theorem zcj {p:Prop} (h:p:=by
 rw[show(1:Rat).num=1 from rfl,show(1:Rat).den=1 from rfl,show(1:Int).natAbs=1 from rfl,iZ]
 rfl):p:=h
theorem zcl {p q:Prop} (k:q) (h:Mhid q→p:=by
 intro hq
 replace HP1:=Ag (HP1.out.below hb)
 replace HP2:=Ag (HP2.out.below hb)
 replace HT1:=Ag (HT1.out.below hb)
 revert HT1
 revert HP2
 revert HP1
 exact hq.out):p:=h ⟨k⟩
theorem zcm {p q:Prop} (k:q) (h:Mhid q→p:=by
 intro hq
 have h2:(au x).den.length≤1024:=byOmega
 have d1:decide ((1024:Int) < ((au x).num.length:Int))=false:=aF
 have d2:decide ((1024:Int) < ((au x).den.length:Int))=false:=aF
 revert d2
 revert d1
 revert h2
 exact hq.out):p:=h ⟨k⟩
theorem zcs {p q:Prop} (k:q) (h:Mhid q→p:=by
 intro hq
 replace HR4:=Ag (HR4.out.below hb HR4.out.lt)
 replace HMR:=Ag (HMR.out.below hb)
 replace HD4:=Ag (HD4.out.keep (fun _ h _=>h) (Below.same' hb _))
 replace HB4:=Ag (HB4.out.trans (hb.mono HB4.out.size))
 replace DC:=Ag (DC.out.trans (hb.mono DC.out.size))
 replace hc4:=ak hc4 hb
 replace hz4:=Nat.le_trans hz4 hb.size
 revert hz4
 revert hc4
 revert DC
 revert HB4
 revert HD4
 revert HMR
 revert HR4
 exact hq.out):p:=h ⟨k⟩
theorem zcu {p q:Prop} (k:q) (h:Mhid q→p:=by
 intro hq
 simp only[Array.getD_eq_getD_getElem?,Array.getElem?_push]
 exact hq.out):p:=h ⟨k⟩
theorem zcw {p q:Prop} (k:q) (h:Mhid q→p:=by
 intro hq
 have HF:=Ag (show bK g.nodes (f+1) a par dep t=(-1,rd) by rw[HR.out,HV2.out,if_pos hng]; simp)
 have hdn:decide (0≤rn)=false:=decide_eq_false byOmega
 revert hdn
 revert HF
 exact hq.out):p:=h ⟨k⟩
theorem zcx {p:Prop} (h:p:=by
 exact⟨_,rfl,hB2,.pointer none,by rw[HF.out]; rfl,by rw[HF.out]; intro h; simp at h⟩):p:=h
theorem zcy {p q:Prop} (k:q) (h:Mhid q→p:=by
 intro hq
 replace hB:=hB.trans (hb.mono hB.size)
 dsimp only
 revert hB
 exact hq.out):p:=h ⟨k⟩
theorem zcz {p:Prop} (h:p:=by
 have:=congrArg List.length hn
 simp at this
 omega):p:=h
end Go.Proofs.YtnmeejofpkhlkaaGreatDoor
