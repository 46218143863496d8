import Derived.Test.YtenaplhghbcjhaaGreatDoorQ03
import Derived.Test.YtenaplhghbcjhaaGreatDoorQ01
import Derived.Test.YtenaplhghbcjhaaGreatDoorProg
import Derived.WalkKit
import Derived.Deep.QuietTactic
import Derived.BigQuiet
import Derived.Lib.Hide
import Derived.Deep.OwnRows
set_option linter.all false
set_option maxRecDepth 100000
set_option maxHeartbeats 0
namespace Go.Proofs.YtenaplhghbcjhaaGreatDoor
open Go.RowKit.Below renaming alloc->Lc,heap_setCell->JA,refl->GR,setCell->KU
open Go.IntKind renaming i64->GU
open Go renaming Value->GN,World->GK
open Go.Value renaming int->GV,slice->Gw
open Int renaming eq_ofNat_of_zero_le->J4
open List renaming map_set->Jj,mem_of_getElem?->Gx,replicate->GX,take_of_length_le->G8
open Nat renaming le_refl->Gy,le_trans->He,lt_of_lt_of_le->Hz,mul_one->Ho
open Go.Proofs.Tryz renaming prog->GI
open Go.World renaming cell?_of_block->Hu
variable {a:Int} {l:List Int} {B b i k o:Nat} {row:Option Nat} {p q:Prop} {α:Type} {t:TypeId}
theorem Zg (k:q) (h:Gu q->p:=by
 intro A
 rw[<-hWz]
 have t0:=hrz.cell (i:=0) rfl
 have t1:=hrz.cell (i:=1) rfl
 have t2:=hrz.cell (i:=2) rfl
 revert t2
 revert t1
 revert t0
 exact A.o):p:=h ⟨k⟩
theorem Zr (h:p:=by
 go_wp2
 go_ret
 exact⟨_,rfl,bJ _ _ _ 0,by rw[HF.o]; rfl⟩):p:=h
theorem Zt (k:q) (h:Gu q->p:=by
 intro A
 dsimp only
 have q0:=hr.cell (i:=0) rfl
 have y0:=hr.frozen 0
 have q1:=hr.cell (i:=1) rfl
 have y1:=hr.frozen 1
 have q2:=hr.cell (i:=2) rfl
 have y2:=hr.frozen 2
 revert y2
 revert q2
 revert y1
 revert q1
 revert y0
 revert q0
 exact A.o):p:=h ⟨k⟩
theorem Zu (h:p:=by
 go_in
 go_wp2
 go_ret
 exact⟨_,rfl,(Below.refl _ _).alloc (Nat.le_refl _) _,by rw[HF.o]; rfl⟩):p:=h
theorem ZO (k:q) (h:Gu q->p:=by
 intro A
 refine(jf w1 F _ _ a b C D Y (HVA.o.below hb1) (HVB.o.below hb1) hla hlb FI FI FI FI HX.o.2.1 (by have:=HY.o.1; have:=HX.o.2.2; omega)).mono ?_
 exact A.o):p:=h ⟨k⟩
theorem ZP (h:p:=by
 clear cx HMS HRW HGR Dl
 obtain⟨u3,rfl,ahW,aly,agl,hrow3,ajT⟩:=hcut
 obtain⟨x,hx⟩:=Gl (l:=u3) (k:=k) FI
 have cx:=hrow3.cell (bg ((jR HPP.o FI).trans hx))
 have fx:=hrow3.frozen (j+k)
 have hQlt:aF u / aF v < 1000000000:=HE.o.q_lt
 have HLN:=Ag (aed ahW agl)
 have FC:=Ag ahW
 have hk3:k < u3.length:=FI
 clear hx ahW agl
 generalize hQ:aF u / aF v=Q at *
 have HQQ:=Ag hQ
 clear hQ
 go_wp2
 go_ret
 refine⟨by rw[HQQ.o]; rfl,⟨u3.set k 0,by rw[List.length_set,FC.o],aly.set au,HLN.o,?_⟩,jO ajT _ _⟩
 have hr:=hrow3.set (j+k) (.int .u32 ((0:Nat):Int))
 rw[bF,set_mid HPP.o hk3] at hr
 exact hr):p:=h
theorem ZX (h:p:=by
 go_in
 go_wp2
 go_ret
 exact⟨_,rfl,(Below.refl _ _).alloc (Nat.le_refl _) _,by rw[HD.o]; rfl⟩):p:=h
theorem Z9 (k:q) (h:Gu q->p:=by
 intro A
 have hmf:∀ (fn:Fn) (first cap:Array Value) (w:World),(Instr.makeFunc fn first cap).run Tryz.prog w = .ok (.func fn first cap) w:=λ_ _ _ _=>rfl
 revert hmf
 exact A.o):p:=h ⟨k⟩
theorem Yb (h:p:=by
 exact⟨by rw[HB.o],by simp only[World.drewN_drewN]; exact⟨_,rfl⟩⟩):p:=h
theorem Yc (k:q) (h:Gu q->p:=by
 intro A
 have hdd:decide (k < (dig b).length)=false:=LJ hlt2
 have HY:=Ag (gI (l:=dig b) (k:=k) FI)
 revert HY
 revert hdd
 exact A.o):p:=h ⟨k⟩
theorem Yk (k:q) (h:Gu q->p:=by
 intro A
 rw[Nat.mul_one] at ex
 have hxl:x < 1000000000:=(aO a).get hx'
 have HX:=Ag (aJ hx')
 revert HX
 revert hxl
 revert ex
 exact A.o):p:=h ⟨k⟩
theorem Yn (k:q) (h:Gu q->p:=by
 intro A
 have e1:((j+1:Nat):Int) - 1=(j:Int):=FI
 rw[e1]
 clear e1
 exact A.o):p:=h ⟨k⟩
theorem Yr (h:p:=by
 have HF:=Ag (show aT g.aC g.F8.length x=2 by unfold aT dX; rw[LG k1,LH k2,LG FI,LH FI])
 clear k1 k2
 go_in
 exact Zr):p:=h
theorem Yw (h:p:=by
 have hr:=HO.o.set k (.int .u32 (e:Int))
 rw[bF,he] at hr
 exact hr):p:=h
theorem Yy (k:q) (h:Gu q->p:=by
 intro C
 refine(jf w F _ _ a b A B X HVA.o HVB.o hla hlb FI FI FI FI HX.o.1 HX.o.2.2).mono ?_
 exact C.o):p:=h ⟨k⟩
theorem YB (h:p:=by
 refine⟨k+1,l.set k ((cr+p) % 1000000000),(cr+p) / 1000000000,FI,by go_num,by go_num,FI,by rw[List.length_set,HL.o],HM.o.set (by show _ < 1000000000; omega),sU (by rw[HL.o]; exact hlt) HI.o (by rw[HX.o,<-HP.o]; show _+1000000000*_=_; omega),?_,hbel.setCell (Nat.le_refl _) _⟩
 have hr:=HO.o.set k (.int .u32 (((cr+p) % 1000000000:Nat):Int))
 rw[bF] at hr
 exact hr):p:=h
theorem YD (h:p:=by
 refine⟨k+1,l.set k (cr % 1000000000),cr / 1000000000,FI,by go_num,by go_num,FI,by rw[List.length_set,HL.o],HM.o.set (by show _ < 1000000000; omega),sU (by rw[HL.o]; exact hlt) HI.o (by rw[HX.o,Nat.zero_mul]; show _+1000000000*_=_; omega),?_,hbel.setCell (Nat.le_refl _) _⟩
 have hr:=HO.o.set k (.int .u32 ((cr % 1000000000:Nat):Int))
 rw[bF] at hr
 exact hr):p:=h
theorem YE (h:p:=by
 have:=hrow.limbs (F:=λb=>w.heap.size<=b) (Nat.le_refl _) (n:=l.length) (c:=(dig a).length) (Nat.le_refl _) (by rw[HL.o]; exact Nat.le_refl _)
 rw[List.take_length,HL.o] at this
 exact this):p:=h
theorem YI (h:p:=by
 have HF:=Ag (show aT g.aC g.F8.length x=3 by unfold aT dX; rw[LG k1,LH k2,LH FI])
 clear k1 k2
 go_in
 exact Zr):p:=h
theorem YL (k:q) (h:Gu q->p:=by
 intro A
 obtain⟨n2,aok⟩:∃ n2,n2+2=n:=⟨n - 2,FI⟩
 have i1:(n:Int) - 1=(n1:Int):=FI
 have i2:(n:Int) - 2=(n2:Int):=FI
 have l1:n1 < n:=FI
 have l2:n2 < n:=FI
 have ul:=he.ul
 have vl:=he.vl
 obtain⟨top,htop⟩:=Gl (l:=v) (k:=n1) FI
 obtain⟨v2,hv2⟩:=Gl (l:=v) (k:=n2) FI
 obtain⟨un,hun⟩:=Gl (l:=u) (k:=n) FI
 obtain⟨u1,hu1⟩:=Gl (l:=u) (k:=n1) FI
 obtain⟨u2,hu2⟩:=Gl (l:=u) (k:=n2) FI
 have ct:=hv.cell (bg htop)
 have cv2:=hv.cell (bg hv2)
 have cun:=hu.cell (bg ((jR hP FI).trans hun))
 have cu1:=hu.cell (bg ((jR hP FI).trans hu1))
 have cu2:=hu.cell (bg ((jR hP FI).trans hu2))
 have topl:top < 1000000000:=he.lv.get htop
 have v2l:v2 < 1000000000:=he.lv.get hv2
 have unl:un < 1000000000:=he.lu.get hun
 have u1l:u1 < 1000000000:=he.lu.get hu1
 have u2l:u2 < 1000000000:=he.lu.get hu2
 revert u2l
 revert u1l
 revert unl
 revert v2l
 revert topl
 revert cu2
 revert cu1
 revert cun
 revert cv2
 revert ct
 revert hu2
 revert u2
 revert hu1
 revert u1
 revert hun
 revert un
 revert hv2
 revert v2
 revert htop
 revert top
 revert vl
 revert ul
 revert l2
 revert l1
 revert i2
 revert i1
 revert aok
 revert n2
 exact A.o):p:=h ⟨k⟩
theorem YP (k:q) (h:Gu q->p:=by
 intro A
 have HF:=Ag (show aT g.aC g.F8.length x=3 by unfold aT iG; rw[LG k1,LG k2,LH k3,LH FI])
 revert HF
 exact A.o):p:=h ⟨k⟩
theorem YS (h:p:=by
 go_wp2
 refine bodyPost_ret (qE rfl _ _ _) rfl ?_
 exact⟨⟨p,q,A,B,C,D,rfl,HLE.o,a1,a2,b1,b2,c1,c2,d1,d2⟩,rfl⟩):p:=h
theorem YU (k:q) (h:Gu q->p:=by
 intro A
 have HF:=Ag (show aT g.aC g.F8.length x=3 by unfold aT dw; rw[LH k1,LH FI])
 revert HF
 exact A.o):p:=h ⟨k⟩
theorem YW (h:p:=by
 go_ret
 exact⟨by rw[HE.o]; first | rfl | (rw[HE2.o]; rfl),0,rfl⟩):p:=h
theorem YZ (h:p:=by
 subst h0
 go_wp2
 go_ret
 refine⟨_,rfl,hbel,?_⟩
 have h2:=HD.o
 rw[bK,List.append_nil] at h2
 unfold Ah
 rw[<-h2]
 exact jd HO.o λb hb=>(HO.o.lt b hb).1):p:=h
theorem Y7 (k:q) (h:Gu q->p:=by
 intro A
 refine⟨k+1,l.set k s,1,FI,by go_num,rfl,FI,by rw[List.length_set,HL.o],HM.o.set (by have:=HS.o; show _ < 1000000000; omega),aac (by rw[HL.o]; exact hlt) HI.o (by have:=HS.o; rw[HX.o,HY.o]; show _=_+1000000000*_; omega),?_,hbel.setCell (Nat.le_refl _) _⟩
 have hr:=HO.o.set k (.int .u32 (s:Int))
 rw[bF] at hr
 revert hr
 exact A.o):p:=h ⟨k⟩
theorem Y8 (k:q) (h:Gu q->p:=by
 intro A
 refine⟨k+1,l.set k s,0,FI,by go_num,rfl,FI,by rw[List.length_set,HL.o],HM.o.set (by have:=HS.o; show _ < 1000000000; omega),aac (by rw[HL.o]; exact hlt) HI.o (by have:=HS.o; rw[HX.o,HY.o]; show _=_+1000000000*_; omega),?_,hbel.setCell (Nat.le_refl _) _⟩
 have hr:=HO.o.set k (.int .u32 (s:Int))
 rw[bF] at hr
 revert hr
 exact A.o):p:=h ⟨k⟩
theorem Y9 (k:q) (h:Gu q->p:=by
 intro A
 rw[Nat.mul_one] at ey
 have hyl:y < 1000000000:=(aO b).get hy'
 have HY:=Ag (aJ hy')
 revert HY
 revert hyl
 revert ey
 exact A.o):p:=h ⟨k⟩
theorem zae (k:q) (h:Gu q->p:=by
 intro A
 have HD:=Ag (show n.next.drop j=ch :: n.next.drop (j+1) by rw[List.drop_eq_getElem_cons hjt]; congr 1; simpa [hjt] using hch)
 revert HD
 exact A.o):p:=h ⟨k⟩
theorem zah (k:q) (h:Gu q->p:=by
 intro A
 obtain⟨e,he⟩:∃ e:Nat,(e:Int)=rm:=⟨rm.toNat,FI⟩
 have hdd:decide (rm < 0)=false:=LJ hneg
 have HE:=Ag he
 clear he
 revert HE
 revert hdd
 revert e
 exact A.o):p:=h ⟨k⟩
theorem zao (h:p:=by
 go_in
 go_wp2_with (first | ((with_reducible refine(afa _ _).mono ?_); rintro e w' ⟨rfl,rfl⟩))
 go_ret
 exact⟨by rw[HO.o]; rfl,rfl⟩):p:=h
theorem zar (h:p:=by
 go_wp2
 go_ret
 exact⟨by rw[HE.o]; rfl,(by simp only[World.drewN_drewN]; exact⟨_,rfl⟩)⟩):p:=h
theorem zas (h:p:=by
 go_in
 go_wp2_with (first | ((with_reducible refine(zD _ _).mono ?_); rintro e w' ⟨rfl,rfl⟩))
 go_ret
 exact⟨by rw[HO.o]; rfl,rfl⟩):p:=h
theorem zau (h:p:=by
 have h1:=hinv
 rw[List.drop_zero,List.drop_zero,aZ] at h1
 rw[h1]
 exact⟨by rw[Nat.mul_comm,Nat.add_comm,Nat.add_mul_div_right _ _ FI,Nat.div_eq_of_lt hr,Nat.zero_add],by rw[Nat.mul_comm,Nat.add_comm,Nat.add_mul_mod_self_right,Nat.mod_eq_of_lt hr]⟩):p:=h
theorem zax (h:p:=by
 have hd:((x:Int)==0)=false:=aB
 have HZ:=Ag hz
 clear hz
 go_wp2
 go_ret
 exact⟨by rw[<-HT.o,HS.o,LG HZ.o]; rfl,rfl⟩):p:=h
theorem zay (h:p:=by
 refine⟨j,_,q.set j dd,by go_num,HST.o,FI,HU4.o.other (a:=⟨w2.heap.size,j,none⟩) aB _,?_,HV4.o.other (a:=⟨w2.heap.size,j,none⟩) aB _,hb4.setCell aB _,aB⟩
 have hr:=HQ4.o.set j (.int .u32 (dd:Int))
 rw[bF] at hr
 exact hr):p:=h
theorem zaI (k:q) (h:Gu q->p:=by
 intro A
 refine⟨_,rfl,hbel,?_⟩
 exact A.o):p:=h ⟨k⟩
theorem zaJ (k:q) (h:Gu q->p:=by
 intro A
 have HL:=Ag hlen
 have HI:=Ag hinv
 have HO:=Ag hrow
 have HM:=Ag hlim
 have hold:=aK hbel
 revert hold
 revert HM
 revert HO
 revert HI
 revert HL
 exact A.o):p:=h ⟨k⟩
theorem zaK (k:q) (h:Gu q->p:=by
 intro A
 obtain⟨e,he⟩:∃ e:Nat,(e:Int)=rm+1000000000:=⟨(rm+1000000000).toNat,FI⟩
 have HE:=Ag he
 clear he
 revert HE
 revert e
 exact A.o):p:=h ⟨k⟩
theorem zaP (h:p:=by
 have h1:=hinv
 rw[hke,List.take_length,List.take_of_length_le FI,List.take_of_length_le hlb,aZ,aZ,HR.o] at h1
 have h2:=gq hlim
 rw[hlen] at h2
 have h3:=nI a
 have h4:=HRA.o
 have:=ai9 h2 FI FI h1
 omega):p:=h
theorem zaR (h:p:=by
 have hd:(ch != next)=true:=by simp[hne]
 have HF:=Ag (show bT g.F7 (f+1) a depth deep=(-1,dp) by rw[HV.o,HD.o]; simp[dG,hne])
 clear hne
 go_wp2
 go_ret
 exact⟨by rw[HF.o]; rfl,by rw[HF.o]; exact hrw,hgr⟩):p:=h
theorem zaV (k:q) (h:Gu q->p:=by
 intro A
 obtain⟨z,hz⟩:=Gl (l:=l) (k:=k) FI
 have rc:=hrow.cell (bg hz)
 have fc:=hrow.frozen k
 revert fc
 revert rc
 revert hz
 revert z
 exact A.o):p:=h ⟨k⟩
theorem zaX (h:p:=by
 have:=hrow.limbs (F:=λb=>w.heap.size<=b) (Nat.le_refl _) (n:=l.length) (c:=(dig a).length+(dig b).length) (Nat.le_refl _) (by rw[HL.o]; exact Nat.le_refl _)
 rw[List.take_length,HL.o] at this
 exact this):p:=h
theorem zaY (h:p:=by
 rintro e w' ⟨rfl,rfl⟩
 go_wp2
 go_ret
 refine zaI ?_
 have:=fJ HO.o HM.o (F:=λb=>w.heap.size<=b) (Nat.le_refl _) (c:=(dig a).length+(dig b).length) HL.o (Nat.le_refl _)
 rw[HF.o] at this
 exact this):p:=h
theorem za6 (k:q) (h:Gu q->p:=by
 intro A
 obtain⟨f,hf⟩:=Gp (LB / (t+1))
 have hfit:=wJ hn hb00
 have agn:=vC (a:=a) (f:=f) FI
 rw[gt,<-hf] at hfit
 have HDB:=Ag (λ(v:List Nat) (h1:v.length=n) (h2:Limbs v) (h3:aF v=b*f)=>(by have:=af2 (b:=b) (v:=v) hn FI h1 h2 (by rw[gt,<-hf]; exact h3); rw[gt,<-hf] at this; exact this:DC v n b f))
 revert HDB
 revert hfit
 revert agn
 revert hf
 revert f
 exact A.o):p:=h ⟨k⟩
theorem za8 (h:p:=by
 have HD:=Ag (show decide (n=1)=false from LJ λh=>h1 (by rw[h,ji]; rfl))
 have hd:(((dig n).length:Int)==1)=false:=aB
 clear h1
 go_in
 go_wp2
 go_ret
 exact⟨by rw[HD.o]; rfl,rfl⟩):p:=h
theorem za9 (h:p:=by
 refine⟨_,rfl,hbel,_,by rw[<-HF.o.2]; rfl,?_⟩
 have:=fJ HO.o HM.o (F:=λb=>w.heap.size<=b) (Nat.le_refl _) (c:=(dig a).length) HL.o (Nat.le_refl _)
 rw[HF.o.1] at this
 exact this):p:=h
theorem zbi (h:p:=by
 have:=HS.o
 rw[HX.o,HY.o,<-HP.o]
 show _=_+1000000000*_
 omega):p:=h
theorem zbo (h:p:=by
 go_in
 go_wp2
 go_ret
 exact⟨rfl,rfl⟩):p:=h
theorem zbp (h:p:=by
 have h1:=gq ((aO n).drop (j+1))
 have h2:LB ^ ((dig n).drop (j+1)).length<=LB ^ 1:=Nat.pow_le_pow_right au (by rw[List.length_drop]; omega)
 have h3:LB ^ 1=1000000000:=au
 omega):p:=h
theorem zbr (k:q) (h:Gu q->p:=by
 intro A
 have hr:=HRW.o.set (j+k) (.int .u32 (s:Int))
 rw[bF,set_mid HPP.o acP] at hr
 have hss:=HS.o
 revert hss
 revert hr
 exact A.o):p:=h ⟨k⟩
theorem zbs (h:p:=by
 rintro e w' ⟨rfl,rfl⟩
 go_wp2
 go_ret
 refine zaI ?_
 have:=fJ HO.o HM.o (F:=λb=>w.heap.size<=b) (Nat.le_refl _) HL.o (Nat.le_refl _)
 rw[HF.o] at this
 exact this):p:=h
theorem zbt (k:q) (h:Gu q->p:=by
 intro A
 obtain⟨x,hx'⟩:=Gl hlt
 have ex:=hx k x hx'
 revert ex
 revert hx'
 revert x
 exact A.o):p:=h ⟨k⟩
theorem zbw (h:p:=by
 rw[HX.o,HY.o,HP.o,HQ.o]
 show(e:Int)+1000000000*_=_
 omega):p:=h
theorem zbB (h:p:=by
 exact⟨_,rfl,hwz _ _ (Nat.le_refl _) hB,by unfold NmV; rw[HW.o]; exact Ak.make rfl ((Ah.on (n:=m) HV.o (hkz _ FI)).mono (λb hb _=>by omega)) (gV _ _ _ _)⟩):p:=h
theorem zbD (k:q) (h:Gu q->p:=by
 intro A
 have HB:=Ag (show wG q r v2 u2=false by rw[HBAD.o]; exact LJ FI)
 revert HB
 exact A.o):p:=h ⟨k⟩
theorem zbE (h:p:=by
 subst h0
 have HE:=Ag (show aF ((dig n).drop 0)=n by rw[List.drop_zero,aZ])
 generalize aF ((dig n).drop 0)=m at *
 go_wp2
 go_ret
 exact⟨by rw[<-HE.o]; rfl,rfl⟩):p:=h
theorem zbL (h:p:=by
 go_wp2
 go_ret
 have HF:bT g.F7 (f+1) a depth deep=(next,dp):=by rw[HV.o,List.drop_eq_nil_of_le FI];rfl
 exact⟨by rw[HF]; rfl,by rw[HF]; exact hrw,hgr⟩):p:=h
theorem zbO (k:q) (h:Gu q->p:=by
 intro C
 have t5:decide (1000000000<=adP (A - kc) (-(A - kc)) (B - kd) (-(B - kd)))=false:=LJ hmx
 have hn:=mt ajd.2 hmx
 have n1:-1000000000 < A - kc:=FI
 have n2:A - kc < 1000000000:=FI
 have n3:-1000000000 < B - kd:=FI
 have n4:B - kd < 1000000000:=FI
 clear hn
 revert n4
 revert n3
 revert n2
 revert n1
 revert t5
 exact C.o):p:=h ⟨k⟩
theorem zbS (h:p:=by
 have HE:=Ag (nN (oq h))
 have HE2:=Ag (nN h)
 have hnlt:decide ((dig a).length < (dig b).length)=false:=LJ FI
 clear hlen
 go_in
 go_wp2
 exact YW):p:=h
theorem zbX (k:q) (h:Gu q->p:=by
 intro A
 have HB:=Ag (show wG q r v2 u2=true by rw[HBAD.o]; exact LK ⟨c1,.inl c2⟩)
 have d1:decide ((r:Int) < 1000000000)=true:=LK FI
 have d2:decide ((1000000000:Int)<=(q:Int))=true:=LK FI
 revert d2
 revert d1
 revert HB
 exact A.o):p:=h ⟨k⟩
theorem zbY (h:p:=by
 have HF:=Ag (show bT g.F7 (f+1) a depth deep=(-1,rd) by rw[HV3.o,LH hng])
 go_wp2
 go_ret
 exact⟨by rw[HF.o]; rfl,by rw[HF.o]; exact ahH,hgg⟩):p:=h
theorem zb5 (h:p:=by
 obtain⟨u,hu,hr⟩:=h
 exact⟨u,by rw[hs.cell hb hl]; exact hu,hr.keep hFG hs⟩):p:=h
theorem zb7 (h:p:=by
 rw[HX.o,HY.o,HP.o]
 show(e:Int)+1000000000*_=_
 omega):p:=h
theorem zcj (h:p:=by
 clear k1 k2 k3
 go_in
 exact Zr):p:=h
theorem zck (h:p:=by
 exact⟨none,0,rfl,Nat.le_refl _,λh=>absurd h aA⟩):p:=h
theorem zcm (h:p:=by
 refine⟨0,l,0,FI,rfl,rfl,FI,?_,HO.o,hbel⟩
 have h:=HI.o
 exact⟨h.len,h.limbs,by have:=h.eq; simpa [aF] using this,h.zero⟩):p:=h
theorem zcw (h:p:=by
 have HF:=Ag (show G=a by rw[HGC.o,hb0,Nat.gcd_zero_right])
 clear hb0
 go_wp2
 go_ret
 exact⟨_,rfl,hbel,by rw[HF.o]; exact HNA.o⟩):p:=h
theorem zcy (k:q) (h:Gu q->p:=by
 intro A
 unfold Oper.wp execOp
 simp only[ho,resolve,invoke,builtin,Sem.run_bind,Sem.run_pure,Result.andThen_ok,List.map_toArray,List.map_cons,List.map_nil,hs,hx,hrun]
 exact A.o):p:=h ⟨k⟩
theorem zcC (h:p:=by
 have hd:((x:Int)==1)=false:=aB
 have H2:=Ag h2
 clear h2
 go_in
 go_wp2
 go_ret
 exact⟨by rw[HD.o,LJ H2.o]; rfl,rfl⟩):p:=h
theorem zcD (h:p:=by
 exact⟨b0,a0,rfl,HB.o.ext (aG (Below.refl _ w) z0),HA.o.ext (aG (Below.refl _ w) z0),FI,by rw[HG.o,Nat.gcd_comm],hlb⟩):p:=h
theorem zcE (k:q) (h:Gu q->p:=by
 intro A
 obtain⟨x,hx'⟩:=Gl (l:=dig a) (k:=j) FI
 obtain⟨y,hy'⟩:=Gl (l:=dig b) (k:=j) FI
 have ex:=hx j x hx'
 have ey:=hy j y hy'
 revert ey
 revert ex
 revert hy'
 revert y
 revert hx'
 revert x
 exact A.o):p:=h ⟨k⟩
theorem zcH (h:p:=by
 have h1:=fJ EL.o HQL.o (F:=Ext F w.heap.size) (.inr FI) (c:=la - n+1) HQN.o (Nat.le_refl _)
 rw[HQ.o] at h1
 exact h1):p:=h
theorem zcK (h:p:=by
 rw[bF,set_mid HPP.o hm2] at hr
 have hss:=HS.o
 rw[show(s:Int)=(x:Int)+(y:Int)+(o:Int) - 1000000000 by omega] at hr
 exact hr):p:=h
theorem zcL (h:p:=by
 rw[HQ.o,HG.o.1]
 obtain⟨q',rfl⟩:∃ q',q=q'+1:=⟨q - 1,FI⟩
 rw[Nat.add_sub_cancel,Nat.add_mul,Nat.one_mul]
 omega):p:=h
theorem zcM (k:q) (h:Gu q->p:=by
 intro A
 obtain⟨n1,hn1⟩:∃ n1,n1+1=n:=⟨n - 1,FI⟩
 revert hn1
 revert n1
 exact A.o):p:=h ⟨k⟩
theorem zcO (h:p:=by
 go_wp2
 go_ret
 exact⟨by rw[HE.o]; rw[<-HE.o,<-HO.o]; rfl,(by simp only[World.drewN_drewN]; exact⟨_,rfl⟩)⟩):p:=h
theorem zcW (k:q) (h:Gu q->p:=by
 intro A
 refine LJ ?_
 unfold bZ
 exact A.o):p:=h ⟨k⟩
theorem zcY (h:p:=by
 go_wp2
 go_ret
 refine⟨_,rfl,bJ _ _ _ 0,?_⟩
 have h:=HP.o
 rw[List.take_of_length_le FI] at h
 rw[HV.o,h]
 rfl):p:=h
theorem zc1 (k:q) (h:Gu q->p:=by
 intro A
 have HB:=Ag (show wG q r v2 u2=true by rw[HBAD.o]; exact LK ⟨c1,.inr c3⟩)
 have d3:decide ((r:Int)*1000000000+(u2:Int) < (p:Int))=true:=LK FI
 revert d3
 revert HB
 exact A.o):p:=h ⟨k⟩
theorem zc6 (h:p:=by
 have HF:=Ag hF
 clear hF hinv hlim hlen hrow
 go_wp2
 go_ret
 exact⟨_,rfl,hbel,rfl,l,HL.o,HM.o,HF.o,HO.o⟩):p:=h
theorem zda (h:p:=by
 exact⟨a0,b0,rfl,HA.o.ext (aG (Below.refl _ w) z0),HB.o.ext (aG (Below.refl _ w) z0),FI,HG.o,hla⟩):p:=h
theorem zdc (h:p:=by
 subst h0
 go_wp2
 go_ret
 exact⟨by rw[<-HT.o]; rfl,rfl⟩):p:=h
theorem zdi (h:p:=by
 obtain⟨y,hy⟩:=List.length_eq_one_iff.1 h1
 have h2:=aZ b
 rw[hy] at hx' h2
 simp at hx'
 simp[aF] at h2
 omega):p:=h
theorem zdk (k:q) (h:Gu q->p:=by
 intro A
 have T1:=Ag t1
 have aom:-2500000000<=qd:=FI
 have aon:qd<=2500000000:=FI
 revert aon
 revert aom
 revert T1
 exact A.o):p:=h ⟨k⟩
theorem zdm (h:p:=by
 exact⟨_,rfl,(aG (Below.refl _ w) z0).trans hb1,_,_,rfl,by rw[HS.o,vF]; exact HV.o,by rw[HS.o,vF]⟩):p:=h
theorem zdw (h:p:=by
 rw[<-hd,List.length_append] at h1
 omega):p:=h
theorem zdA (k:q) (h:Gu q->p:=by
 intro A
 obtain⟨W,hW,hr,hWb,hWz⟩:=dW w 74 #[.bool false,.slice none 0 0,.slice none 0 0]
 rw[<-hW]
 revert hWz
 revert hWb
 revert hr
 revert hW
 revert W
 exact A.o):p:=h ⟨k⟩
theorem zdE (h:p:=by
 have:bytes*n<=1000*1000000:=Nat.mul_le_mul hb hn
 omega):p:=h
theorem zdO (h:p:=by
 have:=HE.o.aeb HQ.o (HT.o.2.imp id λh=>by rw[HG.o.2.2.2.2,HG.o.2.1]; exact h)
 omega):p:=h
theorem zdR (k:q) (h:Gu q->p:=by
 intro A
 have HSU:=Ag (BP.start (U:=U0) HDV.o HN.o HLA.o hlb hul agp hun)
 have hB2:Below w.heap.size w w2:=(aG (Below.refl _ w) z0).trans (zI.trans (hbw2.mono hzz))
 revert hB2
 revert HSU
 exact A.o):p:=h ⟨k⟩
theorem zdU (h:p:=by
 have h1:=hinv
 rw[List.take_of_length_le (l:=dig a) hla,aZ] at h1
 exact acM hlim hlen h1 HT.o):p:=h
theorem zdX (k:q) (h:Gu q->p:=by
 intro A
 have hxl:x < 1000000000:=(aO a).get hx'
 have hyl:y < 1000000000:=(aO b).get hy'
 have HX:=Ag hx'
 have HY:=Ag hy'
 refine Yn ?_
 revert HY
 revert HX
 revert hyl
 revert hxl
 exact A.o):p:=h ⟨k⟩
theorem zd0 (h:p:=by
 go_wp2
 go_ret
 refine zaI ?_
 unfold Ah
 rw[HF.o]
 exact jd HO.o λb hb=>(HO.o.lt b hb).1):p:=h
theorem zd1 (k:q) (h:Gu q->p:=by
 intro A
 refine(IH.o q (depth+1) dp wr bd _ (HG.o.on (Same.af7 hgr)) hrw FI FI FI alm aln).mono ?_
 exact A.o):p:=h ⟨k⟩
theorem zd4 (h:p:=by
 have h0:=acS h
 have HD:=Ag (show decide (x=0)=false from LJ h)
 clear h
 exact ZX):p:=h
theorem zd7 (k:q) (h:Gu q->p:=by
 intro A
 obtain⟨y,hy'⟩:=Gl hlt2
 have ey:=hy k y hy'
 revert ey
 revert hy'
 revert y
 exact A.o):p:=h ⟨k⟩
theorem zd8 (h:p:=by
 rw[Nat.div_eq_of_lt HLT.o]
 exact Ah.zero _ _ _ _):p:=h
theorem zd9 (h:p:=by
 have h0:=acR h
 have HD:=Ag (show decide (x=0)=true from LK h)
 clear h
 exact ZX):p:=h
theorem zec (h:p:=by
 go_wp2
 go_ret
 exact⟨by rw[HE.o]; rfl,q,rfl⟩):p:=h
open Go.RowKit
abbrev Gq:=Nat->Prop
structure Same (F:Gq) (w w':GK):Prop where
 size:w.heap.size<=w'.heap.size
 block:∀ b,F b->b < w.heap.size->w'.heap[b]? = w.heap[b]?
section
variable {F G:Gq} {w w' w'':GK}
theorem Same.cell (h:Same F w w') (hb:F b) (hl:b < w.heap.size) (o:Nat):w'.cell? ⟨b,o,none⟩=w.cell? ⟨b,o,none⟩:=Hu (w:=w) (h.block b hb hl)
theorem Same.refl (F:Gq) (w:GK):Same F w w:=⟨Gy _,λ_ _ _=>rfl⟩
theorem Same.trans (h:Same F w w') (k:Same F w' w''):Same F w w'':=⟨He h.size k.size,λi hi hl=>(k.block i hi (Hz hl h.size)).trans (h.block i hi hl)⟩
theorem Same.mono (h:Same F w w') (hG:∀ b,G b->F b):Same G w w':=⟨h.size,λb hb hl=>h.block b (hG b hb) hl⟩
theorem Below.same' (h:Below w.heap.size w w') (F:Gq):Same F w w':=⟨h.size,λb _ hl=>h.block b hl⟩
theorem Same.alloc (F:Gq) (w:GK) (o:Obj):Same F w (w.alloc o):=⟨aA,λb _ hl=>Below.heap_alloc w o b hl⟩
theorem Same.drewN (F:Gq) (w:GK) (n:Nat):Same F w (w.drewN n):=⟨Gy _,λ_ _ _=>rfl⟩
theorem Same.setCell (F:Gq) (w:GK) {p:Addr} (hp:¬ F p.block) (v:GN):Same F w (w.setCell p v) :=
 ⟨aA,λb hb _=>JA w p v b (λe=>hp (e▸hb))⟩
end
theorem Gl {l:List α} (h:k < l.length):∃ x,l[k]? = some x:=⟨l[k],by simp[h]⟩
theorem Gn {l:List α} {x:α} (h:l[k]? = some x):k < l.length:=by grind
theorem Gv {l:List α} {x:α} (h:l[k]? = some x):l.take (k+1)=l.take k ++ [x]:=by grind [List.take_succ_eq_append_getElem]
def Cc {α:Type} (sz:Nat) (E:GK->Gq->Nat->Nat->α->Prop) (w:GK) (F:Gq) (v:GN) (l:List α):Prop :=
 ∃ A c,v = Gw A l.length c/\l.length<=c/\(0 < l.length->∃ b o,A=some ⟨b,o,none⟩/\F b/\b < w.heap.size/\∀ k x,l[k]? = some x->E w F b (o+k*sz) x)
theorem Cc.keep {sz:Nat} {E:GK->Gq->Nat->Nat->α->Prop} {w w':GK} {F G:Gq} {v:GN} {l:List α}
  (h:Cc sz E w F v l) (hFG:∀ b,F b->b < w.heap.size->G b) (hsz:w.heap.size<=w'.heap.size) (hE:∀ b o x,x∈l->F b->b < w.heap.size->E w F b o x->E w' G b o x):Cc sz E w' G v l:=by
 obtain⟨A,c,rfl,hc,hr⟩:=h;refine⟨A,c,rfl,hc,λh0=>?_⟩;grind
def lU (k:IntKind) (w:GK) (_:Gq) (b o:Nat) (x:Int):Prop:=w.cell? ⟨b,o,none⟩=some (.int k x)
def aai {α:Type} (S:GK->Gq->GN->α->Prop) (w:GK) (F:Gq) (b o:Nat) (x:α):Prop:=∃ v,w.cell? ⟨b,o,none⟩=some v/\S w F v x
def AL (w:GK) (F:Gq) (v:GN) (l:List Int):Prop:=Cc 1 (lU .i64) w F v l
def BL (w:GK) (F:Gq) (v:GN) (l:List (List Int)):Prop:=Cc 1 (aai AL) w F v l
theorem AL.keep {w w':GK} {F G:Gq} {v:GN} (h:AL w F v l) (hFG:∀ b,F b->b < w.heap.size->G b) (hs:Same F w w'):AL w' G v l :=
 Cc.keep h hFG hs.size λb o x _ hb hl hx=>by unfold lU at *; rw[hs.cell hb hl]; exact hx
theorem BL.keep {w w':GK} {F G:Gq} {v:GN} {l:List (List Int)} (h:BL w F v l) (hFG:∀ b,F b->b < w.heap.size->G b) (hs:Same F w w'):BL w' G v l :=
 Cc.keep h hFG hs.size λb o x _ hb hl hx=>by
  obtain⟨u,hu,hr⟩:=hx;exact⟨u,by rw[hs.cell hb hl]; exact hu,hr.keep hFG hs⟩
structure Nd where
 kind:Int
 aH:Int
 info:Int
 next:List Int
 weights:List Int
 pay:List Int
 deriving Inhabited,DecidableEq
structure Inf where
 aH:Int
 actions:Int
 deriving Inhabited,DecidableEq
structure Gm where
 aC:Int
 F7:List Nd
 F8:List Inf
 deriving Inhabited,DecidableEq
structure DW (w:GK) (F:Gq) (b o:Nat) (n:Nd):Prop where
 c0:w.cell? ⟨b,o,none⟩=some (GV GU n.kind)
 c1:w.cell? ⟨b,o+1,none⟩=some (GV GU n.aH)
 c2:w.cell? ⟨b,o+2,none⟩=some (GV GU n.info)
 c3:aai AL w F b (o+3) n.next
 c4:aai AL w F b (o+4) n.weights
 c5:aai AL w F b (o+5) n.pay
structure Ep (w:GK) (_:Gq) (b o:Nat) (n:Inf):Prop where
 c0:w.cell? ⟨b,o,none⟩=some (GV GU n.aH)
 c1:w.cell? ⟨b,o+1,none⟩=some (GV GU n.actions)
theorem vG {w w':GK} {F G:Gq} (h:aai AL w F b o l) (hFG:∀ b,F b->b < w.heap.size->G b) (hs:Same F w w') (hb:F b) (hl:b < w.heap.size):aai AL w' G b o l:=by
 exact zb5
theorem DW.keep {w w':GK} {F G:Gq} {n:Nd} (h:DW w F b o n) (hFG:∀ b,F b->b < w.heap.size->G b) (hs:Same F w w') (hb:F b) (hl:b < w.heap.size):DW w' G b o n :=
 ⟨by rw[hs.cell hb hl]; exact h.c0,by rw[hs.cell hb hl]; exact h.c1,by rw[hs.cell hb hl]; exact h.c2,vG h.c3 hFG hs hb hl,vG h.c4 hFG hs hb hl,vG h.c5 hFG hs hb hl⟩
def Bz (w:GK) (F:Gq) (v:GN) (l:List Nd):Prop:=Cc 6 DW w F v l
def BA (w:GK) (F:Gq) (v:GN) (l:List Inf):Prop:=Cc 2 Ep w F v l
theorem Bz.keep {w w':GK} {F G:Gq} {v:GN} {l:List Nd} (h:Bz w F v l) (hFG:∀ b,F b->b < w.heap.size->G b) (hs:Same F w w'):Bz w' G v l :=
 Cc.keep h hFG hs.size λ_ _ _ _ hb hl hx=>hx.keep hFG hs hb hl
theorem BA.keep {w w':GK} {F G:Gq} {v:GN} {l:List Inf} (h:BA w F v l) (hFG:∀ b,F b->b < w.heap.size->G b) (hs:Same F w w'):BA w' G v l :=
 Cc.keep h hFG hs.size λ_ _ _ _ hb hl hx=>⟨by rw[hs.cell hb hl]; exact hx.c0,by rw[hs.cell hb hl]; exact hx.c1⟩
def AB (w:GK) (F:Gq) (v:GN) (g:Gm):Prop :=
 ∃ vn vi,v = .agg #[GV GU g.aC,vn,vi]/\Bz w F vn g.F7/\BA w F vi g.F8
theorem AB.keep {w w':GK} {F G:Gq} {v:GN} {g:Gm} (h:AB w F v g) (hFG:∀ b,F b->b < w.heap.size->G b) (hs:Same F w w'):AB w' G v g:=by
 obtain⟨vn,vi,rfl,hn,hi⟩:=h;exact⟨vn,vi,rfl,hn.keep hFG hs,hi.keep hFG hs⟩
def Row (w:GK) (b:Nat) (t:TypeId) (vs:List GN):Prop:=w.heap[b]? = some (.cells vs.toArray t (0,0))
section
variable {w w':GK} {b:Nat} {t:TypeId} {vs:List GN}
theorem Row.cell (h:Row w b t vs) {v:GN} (hi:vs[i]? = some v):w.cell? ⟨b,i,none⟩=some v:=by unfold Row at h; simp[World.cell?,h,hi]
theorem Row.frozen (h:Row w b t vs) (i:Nat):w.frozen? ⟨b,i,none⟩=false:=by unfold Row at h; simp[World.frozen?,h]
theorem Row.lt (h:Row w b t vs):b < w.heap.size:=by
 obtain⟨hlt,_⟩:=Array.getElem?_eq_some_iff.1 h;exact hlt
theorem Row.of_block (h:Row w b t vs) (e:w'.heap[b]? = w.heap[b]?):Row w' b t vs:=e.trans h
theorem Row.set (h:Row w b t vs) (i:Nat) (v:GN):Row (w.setCell ⟨b,i,none⟩ v) b t (vs.set i v):=by
 unfold Row at *;simp[World.setCell,Array.getElem?_modify,h]
theorem Row.other (h:Row w b t vs) {a:Addr} (ha:b≠a.block) (v:GN):Row (w.setCell a v) b t vs:=h.of_block (JA _ _ _ _ ha)
theorem ste {W:GK} {v:GN} (hw:W=w.setCell ⟨b,i,none⟩ v) (h:Row w b t vs):Row W b t (vs.set i v):=hw▸h.set i v
theorem Row.alloc (h:Row w b t vs) (o:Obj):Row (w.alloc o) b t vs:=h.of_block (Below.heap_alloc _ _ _ h.lt)
theorem Row.drew (h:Row w b t vs):Row w.drew b t vs:=h
theorem Row.below (h:Row w b t vs) (hb:Below B w w') (hB:b < B):Row w' b t vs:=h.of_block (hb.block b hB)
theorem Row.new (w:GK) (t:TypeId) (c:Array GN):Row (w.alloc (.cells c t)) w.heap.size t c.toList:=by unfold Row; show(w.heap.push _)[w.heap.size]? = _; simp
end
theorem Row.made (w:GK) (z:GN) (n:Nat) (t:TypeId):Row (w.alloc (.cells (madeCells #[z] n) t)) w.heap.size t (GX n z):=by
 have h:=Row.new w t (madeCells #[z] n);have e:(madeCells #[z] n).toList=GX n z:=by
   apply List.ext_getElem?
   intro i;by_cases hi:i < n
   ·simp[madeCells,hi,Nat.mod_one]
   ·simp[madeCells,hi]
 grind
def Ce (w:GK) (F:Gq) (v:GN) (n:Nd):Prop :=
 ∃ v3 v4 v5,v = .agg #[GV GU n.kind,GV GU n.aH,GV GU n.info,v3,v4,v5]/\AL w F v3 n.next/\AL w F v4 n.weights/\AL w F v5 n.pay
theorem Ce.keep {w w':GK} {F G:Gq} {v:GN} {n:Nd} (h:Ce w F v n) (hFG:∀ b,F b->b < w.heap.size->G b) (hs:Same F w w'):Ce w' G v n:=by
 obtain⟨v3,v4,v5,rfl,h3,h4,h5⟩:=h;exact⟨v3,v4,v5,rfl,h3.keep hFG hs,h4.keep hFG hs,h5.keep hFG hs⟩
theorem AL.on {w w':GK} {F:Gq} {v:GN} (h:AL w F v l) (hs:Same F w w'):AL w' F v l:=h.keep (λ_ h _=>h) hs
theorem BL.on {w w':GK} {F:Gq} {v:GN} {l:List (List Int)} (h:BL w F v l) (hs:Same F w w'):BL w' F v l:=h.keep (λ_ h _=>h) hs
theorem Bz.on {w w':GK} {F:Gq} {v:GN} {l:List Nd} (h:Bz w F v l) (hs:Same F w w'):Bz w' F v l:=h.keep (λ_ h _=>h) hs
theorem BA.on {w w':GK} {F:Gq} {v:GN} {l:List Inf} (h:BA w F v l) (hs:Same F w w'):BA w' F v l:=h.keep (λ_ h _=>h) hs
theorem AB.on {w w':GK} {F:Gq} {v:GN} {g:Gm} (h:AB w F v g) (hs:Same F w w'):AB w' F v g:=h.keep (λ_ h _=>h) hs
theorem Ce.on {w w':GK} {F:Gq} {v:GN} {n:Nd} (h:Ce w F v n) (hs:Same F w w'):Ce w' F v n:=h.keep (λ_ h _=>h) hs
theorem aG {a w:GK} (h:Below B a w) (n:Nat):Below B a (w.drewN n):=⟨h.os,h.tape,h.output,h.size,h.block⟩
theorem Row.dN {w:GK} {vs:List GN} (h:Row w b t vs) (n:Nat):Row (w.drewN n) b t vs:=h
theorem aK {w w':GK} (h:Below B w w'):∀ b o,b < B->w'.cell? ⟨b,o,none⟩=w.cell? ⟨b,o,none⟩:=λb o hb=>h.cell (p:=⟨b,o,none⟩) hb
theorem Row.ints {w:GK} (h:Row w b t (l.map (Value.int .i64))) {F:Gq} (hF:F b) {c:Nat} (hc:l.length<=c):AL w F (Gw (some ⟨b,0,none⟩) l.length c) l :=
 ⟨_,c,rfl,hc,λ_=>⟨b,0,rfl,hF,h.lt,λk x hk=>by unfold lU; simp only[Ho,Nat.zero_add]; exact h.cell (by simp[hk])⟩⟩
theorem fG {P:Program} (w:GK) {ops:Array Oper} {rest:List Oper} {o:Oper} {a:Act} {Q:Exit->Act->GK->Prop}
  (hg:o.guard=none) (l c:Operand) (t:TypeId) (hop:o.op=Op.makeSlice t l c)
  (e:TypeId) (z:GN) (bytes:Nat) (ht:P.underlying t=some (.slice e)) (hinfo:(P.info? e).map (λi=>(i.zero,i.size,i.bytes))=some (some z,1,bytes)) (hz1:z.cells = #[z])
  (n:Nat) (hl:a.eval l = GV GU (n:Int)) (hc:a.eval c = GV GU (n:Int)) (hn:n<=1000000) (hb:bytes<=1000)
  (hK:∀ w1,Below w.heap.size w w1->w1.heap.size=w.heap.size+1->Row w1 w.heap.size e (GX n z) ->
   wpList P ops Q rest (a.put o.dst (Gw (some ⟨w.heap.size,0,none⟩) n n)) w1) :
  wpList P ops Q (o :: rest) a w:=by
 refine wpList_plain hg λK hK'=>?_
 have hbytes:bytes*n<=281474976710656:=by
  exact zdE
 have hrun:=run_make_row' (P:=P) t e z bytes ht hinfo hz1 .i64 .i64 n hbytes FI w;unfold Oper.wp;simp[execOp,hop,hl,hc,hrun,Result.andThen];have hbel:Below w.heap.size w (w.alloc (.cells (madeCells #[z] n) e)):=(GR _ _).alloc (Gy _) _;exact hK' _ _ (hK _ hbel aA (Row.made w z n e))
theorem Tryz.infoInt:(Tryz.prog.info? 3).map (λi=>(i.zero,i.size,i.bytes))=some (some (GV GU 0),1,8):=aj
theorem Tryz.infoInts:(Tryz.prog.info? 49).map (λi=>(i.zero,i.size,i.bytes))=some (some (Gw none 0 0),1,24):=aj
def Ret (w:GK) (R:GN->GK->Prop) (e:Ending) (w':GK):Prop:=∃ v,e = .returned v/\Below w.heap.size w w'/\R v w'
theorem zMs (h:p:=by simp[intOf]; omega):p:=h
theorem nJ {l:List α} {p:α->Bool} {x:α} (h:l[k]? = some x) (hn:(l.take k).any p=false) (hx:p x=false):(l.take (k+1)).any p=false:=by rw[Gv h,List.any_append]; simp[hn,hx]
def lM (l:List Int) (i:Int) (p:List Int):List Int:=l.foldl (λp c=>p.set c.toNat i) p
def qW (F7:List Nd):Nat->List Int
 | 0=>(GX F7.length 0).set 0 (-1)
 | k+1=>match F7[k]? with
  | some n=>lM n.next k (qW F7 k)
  | none=>qW F7 k
def dO (F7:List Nd):List Int:=qW F7 F7.length
theorem ae3 {i:Int} {p:List Int} {c:Int} (h:l[k]? = some c):lM (l.take (k+1)) i p=(lM (l.take k) i p).set c.toNat i:=by rw[Gv h]; simp[lM,List.foldl_append]
theorem wL (l:List Int) (i:Int) (p:List Int):(lM l i p).length=p.length:=by
 unfold lM;induction l generalizing p with
 | nil=>rfl
 | cons c l ih=>grind
theorem kQ (F7:List Nd) (k:Nat):(qW F7 k).length=F7.length:=by induction k <;> grind [qW,wL]
theorem acz {F7:List Nd} {n:Nd} (h:F7[k]? = some n):qW F7 (k+1)=lM n.next k (qW F7 k):=by
 simp[qW,h]
def EH (F7:List Nd):Prop:=∀ n∈F7,∀ c∈n.next,0<=c/\c < (F7.length:Int)
structure Small (g:Gm):Prop where
 F7:g.F7.length<=100
 F8:g.F8.length<=100
 next:∀ n∈g.F7,n.next.length<=100
 weights:∀ n∈g.F7,n.weights.length<=100
 pay:∀ n∈g.F7,n.pay.length<=100
theorem qX {l1 l2:List α} {x:α} (h1:l1[k]? = some x) (h2:l2[k]? = some x) (h:l1.take k=l2.take k):l1.take (k+1)=l2.take (k+1):=by rw[Gv h1,Gv h2,h]
theorem bJ (w:GK) (a b:Obj) (n:Nat):Below w.heap.size w (((w.alloc a).alloc b).drewN n):=by
 have h:=(((GR w.heap.size w).alloc (Gy _) a).alloc aA b);exact⟨h.os,h.tape,h.output,h.size,h.block⟩
theorem neF {b:Int} (h:a=b):(a != b)=false:=by simp[h]
theorem neT {b:Int} (h:a≠b):(a != b)=true:=by simp[h]
theorem eqF {b:Int} (h:a≠b):(a==b)=false:=by simp[h]
theorem eqT {b:Int} (h:a=b):(a==b)=true:=by simp[h]
def outside (lo hi:Int) (l:List Int):Bool:=l.any λx=>decide (x < lo)||decide (hi < x)
def dw (x:Nd):Int :=
 if x.aH≠0\/x.info≠0\/0 < x.pay.length\/x.next.length < 1\/60 < x.next.length\/x.weights.length≠x.next.length then 3 else if outside 1 1000 x.weights then 2 else 0
def dX (aC:Int) (ni:Nat) (x:Nd):Int :=
 if 0 < x.pay.length\/0 < x.weights.length\/x.next.length < 1\/10 < x.next.length then 3 else if x.aH < 0\/aC<=x.aH\/x.info < 0\/(ni:Int)<=x.info then 2 else 0
def iG (aC:Int) (x:Nd):Int :=
 if x.aH≠0\/x.info≠0\/0 < x.next.length\/0 < x.weights.length\/(x.pay.length:Int)≠aC then 3 else if outside (-1000000) 1000000 x.pay then 2 else 0
def aT (aC:Int) (ni:Nat) (x:Nd):Int :=
 if x.kind=1 then dw x else if x.kind=2 then dX aC ni x else if x.kind=3 then iG aC x else 3
theorem alk (w:GK) (F:Gq) (u ux:GN) (g:Gm) (x:Nd) (hg:AB w F u g) (hx:Ce w F ux x) (hl:x.next.length < 1000000/\x.weights.length < 1000000/\x.pay.length < 1000000) (hni:g.F8.length < 1000000) :
  Calls GI 141 #[u,ux] w (Ret w λv _=>v = GV GU (aT g.aC g.F8.length x)):=by
 obtain⟨vn,vi,rfl,⟨A,c,rfl,hc,hN⟩,⟨Ai,ci,rfl,hci,hI⟩⟩:=hg;clear hN hI;obtain⟨v3,v4,v5,rfl,⟨A3,c3,rfl,hc3,h3⟩,⟨A4,c4,rfl,hc4,h4⟩,⟨A5,c5,rfl,hc5,h5⟩⟩:=hx;obtain⟨hl3,hl4,hl5⟩:=hl;have H4:=Ag h4;clear h4;have H5:=Ag h5;clear h5 h3;by_cases k1:x.kind=1
 ·have e1:(x.kind==1)=true:=by simp[k1]
  by_cases q0:x.aH≠0
  ·refine YU ?_;intro HF;have d0:(x.aH != 0)=true:=neT FI;clear k1;go_in;exact Zr
  have d0:(x.aH != 0)=false:=neF FI;by_cases q1:x.info≠0
  ·refine YU ?_;intro HF;have d1:(x.info != 0)=true:=neT FI;clear k1;go_in;exact Zr
  have d1:(x.info != 0)=false:=neF FI;by_cases q2:0 < x.pay.length
  ·refine YU ?_;intro HF;clear k1;go_in;exact Zr
  have d2:decide ((0:Int) < (x.pay.length:Int))=false:=LJ FI;by_cases q3:x.next.length < 1
  ·refine YU ?_;intro HF;clear k1;go_in;exact Zr
  have d3:decide ((x.next.length:Int) < 1)=false:=LJ FI;by_cases q4:60 < x.next.length
  ·refine YU ?_;intro HF;clear k1;go_in;exact Zr
  have d4:decide ((60:Int) < (x.next.length:Int))=false:=LJ FI;by_cases q5:x.weights.length≠x.next.length
  ·refine YU ?_;intro HF;have d5:((x.weights.length:Int) != (x.next.length:Int))=true:=neT FI;clear k1;go_in;exact Zr
  have d5:((x.weights.length:Int) != (x.next.length:Int))=false:=neF FI;have HV:=Ag (show aT g.aC g.F8.length x=if outside 1 1000 x.weights then 2 else 0 by unfold aT dw; rw[LH k1,LG FI]);clear k1 q0 q1 q5;go_in;go_wp2
  go_loop [5] (λi=>∃ k:Nat,k<=x.weights.length/\i = GV GU k/\outside 1 1000 (x.weights.take k)=false) (λi=>x.weights.length - (intOf i).toNat)
  case atStart=>exact⟨0,FI,rfl,rfl⟩
  case round =>
   obtain⟨k,hk,rfl,hpre⟩:=hrel;have HP:=Ag hpre;clear hpre;by_cases hlt:k < x.weights.length
   ·obtain⟨b,o,rfl,_,hb,hx⟩:=H4.o FI;obtain⟨y,hy⟩:=Gl hlt;have ey:=hx k y hy;unfold lU at ey; rw[Ho] at ey;have BAD:=Ag (show(y < 1\/1000 < y)->aT g.aC g.F8.length x=2 by
     intro hb; rw[HV.o,LH (show outside _ _ _=true from List.any_eq_true.2 ⟨y,Gx hy,by simpa using hb⟩)])
    have HX:=Ag hy;clear hx hy;by_cases pl:y < 1
    ·have HF:=Ag (BAD.o (.inl pl));exact Zr
    have fl:decide (y < 1)=false:=LJ FI;by_cases pr:1000 < y
    ·have HF:=Ag (BAD.o (.inr pr));exact Zr
    have fr:decide ((1000:Int) < y)=false:=LJ FI;go_wp2
    go_round
    case rel=>exact⟨k+1,FI,by go_num,nJ HX.o HP.o aB⟩
    case measure=>exact zMs
   ·exact zcY
 have e1:(x.kind==1)=false:=by simp[k1]
 by_cases k2:x.kind=2
 ·have e2:(x.kind==2)=true:=by simp[k2]
  by_cases q0:0 < x.pay.length
  ·exact YI
  have d0:decide ((0:Int) < (x.pay.length:Int))=false:=LJ FI;by_cases q1:0 < x.weights.length
  ·exact YI
  have d1:decide ((0:Int) < (x.weights.length:Int))=false:=LJ FI;by_cases q2:x.next.length < 1
  ·exact YI
  have d2:decide ((x.next.length:Int) < 1)=false:=LJ FI;by_cases q3:10 < x.next.length
  ·exact YI
  have d3:decide ((10:Int) < (x.next.length:Int))=false:=LJ FI;by_cases r0:x.aH < 0
  ·exact Yr
  have s0:decide (x.aH < 0)=false:=LJ FI;by_cases r1:g.aC<=x.aH
  ·exact Yr
  have s1:decide (g.aC<=x.aH)=false:=LJ FI;by_cases r2:x.info < 0
  ·exact Yr
  have s2:decide (x.info < 0)=false:=LJ FI;by_cases r3:(g.F8.length:Int)<=x.info
  ·exact Yr
  have s3:decide ((g.F8.length:Int)<=x.info)=false:=LJ FI;have HF:=Ag (show aT g.aC g.F8.length x=0 by unfold aT dX; rw[LG k1,LH k2,LG FI,LG FI]);clear k1 k2;go_in;exact Zr
 have e2:(x.kind==2)=false:=by simp[k2]
 by_cases k3:x.kind=3
 ·have e3:(x.kind==3)=true:=by simp[k3]
  by_cases q0:x.aH≠0
  ·refine YP ?_;intro HF;have d0:(x.aH != 0)=true:=neT FI;exact zcj
  have d0:(x.aH != 0)=false:=neF FI;by_cases q1:x.info≠0
  ·refine YP ?_;intro HF;have d1:(x.info != 0)=true:=neT FI;exact zcj
  have d1:(x.info != 0)=false:=neF FI;by_cases q2:0 < x.next.length
  ·refine YP ?_;intro HF;exact zcj
  have d2:decide ((0:Int) < (x.next.length:Int))=false:=LJ FI;by_cases q3:0 < x.weights.length
  ·refine YP ?_;intro HF;exact zcj
  have d3:decide ((0:Int) < (x.weights.length:Int))=false:=LJ FI;by_cases q4:(x.pay.length:Int)≠g.aC
  ·refine YP ?_;intro HF;have d4:((x.pay.length:Int) != g.aC)=true:=neT FI;exact zcj
  have d4:((x.pay.length:Int) != g.aC)=false:=neF FI;have HV:=Ag (show aT g.aC g.F8.length x=if outside (-1000000) 1000000 x.pay then 2 else 0 by unfold aT iG; rw[LG k1,LG k2,LH k3,LG FI]);clear k1 k2 k3 q0 q1 q4;go_in;go_wp2
  go_loop [6] (λi=>∃ k:Nat,k<=x.pay.length/\i = GV GU k/\outside (-1000000) 1000000 (x.pay.take k)=false) (λi=>x.pay.length - (intOf i).toNat)
  case atStart=>exact⟨0,FI,rfl,rfl⟩
  case round =>
   obtain⟨k,hk,rfl,hpre⟩:=hrel;have HP:=Ag hpre;clear hpre;by_cases hlt:k < x.pay.length
   ·obtain⟨b,o,rfl,_,hb,hx⟩:=H5.o FI;obtain⟨y,hy⟩:=Gl hlt;have ey:=hx k y hy;unfold lU at ey; rw[Ho] at ey;have BAD:=Ag (show(y < (-1000000)\/1000000 < y)->aT g.aC g.F8.length x=2 by
     intro hb; rw[HV.o,LH (show outside _ _ _=true from List.any_eq_true.2 ⟨y,Gx hy,by simpa using hb⟩)])
    have HX:=Ag hy;clear hx hy;by_cases pl:y < (-1000000)
    ·have HF:=Ag (BAD.o (.inl pl));exact Zr
    have fl:decide (y < (-1000000))=false:=LJ FI;by_cases pr:1000000 < y
    ·have HF:=Ag (BAD.o (.inr pr));exact Zr
    have fr:decide ((1000000:Int) < y)=false:=LJ FI;go_wp2
    go_round
    case rel=>exact⟨k+1,FI,by go_num,nJ HX.o HP.o aB⟩
    case measure=>exact zMs
   ·exact zcY
 have e3:(x.kind==3)=false:=by simp[k3]
 have HF:=Ag (show aT g.aC g.F8.length x=3 by unfold aT; rw[LG k1,LG k2,LG k3]);exact zcj
def dG (rec:Nat->Int->Int×Int):List Int->Int->Int->Int×Int
 | [],next,deep=>(next,deep)
 | c :: cs,next,deep=>if c≠next then (-1,deep) else if (rec next.toNat deep).1 < 0 then (-1,(rec next.toNat deep).2) else dG rec cs (rec next.toNat deep).1 (rec next.toNat deep).2
def bT (F7:List Nd):Nat->Nat->Int->Int->Int×Int
 | 0,_,_,deep=>(-1,deep)
 | f+1,a,depth,deep=>match F7[a]? with
  | none=>(-1,deep)
  | some n=>dG (λa d=>bT F7 f a (depth+1) d) n.next ((a:Int)+1) (max deep depth)
theorem wM {rec:Nat->Int->Int×Int} {N lo:Nat} (hrec:∀ a d,lo<=a->(rec a d).1 = -1\/((a:Int) < (rec a d).1/\(rec a d).1<=N)):∀ (cs:List Int) (next deep:Int),(lo:Int)<=next->next<=N ->
  (dG rec cs next deep).1 = -1\/((lo:Int)<=(dG rec cs next deep).1/\(dG rec cs next deep).1<=N)
 | [],next,deep,h1,h2=>.inr ⟨h1,h2⟩
 | c :: cs,next,deep,h1,h2=>by
  unfold dG;split
  ·exact .inl rfl
  ·split
   ·exact .inl rfl
   ·rcases hrec next.toNat deep FI with h | h
    ·omega
    ·exact wM hrec cs _ _ FI FI
theorem sQ (F7:List Nd):∀ (f a:Nat) (depth deep:Int),(bT F7 f a depth deep).1 = -1\/((a:Int) < (bT F7 f a depth deep).1/\(bT F7 f a depth deep).1<=F7.length)
 | 0,_,_,_=>.inl rfl
 | f+1,a,depth,deep=>by
  unfold bT;split
  ·exact .inl rfl
  ·rename_i n hn
   have:=Gn hn;rcases wM (rec:=λa d=>bT F7 f a (depth+1) d) (N:=F7.length) (lo:=a+1) (λa' d _=>sQ F7 f a' (depth+1) d) n.next ((a:Int)+1) (max deep depth) FI FI with h | h
   ·exact .inl h
   ·exact .inr FI
theorem yQ {rec:Nat->Int->Int×Int} {D:Int} (hrec:∀ a d,-1<=d->d<=D→-1<=(rec a d).2/\(rec a d).2<=D):∀ (cs:List Int) (next deep:Int),-1<=deep->deep<=D→-1<=(dG rec cs next deep).2/\(dG rec cs next deep).2<=D
 | [],next,deep,h1,h2=>⟨h1,h2⟩
 | c :: cs,next,deep,h1,h2=>by
  unfold dG;have:=hrec next.toNat deep h1 h2
  split
  ·exact⟨h1,h2⟩
  ·split
   ·exact this
   ·exact yQ hrec cs _ _ this.1 this.2
theorem vH (F7:List Nd) (D:Int):∀ (f a:Nat) (depth deep:Int),depth+f<=D→-1<=deep->deep<=D→-1<=(bT F7 f a depth deep).2/\(bT F7 f a depth deep).2<=D
 | 0,_,_,_,_,h1,h2=>⟨h1,h2⟩
 | f+1,a,depth,deep,h,h1,h2=>by
  unfold bT;split
  ·exact⟨h1,h2⟩
  ·exact yQ (λa' d g1 g2=>vH F7 D f a' (depth+1) d FI g1 g2) _ _ _ FI FI
theorem Same.af7 {w w':GK} (h:w.grownBy w' (some b)):Same (λk=>k≠b) w w':=⟨h.size,λk hk hl=>h.block k hl (by simpa using hk)⟩
theorem sS {a w:GK} (h:a.grownBy w row) (o:Obj):a.grownBy (w.alloc o) row :=
 ⟨h.os,h.tape,h.output,He h.size aA,λi hi hne=>(Below.heap_alloc w o i (Hz hi h.size)).trans (h.block i hi hne)⟩
theorem grown_setCell {a w:GK} {g:Nat} (h:a.grownBy w (some g)) {p:Addr} (hp:p.block=g\/a.heap.size<=p.block) (u:GN):a.grownBy (w.setCell p u) (some g) :=
 ⟨h.os,h.tape,h.output,by simpa using h.size,λi hi hne=>(JA w p u i (by
  rintro rfl;rcases hp with hp | hp
  ·exact hne (by rw[hp])
  ·omega)).trans (h.block i hi hne)⟩
theorem vI (w:GK) (row:Option Nat):w.grownBy w row:=⟨rfl,rfl,rfl,Gy _,λ_ _ _=>rfl⟩
theorem abA {a b c:GK} (h:a.grownBy b row) (k:b.grownBy c row):a.grownBy c row :=
 ⟨k.os.trans h.os,k.tape.trans h.tape,k.output.trans h.output,He h.size k.size,λi hi hne=>(k.block i (Hz hi h.size) hne).trans (h.block i hi hne)⟩
theorem acA {w w':GK} {d:Nat} (h:w.grownBy w' (some d)):∀ b o,b < w.heap.size->b≠d->w'.cell? ⟨b,o,none⟩=w.cell? ⟨b,o,none⟩:=λb o hb hd=>Hu (h.block b hb (by simpa using hd))
theorem ajI (g:Gm) (hsm:Small g):∀ (f a:Nat) (depth deep:Int) (w:GK) (bd:Nat) (u:GN),AB w (λb=>b≠bd) u g->Row w bd 3 [GV GU deep]->g.F7.length < a+f->0<=depth->depth+f<=100000→-1<=deep->deep<=100000 ->
  Calls GI 142 #[u,GV GU a,GV GU depth,.pointer (some ⟨bd,0,none⟩)] w λe w'=>e = .returned (GV GU (bT g.F7 f a depth deep).1)/\Row w' bd 3 [GV GU (bT g.F7 f a depth deep).2]/\w.grownBy w' (some bd):=by
 intro f;induction f with
 | zero =>
  intro a depth deep w bd u hg hrow hf hd0 hd1 hp0 hp1;obtain⟨vn,vi,rfl,⟨A,c,rfl,hc,hN⟩,⟨Ai,ci,rfl,hci,hI⟩⟩:=hg;clear hN hI;have hge:(g.F7.length:Int)<=(a:Int):=FI;have hn:=hsm.F7;have AV:=Ag hrow;clear hrow;go_in;go_wp2
  go_ret;exact⟨rfl,AV.o.alloc _,sS (vI _ _) _⟩
 | succ f ih =>
  intro a depth deep w bd u hg hrow hf hd0 hd1 hp0 hp1;have HG:=Ag hg;obtain⟨vn,vi,rfl,⟨A,c,rfl,hc,hN⟩,⟨Ai,ci,rfl,hci,hI⟩⟩:=hg;have HN:=Ag hN;clear hN hI;have IH:=Ag ih;clear ih;have HSM:=Ag hsm;have hn:=hsm.F7;clear hsm;have hbd:=hrow.lt;have xd:=hrow.cell (i:=0) rfl;have fd:=hrow.frozen 0;have AV:=Ag hrow;clear hrow;by_cases hlt:a < g.F7.length
  ·obtain⟨b,o,rfl,hbF,hb,hcell⟩:=HN.o FI;obtain⟨n,hn'⟩:=Gl hlt;obtain⟨v3,e3,A3,c3,rfl,hc3,i3⟩:=(hcell a n hn').c3;have HX:=Ag hn';have hl3:=HSM.o.next n (Gx hn');have H3:=Ag i3; clear i3 hcell hn';have HW:=Ag (show bT g.F7 (f+1) a depth deep=dG (λa d=>bT g.F7 f a (depth+1) d) n.next ((a:Int)+1) (max deep depth) by
    rw[bT]; simp only[HX.o])
   have hrl:∀ d,(max deep depth:Int)=d->∀ (w':GK),Row w' bd 3 [GV GU deep]->Row (w'.setCell ⟨bd,0,none⟩ (GV GU d)) bd 3 [GV GU d]:=λd _ w' h=>by simpa using h.set 0 (GV GU d)
   have HRL:=Ag hrl;clear hrl;by_cases hmx:deep < depth
   ·have HMX:=Ag (show(max deep depth:Int)=depth by omega);have hm0:-1<=depth/\depth<=100000:=FI;go_in;go_wp2
    go_loopw [9,10] (λnx i wr=>∃ (j:Nat) (next dp:Int),j<=n.next.length/\i = GV GU j/\nx = GV GU next/\(a:Int) < next/\next<=g.F7.length∧-1<=dp/\dp<=100000/\Row wr w.heap.size 25 [GV GU g.aC,Gw (some ⟨b,o,none⟩) g.F7.length c,Gw Ai g.F8.length ci]/\Row wr bd 3 [GV GU dp]/\w.grownBy wr (some bd)/\bT g.F7 (f+1) a depth deep=dG (λa d=>bT g.F7 f a (depth+1) d) (n.next.drop j) next dp) (λ_ i _=>n.next.length - (intOf i).toNat)
    case atStart =>
     refine⟨0,(a:Int)+1,depth,FI,rfl,rfl,FI,FI,hm0.1,hm0.2,?_,?_,?_,?_⟩
     ·have:=Row.new (w.setCell ⟨bd,0,none⟩ (GV GU depth)) 25 #[GV GU g.aC,Gw (some ⟨b,o,none⟩) g.F7.length c,Gw Ai g.F8.length ci];simpa using this
     ·exact(HRL.o depth HMX.o w AV.o).alloc _
     ·exact sS (grown_setCell (vI _ _) (.inl rfl) _) _
     ·rw[HW.o,HMX.o];rfl
    case round =>
     obtain⟨j,next,dp,hj,rfl,rfl,aoh,hnx1,alm,aln,hbx,hrw,hgr,hval⟩:=hrel;have HV:=Ag hval;clear hval;have x1:=hbx.cell (i:=1) rfl;have x0:=hbx.cell (i:=0) rfl;have x2:=hbx.cell (i:=2) rfl;have hold:=acA hgr;by_cases hjt:j < n.next.length
     ·obtain⟨ch,hch⟩:=Gl hjt;obtain⟨b3,o3,rfl,hb3,alo,hx3⟩:=H3.o FI;have ec:=hx3 j ch hch;unfold lU at ec;rw[Ho] at ec;refine zae ?_;intro HD;clear hch hx3;by_cases hne:ch=next
      ·subst hne;obtain⟨q,rfl⟩:=J4 (show 0<=ch by omega);have hbd2:=sQ g.F7 f q (depth+1) dp;have HV2:=Ag (show dG (λa d=>bT g.F7 f a (depth+1) d) (n.next.drop j) (q:Int) dp=if (bT g.F7 f q (depth+1) dp).1 < 0 then (-1,(bT g.F7 f q (depth+1) dp).2) else dG (λa d=>bT g.F7 f a (depth+1) d) (n.next.drop (j+1)) (bT g.F7 f q (depth+1) dp).1 (bT g.F7 f q (depth+1) dp).2 by
        rw[HD.o]; simp[dG])
       have HBD:=Ag hbd2;clear hbd2;go_wp2_with fail
       refine zd1 ?_;rintro e w' ⟨rfl,ahH,gZ⟩;have hdd:=vH g.F7 100000 f q (depth+1) dp FI alm aln;have af8:Row w' w.heap.size _ _:=hbx.of_block (gZ.block _ hbx.lt aB);have hgg:=abA hgr gZ;have hbb:=HBD.o;have HV3:=Ag (HV.o.trans HV2.o);generalize bT g.F7 f q (depth+1) dp=rr at *;obtain⟨rn,rd⟩:=rr;dsimp only at ahH hdd hbb HV3 ⊢;clear HV2 HBD hold x0 x1 x2 hbx hrw hgr gZ;by_cases hng:rn < 0
       ·exact zbY
       ·go_wp2
        go_roundw
        case rel=>exact⟨j+1,rn,rd,FI,by go_num,rfl,FI,FI,hdd.1,hdd.2,af8,ahH,hgg,by rw[HV3.o,LG hng]⟩
        case measure=>exact zMs
      ·exact zaR
     ·exact zbL
   ·have HMX:=Ag (show(max deep depth:Int)=deep by omega);have hm0:-1<=deep/\deep<=100000:=FI;go_in;go_wp2
    go_loopw [9,10] (λnx i wr=>∃ (j:Nat) (next dp:Int),j<=n.next.length/\i = GV GU j/\nx = GV GU next/\(a:Int) < next/\next<=g.F7.length∧-1<=dp/\dp<=100000/\Row wr w.heap.size 25 [GV GU g.aC,Gw (some ⟨b,o,none⟩) g.F7.length c,Gw Ai g.F8.length ci]/\Row wr bd 3 [GV GU dp]/\w.grownBy wr (some bd)/\bT g.F7 (f+1) a depth deep=dG (λa d=>bT g.F7 f a (depth+1) d) (n.next.drop j) next dp) (λ_ i _=>n.next.length - (intOf i).toNat)
    case atStart =>
     refine⟨0,(a:Int)+1,deep,FI,rfl,rfl,FI,FI,hm0.1,hm0.2,?_,?_,?_,?_⟩
     ·have:=Row.new (w.setCell ⟨bd,0,none⟩ (GV GU deep)) 25 #[GV GU g.aC,Gw (some ⟨b,o,none⟩) g.F7.length c,Gw Ai g.F8.length ci];simpa using this
     ·exact(HRL.o deep HMX.o w AV.o).alloc _
     ·exact sS (grown_setCell (vI _ _) (.inl rfl) _) _
     ·rw[HW.o,HMX.o];rfl
    case round =>
     obtain⟨j,next,dp,hj,rfl,rfl,aoh,hnx1,alm,aln,hbx,hrw,hgr,hval⟩:=hrel;have HV:=Ag hval;clear hval;have x1:=hbx.cell (i:=1) rfl;have x0:=hbx.cell (i:=0) rfl;have x2:=hbx.cell (i:=2) rfl;have hold:=acA hgr;by_cases hjt:j < n.next.length
     ·obtain⟨ch,hch⟩:=Gl hjt;obtain⟨b3,o3,rfl,hb3,alo,hx3⟩:=H3.o FI;have ec:=hx3 j ch hch;unfold lU at ec;rw[Ho] at ec;refine zae ?_;intro HD;clear hch hx3;by_cases hne:ch=next
      ·subst hne;obtain⟨q,rfl⟩:=J4 (show 0<=ch by omega);have hbd2:=sQ g.F7 f q (depth+1) dp;have HV2:=Ag (show dG (λa d=>bT g.F7 f a (depth+1) d) (n.next.drop j) (q:Int) dp=if (bT g.F7 f q (depth+1) dp).1 < 0 then (-1,(bT g.F7 f q (depth+1) dp).2) else dG (λa d=>bT g.F7 f a (depth+1) d) (n.next.drop (j+1)) (bT g.F7 f q (depth+1) dp).1 (bT g.F7 f q (depth+1) dp).2 by
        rw[HD.o]; simp[dG])
       have HBD:=Ag hbd2;clear hbd2;go_wp2_with fail
       refine zd1 ?_;rintro e w' ⟨rfl,ahH,gZ⟩;have hdd:=vH g.F7 100000 f q (depth+1) dp FI alm aln;have af8:Row w' w.heap.size _ _:=hbx.of_block (gZ.block _ hbx.lt aB);have hgg:=abA hgr gZ;have hbb:=HBD.o;have HV3:=Ag (HV.o.trans HV2.o);generalize bT g.F7 f q (depth+1) dp=rr at *;obtain⟨rn,rd⟩:=rr;dsimp only at ahH hdd hbb HV3 ⊢;clear HV2 HBD hold x0 x1 x2 hbx hrw hgr gZ;by_cases hng:rn < 0
       ·exact zbY
       ·go_wp2
        go_roundw
        case rel=>exact⟨j+1,rn,rd,FI,by go_num,rfl,FI,FI,hdd.1,hdd.2,af8,ahH,hgg,by rw[HV3.o,LG hng]⟩
        case measure=>exact zMs
      ·exact zaR
     ·exact zbL
  ·have hge:(g.F7.length:Int)<=(a:Int):=FI;have HF:=Ag (show bT g.F7 (f+1) a depth deep=(-1,deep) by
    rw[bT]; rw[List.getElem?_eq_none FI])
   go_in;go_wp2
   go_ret;exact⟨by rw[HF.o]; rfl,by rw[HF.o]; exact AV.o.alloc _,sS (vI _ _) _⟩
theorem yR (w:GK) (F:Gq) (v:GN) (g:Gm) (hg:AB w F v g) (hsm:Small g) (h0:0 < g.F7.length) (hk:EH g.F7) :
  Calls GI 144 #[v] w (Ret w λv w'=>AL w' (λb=>w.heap.size<=b) v (dO g.F7)):=by
 obtain⟨vn,vi,rfl,⟨A,c,rfl,hc,hN⟩,hI⟩:=hg;obtain⟨b,o,rfl,hbF,hbB,hN⟩:=hN h0;have HN:=Ag hN;clear hN;have HK:=Ag hk;clear hk;have hn:=hsm.F7;have HS:=Ag hsm;clear hsm;go_in;go_wp2_with (at_make; refine fG _ rfl _ _ 49 rfl 3 (GV GU 0) 8 Tryz.underlying49 Tryz.infoInt rfl g.F7.length rfl rfl FI FI ?_; intro w1 yS hsz1 hrow1; have r0:=hrow1.cell (i:=0) (v:=GV GU 0) (by simp[h0]); have f0:=hrow1.frozen 0; simp at r0 f0)
 go_loopw [4] (λi wr=>∃ k:Nat,k<=g.F7.length/\i = GV GU k/\wr.cell? ⟨w.heap.size,1,none⟩=some (Gw (some ⟨b,o,none⟩) g.F7.length c)/\Row wr (w.heap.size+1) 3 ((qW g.F7 k).map (Value.int .i64))/\Below w.heap.size w wr) (λi _=>g.F7.length - (intOf i).toNat)
 case atStart =>
  refine⟨0,FI,rfl,?_,?_,?_⟩
  ·rw[World.cell?_setCell_other _ _ _ _ aA,aK yS _ _ aA];simp
  ·have:=hrow1.set 0 (GV GU (-1));simp only[World.size_alloc] at this;simpa [qW,Jj] using this
  ·exact(((GR _ _).alloc (Gy _) _).trans (yS.mono aA)).setCell aA _
 case round =>
  obtain⟨k,hk,rfl,hbox,hrow,hbel⟩:=hrel;by_cases hlt:k < g.F7.length
  ·obtain⟨n,hn'⟩:=Gl hlt;have aja:=HN.o k n hn';obtain⟨v3,e3,A3,c3,rfl,hc3,hN3⟩:=aja.c3;have hl3:=HS.o.next n (Gx hn');have HN3:=Ag hN3;clear hN3 aja;have HN':=Ag hn';clear hn';have hold:=aK hbel;go_wp2
   go_loopw [5] (λi wi=>∃ j:Nat,j<=n.next.length/\i = GV GU j/\wi.cell? ⟨w.heap.size,1,none⟩=some (Gw (some ⟨b,o,none⟩) g.F7.length c)/\Row wi (w.heap.size+1) 3 ((lM (n.next.take j) k (qW g.F7 k)).map (Value.int .i64))/\Below w.heap.size w wi) (λi _=>n.next.length - (intOf i).toNat)
   case atStart=>exact⟨0,FI,rfl,hbox,by simpa [lM] using hrow,hbel⟩
   case round =>
    clear hbox hrow hold;obtain⟨j,hj,rfl,hbox,hrow,fC⟩:=hrel;have hold:=aK fC;by_cases hjt:j < n.next.length
    ·obtain⟨ch,hch⟩:=Gl hjt;obtain⟨b3,o3,rfl,hb3,hb3B,hx3⟩:=HN3.o FI;have ec:=hx3 j ch hch;unfold lU at ec;rw[Ho] at ec;obtain⟨hch0,hch1⟩:=HK.o n (Gx HN'.o) ch (Gx hch);have HCH:=Ag hch;clear hch hx3;obtain⟨x,hx⟩:=Gl (l:=lM (n.next.take j) k (qW g.F7 k)) (k:=ch.toNat) (by rw[wL,kQ]; omega);have rc:=hrow.cell (i:=ch.toNat) (v:=GV GU x) (by simp[hx]);have fc:=hrow.frozen ch.toNat;clear hx;go_wp2
     go_roundw
     case rel =>
      refine⟨j+1,FI,by go_num,?_,?_,fC.setCell aA _⟩
      ·rw[World.cell?_setCell_other _ _ _ _ aA];exact hbox
      ·have:=hrow.set ch.toNat (GV GU k);rw[ae3 HCH.o];simpa [Jj] using this
     case measure=>exact zMs
    ·go_wp2
     go_roundw
     case rel =>
      have:j=n.next.length:=FI;subst this;refine⟨k+1,FI,by go_num,hbox,?_,fC⟩;rw[acz HN'.o];simpa using hrow
     case measure=>exact zMs
  ·go_wp2
   go_ret;have:k=g.F7.length:=FI;subst this;refine zaI ?_;have hl:(dO g.F7).length=g.F7.length:=kQ _ _;have:=hrow.ints (F:=λb=>w.heap.size<=b) FI (c:=g.F7.length) (by rw[kQ]; omega);rw[kQ] at this;exact this
def DX (w:GK) (fid:FuncId) (caps:Array GN) (l:List Int) (p:Int->Bool):Prop :=
 (∀ (args:Array GN) (w':GK),(callFunc fid args).run GI w' = .ok (.enter fid args) w') /\
 ∀ (n:Nat) (x:Int),x∈l->Calls GI fid (#[GV GU x]++caps) (w.drewN n) λe w'=>e = .returned (.bool (p x))/\∃ m,w'=w.drewN m
def idxOf (p:Int->Bool) (l:List Int):Int:=match l.findIdx? p with | some i=>(i:Int) | none=>-1
theorem idxOf_hit {p:Int->Bool} {x:Int} (h:l[k]? = some x) (hp:p x=true) (hn:(l.take k).any p=false):idxOf p l=k:=by grind [List.findIdx?_eq_some_iff_getElem,List.mem_take_iff_getElem,idxOf]
theorem ahI {p:Int->Bool} (hn:l.any p=false):idxOf p l = -1:=by grind [idxOf]
theorem ajJ (p:Int->Bool) (l:List Int):decide (0<=idxOf p l)=l.any p:=by grind [idxOf]
theorem adL (w:GK) (F:Gq) (v:GN) (l:List Int) (fid:FuncId) (caps:Array GN) (p:Int->Bool) (hv:AL w F v l) (hl:l.length<=1000000) (ha:DX w fid caps l p) :
  Calls GI 191 #[v,.func (.func fid) #[] caps] w λe w'=>e = .returned (GV GU (idxOf p l))/\∃ n,w'=w.drewN n:=by
 obtain⟨A,c,rfl,hc,hr⟩:=hv;have HR:=Ag hr;clear hr;obtain⟨hcf,hcl⟩:=ha;have HCL:=Ag hcl;clear hcl;go_in;go_wp2
 go_loopw [8] (λi wr=>∃ k n:Nat,k<=l.length/\i = GV GU k/\(l.take k).any p=false/\wr=w.drewN n) (λi _=>l.length - (intOf i).toNat)
 case atStart=>exact⟨0,0,FI,rfl,rfl,rfl⟩
 case round =>
  obtain⟨k,n,hk,rfl,hpre,rfl⟩:=hrel;have HP:=Ag hpre;clear hpre;by_cases hlt:k < l.length
  ·obtain⟨b,o,rfl,_,hb,hx⟩:=HR.o FI;obtain⟨x,hxx⟩:=Gl hlt;have ex:=hx k x hxx;unfold lU at ex;rw[Ho] at ex;have HX:=Ag hxx;clear hxx hx;go_wp2_with fail
   refine(HCL.o n x (Gx HX.o)).mono ?_;rintro e w' ⟨rfl,m,rfl⟩;dsimp only;cases hpx:p x
   ·have HPX:=Ag hpx;clear hpx;go_wp2
    go_roundw
    case rel=>exact⟨k+1,m,FI,by go_num,nJ HX.o HP.o HPX.o,rfl⟩
    case measure=>exact zMs
   ·have HF:=Ag (idxOf_hit HX.o hpx HP.o);clear hpx;go_wp2
    go_ret;exact⟨by rw[HF.o]; rfl,m,rfl⟩
  ·go_wp2
   go_ret;have h:=HP.o;rw[G8 FI] at h;exact⟨by rw[ahI h]; rfl,n,rfl⟩
theorem aa2 (w:GK) (F:Gq) (v:GN) (l:List Int) (fid:FuncId) (caps:Array GN) (p:Int->Bool) (hv:AL w F v l) (hl:l.length<=1000000) (ha:DX w fid caps l p) :
  Calls GI 179 #[v,.func (.func fid) #[] caps] w λe w'=>e = .returned (.bool (l.any p))/\∃ n,w'=w.drewN n:=by
 have HV:=Ag hv;clear hv;have HA:=Ag ha;clear ha;go_in;go_wp2_with fail
 refine(adL w F v l fid caps p HV.o hl HA.o).mono ?_;rintro e w' ⟨rfl,n,rfl⟩;dsimp only;have HF:=Ag (ajJ p l);generalize idxOf p l=q at *;go_wp2
 all_goals
  go_ret;refine⟨?_,n,rfl⟩;rw[<-HF.o];first | rfl | (simp; omega)
def uh (n:Nd):Bool:=decide (100 < n.next.length)||decide (100 < n.weights.length)||decide (100 < n.pay.length)
def lV (g:Gm) (F7 sets:Int):Bool:=decide (F7 < g.F7.length)||decide (sets < g.F8.length)||g.F7.any uh
theorem ajK (w:GK) (F:Gq) (u:GN) (g:Gm) (h:AB w F u g) (F7 sets:Int) (hn0:F7<=1000) :
  Calls GI 4 #[u,GV GU F7,GV GU sets] w (Ret w λv _=>v = .bool (lV g F7 sets)):=by
 obtain⟨vn,vi,rfl,⟨A,c,rfl,hc,hN⟩,⟨Ai,ci,rfl,hci,hI⟩⟩:=h;have HN:=Ag hN;clear hN hI;by_cases q0:F7 < g.F7.length
 ·have HF:=Ag (show lV g F7 sets=true by simp[lV,q0]);exact Zu
 have d0:decide (F7 < (g.F7.length:Int))=false:=aB;by_cases q1:sets < g.F8.length
 ·have HF:=Ag (show lV g F7 sets=true by simp[lV,q1]);exact Zu
 have d1:decide (sets < (g.F8.length:Int))=false:=aB;go_in;go_wp2
 go_loopw [7] (λi wr=>∃ k:Nat,k<=g.F7.length/\i = GV GU k/\(g.F7.take k).any uh=false/\Row wr w.heap.size 25 [GV GU g.aC,Gw A g.F7.length c,Gw Ai g.F8.length ci]/\Below w.heap.size w wr) (λi _=>g.F7.length - (intOf i).toNat)
 case atStart=>exact⟨0,FI,rfl,aA,Row.new w _ _,(GR _ _).alloc (Gy _) _⟩
 case round =>
  obtain⟨k,hk,rfl,hpre,hr,hbel⟩:=hrel;have HP:=Ag hpre;clear hpre;have x1:=hr.cell (i:=1) rfl;by_cases hlt:k < g.F7.length
  ·obtain⟨b,o,rfl,_,hb,hcell⟩:=HN.o FI;obtain⟨n,hn⟩:=Gl hlt;obtain⟨e0,e1,e2,⟨v3,e3,A3,c3,rfl,hc3,i3⟩,⟨v4,e4,A4,c4,rfl,hc4,i4⟩,⟨v5,e5,A5,c5,rfl,hc5,i5⟩⟩:=hcell k n hn;clear i3 i4 i5 hcell;have HX:=Ag hn; clear hn;have hold:=aK hbel;have LT:=Ag (show uh n=true->lV g F7 sets=true by
    intro h;unfold lV;have:g.F7.any uh=true:=List.any_eq_true.2 ⟨n,Gx HX.o,h⟩;rw[this]; simp)
   by_cases q3:100 < n.next.length
   ·have HF:=Ag (LT.o (by unfold uh; simp[q3]));go_wp2
    go_ret;exact⟨_,rfl,by repeat (first | exact hbel | refine Lc ?_ hbel.size _ | refine KU ?_ hbel.size _),by rw[HF.o]; rfl⟩
   have d3:decide ((100:Int) < (n.next.length:Int))=false:=aB;by_cases q4:100 < n.weights.length
   ·have HF:=Ag (LT.o (by unfold uh; simp[q4]));go_wp2
    go_ret;exact⟨_,rfl,by repeat (first | exact hbel | refine Lc ?_ hbel.size _ | refine KU ?_ hbel.size _),by rw[HF.o]; rfl⟩
   have d4:decide ((100:Int) < (n.weights.length:Int))=false:=aB;by_cases q5:100 < n.pay.length
   ·have HF:=Ag (LT.o (by unfold uh; simp[q5]));go_wp2
    go_ret;exact⟨_,rfl,by repeat (first | exact hbel | refine Lc ?_ hbel.size _ | refine KU ?_ hbel.size _),by rw[HF.o]; rfl⟩
   have d5:decide ((100:Int) < (n.pay.length:Int))=false:=aB;have LF:=Ag (show uh n=false by unfold uh; simp; omega);go_wp2
   go_roundw
   case rel=>exact⟨k+1,FI,by go_num,nJ HX.o HP.o LF.o,by repeat (first | exact hr | refine Row.alloc ?_ _ | refine Row.other ?_ (by have:=hr.lt; simp; omega) _),by repeat (first | exact hbel | refine Lc ?_ hbel.size _ | refine KU ?_ hbel.size _)⟩
   case measure=>exact zMs
  ·go_wp2
   go_ret;refine zaI ?_;have h3:=HP.o;rw[G8 FI] at h3;have:lV g F7 sets=false:=by unfold lV;rw[h3,d0,d1];rfl
   rw[this];rfl
