/- Part of a claim. -/
import Derived.Test.YtnmeejofpkhlkaaGreatDoorE03
import Derived.Test.YtnmeejofpkhlkaaGreatDoorE01
import Derived.Test.YtnmeejofpkhlkaaGreatDoorProg
import Derived.WalkKit
import Derived.Deep.QuietTactic
import Derived.BigQuiet
import Derived.Lib.Hide
import Derived.Deep.OwnRows
set_option linter.all false
set_option maxRecDepth 100000
set_option maxHeartbeats 12800000
namespace Go.Proofs.YtnmeejofpkhlkaaGreatDoor
open Go.RowKit.Below renaming heap_alloc->KG,heap_setCell->JC,refl->F9
open Go.IntKind renaming i64->F5
open Go renaming Value->F7,World->FW
open Go.Value renaming int->F6,slice->FQ
open Int renaming eq_ofNat_of_zero_le->J5
open List renaming findIdx?_eq_none_iff->KC,getElem?_eq_none->G9,map_set->Jb,mem_of_getElem?->FT,replicate->F8
open Nat renaming le_refl->FV,le_trans->Gf,lt_of_lt_of_le->GZ,mul_one->Gp
open Go.Proofs.Tryz renaming prog->FY
open Go.World renaming cell?_of_block->Gs
variable {a:Int} {l:List Int} {B b i k o:Nat} {row:Option Nat} {p q:Prop} {α:Type} {t:TypeId}
theorem Zh (k:q) (h:FN q->p:=by
 intro hq
 rw[<-hWz]
 have t0:=hrz.cell (i:=0) rfl
 have t1:=hrz.cell (i:=1) rfl
 have t2:=hrz.cell (i:=2) rfl
 revert t2
 revert t1
 revert t0
 exact hq.out):p:=h ⟨k⟩
theorem Zr (h:p:=by
 go_wp2
 go_ret
 exact⟨_,rfl,bJ _ _ _ 0,by rw[HF.out]; rfl⟩):p:=h
theorem Zu (k:q) (h:FN q->p:=by
 intro hq
 dsimp only
 have q0:=hr.cell (i:=0) rfl
 have y0:=hr.frozen 0
 have q1:=hr.cell (i:=1) rfl
 have y1:=hr.frozen 1
 have q2:=hr.cell (i:=2) rfl
 have y2:=hr.frozen 2
 revert y2
 revert q2
 revert y1
 revert q1
 revert y0
 revert q0
 exact hq.out):p:=h ⟨k⟩
theorem ZQ (k:q) (h:FN q->p:=by
 intro hq
 refine(jF w1 F _ _ a b C D Y (HVA.out.below hb1) (HVB.out.below hb1) hla hlb EN EN EN EN HX.out.2.1 (by have:=HY.out.1; have:=HX.out.2.2; omega)).mono ?_
 exact hq.out):p:=h ⟨k⟩
theorem ZT (h:p:=by
 clear cx HMS HRW HGR CP
 obtain⟨u3,rfl,ahx,als,afZ,hrow3,anZ⟩:=hcut
 obtain⟨x,hx⟩:=FC (l:=u3) (k:=k) EN
 have cx:=hrow3.cell (bn ((kK HPP.out EN).trans hx))
 have fx:=hrow3.frozen (j+k)
 have hQlt:aH u / aH v < 1000000000:=HE.out.q_lt
 have HLN:=Ac (adP ahx afZ)
 have EG:=Ac ahx
 have hk3:k < u3.length:=EN
 clear hx ahx afZ
 generalize hQ:aH u / aH v=Q at *
 have HQQ:=Ac hQ
 clear hQ
 go_wp2
 go_ret
 refine⟨by rw[HQQ.out]; rfl,⟨u3.set k 0,by rw[List.length_set,EG.out],als.set aA,HLN.out,?_⟩,kG anZ _ _⟩
 have hr:=hrow3.set (j+k) (.int .u32 ((0:Nat):Int))
 rw[bC,set_mid HPP.out hk3] at hr
 exact hr):p:=h
theorem Yc (h:p:=by
 go_in
 go_wp2
 go_ret
 exact⟨_,rfl,(Below.refl _ _).alloc (Nat.le_refl _) _,by rw[HD.out]; rfl⟩):p:=h
theorem Yk (h:p:=by
 exact⟨by rw[HB.out],by simp only[World.drewN_drewN]; exact⟨_,rfl⟩⟩):p:=h
theorem Yl (k:q) (h:FN q->p:=by
 intro hq
 have hdd:decide (k < (dig b).length)=false:=L9 hlt2
 have HY:=Ac (eU (l:=dig b) (k:=k) EN)
 revert HY
 revert hdd
 exact hq.out):p:=h ⟨k⟩
theorem Yu (k:q) (h:FN q->p:=by
 intro hq
 rw[Nat.mul_one] at ex
 have hxl:x < 1000000000:=(aP a).get hx'
 have HX:=Ac (aN hx')
 revert HX
 revert hxl
 revert ex
 exact hq.out):p:=h ⟨k⟩
theorem Yx (k:q) (h:FN q->p:=by
 intro hq
 have e1:((j+1:Nat):Int) - 1=(j:Int):=EN
 rw[e1]
 clear e1
 exact hq.out):p:=h ⟨k⟩
theorem YA (h:p:=by
 have HF:=Ac (show aQ g.ay g.Fh.length x=2 by unfold aQ fA; rw[L6 k1,L8 k2,L6 EN,L8 EN])
 clear k1 k2
 go_in
 exact Zr):p:=h
theorem YC (h:p:=by
 have hr:=HO.out.set k (.int .u32 (e:Int))
 rw[bC,he] at hr
 exact hr):p:=h
theorem YF (k:q) (h:FN q->p:=by
 intro hq
 refine(jF w F _ _ a b A B X HVA.out HVB.out hla hlb EN EN EN EN HX.out.1 HX.out.2.2).mono ?_
 exact hq.out):p:=h ⟨k⟩
theorem YH (h:p:=by
 refine⟨k+1,l.set k ((cr+p) % 1000000000),(cr+p) / 1000000000,EN,by go_num,by go_num,EN,by rw[List.length_set,HL.out],HM.out.set (by show _ < 1000000000; omega),rX (by rw[HL.out]; exact hlt) HI.out (by rw[HX.out,<-HP.out]; show _+1000000000*_=_; omega),?_,hbel.setCell (Nat.le_refl _) _⟩
 have hr:=HO.out.set k (.int .u32 (((cr+p) % 1000000000:Nat):Int))
 rw[bC] at hr
 exact hr):p:=h
theorem YJ (h:p:=by
 refine⟨k+1,l.set k (cr % 1000000000),cr / 1000000000,EN,by go_num,by go_num,EN,by rw[List.length_set,HL.out],HM.out.set (by show _ < 1000000000; omega),rX (by rw[HL.out]; exact hlt) HI.out (by rw[HX.out,Nat.zero_mul]; show _+1000000000*_=_; omega),?_,hbel.setCell (Nat.le_refl _) _⟩
 have hr:=HO.out.set k (.int .u32 ((cr % 1000000000:Nat):Int))
 rw[bC] at hr
 exact hr):p:=h
theorem YK (h:p:=by
 have:=hrow.limbs (F:=λb=>w.heap.size<=b) (Nat.le_refl _) (n:=l.length) (c:=(dig a).length) (Nat.le_refl _) (by rw[HL.out]; exact Nat.le_refl _)
 rw[List.take_length,HL.out] at this
 exact this):p:=h
theorem YM (h:p:=by
 have HF:=Ac (show aQ g.ay g.Fh.length x=3 by unfold aQ fA; rw[L6 k1,L8 k2,L8 EN])
 clear k1 k2
 go_in
 exact Zr):p:=h
theorem YN (h:p:=by
 exact⟨none,0,rfl,Nat.le_refl _,λh=>absurd h aF⟩):p:=h
theorem YR (k:q) (h:FN q->p:=by
 intro hq
 obtain⟨n2,anX⟩:∃ n2,n2+2=n:=⟨n - 2,EN⟩
 have i1:(n:Int) - 1=(n1:Int):=EN
 have i2:(n:Int) - 2=(n2:Int):=EN
 have l1:n1 < n:=EN
 have l2:n2 < n:=EN
 have ul:=he.ul
 have vl:=he.vl
 obtain⟨top,htop⟩:=FC (l:=v) (k:=n1) EN
 obtain⟨v2,hv2⟩:=FC (l:=v) (k:=n2) EN
 obtain⟨un,hun⟩:=FC (l:=u) (k:=n) EN
 obtain⟨u1,hu1⟩:=FC (l:=u) (k:=n1) EN
 obtain⟨u2,hu2⟩:=FC (l:=u) (k:=n2) EN
 have ct:=hv.cell (bn htop)
 have cv2:=hv.cell (bn hv2)
 have cun:=hu.cell (bn ((kK hP EN).trans hun))
 have cu1:=hu.cell (bn ((kK hP EN).trans hu1))
 have cu2:=hu.cell (bn ((kK hP EN).trans hu2))
 have topl:top < 1000000000:=he.lv.get htop
 have v2l:v2 < 1000000000:=he.lv.get hv2
 have unl:un < 1000000000:=he.lu.get hun
 have u1l:u1 < 1000000000:=he.lu.get hu1
 have u2l:u2 < 1000000000:=he.lu.get hu2
 revert u2l
 revert u1l
 revert unl
 revert v2l
 revert topl
 revert cu2
 revert cu1
 revert cun
 revert cv2
 revert ct
 revert hu2
 revert u2
 revert hu1
 revert u1
 revert hun
 revert un
 revert hv2
 revert v2
 revert htop
 revert top
 revert vl
 revert ul
 revert l2
 revert l1
 revert i2
 revert i1
 revert anX
 revert n2
 exact hq.out):p:=h ⟨k⟩
theorem YU (k:q) (h:FN q->p:=by
 intro hq
 have HF:=Ac (show aQ g.ay g.Fh.length x=3 by unfold aQ iV; rw[L6 k1,L6 k2,L8 k3,L8 EN])
 revert HF
 exact hq.out):p:=h ⟨k⟩
theorem YV (h:p:=by
 go_wp2
 refine bodyPost_ret (qJ rfl _ _ _) rfl ?_
 exact⟨⟨p,q,A,B,C,D,rfl,HLE.out,a1,a2,b1,b2,c1,c2,d1,d2⟩,rfl⟩):p:=h
theorem YX (k:q) (h:FN q->p:=by
 intro hq
 have HF:=Ac (show aQ g.ay g.Fh.length x=3 by unfold aQ dw; rw[L8 k1,L8 EN])
 revert HF
 exact hq.out):p:=h ⟨k⟩
theorem Y1 (h:p:=by
 go_ret
 exact⟨by rw[HE.out]; first | rfl | (rw[HE2.out]; rfl),0,rfl⟩):p:=h
theorem Y3 (h:p:=by
 subst h0
 go_wp2
 go_ret
 refine⟨_,rfl,hbel,?_⟩
 have h2:=HD.out
 rw[bD,List.append_nil] at h2
 unfold Ae
 rw[<-h2]
 exact jE HO.out λb hb=>(HO.out.lt b hb).1):p:=h
theorem Y8 (k:q) (h:FN q->p:=by
 intro hq
 rw[Nat.mul_one] at ey
 have hyl:y < 1000000000:=(aP b).get hy'
 have HY:=Ac (aN hy')
 revert HY
 revert hyl
 revert ey
 exact hq.out):p:=h ⟨k⟩
theorem Y9 (k:q) (h:FN q->p:=by
 intro hq
 refine⟨k+1,l.set k s,1,EN,by go_num,rfl,EN,by rw[List.length_set,HL.out],HM.out.set (by have:=HS.out; show _ < 1000000000; omega),zB (by rw[HL.out]; exact hlt) HI.out (by have:=HS.out; rw[HX.out,HY.out]; show _=_+1000000000*_; omega),?_,hbel.setCell (Nat.le_refl _) _⟩
 have hr:=HO.out.set k (.int .u32 (s:Int))
 rw[bC] at hr
 revert hr
 exact hq.out):p:=h ⟨k⟩
theorem zaa (k:q) (h:FN q->p:=by
 intro hq
 refine⟨k+1,l.set k s,0,EN,by go_num,rfl,EN,by rw[List.length_set,HL.out],HM.out.set (by have:=HS.out; show _ < 1000000000; omega),zB (by rw[HL.out]; exact hlt) HI.out (by have:=HS.out; rw[HX.out,HY.out]; show _=_+1000000000*_; omega),?_,hbel.setCell (Nat.le_refl _) _⟩
 have hr:=HO.out.set k (.int .u32 (s:Int))
 rw[bC] at hr
 revert hr
 exact hq.out):p:=h ⟨k⟩
theorem zad (h:p:=by
 rw[List.take_of_length_le EN,List.take_of_length_le EN] at h3
 exact h3):p:=h
theorem zae (k:q) (h:FN q->p:=by
 intro hq
 have HD:=Ac (show n.next.drop j=ch :: n.next.drop (j+1) by rw[List.drop_eq_getElem_cons hjt]; congr 1; simpa [hjt] using hch)
 revert HD
 exact hq.out):p:=h ⟨k⟩
theorem zak (k:q) (h:FN q->p:=by
 intro hq
 obtain⟨e,he⟩:∃ e:Nat,(e:Int)=rm:=⟨rm.toNat,EN⟩
 have hdd:decide (rm < 0)=false:=L9 hneg
 have HE:=Ac he
 clear he
 revert HE
 revert hdd
 revert e
 exact hq.out):p:=h ⟨k⟩
theorem zav (h:p:=by
 go_in
 go_wp2_with (first | ((with_reducible refine(aeU _ _).mono ?_); rintro e w' ⟨rfl,rfl⟩))
 go_ret
 exact⟨by rw[HO.out]; rfl,rfl⟩):p:=h
theorem zaw (h:p:=by
 go_wp2
 go_ret
 exact⟨by rw[HE.out]; rfl,(by simp only[World.drewN_drewN]; exact⟨_,rfl⟩)⟩):p:=h
theorem zax (h:p:=by
 go_in
 go_wp2_with (first | ((with_reducible refine(yK _ _).mono ?_); rintro e w' ⟨rfl,rfl⟩))
 go_ret
 exact⟨by rw[HO.out]; rfl,rfl⟩):p:=h
theorem zaz (h:p:=by
 have h1:=hinv
 rw[List.drop_zero,List.drop_zero,aX] at h1
 rw[h1]
 exact⟨by rw[Nat.mul_comm,Nat.add_comm,Nat.add_mul_div_right _ _ EN,Nat.div_eq_of_lt hr,Nat.zero_add],by rw[Nat.mul_comm,Nat.add_comm,Nat.add_mul_mod_self_right,Nat.mod_eq_of_lt hr]⟩):p:=h
theorem zaC (h:p:=by
 have hd:((x:Int)==0)=false:=aG
 have HZ:=Ac hz
 clear hz
 go_wp2
 go_ret
 exact⟨by rw[<-HT.out,HS.out,L6 HZ.out]; rfl,rfl⟩):p:=h
theorem zaD (h:p:=by
 refine⟨j,_,q.set j dd,by go_num,HST.out,EN,HU4.out.other (a:=⟨w2.heap.size,j,none⟩) aG _,?_,HV4.out.other (a:=⟨w2.heap.size,j,none⟩) aG _,hb4.setCell aG _,aG⟩
 have hr:=HQ4.out.set j (.int .u32 (dd:Int))
 rw[bC] at hr
 exact hr):p:=h
theorem zaJ (k:q) (h:FN q->p:=by
 intro hq
 have HL:=Ac hlen
 have HI:=Ac hinv
 have HO:=Ac hrow
 have HM:=Ac hlim
 have hold:=aS hbel
 revert hold
 revert HM
 revert HO
 revert HI
 revert HL
 exact hq.out):p:=h ⟨k⟩
theorem zaK (k:q) (h:FN q->p:=by
 intro hq
 obtain⟨e,he⟩:∃ e:Nat,(e:Int)=rm+1000000000:=⟨(rm+1000000000).toNat,EN⟩
 have HE:=Ac he
 clear he
 revert HE
 revert e
 exact hq.out):p:=h ⟨k⟩
theorem zaO (h:p:=by
 rintro e w' ⟨rfl,rfl⟩
 go_wp2
 go_ret
 refine⟨_,rfl,hbel,?_⟩
 have:=gJ HO.out HM.out (F:=λb=>w.heap.size<=b) (Nat.le_refl _) (c:=(dig a).length+(dig b).length) HL.out (Nat.le_refl _)
 rw[HF.out] at this
 exact this):p:=h
theorem zaQ (k:q) (h:FN q->p:=by
 intro hq
 obtain⟨x,hx'⟩:=FC hlt
 have ex:=hx k x hx'
 revert ex
 revert hx'
 revert x
 exact hq.out):p:=h ⟨k⟩
theorem zaR (h:p:=by
 have h1:=hinv
 rw[hke,List.take_length,List.take_of_length_le EN,List.take_of_length_le hlb,aX,aX,HR.out] at h1
 have h2:=gV hlim
 rw[hlen] at h2
 have h3:=lS a
 have h4:=HRA.out
 have:=ai5 h2 EN EN h1
 omega):p:=h
theorem zaS (h:p:=by
 have hd:(ch != next)=true:=by simp[hne]
 have HF:=Ac (show bP g.Fg (f+1) a depth deep=(-1,dp) by rw[HV.out,HD.out]; simp[bK,hne])
 clear hne
 go_wp2
 go_ret
 exact⟨by rw[HF.out]; rfl,by rw[HF.out]; exact hrw,hgr⟩):p:=h
theorem zaU (k:q) (h:FN q->p:=by
 intro hq
 obtain⟨z,hz⟩:=FC (l:=l) (k:=k) EN
 have rc:=hrow.cell (bn hz)
 have fc:=hrow.frozen k
 revert fc
 revert rc
 revert hz
 revert z
 exact hq.out):p:=h ⟨k⟩
theorem zaV (h:p:=by
 have:=hrow.limbs (F:=λb=>w.heap.size<=b) (Nat.le_refl _) (n:=l.length) (c:=(dig a).length+(dig b).length) (Nat.le_refl _) (by rw[HL.out]; exact Nat.le_refl _)
 rw[List.take_length,HL.out] at this
 exact this):p:=h
theorem za1 (k:q) (h:FN q->p:=by
 intro hq
 obtain⟨f,hf⟩:=FH (LB / (t+1))
 have hfit:=vN hn hb00
 have af5:=uy (a:=a) (f:=f) EN
 rw[gt,<-hf] at hfit
 have HDB:=Ac (λ(v:List Nat) (h1:v.length=n) (h2:Limbs v) (h3:aH v=b*f)=>(by have:=afO (b:=b) (v:=v) hn EN h1 h2 (by rw[gt,<-hf]; exact h3); rw[gt,<-hf] at this; exact this:CZ v n b f))
 revert HDB
 revert hfit
 revert af5
 revert hf
 revert f
 exact hq.out):p:=h ⟨k⟩
theorem za3 (h:p:=by
 have HD:=Ac (show decide (n=1)=false from L9 λh=>h1 (by rw[h,iL]; rfl))
 have hd:(((dig n).length:Int)==1)=false:=aG
 clear h1
 go_in
 go_wp2
 go_ret
 exact⟨by rw[HD.out]; rfl,rfl⟩):p:=h
theorem za4 (h:p:=by
 refine⟨_,rfl,hbel,_,by rw[<-HF.out.2]; rfl,?_⟩
 have:=gJ HO.out HM.out (F:=λb=>w.heap.size<=b) (Nat.le_refl _) (c:=(dig a).length) HL.out (Nat.le_refl _)
 rw[HF.out.1] at this
 exact this):p:=h
theorem zbb (h:p:=by
 have:=HS.out
 rw[HX.out,HY.out,<-HP.out]
 show _=_+1000000000*_
 omega):p:=h
theorem zbc (h:p:=by
 rintro e w' ⟨rfl,rfl⟩
 go_wp2
 go_ret
 refine⟨_,rfl,hbel,?_⟩
 have:=gJ HO.out HM.out (F:=λb=>w.heap.size<=b) (Nat.le_refl _) HL.out (Nat.le_refl _)
 rw[HF.out] at this
 exact this):p:=h
theorem zbh (h:p:=by
 have h1:=gV ((aP n).drop (j+1))
 have h2:LB ^ ((dig n).drop (j+1)).length<=LB ^ 1:=Nat.pow_le_pow_right aA (by rw[List.length_drop]; omega)
 have h3:LB ^ 1=1000000000:=aA
 omega):p:=h
theorem zbl (k:q) (h:FN q->p:=by
 intro hq
 have hr:=HRW.out.set (j+k) (.int .u32 (s:Int))
 rw[bC,set_mid HPP.out abD] at hr
 have hss:=HS.out
 revert hss
 revert hr
 exact hq.out):p:=h ⟨k⟩
theorem zbp (h:p:=by
 rw[HX.out,HY.out,HP.out,HQ.out]
 show(e:Int)+1000000000*_=_
 omega):p:=h
theorem zbr (h:p:=by
 exact⟨_,rfl,hwz _ _ (Nat.le_refl _) hB,by unfold NmV; rw[HW.out]; exact Ah.make rfl ((Ae.on (n:=m) HV.out (hkz _ EN)).mono (λb hb _=>by omega)) (iT _ _ _ _)⟩):p:=h
theorem zbu (k:q) (h:FN q->p:=by
 intro hq
 have HB:=Ac (show vK q r v2 u2=false by rw[HBAD.out]; exact L9 EN)
 revert HB
 exact hq.out):p:=h ⟨k⟩
theorem zbv (h:p:=by
 subst h0
 have HE:=Ac (show aH ((dig n).drop 0)=n by rw[List.drop_zero,aX])
 generalize aH ((dig n).drop 0)=m at *
 go_wp2
 go_ret
 exact⟨by rw[<-HE.out]; rfl,rfl⟩):p:=h
theorem zbD (h:p:=by
 go_wp2
 go_ret
 have HF:bP g.Fg (f+1) a depth deep=(next,dp):=by rw[HV.out,List.drop_eq_nil_of_le EN];rfl
 exact⟨by rw[HF]; rfl,by rw[HF]; exact hrw,hgr⟩):p:=h
theorem zbE (k:q) (h:FN q->p:=by
 intro hq
 have t5:decide (1000000000<=adu (A - kc) (-(A - kc)) (B - kd) (-(B - kd)))=false:=L9 hmx
 have hn:=mt ai8.2 hmx
 have n1:-1000000000 < A - kc:=EN
 have n2:A - kc < 1000000000:=EN
 have n3:-1000000000 < B - kd:=EN
 have n4:B - kd < 1000000000:=EN
 clear hn
 revert n4
 revert n3
 revert n2
 revert n1
 revert t5
 exact hq.out):p:=h ⟨k⟩
theorem zbG (h:p:=by
 have HE:=Ac (nX (oD h))
 have HE2:=Ac (nX h)
 have hnlt:decide ((dig a).length < (dig b).length)=false:=L9 EN
 clear hlen
 go_in
 go_wp2
 exact Y1):p:=h
theorem zbI (k:q) (h:FN q->p:=by
 intro hq
 have HB:=Ac (show vK q r v2 u2=true by rw[HBAD.out]; exact Mc ⟨c1,.inl c2⟩)
 have d1:decide ((r:Int) < 1000000000)=true:=Mc EN
 have d2:decide ((1000000000:Int)<=(q:Int))=true:=Mc EN
 revert d2
 revert d1
 revert HB
 exact hq.out):p:=h ⟨k⟩
theorem zbL (h:p:=by
 have HF:=Ac (show bP g.Fg (f+1) a depth deep=(-1,rd) by rw[HV3.out,L8 hng])
 go_wp2
 go_ret
 exact⟨by rw[HF.out]; rfl,by rw[HF.out]; exact ahl,hgg⟩):p:=h
theorem zbP (h:p:=by
 obtain⟨u,hu,hr⟩:=h
 exact⟨u,by rw[hs.cell hb hl]; exact hu,hr.keep hFG hs⟩):p:=h
theorem zbR (h:p:=by
 rw[HX.out,HY.out,HP.out]
 show(e:Int)+1000000000*_=_
 omega):p:=h
theorem zbU (h:p:=by
 go_in
 go_wp2
 go_ret
 exact⟨rfl,rfl⟩):p:=h
theorem zb0 (h:p:=by
 clear k1 k2 k3
 go_in
 exact Zr):p:=h
theorem zb2 (h:p:=by
 refine⟨0,l,0,EN,rfl,rfl,EN,?_,HO.out,hbel⟩
 have h:=HI.out
 exact⟨h.len,h.limbs,by have:=h.eq; simpa [aH] using this,h.zero⟩):p:=h
theorem zce (h:p:=by
 have HF:=Ac (show G=a by rw[HGC.out,hb0,Nat.gcd_zero_right])
 clear hb0
 go_wp2
 go_ret
 exact⟨_,rfl,hbel,by rw[HF.out]; exact HNA.out⟩):p:=h
theorem zcg (k:q) (h:FN q->p:=by
 intro hq
 unfold Oper.wp execOp
 simp only[ho,resolve,invoke,builtin,Sem.run_bind,Sem.run_pure,Result.andThen_ok,List.map_toArray,List.map_cons,List.map_nil,hs,hx,hrun]
 exact hq.out):p:=h ⟨k⟩
theorem zck (h:p:=by
 have hd:((x:Int)==1)=false:=aG
 have H2:=Ac h2
 clear h2
 go_in
 go_wp2
 go_ret
 exact⟨by rw[HD.out,L9 H2.out]; rfl,rfl⟩):p:=h
theorem zcl (h:p:=by
 exact⟨b0,a0,rfl,HB.out.ext (aI (Below.refl _ w) z0),HA.out.ext (aI (Below.refl _ w) z0),EN,by rw[HG.out,Nat.gcd_comm],hlb⟩):p:=h
theorem zcm (k:q) (h:FN q->p:=by
 intro hq
 obtain⟨x,hx'⟩:=FC (l:=dig a) (k:=j) EN
 obtain⟨y,hy'⟩:=FC (l:=dig b) (k:=j) EN
 have ex:=hx j x hx'
 have ey:=hy j y hy'
 revert ey
 revert ex
 revert hy'
 revert y
 revert hx'
 revert x
 exact hq.out):p:=h ⟨k⟩
theorem zcn (h:p:=by
 have h1:=gJ Eb.out HQL.out (F:=Ext F w.heap.size) (.inr EN) (c:=la - n+1) HQN.out (Nat.le_refl _)
 rw[HQ.out] at h1
 exact h1):p:=h
theorem zco (h:p:=by
 have HF:=Ac hfin
 clear hfin he
 go_wp2
 go_quiet (fail)
 go_wp2
 go_ret
 exact⟨by rw[HF.out]; rfl,n+nq,by rw[World.drewN_drewN]⟩):p:=h
theorem zcp (h:p:=by
 rw[bC,set_mid HPP.out hm2] at hr
 have hss:=HS.out
 rw[show(s:Int)=(x:Int)+(y:Int)+(o:Int) - 1000000000 by omega] at hr
 exact hr):p:=h
theorem zcq (h:p:=by
 rw[HQ.out,HG.out.1]
 obtain⟨q',rfl⟩:∃ q',q=q'+1:=⟨q - 1,EN⟩
 rw[Nat.add_sub_cancel,Nat.add_mul,Nat.one_mul]
 omega):p:=h
theorem zcr (k:q) (h:FN q->p:=by
 intro hq
 obtain⟨n1,hn1⟩:∃ n1,n1+1=n:=⟨n - 1,EN⟩
 revert hn1
 revert n1
 exact hq.out):p:=h ⟨k⟩
theorem zcv (h:p:=by
 go_wp2
 go_ret
 exact⟨by rw[HE.out]; rw[<-HE.out,<-HO.out]; rfl,(by simp only[World.drewN_drewN]; exact⟨_,rfl⟩)⟩):p:=h
theorem zcF (k:q) (h:FN q->p:=by
 intro hq
 refine L9 ?_
 unfold dB
 exact hq.out):p:=h ⟨k⟩
theorem zcG (h:p:=by
 go_wp2
 go_ret
 refine⟨_,rfl,bJ _ _ _ 0,?_⟩
 have h:=HP.out
 rw[List.take_of_length_le EN] at h
 rw[HV.out,h]
 rfl):p:=h
theorem zcJ (k:q) (h:FN q->p:=by
 intro hq
 have HB:=Ac (show vK q r v2 u2=true by rw[HBAD.out]; exact Mc ⟨c1,.inr c3⟩)
 have d3:decide ((r:Int)*1000000000+(u2:Int) < (p:Int))=true:=Mc EN
 revert d3
 revert HB
 exact hq.out):p:=h ⟨k⟩
theorem zcN (h:p:=by
 have HF:=Ac hF
 clear hF hinv hlim hlen hrow
 go_wp2
 go_ret
 exact⟨_,rfl,hbel,rfl,l,HL.out,HM.out,HF.out,HO.out⟩):p:=h
theorem zcQ (h:p:=by
 exact⟨a0,b0,rfl,HA.out.ext (aI (Below.refl _ w) z0),HB.out.ext (aI (Below.refl _ w) z0),EN,HG.out,hla⟩):p:=h
theorem zcR (h:p:=by
 subst h0
 go_wp2
 go_ret
 exact⟨by rw[<-HT.out]; rfl,rfl⟩):p:=h
theorem zcU (h:p:=by
 obtain⟨y,hy⟩:=List.length_eq_one_iff.1 h1
 have h2:=aX b
 rw[hy] at hx' h2
 simp at hx'
 simp[aH] at h2
 omega):p:=h
theorem zcW (k:q) (h:FN q->p:=by
 intro hq
 have T1:=Ac t1
 have an0:-2500000000<=qd:=EN
 have an1:qd<=2500000000:=EN
 revert an1
 revert an0
 revert T1
 exact hq.out):p:=h ⟨k⟩
theorem zcY (h:p:=by
 exact⟨_,rfl,(aI (Below.refl _ w) z0).trans hb1,_,_,rfl,by rw[HS.out,qG]; exact HV.out,by rw[HS.out,qG]⟩):p:=h
theorem zc2 (k:q) (h:FN q->p:=by
 intro hq
 refine⟨_,rfl,hbel,?_⟩
 exact hq.out):p:=h ⟨k⟩
theorem zc4 (k:q) (h:FN q->p:=by
 intro hq
 obtain⟨W,hW,hr,hWb,hWz⟩:=aJ w 114 #[.bool false,.slice none 0 0,.slice none 0 0]
 rw[<-hW]
 revert hWz
 revert hWb
 revert hr
 revert hW
 revert W
 exact hq.out):p:=h ⟨k⟩
theorem zc7 (h:p:=by
 rw[<-hd,List.length_append] at h1
 omega):p:=h
theorem zdc (k:q) (h:FN q->p:=by
 intro hq
 have hmf:∀ (fn:Fn) (first cap:Array Value) (w:World),(Instr.makeFunc fn first cap).run Tryz.prog w = .ok (.func fn first cap) w:=λ_ _ _ _=>rfl
 revert hmf
 exact hq.out):p:=h ⟨k⟩
theorem zde (h:p:=by
 have:bytes*n<=1000*1000000:=Nat.mul_le_mul hb hn
 omega):p:=h
theorem zdf (h:p:=by
 simp only[decide_eq_false_iff_not]
 rintro rfl
 have h3:=HX.out
 rw[HY.out] at h3
 cases h3
 exact he rfl):p:=h
theorem zdn (h:p:=by
 have:=HE.out.adN HQ.out (HT.out.2.imp id λh=>by rw[HG.out.2.2.2.2,HG.out.2.1]; exact h)
 omega):p:=h
theorem zdp (k:q) (h:FN q->p:=by
 intro hq
 have HSU:=Ac (BO.start (U:=U0) HDV.out HN.out HLA.out hlb hul af6 hun)
 have hB2:Below w.heap.size w w2:=(aI (Below.refl _ w) z0).trans (yQ.trans (hbw2.mono hzz))
 revert hB2
 revert HSU
 exact hq.out):p:=h ⟨k⟩
theorem zds (h:p:=by
 have h1:=hinv
 rw[List.take_of_length_le (l:=dig a) hla,aX] at h1
 exact acr hlim hlen h1 HT.out):p:=h
theorem zdx (k:q) (h:FN q->p:=by
 intro hq
 have hxl:x < 1000000000:=(aP a).get hx'
 have hyl:y < 1000000000:=(aP b).get hy'
 have HX:=Ac hx'
 have HY:=Ac hy'
 refine Yx ?_
 revert HY
 revert HX
 revert hyl
 revert hxl
 exact hq.out):p:=h ⟨k⟩
theorem zdA (h:p:=by
 go_wp2
 go_ret
 refine zc2 ?_
 unfold Ae
 rw[HF.out]
 exact jE HO.out λb hb=>(HO.out.lt b hb).1):p:=h
theorem zdC (h:p:=by
 rw[Nat.mul_one] at this
 rw[Addr.add_lit]
 exact this):p:=h
theorem zdD (h:p:=by
 have h0:=acA h
 have HD:=Ac (show decide (x=0)=false from L9 h)
 clear h
 exact Yc):p:=h
theorem zdG (k:q) (h:FN q->p:=by
 intro hq
 refine(IH.out q (depth+1) dp wr bd _ (HG.out.on (Same.vT hgr)) hrw EN EN EN alh ali).mono ?_
 exact hq.out):p:=h ⟨k⟩
theorem zdH (k:q) (h:FN q->p:=by
 intro hq
 obtain⟨y,hy'⟩:=FC hlt2
 have ey:=hy k y hy'
 revert ey
 revert hy'
 revert y
 exact hq.out):p:=h ⟨k⟩
theorem zdI (h:p:=by
 rw[Nat.div_eq_of_lt HLT.out]
 exact Ae.zero _ _ _ _):p:=h
theorem zdJ (h:p:=by
 have h0:=acz h
 have HD:=Ac (show decide (x=0)=true from Mc h)
 clear h
 exact Yc):p:=h
theorem zdN (h:p:=by
 go_wp2
 go_ret
 exact⟨by rw[HE.out]; rfl,q,rfl⟩):p:=h
open Lib renaming hid → Ac
open Go.RowKit
abbrev FI:=Nat->Prop
structure Same (F:FI) (w w':FW):Prop where
 size:w.heap.size<=w'.heap.size
 block:∀ b,F b->b < w.heap.size->w'.heap[b]? = w.heap[b]?
section
variable {F G:FI} {w w' w'':FW}
theorem Same.cell (h:Same F w w') (hb:F b) (hl:b < w.heap.size) (o:Nat):w'.cell? ⟨b,o,none⟩=w.cell? ⟨b,o,none⟩:=Gs (w:=w) (h.block b hb hl)
theorem Same.refl (F:FI) (w:FW):Same F w w:=⟨FV _,λ_ _ _=>rfl⟩
theorem Same.trans (h:Same F w w') (k:Same F w' w''):Same F w w'':=⟨Gf h.size k.size,λi hi hl=>(k.block i hi (GZ hl h.size)).trans (h.block i hi hl)⟩
theorem Same.mono (h:Same F w w') (hG:∀ b,G b->F b):Same G w w':=⟨h.size,λb hb hl=>h.block b (hG b hb) hl⟩
theorem Below.same' (h:Below w.heap.size w w') (F:FI):Same F w w':=⟨h.size,λb _ hl=>h.block b hl⟩
theorem Same.alloc (F:FI) (w:FW) (o:Obj):Same F w (w.alloc o):=⟨aF,λb _ hl=>KG w o b hl⟩
theorem Same.drewN (F:FI) (w:FW) (n:Nat):Same F w (w.drewN n):=⟨FV _,λ_ _ _=>rfl⟩
theorem Same.setCell (F:FI) (w:FW) {p:Addr} (hp:¬ F p.block) (v:F7):Same F w (w.setCell p v) :=
 ⟨aF,λb hb _=>JC w p v b (λe=>hp (e▸hb))⟩
end
theorem FC {l:List α} (h:k < l.length):∃ x,l[k]? = some x:=⟨l[k],by simp[h]⟩
theorem FD {l:List α} {x:α} (h:l[k]? = some x):k < l.length:=by
 rcases Nat.lt_or_ge k l.length with h1 | h1
 ·exact h1
 ·rw[G9 h1] at h;cases h
theorem FP {l:List α} {x:α} (h:l[k]? = some x):l.take (k+1)=l.take k ++ [x]:=by
 rw[List.take_succ_eq_append_getElem (FD h)];congr 2;have:=FD h;simpa [this] using h
def BQ {α:Type} (sz:Nat) (E:FW->FI->Nat->Nat->α->Prop) (w:FW) (F:FI) (v:F7) (l:List α):Prop :=
 ∃ A c,v = FQ A l.length c/\l.length<=c/\(0 < l.length->∃ b o,A=some ⟨b,o,none⟩/\F b/\b < w.heap.size/\∀ k x,l[k]? = some x->E w F b (o+k*sz) x)
theorem BQ.keep {sz:Nat} {E:FW->FI->Nat->Nat->α->Prop} {w w':FW} {F G:FI} {v:F7} {l:List α}
  (h:BQ sz E w F v l) (hFG:∀ b,F b->b < w.heap.size->G b) (hsz:w.heap.size<=w'.heap.size) (hE:∀ b o x,x∈l->F b->b < w.heap.size->E w F b o x->E w' G b o x):BQ sz E w' G v l:=by
 obtain⟨A,c,rfl,hc,hr⟩:=h;refine⟨A,c,rfl,hc,λh0=>?_⟩;obtain⟨b,o,rfl,hb,hl,hx⟩:=hr h0;exact⟨b,o,rfl,hFG b hb hl,GZ hl hsz,λk x hk=>hE b _ x (FT hk) hb hl (hx k x hk)⟩
def jP (k:IntKind) (w:FW) (_:FI) (b o:Nat) (x:Int):Prop:=w.cell? ⟨b,o,none⟩=some (.int k x)
def aaw {α:Type} (S:FW->FI->F7->α->Prop) (w:FW) (F:FI) (b o:Nat) (x:α):Prop:=∃ v,w.cell? ⟨b,o,none⟩=some v/\S w F v x
def Aj (w:FW) (F:FI) (v:F7) (l:List Int):Prop:=BQ 1 (jP .i64) w F v l
def Bg (w:FW) (F:FI) (v:F7) (l:List (List Int)):Prop:=BQ 1 (aaw Aj) w F v l
theorem Aj.keep {w w':FW} {F G:FI} {v:F7} (h:Aj w F v l) (hFG:∀ b,F b->b < w.heap.size->G b) (hs:Same F w w'):Aj w' G v l :=
 BQ.keep h hFG hs.size λb o x _ hb hl hx=>by unfold jP at *; rw[hs.cell hb hl]; exact hx
theorem Bg.keep {w w':FW} {F G:FI} {v:F7} {l:List (List Int)} (h:Bg w F v l) (hFG:∀ b,F b->b < w.heap.size->G b) (hs:Same F w w'):Bg w' G v l :=
 BQ.keep h hFG hs.size λb o x _ hb hl hx=>by
  obtain⟨u,hu,hr⟩:=hx;exact⟨u,by rw[hs.cell hb hl]; exact hu,hr.keep hFG hs⟩
structure Nd where
 kind:Int
 aC:Int
 info:Int
 next:List Int
 weights:List Int
 pay:List Int
 deriving Inhabited,DecidableEq
structure Inf where
 aC:Int
 actions:Int
 deriving Inhabited,DecidableEq
structure Gm where
 ay:Int
 Fg:List Nd
 Fh:List Inf
 deriving Inhabited,DecidableEq
structure DN (w:FW) (F:FI) (b o:Nat) (n:Nd):Prop where
 c0:w.cell? ⟨b,o,none⟩=some (F6 F5 n.kind)
 c1:w.cell? ⟨b,o+1,none⟩=some (F6 F5 n.aC)
 c2:w.cell? ⟨b,o+2,none⟩=some (F6 F5 n.info)
 c3:aaw Aj w F b (o+3) n.next
 c4:aaw Aj w F b (o+4) n.weights
 c5:aaw Aj w F b (o+5) n.pay
structure D6 (w:FW) (_:FI) (b o:Nat) (n:Inf):Prop where
 c0:w.cell? ⟨b,o,none⟩=some (F6 F5 n.aC)
 c1:w.cell? ⟨b,o+1,none⟩=some (F6 F5 n.actions)
theorem uz {w w':FW} {F G:FI} (h:aaw Aj w F b o l) (hFG:∀ b,F b->b < w.heap.size->G b) (hs:Same F w w') (hb:F b) (hl:b < w.heap.size):aaw Aj w' G b o l:=by
 exact zbP
theorem DN.keep {w w':FW} {F G:FI} {n:Nd} (h:DN w F b o n) (hFG:∀ b,F b->b < w.heap.size->G b) (hs:Same F w w') (hb:F b) (hl:b < w.heap.size):DN w' G b o n :=
 ⟨by rw[hs.cell hb hl]; exact h.c0,by rw[hs.cell hb hl]; exact h.c1,by rw[hs.cell hb hl]; exact h.c2,uz h.c3 hFG hs hb hl,uz h.c4 hFG hs hb hl,uz h.c5 hFG hs hb hl⟩
def Bq (w:FW) (F:FI) (v:F7) (l:List Nd):Prop:=BQ 6 DN w F v l
def Bv (w:FW) (F:FI) (v:F7) (l:List Inf):Prop:=BQ 2 D6 w F v l
theorem Bq.keep {w w':FW} {F G:FI} {v:F7} {l:List Nd} (h:Bq w F v l) (hFG:∀ b,F b->b < w.heap.size->G b) (hs:Same F w w'):Bq w' G v l :=
 BQ.keep h hFG hs.size λ_ _ _ _ hb hl hx=>hx.keep hFG hs hb hl
theorem Bv.keep {w w':FW} {F G:FI} {v:F7} {l:List Inf} (h:Bv w F v l) (hFG:∀ b,F b->b < w.heap.size->G b) (hs:Same F w w'):Bv w' G v l :=
 BQ.keep h hFG hs.size λ_ _ _ _ hb hl hx=>⟨by rw[hs.cell hb hl]; exact hx.c0,by rw[hs.cell hb hl]; exact hx.c1⟩
def AA (w:FW) (F:FI) (v:F7) (g:Gm):Prop :=
 ∃ vn vi,v = .agg #[F6 F5 g.ay,vn,vi]/\Bq w F vn g.Fg/\Bv w F vi g.Fh
theorem AA.keep {w w':FW} {F G:FI} {v:F7} {g:Gm} (h:AA w F v g) (hFG:∀ b,F b->b < w.heap.size->G b) (hs:Same F w w'):AA w' G v g:=by
 obtain⟨vn,vi,rfl,hn,hi⟩:=h;exact⟨vn,vi,rfl,hn.keep hFG hs,hi.keep hFG hs⟩
def Row (w:FW) (b:Nat) (t:TypeId) (vs:List F7):Prop:=w.heap[b]? = some (.cells vs.toArray t (0,0))
section
variable {w w':FW} {b:Nat} {t:TypeId} {vs:List F7}
theorem Row.cell (h:Row w b t vs) {v:F7} (hi:vs[i]? = some v):w.cell? ⟨b,i,none⟩=some v:=by
 unfold Row at h;simp[World.cell?,h,hi]
theorem Row.frozen (h:Row w b t vs) (i:Nat):w.frozen? ⟨b,i,none⟩=false:=by
 unfold Row at h;simp[World.frozen?,h]
theorem Row.lt (h:Row w b t vs):b < w.heap.size:=by
 obtain⟨hlt,_⟩:=Array.getElem?_eq_some_iff.1 h;exact hlt
theorem Row.of_block (h:Row w b t vs) (e:w'.heap[b]? = w.heap[b]?):Row w' b t vs:=e.trans h
theorem Row.set (h:Row w b t vs) (i:Nat) (v:F7):Row (w.setCell ⟨b,i,none⟩ v) b t (vs.set i v):=by
 unfold Row at *;simp[World.setCell,Array.getElem?_modify,h]
theorem Row.other (h:Row w b t vs) {a:Addr} (ha:b≠a.block) (v:F7):Row (w.setCell a v) b t vs:=h.of_block (JC _ _ _ _ ha)
theorem ste {W:FW} {v:F7} (hw:W=w.setCell ⟨b,i,none⟩ v) (h:Row w b t vs):Row W b t (vs.set i v):=hw▸h.set i v
theorem Row.alloc (h:Row w b t vs) (o:Obj):Row (w.alloc o) b t vs:=h.of_block (KG _ _ _ h.lt)
theorem Row.drew (h:Row w b t vs):Row w.drew b t vs:=h
theorem Row.below (h:Row w b t vs) (hb:Below B w w') (hB:b < B):Row w' b t vs:=h.of_block (hb.block b hB)
theorem Row.new (w:FW) (t:TypeId) (c:Array F7):Row (w.alloc (.cells c t)) w.heap.size t c.toList:=by
 unfold Row;show(w.heap.push _)[w.heap.size]? = _;simp
end
theorem Row.made (w:FW) (z:F7) (n:Nat) (t:TypeId):Row (w.alloc (.cells (madeCells #[z] n) t)) w.heap.size t (F8 n z):=by
 have h:=Row.new w t (madeCells #[z] n);have e:(madeCells #[z] n).toList=F8 n z:=by
  apply List.ext_getElem?
  intro i;by_cases hi:i < n
  ·simp[madeCells,hi,Nat.mod_one]
  ·simp[madeCells,hi]
 rw[e] at h;exact h
def Bf (w:FW) (F:FI) (v:F7) (n:Nd):Prop :=
 ∃ v3 v4 v5,v = .agg #[F6 F5 n.kind,F6 F5 n.aC,F6 F5 n.info,v3,v4,v5]/\Aj w F v3 n.next/\Aj w F v4 n.weights/\Aj w F v5 n.pay
theorem Bf.keep {w w':FW} {F G:FI} {v:F7} {n:Nd} (h:Bf w F v n) (hFG:∀ b,F b->b < w.heap.size->G b) (hs:Same F w w'):Bf w' G v n:=by
 obtain⟨v3,v4,v5,rfl,h3,h4,h5⟩:=h;exact⟨v3,v4,v5,rfl,h3.keep hFG hs,h4.keep hFG hs,h5.keep hFG hs⟩
theorem Aj.on {w w':FW} {F:FI} {v:F7} (h:Aj w F v l) (hs:Same F w w'):Aj w' F v l:=h.keep (λ_ h _=>h) hs
theorem Bg.on {w w':FW} {F:FI} {v:F7} {l:List (List Int)} (h:Bg w F v l) (hs:Same F w w'):Bg w' F v l:=h.keep (λ_ h _=>h) hs
theorem Bq.on {w w':FW} {F:FI} {v:F7} {l:List Nd} (h:Bq w F v l) (hs:Same F w w'):Bq w' F v l:=h.keep (λ_ h _=>h) hs
theorem Bv.on {w w':FW} {F:FI} {v:F7} {l:List Inf} (h:Bv w F v l) (hs:Same F w w'):Bv w' F v l:=h.keep (λ_ h _=>h) hs
theorem AA.on {w w':FW} {F:FI} {v:F7} {g:Gm} (h:AA w F v g) (hs:Same F w w'):AA w' F v g:=h.keep (λ_ h _=>h) hs
theorem Bf.on {w w':FW} {F:FI} {v:F7} {n:Nd} (h:Bf w F v n) (hs:Same F w w'):Bf w' F v n:=h.keep (λ_ h _=>h) hs
theorem aI {a w:FW} (h:Below B a w) (n:Nat):Below B a (w.drewN n):=⟨h.os,h.tape,h.output,h.size,h.block⟩
theorem Row.dN {w:FW} {vs:List F7} (h:Row w b t vs) (n:Nat):Row (w.drewN n) b t vs:=h
theorem aS {w w':FW} (h:Below B w w'):∀ b o,b < B->w'.cell? ⟨b,o,none⟩=w.cell? ⟨b,o,none⟩:=λb o hb=>h.cell (p:=⟨b,o,none⟩) hb
theorem Row.ints {w:FW} (h:Row w b t (l.map (Value.int .i64))) {F:FI} (hF:F b) {c:Nat} (hc:l.length<=c):Aj w F (FQ (some ⟨b,0,none⟩) l.length c) l :=
 ⟨_,c,rfl,hc,λ_=>⟨b,0,rfl,hF,h.lt,λk x hk=>by unfold jP; simp only[Gp,Nat.zero_add]; exact h.cell (by simp[hk])⟩⟩
theorem gX {P:Program} (w:FW) {ops:Array Oper} {rest:List Oper} {o:Oper} {a:Act} {Q:Exit->Act->FW->Prop}
  (hg:o.guard=none) (l c:Operand) (t:TypeId) (hop:o.op=Op.makeSlice t l c)
  (e:TypeId) (z:F7) (bytes:Nat) (ht:P.underlying t=some (.slice e)) (hinfo:(P.info? e).map (λi=>(i.zero,i.size,i.bytes))=some (some z,1,bytes)) (hz1:z.cells = #[z])
  (n:Nat) (hl:a.eval l = F6 F5 (n:Int)) (hc:a.eval c = F6 F5 (n:Int)) (hn:n<=1000000) (hb:bytes<=1000)
  (hK:∀ w1,Below w.heap.size w w1->w1.heap.size=w.heap.size+1->Row w1 w.heap.size e (F8 n z) ->
   wpList P ops Q rest (a.put o.dst (FQ (some ⟨w.heap.size,0,none⟩) n n)) w1) :
  wpList P ops Q (o :: rest) a w:=by
 refine wpList_plain hg λK hK'=>?_
 have hbytes:bytes*n<=281474976710656:=by
  exact zde
 have hrun:=run_make_row' (P:=P) t e z bytes ht hinfo hz1 .i64 .i64 n hbytes EN w;unfold Oper.wp;simp[execOp,hop,hl,hc,hrun,Result.andThen];have hbel:Below w.heap.size w (w.alloc (.cells (madeCells #[z] n) e)):=(F9 _ _).alloc (FV _) _;exact hK' _ _ (hK _ hbel aF (Row.made w z n e))
theorem Tryz.infoInt:(Tryz.prog.info? 3).map (λi=>(i.zero,i.size,i.bytes))=some (some (F6 F5 0),1,8):=ak
theorem Tryz.infoInts:(Tryz.prog.info? 22).map (λi=>(i.zero,i.size,i.bytes))=some (some (FQ none 0 0),1,24):=ak
def Ret (w:FW) (R:F7->FW->Prop) (e:Ending) (w':FW):Prop:=∃ v,e = .returned v/\Below w.heap.size w w'/\R v w'
theorem pI {l:List α} {p:α->Bool} {x:α} (h:l[k]? = some x) (hn:(l.take k).any p=false) (hx:p x=false):(l.take (k+1)).any p=false:=by
 rw[FP h,List.any_append];simp[hn,hx]
def l7 (l:List Int) (i:Int) (p:List Int):List Int:=l.foldl (λp c=>p.set c.toNat i) p
def pJ (Fg:List Nd):Nat->List Int
 | 0=>(F8 Fg.length 0).set 0 (-1)
 | k+1=>match Fg[k]? with
  | some n=>l7 n.next k (pJ Fg k)
  | none=>pJ Fg k
def iI (Fg:List Nd):List Int:=pJ Fg Fg.length
theorem aeL {i:Int} {p:List Int} {c:Int} (h:l[k]? = some c):l7 (l.take (k+1)) i p=(l7 (l.take k) i p).set c.toNat i:=by
 rw[FP h];simp[l7,List.foldl_append]
theorem vP (l:List Int) (i:Int) (p:List Int):(l7 l i p).length=p.length:=by
 unfold l7;induction l generalizing p with
 | nil=>rfl
 | cons c l ih=>simp only[List.foldl_cons]; rw[ih]; simp
theorem jR (Fg:List Nd) (k:Nat):(pJ Fg k).length=Fg.length:=by
 induction k with
 | zero=>simp[pJ]
 | succ k ih =>
  unfold pJ;split
  ·rw[vP,ih]
  ·exact ih
theorem ab8 {Fg:List Nd} {n:Nd} (h:Fg[k]? = some n):pJ Fg (k+1)=l7 n.next k (pJ Fg k):=by
 simp[pJ,h]
def D7 (Fg:List Nd):Prop:=∀ n∈Fg,∀ c∈n.next,0<=c/\c < (Fg.length:Int)
structure Small (g:Gm):Prop where
 Fg:g.Fg.length<=100
 Fh:g.Fh.length<=100
 next:∀ n∈g.Fg,n.next.length<=100
 weights:∀ n∈g.Fg,n.weights.length<=100
 pay:∀ n∈g.Fg,n.pay.length<=100
theorem nU {l1 l2:List α} {x:α} (h1:l1[k]? = some x) (h2:l2[k]? = some x) (h:l1.take k=l2.take k):l1.take (k+1)=l2.take (k+1):=by
 rw[FP h1,FP h2,h]
theorem zF (w:FW) (F:FI) (v1 v2:F7) (l1 l2:List Int) (h1:Aj w F v1 l1) (h2:Aj w F v2 l2) (hl1:l1.length < 1000000) (hl2:l2.length < 1000000) :
  Calls FY 132 #[v1,v2] w λe w'=>e = .returned (.bool (decide (l1=l2)))/\∃ n,w'=w.drewN n:=by
 obtain⟨A1,c1,rfl,hc1,r1⟩:=h1;obtain⟨A2,c2,rfl,hc2,r2⟩:=h2;by_cases hl:l1.length=l2.length
 ·have R1:=Ac r1;clear r1;have R2:=Ac r2;clear r2;have HL:=Ac hl;have hb:((l1.length:Int) != (l2.length:Int))=false:=by simp[hl]
  clear hl;go_in;go_wp2
  go_loopw [5] (λi wr=>∃ k:Nat,k<=l1.length/\i = F6 F5 k/\l1.take k=l2.take k/\∃ n,wr=w.drewN n) (λi _=>l1.length - (intOf i).toNat)
  case atStart=>exact⟨0,EN,rfl,aF,0,rfl⟩
  case round =>
   obtain⟨k,hk,rfl,hpre,n,rfl⟩:=hrel;have HP:=Ac hpre;clear hpre;by_cases hlt:k < l1.length
   ·obtain⟨b1,o1,rfl,hb1,_,hcell1⟩:=R1.out EN;have hk2:k < l2.length:=by have:=HL.out;omega
    obtain⟨b2,o2,rfl,hb2,_,hcell2⟩:=R2.out EN;obtain⟨x,hx⟩:=FC hlt;obtain⟨y,hy⟩:=FC hk2;have e1:=hcell1 k x hx;have e2:=hcell2 k y hy;unfold jP at e1 e2;rw[Gp] at e1 e2;clear hcell1 hcell2;have HX:=Ac hx;clear hx;have HY:=Ac hy;clear hy;by_cases he:x=y
    ·subst he;go_wp2
     go_quiet (fail)
     go_wp2
     go_roundw
     case rel=>exact⟨k+1,EN,by go_num,nU HX.out HY.out HP.out,_,rfl⟩
     case measure=>simp[intOf]; omega
    ·have hne:(x != y)=true:=by simp[he]
     have hfin:decide (l1=l2)=false:=by
      exact zdf
     exact zco
   ·go_wp2
    go_ret;have:k=l1.length:=EN;have h3:=HP.out;have h4:=HL.out;refine⟨?_,_,rfl⟩;have h5:l1=l2:=by
     exact zad
    simp[h5]
 ·have hb:((l1.length:Int) != (l2.length:Int))=true:=aG;go_in;go_wp2
  go_ret;refine⟨?_,0,rfl⟩;have:l1≠l2:=by rintro rfl;exact hl rfl
  simp[this]
theorem bJ (w:FW) (a b:Obj) (n:Nat):Below w.heap.size w (((w.alloc a).alloc b).drewN n):=by
 have h:=(((F9 w.heap.size w).alloc (FV _) a).alloc aF b);exact⟨h.os,h.tape,h.output,h.size,h.block⟩
def bK (rec:Nat->Int->Int×Int):List Int->Int->Int->Int×Int
 | [],next,deep=>(next,deep)
 | c :: cs,next,deep=>if c≠next then (-1,deep) else if (rec next.toNat deep).1 < 0 then (-1,(rec next.toNat deep).2) else bK rec cs (rec next.toNat deep).1 (rec next.toNat deep).2
def bP (Fg:List Nd):Nat->Nat->Int->Int->Int×Int
 | 0,_,_,deep=>(-1,deep)
 | f+1,a,depth,deep=>match Fg[a]? with
  | none=>(-1,deep)
  | some n=>bK (λa d=>bP Fg f a (depth+1) d) n.next ((a:Int)+1) (max deep depth)
theorem vS {rec:Nat->Int->Int×Int} {N lo:Nat} (hrec:∀ a d,lo<=a->(rec a d).1 = -1\/((a:Int) < (rec a d).1/\(rec a d).1<=N)):∀ (cs:List Int) (next deep:Int),(lo:Int)<=next->next<=N ->
  (bK rec cs next deep).1 = -1\/((lo:Int)<=(bK rec cs next deep).1/\(bK rec cs next deep).1<=N)
 | [],next,deep,h1,h2=>.inr ⟨h1,h2⟩
 | c :: cs,next,deep,h1,h2=>by
  unfold bK;split
  ·exact .inl rfl
  ·split
   ·exact .inl rfl
   ·rcases hrec next.toNat deep EN with h | h
    ·omega
    ·exact vS hrec cs _ _ EN EN
theorem rU (Fg:List Nd):∀ (f a:Nat) (depth deep:Int),(bP Fg f a depth deep).1 = -1\/((a:Int) < (bP Fg f a depth deep).1/\(bP Fg f a depth deep).1<=Fg.length)
 | 0,_,_,_=>.inl rfl
 | f+1,a,depth,deep=>by
  unfold bP;split
  ·exact .inl rfl
  ·rename_i n hn
   have:=FD hn;rcases vS (rec:=λa d=>bP Fg f a (depth+1) d) (N:=Fg.length) (lo:=a+1) (λa' d _=>rU Fg f a' (depth+1) d) n.next ((a:Int)+1) (max deep depth) EN EN with h | h
   ·exact .inl h
   ·exact .inr EN
theorem xR {rec:Nat->Int->Int×Int} {D:Int} (hrec:∀ a d,-1<=d->d<=D→-1<=(rec a d).2/\(rec a d).2<=D):∀ (cs:List Int) (next deep:Int),-1<=deep->deep<=D→-1<=(bK rec cs next deep).2/\(bK rec cs next deep).2<=D
 | [],next,deep,h1,h2=>⟨h1,h2⟩
 | c :: cs,next,deep,h1,h2=>by
  unfold bK;have:=hrec next.toNat deep h1 h2
  split
  ·exact⟨h1,h2⟩
  ·split
   ·exact this
   ·exact xR hrec cs _ _ this.1 this.2
theorem uD (Fg:List Nd) (D:Int):∀ (f a:Nat) (depth deep:Int),depth+f<=D→-1<=deep->deep<=D→-1<=(bP Fg f a depth deep).2/\(bP Fg f a depth deep).2<=D
 | 0,_,_,_,_,h1,h2=>⟨h1,h2⟩
 | f+1,a,depth,deep,h,h1,h2=>by
  unfold bP;split
  ·exact⟨h1,h2⟩
  ·exact xR (λa' d g1 g2=>uD Fg D f a' (depth+1) d EN g1 g2) _ _ _ EN EN
theorem Same.vT {w w':FW} (h:w.grownBy w' (some b)):Same (λk=>k≠b) w w':=⟨h.size,λk hk hl=>h.block k hl (by simpa using hk)⟩
theorem rV {a w:FW} (h:a.grownBy w row) (o:Obj):a.grownBy (w.alloc o) row :=
 ⟨h.os,h.tape,h.output,Gf h.size aF,λi hi hne=>(KG w o i (GZ hi h.size)).trans (h.block i hi hne)⟩
theorem grown_setCell {a w:FW} {g:Nat} (h:a.grownBy w (some g)) {p:Addr} (hp:p.block=g\/a.heap.size<=p.block) (u:F7):a.grownBy (w.setCell p u) (some g) :=
 ⟨h.os,h.tape,h.output,by simpa using h.size,λi hi hne=>(JC w p u i (by
  rintro rfl;rcases hp with hp | hp
  ·exact hne (by rw[hp])
  ·omega)).trans (h.block i hi hne)⟩
theorem mD (w:FW) (row:Option Nat):w.grownBy w row:=⟨rfl,rfl,rfl,FV _,λ_ _ _=>rfl⟩
theorem jm {a b c:FW} (h:a.grownBy b row) (k:b.grownBy c row):a.grownBy c row :=
 ⟨k.os.trans h.os,k.tape.trans h.tape,k.output.trans h.output,Gf h.size k.size,λi hi hne=>(k.block i (GZ hi h.size) hne).trans (h.block i hi hne)⟩
theorem uF {w w':FW} {d:Nat} (h:w.grownBy w' (some d)):∀ b o,b < w.heap.size->b≠d->w'.cell? ⟨b,o,none⟩=w.cell? ⟨b,o,none⟩:=λb o hb hd=>Gs (h.block b hb (by simpa using hd))
theorem ajH (g:Gm) (hsm:Small g):∀ (f a:Nat) (depth deep:Int) (w:FW) (bd:Nat) (u:F7),AA w (λb=>b≠bd) u g->Row w bd 3 [F6 F5 deep]->g.Fg.length < a+f->0<=depth->depth+f<=100000→-1<=deep->deep<=100000 ->
  Calls FY 134 #[u,F6 F5 a,F6 F5 depth,.pointer (some ⟨bd,0,none⟩)] w λe w'=>e = .returned (F6 F5 (bP g.Fg f a depth deep).1)/\Row w' bd 3 [F6 F5 (bP g.Fg f a depth deep).2]/\w.grownBy w' (some bd):=by
 intro f;induction f with
 | zero =>
  intro a depth deep w bd u hg hrow hf hd0 hd1 hp0 hp1;obtain⟨vn,vi,rfl,⟨A,c,rfl,hc,hN⟩,⟨Ai,ci,rfl,hci,hI⟩⟩:=hg;clear hN hI;have hge:(g.Fg.length:Int)<=(a:Int):=EN;have hn:=hsm.Fg;have AZ:=Ac hrow;clear hrow;go_in;go_wp2
  go_ret;exact⟨rfl,AZ.out.alloc _,rV (mD _ _) _⟩
 | succ f ih =>
  intro a depth deep w bd u hg hrow hf hd0 hd1 hp0 hp1;have HG:=Ac hg;obtain⟨vn,vi,rfl,⟨A,c,rfl,hc,hN⟩,⟨Ai,ci,rfl,hci,hI⟩⟩:=hg;have HN:=Ac hN;clear hN hI;have IH:=Ac ih;clear ih;have HSM:=Ac hsm;have hn:=hsm.Fg;clear hsm;have hbd:=hrow.lt;have xd:=hrow.cell (i:=0) rfl;have fd:=hrow.frozen 0;have AZ:=Ac hrow;clear hrow;by_cases hlt:a < g.Fg.length
  ·obtain⟨b,o,rfl,hbF,hb,hcell⟩:=HN.out EN;obtain⟨n,hn'⟩:=FC hlt;obtain⟨v3,e3,A3,c3,rfl,hc3,i3⟩:=(hcell a n hn').c3;have HX:=Ac hn';have hl3:=HSM.out.next n (FT hn');have H3:=Ac i3; clear i3 hcell hn';have HW:=Ac (show bP g.Fg (f+1) a depth deep=bK (λa d=>bP g.Fg f a (depth+1) d) n.next ((a:Int)+1) (max deep depth) by
    rw[bP]; simp only[HX.out])
   have hrl:∀ d,(max deep depth:Int)=d->∀ (w':FW),Row w' bd 3 [F6 F5 deep]->Row (w'.setCell ⟨bd,0,none⟩ (F6 F5 d)) bd 3 [F6 F5 d]:=λd _ w' h=>by simpa using h.set 0 (F6 F5 d)
   have HRL:=Ac hrl;clear hrl;by_cases hmx:deep < depth
   ·have HMX:=Ac (show(max deep depth:Int)=depth by omega);have hm0:-1<=depth/\depth<=100000:=EN;go_in;go_wp2
    go_loopw [9,10] (λnx i wr=>∃ (j:Nat) (next dp:Int),j<=n.next.length/\i = F6 F5 j/\nx = F6 F5 next/\(a:Int) < next/\next<=g.Fg.length∧-1<=dp/\dp<=100000/\Row wr w.heap.size 27 [F6 F5 g.ay,FQ (some ⟨b,o,none⟩) g.Fg.length c,FQ Ai g.Fh.length ci]/\Row wr bd 3 [F6 F5 dp]/\w.grownBy wr (some bd)/\bP g.Fg (f+1) a depth deep=bK (λa d=>bP g.Fg f a (depth+1) d) (n.next.drop j) next dp) (λ_ i _=>n.next.length - (intOf i).toNat)
    case atStart =>
     refine⟨0,(a:Int)+1,depth,EN,rfl,rfl,EN,EN,hm0.1,hm0.2,?_,?_,?_,?_⟩
     ·have:=Row.new (w.setCell ⟨bd,0,none⟩ (F6 F5 depth)) 27 #[F6 F5 g.ay,FQ (some ⟨b,o,none⟩) g.Fg.length c,FQ Ai g.Fh.length ci];simpa using this
     ·exact(HRL.out depth HMX.out w AZ.out).alloc _
     ·exact rV (grown_setCell (mD _ _) (.inl rfl) _) _
     ·rw[HW.out,HMX.out];rfl
    case round =>
     obtain⟨j,next,dp,hj,rfl,rfl,anU,hnx1,alh,ali,hbx,hrw,hgr,hval⟩:=hrel;have HV:=Ac hval;clear hval;have x1:=hbx.cell (i:=1) rfl;have x0:=hbx.cell (i:=0) rfl;have x2:=hbx.cell (i:=2) rfl;have hold:=uF hgr;by_cases hjt:j < n.next.length
     ·obtain⟨ch,hch⟩:=FC hjt;obtain⟨b3,o3,rfl,hb3,alj,hx3⟩:=H3.out EN;have ec:=hx3 j ch hch;unfold jP at ec;rw[Gp] at ec;refine zae ?_;intro HD;clear hch hx3;by_cases hne:ch=next
      ·subst hne;obtain⟨q,rfl⟩:=J5 (show 0<=ch by omega);have hbd2:=rU g.Fg f q (depth+1) dp;have HV2:=Ac (show bK (λa d=>bP g.Fg f a (depth+1) d) (n.next.drop j) (q:Int) dp=if (bP g.Fg f q (depth+1) dp).1 < 0 then (-1,(bP g.Fg f q (depth+1) dp).2) else bK (λa d=>bP g.Fg f a (depth+1) d) (n.next.drop (j+1)) (bP g.Fg f q (depth+1) dp).1 (bP g.Fg f q (depth+1) dp).2 by
        rw[HD.out]; simp[bK])
       have HBD:=Ac hbd2;clear hbd2;go_wp2_with fail
       refine zdG ?_;rintro e w' ⟨rfl,ahl,iM⟩;have hdd:=uD g.Fg 100000 f q (depth+1) dp EN alh ali;have afR:Row w' w.heap.size _ _:=hbx.of_block (iM.block _ hbx.lt aG);have hgg:=jm hgr iM;have hbb:=HBD.out;have HV3:=Ac (HV.out.trans HV2.out);generalize bP g.Fg f q (depth+1) dp=rr at *;obtain⟨rn,rd⟩:=rr;dsimp only at ahl hdd hbb HV3 ⊢;clear HV2 HBD hold x0 x1 x2 hbx hrw hgr iM;by_cases hng:rn < 0
       ·exact zbL
       ·go_wp2
        go_roundw
        case rel=>exact⟨j+1,rn,rd,EN,by go_num,rfl,EN,EN,hdd.1,hdd.2,afR,ahl,hgg,by rw[HV3.out,L6 hng]⟩
        case measure=>simp[intOf]; omega
      ·exact zaS
     ·exact zbD
   ·have HMX:=Ac (show(max deep depth:Int)=deep by omega);have hm0:-1<=deep/\deep<=100000:=EN;go_in;go_wp2
    go_loopw [9,10] (λnx i wr=>∃ (j:Nat) (next dp:Int),j<=n.next.length/\i = F6 F5 j/\nx = F6 F5 next/\(a:Int) < next/\next<=g.Fg.length∧-1<=dp/\dp<=100000/\Row wr w.heap.size 27 [F6 F5 g.ay,FQ (some ⟨b,o,none⟩) g.Fg.length c,FQ Ai g.Fh.length ci]/\Row wr bd 3 [F6 F5 dp]/\w.grownBy wr (some bd)/\bP g.Fg (f+1) a depth deep=bK (λa d=>bP g.Fg f a (depth+1) d) (n.next.drop j) next dp) (λ_ i _=>n.next.length - (intOf i).toNat)
    case atStart =>
     refine⟨0,(a:Int)+1,deep,EN,rfl,rfl,EN,EN,hm0.1,hm0.2,?_,?_,?_,?_⟩
     ·have:=Row.new (w.setCell ⟨bd,0,none⟩ (F6 F5 deep)) 27 #[F6 F5 g.ay,FQ (some ⟨b,o,none⟩) g.Fg.length c,FQ Ai g.Fh.length ci];simpa using this
     ·exact(HRL.out deep HMX.out w AZ.out).alloc _
     ·exact rV (grown_setCell (mD _ _) (.inl rfl) _) _
     ·rw[HW.out,HMX.out];rfl
    case round =>
     obtain⟨j,next,dp,hj,rfl,rfl,anU,hnx1,alh,ali,hbx,hrw,hgr,hval⟩:=hrel;have HV:=Ac hval;clear hval;have x1:=hbx.cell (i:=1) rfl;have x0:=hbx.cell (i:=0) rfl;have x2:=hbx.cell (i:=2) rfl;have hold:=uF hgr;by_cases hjt:j < n.next.length
     ·obtain⟨ch,hch⟩:=FC hjt;obtain⟨b3,o3,rfl,hb3,alj,hx3⟩:=H3.out EN;have ec:=hx3 j ch hch;unfold jP at ec;rw[Gp] at ec;refine zae ?_;intro HD;clear hch hx3;by_cases hne:ch=next
      ·subst hne;obtain⟨q,rfl⟩:=J5 (show 0<=ch by omega);have hbd2:=rU g.Fg f q (depth+1) dp;have HV2:=Ac (show bK (λa d=>bP g.Fg f a (depth+1) d) (n.next.drop j) (q:Int) dp=if (bP g.Fg f q (depth+1) dp).1 < 0 then (-1,(bP g.Fg f q (depth+1) dp).2) else bK (λa d=>bP g.Fg f a (depth+1) d) (n.next.drop (j+1)) (bP g.Fg f q (depth+1) dp).1 (bP g.Fg f q (depth+1) dp).2 by
        rw[HD.out]; simp[bK])
       have HBD:=Ac hbd2;clear hbd2;go_wp2_with fail
       refine zdG ?_;rintro e w' ⟨rfl,ahl,iM⟩;have hdd:=uD g.Fg 100000 f q (depth+1) dp EN alh ali;have afR:Row w' w.heap.size _ _:=hbx.of_block (iM.block _ hbx.lt aG);have hgg:=jm hgr iM;have hbb:=HBD.out;have HV3:=Ac (HV.out.trans HV2.out);generalize bP g.Fg f q (depth+1) dp=rr at *;obtain⟨rn,rd⟩:=rr;dsimp only at ahl hdd hbb HV3 ⊢;clear HV2 HBD hold x0 x1 x2 hbx hrw hgr iM;by_cases hng:rn < 0
       ·exact zbL
       ·go_wp2
        go_roundw
        case rel=>exact⟨j+1,rn,rd,EN,by go_num,rfl,EN,EN,hdd.1,hdd.2,afR,ahl,hgg,by rw[HV3.out,L6 hng]⟩
        case measure=>simp[intOf]; omega
      ·exact zaS
     ·exact zbD
  ·have hge:(g.Fg.length:Int)<=(a:Int):=EN;have HF:=Ac (show bP g.Fg (f+1) a depth deep=(-1,deep) by
    rw[bP]; rw[G9 EN])
   go_in;go_wp2
   go_ret;exact⟨by rw[HF.out]; rfl,by rw[HF.out]; exact AZ.out.alloc _,rV (mD _ _) _⟩
def Dn (w:FW) (fid:FuncId) (caps:Array F7) (l:List Int) (p:Int->Bool):Prop :=
 (∀ (args:Array F7) (w':FW),(callFunc fid args).run FY w' = .ok (.enter fid args) w') /\
 ∀ (n:Nat) (x:Int),x∈l->Calls FY fid (#[F6 F5 x]++caps) (w.drewN n) λe w'=>e = .returned (.bool (p x))/\∃ m,w'=w.drewN m
def idxOf (p:Int->Bool) (l:List Int):Int:=match l.findIdx? p with | some i=>(i:Int) | none=>-1
theorem idxOf_hit {p:Int->Bool} {x:Int} (h:l[k]? = some x) (hp:p x=true) (hn:(l.take k).any p=false):idxOf p l=k:=by
 have hk:=FD h;have:l.findIdx? p=some k:=by
  rw[List.findIdx?_eq_some_iff_getElem];refine⟨hk,?_,λj hj=>?_⟩
  ·have:l[k]=x:=by simpa [hk] using h
   rw[this];exact hp
  ·have h1:=List.any_eq_false.1 hn l[j] (by rw[List.mem_take_iff_getElem]; exact⟨j,EN,rfl⟩);simpa using h1
 simp[idxOf,this]
theorem ab9 {p:Int->Bool} (hn:l.any p=false):idxOf p l = -1:=by
 have:l.findIdx? p=none:=by
  rw[KC];intro x hx;have:=List.any_eq_false.1 hn x hx;simpa using this
 simp[idxOf,this]
theorem ajI (p:Int->Bool) (l:List Int):decide (0<=idxOf p l)=l.any p:=by
 cases h:l.any p with
 | false=>rw[ab9 h]; rfl
 | true =>
  obtain⟨x,hx,hp⟩:=List.any_eq_true.1 h;unfold idxOf;split
  ·rw[decide_eq_true_iff];omega
  ·rename_i h1
   rw[KC] at h1;have:=h1 x hx;rw[hp] at this;cases this
theorem adq (w:FW) (F:FI) (v:F7) (l:List Int) (fid:FuncId) (caps:Array F7) (p:Int->Bool) (hv:Aj w F v l) (hl:l.length<=1000000) (ha:Dn w fid caps l p) :
  Calls FY 200 #[v,.func (.func fid) #[] caps] w λe w'=>e = .returned (F6 F5 (idxOf p l))/\∃ n,w'=w.drewN n:=by
 obtain⟨A,c,rfl,hc,hr⟩:=hv;have HR:=Ac hr;clear hr;obtain⟨hcf,hcl⟩:=ha;have HCL:=Ac hcl;clear hcl;go_in;go_wp2
 go_loopw [8] (λi wr=>∃ k n:Nat,k<=l.length/\i = F6 F5 k/\(l.take k).any p=false/\wr=w.drewN n) (λi _=>l.length - (intOf i).toNat)
 case atStart=>exact⟨0,0,EN,rfl,rfl,rfl⟩
 case round =>
  obtain⟨k,n,hk,rfl,hpre,rfl⟩:=hrel;have HP:=Ac hpre;clear hpre;by_cases hlt:k < l.length
  ·obtain⟨b,o,rfl,_,hb,hx⟩:=HR.out EN;obtain⟨x,hxx⟩:=FC hlt;have ex:=hx k x hxx;unfold jP at ex;rw[Gp] at ex;have HX:=Ac hxx;clear hxx hx;go_wp2_with fail
   refine(HCL.out n x (FT HX.out)).mono ?_;rintro e w' ⟨rfl,m,rfl⟩;dsimp only;cases hpx:p x
   ·have HPX:=Ac hpx;clear hpx;go_wp2
    go_roundw
    case rel=>exact⟨k+1,m,EN,by go_num,pI HX.out HP.out HPX.out,rfl⟩
    case measure=>simp[intOf]; omega
   ·have HF:=Ac (idxOf_hit HX.out hpx HP.out);clear hpx;go_wp2
    go_ret;exact⟨by rw[HF.out]; rfl,m,rfl⟩
  ·go_wp2
   go_ret;have h:=HP.out;rw[List.take_of_length_le EN] at h;exact⟨by rw[ab9 h]; rfl,n,rfl⟩
theorem aax (w:FW) (F:FI) (v:F7) (l:List Int) (fid:FuncId) (caps:Array F7) (p:Int->Bool) (hv:Aj w F v l) (hl:l.length<=1000000) (ha:Dn w fid caps l p) :
  Calls FY 173 #[v,.func (.func fid) #[] caps] w λe w'=>e = .returned (.bool (l.any p))/\∃ n,w'=w.drewN n:=by
 have HV:=Ac hv;clear hv;have HA:=Ac ha;clear ha;go_in;go_wp2_with fail
 refine(adq w F v l fid caps p HV.out hl HA.out).mono ?_;rintro e w' ⟨rfl,n,rfl⟩;dsimp only;have HF:=Ac (ajI p l);generalize idxOf p l=q at *;go_wp2
 all_goals
  go_ret;refine⟨?_,n,rfl⟩;rw[<-HF.out];first | rfl | (simp; omega)
theorem neF {b:Int} (h:a=b):(a != b)=false:=by simp[h]
theorem neT {b:Int} (h:a≠b):(a != b)=true:=by simp[h]
theorem eqF {b:Int} (h:a≠b):(a==b)=false:=by simp[h]
theorem eqT {b:Int} (h:a=b):(a==b)=true:=by simp[h]
def outside (lo hi:Int) (l:List Int):Bool:=l.any λx=>decide (x < lo)||decide (hi < x)
def dw (x:Nd):Int :=
 if x.aC≠0\/x.info≠0\/0 < x.pay.length\/x.next.length < 1\/60 < x.next.length\/x.weights.length≠x.next.length then 3 else if outside 1 1000 x.weights then 2 else 0
def fA (ay:Int) (ni:Nat) (x:Nd):Int :=
 if 0 < x.pay.length\/0 < x.weights.length\/x.next.length < 1\/10 < x.next.length then 3 else if x.aC < 0\/ay<=x.aC\/x.info < 0\/(ni:Int)<=x.info then 2 else 0
def iV (ay:Int) (x:Nd):Int :=
 if x.aC≠0\/x.info≠0\/0 < x.next.length\/0 < x.weights.length\/(x.pay.length:Int)≠ay then 3 else if outside (-1000000) 1000000 x.pay then 2 else 0
def aQ (ay:Int) (ni:Nat) (x:Nd):Int :=
 if x.kind=1 then dw x else if x.kind=2 then fA ay ni x else if x.kind=3 then iV ay x else 3
theorem alk (w:FW) (F:FI) (u ux:F7) (g:Gm) (x:Nd) (hg:AA w F u g) (hx:Bf w F ux x) (hl:x.next.length < 1000000/\x.weights.length < 1000000/\x.pay.length < 1000000) (hni:g.Fh.length < 1000000) :
  Calls FY 133 #[u,ux] w (Ret w λv _=>v = F6 F5 (aQ g.ay g.Fh.length x)):=by
 obtain⟨vn,vi,rfl,⟨A,c,rfl,hc,hN⟩,⟨Ai,ci,rfl,hci,hI⟩⟩:=hg;clear hN hI;obtain⟨v3,v4,v5,rfl,⟨A3,c3,rfl,hc3,h3⟩,⟨A4,c4,rfl,hc4,h4⟩,⟨A5,c5,rfl,hc5,h5⟩⟩:=hx;obtain⟨hl3,hl4,hl5⟩:=hl;have H4:=Ac h4;clear h4;have H5:=Ac h5;clear h5 h3;by_cases k1:x.kind=1
 ·have e1:(x.kind==1)=true:=by simp[k1]
  by_cases q0:x.aC≠0
  ·refine YX ?_;intro HF;have d0:(x.aC != 0)=true:=neT EN;clear k1;go_in;exact Zr
  have d0:(x.aC != 0)=false:=neF EN;by_cases q1:x.info≠0
  ·refine YX ?_;intro HF;have d1:(x.info != 0)=true:=neT EN;clear k1;go_in;exact Zr
  have d1:(x.info != 0)=false:=neF EN;by_cases q2:0 < x.pay.length
  ·refine YX ?_;intro HF;clear k1;go_in;exact Zr
  have d2:decide ((0:Int) < (x.pay.length:Int))=false:=L9 EN;by_cases q3:x.next.length < 1
  ·refine YX ?_;intro HF;clear k1;go_in;exact Zr
  have d3:decide ((x.next.length:Int) < 1)=false:=L9 EN;by_cases q4:60 < x.next.length
  ·refine YX ?_;intro HF;clear k1;go_in;exact Zr
  have d4:decide ((60:Int) < (x.next.length:Int))=false:=L9 EN;by_cases q5:x.weights.length≠x.next.length
  ·refine YX ?_;intro HF;have d5:((x.weights.length:Int) != (x.next.length:Int))=true:=neT EN;clear k1;go_in;exact Zr
  have d5:((x.weights.length:Int) != (x.next.length:Int))=false:=neF EN;have HV:=Ac (show aQ g.ay g.Fh.length x=if outside 1 1000 x.weights then 2 else 0 by unfold aQ dw; rw[L8 k1,L6 EN]);clear k1 q0 q1 q5;go_in;go_wp2
  go_loop [5] (λi=>∃ k:Nat,k<=x.weights.length/\i = F6 F5 k/\outside 1 1000 (x.weights.take k)=false) (λi=>x.weights.length - (intOf i).toNat)
  case atStart=>exact⟨0,EN,rfl,rfl⟩
  case round =>
   obtain⟨k,hk,rfl,hpre⟩:=hrel;have HP:=Ac hpre;clear hpre;by_cases hlt:k < x.weights.length
   ·obtain⟨b,o,rfl,_,hb,hx⟩:=H4.out EN;obtain⟨y,hy⟩:=FC hlt;have ey:=hx k y hy;unfold jP at ey; rw[Gp] at ey;have BAD:=Ac (show(y < 1\/1000 < y)->aQ g.ay g.Fh.length x=2 by
     intro hb; rw[HV.out,L8 (show outside _ _ _=true from List.any_eq_true.2 ⟨y,FT hy,by simpa using hb⟩)])
    have HX:=Ac hy;clear hx hy;by_cases pl:y < 1
    ·have HF:=Ac (BAD.out (.inl pl));exact Zr
    have fl:decide (y < 1)=false:=L9 EN;by_cases pr:1000 < y
    ·have HF:=Ac (BAD.out (.inr pr));exact Zr
    have fr:decide ((1000:Int) < y)=false:=L9 EN;go_wp2
    go_round
    case rel=>exact⟨k+1,EN,by go_num,pI HX.out HP.out aG⟩
    case measure=>simp[intOf]; omega
   ·exact zcG
 have e1:(x.kind==1)=false:=by simp[k1]
 by_cases k2:x.kind=2
 ·have e2:(x.kind==2)=true:=by simp[k2]
  by_cases q0:0 < x.pay.length
  ·exact YM
  have d0:decide ((0:Int) < (x.pay.length:Int))=false:=L9 EN;by_cases q1:0 < x.weights.length
  ·exact YM
  have d1:decide ((0:Int) < (x.weights.length:Int))=false:=L9 EN;by_cases q2:x.next.length < 1
  ·exact YM
  have d2:decide ((x.next.length:Int) < 1)=false:=L9 EN;by_cases q3:10 < x.next.length
  ·exact YM
  have d3:decide ((10:Int) < (x.next.length:Int))=false:=L9 EN;by_cases r0:x.aC < 0
  ·exact YA
  have s0:decide (x.aC < 0)=false:=L9 EN;by_cases r1:g.ay<=x.aC
  ·exact YA
  have s1:decide (g.ay<=x.aC)=false:=L9 EN;by_cases r2:x.info < 0
  ·exact YA
  have s2:decide (x.info < 0)=false:=L9 EN;by_cases r3:(g.Fh.length:Int)<=x.info
  ·exact YA
  have s3:decide ((g.Fh.length:Int)<=x.info)=false:=L9 EN;have HF:=Ac (show aQ g.ay g.Fh.length x=0 by unfold aQ fA; rw[L6 k1,L8 k2,L6 EN,L6 EN]);clear k1 k2;go_in;exact Zr
 have e2:(x.kind==2)=false:=by simp[k2]
 by_cases k3:x.kind=3
 ·have e3:(x.kind==3)=true:=by simp[k3]
  by_cases q0:x.aC≠0
  ·refine YU ?_;intro HF;have d0:(x.aC != 0)=true:=neT EN;exact zb0
  have d0:(x.aC != 0)=false:=neF EN;by_cases q1:x.info≠0
  ·refine YU ?_;intro HF;have d1:(x.info != 0)=true:=neT EN;exact zb0
  have d1:(x.info != 0)=false:=neF EN;by_cases q2:0 < x.next.length
  ·refine YU ?_;intro HF;exact zb0
  have d2:decide ((0:Int) < (x.next.length:Int))=false:=L9 EN;by_cases q3:0 < x.weights.length
  ·refine YU ?_;intro HF;exact zb0
  have d3:decide ((0:Int) < (x.weights.length:Int))=false:=L9 EN;by_cases q4:(x.pay.length:Int)≠g.ay
  ·refine YU ?_;intro HF;have d4:((x.pay.length:Int) != g.ay)=true:=neT EN;exact zb0
  have d4:((x.pay.length:Int) != g.ay)=false:=neF EN;have HV:=Ac (show aQ g.ay g.Fh.length x=if outside (-1000000) 1000000 x.pay then 2 else 0 by unfold aQ iV; rw[L6 k1,L6 k2,L8 k3,L6 EN]);clear k1 k2 k3 q0 q1 q4;go_in;go_wp2
  go_loop [6] (λi=>∃ k:Nat,k<=x.pay.length/\i = F6 F5 k/\outside (-1000000) 1000000 (x.pay.take k)=false) (λi=>x.pay.length - (intOf i).toNat)
  case atStart=>exact⟨0,EN,rfl,rfl⟩
  case round =>
   obtain⟨k,hk,rfl,hpre⟩:=hrel;have HP:=Ac hpre;clear hpre;by_cases hlt:k < x.pay.length
   ·obtain⟨b,o,rfl,_,hb,hx⟩:=H5.out EN;obtain⟨y,hy⟩:=FC hlt;have ey:=hx k y hy;unfold jP at ey; rw[Gp] at ey;have BAD:=Ac (show(y < (-1000000)\/1000000 < y)->aQ g.ay g.Fh.length x=2 by
     intro hb; rw[HV.out,L8 (show outside _ _ _=true from List.any_eq_true.2 ⟨y,FT hy,by simpa using hb⟩)])
    have HX:=Ac hy;clear hx hy;by_cases pl:y < (-1000000)
    ·have HF:=Ac (BAD.out (.inl pl));exact Zr
    have fl:decide (y < (-1000000))=false:=L9 EN;by_cases pr:1000000 < y
    ·have HF:=Ac (BAD.out (.inr pr));exact Zr
    have fr:decide ((1000000:Int) < y)=false:=L9 EN;go_wp2
    go_round
    case rel=>exact⟨k+1,EN,by go_num,pI HX.out HP.out aG⟩
    case measure=>simp[intOf]; omega
   ·exact zcG
 have e3:(x.kind==3)=false:=by simp[k3]
 have HF:=Ac (show aQ g.ay g.Fh.length x=3 by unfold aQ; rw[L6 k1,L6 k2,L6 k3]);exact zb0
theorem xU (w:FW) (F:FI) (v:F7) (g:Gm) (hg:AA w F v g) (hsm:Small g) (h0:0 < g.Fg.length) (hk:D7 g.Fg) :
  Calls FY 137 #[v] w (Ret w λv w'=>Aj w' (λb=>w.heap.size<=b) v (iI g.Fg)):=by
 obtain⟨vn,vi,rfl,⟨A,c,rfl,hc,hN⟩,hI⟩:=hg;obtain⟨b,o,rfl,hbF,hbB,hN⟩:=hN h0;have HN:=Ac hN;clear hN;have HK:=Ac hk;clear hk;have hn:=hsm.Fg;have HS:=Ac hsm;clear hsm;go_in;go_wp2_with (at_make; refine gX _ rfl _ _ 22 rfl 3 (F6 F5 0) 8 Tryz.underlying22 Tryz.infoInt rfl g.Fg.length rfl rfl EN EN ?_; intro w1 tK hsz1 hrow1; have r0:=hrow1.cell (i:=0) (v:=F6 F5 0) (by simp[h0]); have f0:=hrow1.frozen 0; simp at r0 f0)
 go_loopw [4] (λi wr=>∃ k:Nat,k<=g.Fg.length/\i = F6 F5 k/\wr.cell? ⟨w.heap.size,1,none⟩=some (FQ (some ⟨b,o,none⟩) g.Fg.length c)/\Row wr (w.heap.size+1) 3 ((pJ g.Fg k).map (Value.int .i64))/\Below w.heap.size w wr) (λi _=>g.Fg.length - (intOf i).toNat)
 case atStart =>
  refine⟨0,EN,rfl,?_,?_,?_⟩
  ·rw[World.cell?_setCell_other _ _ _ _ aF,aS tK _ _ aF];simp
  ·have:=hrow1.set 0 (F6 F5 (-1));simp only[World.size_alloc] at this;simpa [pJ,Jb] using this
  ·exact(((F9 _ _).alloc (FV _) _).trans (tK.mono aF)).setCell aF _
 case round =>
  obtain⟨k,hk,rfl,hbox,hrow,hbel⟩:=hrel;by_cases hlt:k < g.Fg.length
  ·obtain⟨n,hn'⟩:=FC hlt;have anI:=HN.out k n hn';obtain⟨v3,e3,A3,c3,rfl,hc3,hN3⟩:=anI.c3;have hl3:=HS.out.next n (FT hn');have HN3:=Ac hN3;clear hN3 anI;have HN':=Ac hn';clear hn';have hold:=aS hbel;go_wp2
   go_loopw [5] (λi wi=>∃ j:Nat,j<=n.next.length/\i = F6 F5 j/\wi.cell? ⟨w.heap.size,1,none⟩=some (FQ (some ⟨b,o,none⟩) g.Fg.length c)/\Row wi (w.heap.size+1) 3 ((l7 (n.next.take j) k (pJ g.Fg k)).map (Value.int .i64))/\Below w.heap.size w wi) (λi _=>n.next.length - (intOf i).toNat)
   case atStart=>exact⟨0,EN,rfl,hbox,by simpa [l7] using hrow,hbel⟩
   case round =>
    clear hbox hrow hold;obtain⟨j,hj,rfl,hbox,hrow,jo⟩:=hrel;have hold:=aS jo;by_cases hjt:j < n.next.length
    ·obtain⟨ch,hch⟩:=FC hjt;obtain⟨b3,o3,rfl,hb3,hb3B,hx3⟩:=HN3.out EN;have ec:=hx3 j ch hch;unfold jP at ec;rw[Gp] at ec;obtain⟨hch0,hch1⟩:=HK.out n (FT HN'.out) ch (FT hch);have HCH:=Ac hch;clear hch hx3;obtain⟨x,hx⟩:=FC (l:=l7 (n.next.take j) k (pJ g.Fg k)) (k:=ch.toNat) (by rw[vP,jR]; omega);have rc:=hrow.cell (i:=ch.toNat) (v:=F6 F5 x) (by simp[hx]);have fc:=hrow.frozen ch.toNat;clear hx;go_wp2
     go_roundw
     case rel =>
      refine⟨j+1,EN,by go_num,?_,?_,jo.setCell aF _⟩
      ·rw[World.cell?_setCell_other _ _ _ _ aF];exact hbox
      ·have:=hrow.set ch.toNat (F6 F5 k);rw[aeL HCH.out];simpa [Jb] using this
     case measure=>simp[intOf]; omega
    ·go_wp2
     go_roundw
     case rel =>
      have:j=n.next.length:=EN;subst this;refine⟨k+1,EN,by go_num,hbox,?_,jo⟩;rw[ab8 HN'.out];simpa using hrow
     case measure=>simp[intOf]; omega
  ·go_wp2
   go_ret;have:k=g.Fg.length:=EN;subst this;refine zc2 ?_;have hl:(iI g.Fg).length=g.Fg.length:=jR _ _;have:=hrow.ints (F:=λb=>w.heap.size<=b) EN (c:=g.Fg.length) (by rw[jR]; omega);rw[jR] at this;exact this
end Go.Proofs.YtnmeejofpkhlkaaGreatDoor
