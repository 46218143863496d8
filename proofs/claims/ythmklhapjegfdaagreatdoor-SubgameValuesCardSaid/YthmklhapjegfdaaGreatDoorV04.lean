/- Words for memory that all contracts of this seat share: slices that read as lists, rows of cells, worlds that keep some blocks. -/
import Derived.Test.YthmklhapjegfdaaGreatDoorV03
import Derived.Test.YthmklhapjegfdaaGreatDoorV01
import Derived.Test.YthmklhapjegfdaaGreatDoorProg
import Derived.WalkKit
import Derived.Deep.QuietTactic
import Derived.BigQuiet
import Derived.Lib.Hide
import Derived.Deep.OwnRows
set_option linter.all false
set_option maxRecDepth 100000
set_option maxHeartbeats 12800000
namespace Go.Proofs.YthmklhapjegfdaaGreatDoor
theorem Zl {p:Prop} (h:p:=by
 go_wp2
 go_ret
 exact⟨_,rfl,aY _ _ _ 0,by rw[HF.out]; rfl⟩):p:=h
theorem Zn {p q:Prop} (k:q) (h:Mhid q→p:=by
 intro hq
 rw[← hWz]
 have t0:=hrz.cell (i:=0) rfl
 have t1:=hrz.cell (i:=1) rfl
 have t2:=hrz.cell (i:=2) rfl
 revert t2
 revert t1
 revert t0
 exact hq.out):p:=h ⟨k⟩
theorem Zy {p q:Prop} (k:q) (h:Mhid q→p:=by
 intro hq
 dsimp only
 have q0:=hr.cell (i:=0) rfl
 have y0:=hr.frozen 0
 have q1:=hr.cell (i:=1) rfl
 have y1:=hr.frozen 1
 have q2:=hr.cell (i:=2) rfl
 have y2:=hr.frozen 2
 revert y2
 revert q2
 revert y1
 revert q1
 revert y0
 revert q0
 exact hq.out):p:=h ⟨k⟩
theorem ZO {p q:Prop} (k:q) (h:Mhid q→p:=by
 intro hq
 refine(iV w1 F _ _ a b C D Y (HVA.out.below hb1) (HVB.out.below hb1) hla hlb byOmega byOmega byOmega byOmega HX.out.2.1 (by have:=HY.out.1; have:=HX.out.2.2; omega)).mono ?_
 exact hq.out):p:=h ⟨k⟩
theorem ZP {p:Prop} (h:p:=by
 clear cx HMS HRW HGR CG
 obtain⟨u3,rfl,afy,aiV,adW,hrow3,ald⟩:=hcut
 obtain⟨x,hx⟩:=aC (l:=u3) (k:=k) byOmega
 have cx:=hrow3.cell (bG ((jO HPP.out byOmega).trans hx))
 have fx:=hrow3.frozen (j+k)
 have hQlt:aH u / aH v < 1000000000:=HE.out.q_lt
 have HLN:=Ac (abR afy adW)
 have En:=Ac afy
 have hk3:k < u3.length:=byOmega
 clear hx afy adW
 generalize hQ:aH u / aH v=Q at *
 have HQQ:=Ac hQ
 clear hQ
 go_wp2
 go_ret
 refine⟨by rw[HQQ.out]; rfl,⟨u3.set k 0,by rw[List.length_set,En.out],aiV.set aA,HLN.out,?_⟩,jI ald _ _⟩
 have hr:=hrow3.set (j+k) (.int .u32 ((0:Nat):Int))
 rw[bH,set_mid HPP.out hk3] at hr
 exact hr):p:=h
theorem ZV {p q:Prop} (k:q) (h:Mhid q→p:=by
 intro hq
 obtain⟨top,htop⟩:=aC (l:=v) (k:=n1) byOmega
 obtain⟨v2,hv2⟩:=aC (l:=v) (k:=n2) byOmega
 obtain⟨un,hun⟩:=aC (l:=u) (k:=n) byOmega
 obtain⟨u1,hu1⟩:=aC (l:=u) (k:=n1) byOmega
 obtain⟨u2,hu2⟩:=aC (l:=u) (k:=n2) byOmega
 have ct:=hv.cell (bG htop)
 have cv2:=hv.cell (bG hv2)
 have cun:=hu.cell (bG ((jO hP byOmega).trans hun))
 have cu1:=hu.cell (bG ((jO hP byOmega).trans hu1))
 have cu2:=hu.cell (bG ((jO hP byOmega).trans hu2))
 have topl:top < 1000000000:=he.lv.get htop
 have v2l:v2 < 1000000000:=he.lv.get hv2
 have unl:un < 1000000000:=he.lu.get hun
 have u1l:u1 < 1000000000:=he.lu.get hu1
 have u2l:u2 < 1000000000:=he.lu.get hu2
 have gt:v.getD (n - 1) 0=top:=by rw[show n - 1=n1 by omega];exact aO htop
 have gv2:v.getD (n - 2) 0=v2:=by rw[show n - 2=n2 by omega];exact aO hv2
 have gun:u.getD n 0=un:=aO hun
 have gu1:u.getD (n - 1) 0=u1:=by rw[show n - 1=n1 by omega];exact aO hu1
 have gu2:u.getD (n - 2) 0=u2:=by rw[show n - 2=n2 by omega];exact aO hu2
 have aj9:500000000≤top:=by have:=he.half;rw[gt] at this;unfold LB at this;omega
 revert aj9
 revert gu2
 revert gu1
 revert gun
 revert gv2
 revert gt
 revert u2l
 revert u1l
 revert unl
 revert v2l
 revert topl
 revert cu2
 revert cu1
 revert cun
 revert cv2
 revert ct
 revert hu2
 revert u2
 revert hu1
 revert u1
 revert hun
 revert un
 revert hv2
 revert v2
 revert htop
 revert top
 exact hq.out):p:=h ⟨k⟩
theorem Z9 {p q:Prop} (k:q) (h:Mhid q→p:=by
 intro hq
 have hmf:∀ (fn:Fn) (first cap:Array Value) (w:World),(Instr.makeFunc fn first cap).run Tryz.prog w = .ok (.func fn first cap) w:=fun _ _ _ _=>rfl
 revert hmf
 exact hq.out):p:=h ⟨k⟩
theorem Ye {p:Prop} (h:p:=by
 exact⟨by rw[HB.out],by simp only[World.drewN_drewN]; exact⟨_,rfl⟩⟩):p:=h
theorem Yf {p q:Prop} (k:q) (h:Mhid q→p:=by
 intro hq
 have hdd:decide (k < (dig b).length)=false:=decide_eq_false hlt2
 have HY:=Ac (dQ (l:=dig b) (k:=k) byOmega)
 revert HY
 revert hdd
 exact hq.out):p:=h ⟨k⟩
theorem Yj {p q:Prop} (k:q) (h:Mhid q→p:=by
 intro hq
 rw[Nat.mul_one] at ex
 have hxl:x < 1000000000:=(aS a).get hx'
 have HX:=Ac (aO hx')
 revert HX
 revert hxl
 revert ex
 exact hq.out):p:=h ⟨k⟩
theorem Yk {p q:Prop} (k:q) (h:Mhid q→p:=by
 intro hq
 have e1:((j+1:Nat):Int) - 1=(j:Int):=byOmega
 rw[e1]
 clear e1
 exact hq.out):p:=h ⟨k⟩
theorem Ym {p:Prop} (h:p:=by
 have HF:=Ac (show aU g.au g.infos.length x=2 by unfold aU dU; rw[if_neg k1,if_pos k2,if_neg byOmega,if_pos byOmega])
 clear k1 k2
 go_in
 exact Zl):p:=h
theorem Yn {p:Prop} (h:p:=by
 have hr:=HO.out.set k (.int .u32 (e:Int))
 rw[bH,he] at hr
 exact hr):p:=h
theorem Yr {p q:Prop} (k:q) (h:Mhid q→p:=by
 intro hq
 refine(iV w F _ _ a b A B X HVA.out HVB.out hla hlb byOmega byOmega byOmega byOmega HX.out.1 HX.out.2.2).mono ?_
 exact hq.out):p:=h ⟨k⟩
theorem Yu {p:Prop} (h:p:=by
 refine⟨k+1,l.set k ((cr+p) % 1000000000),(cr+p) / 1000000000,byOmega,by go_num,by go_num,byOmega,by rw[List.length_set,HL.out],HM.out.set (by show _ < 1000000000; omega),pO (by rw[HL.out]; exact hlt) HI.out (by rw[HX.out,← HP.out]; show _+1000000000*_=_; omega),?_,hbel.setCell (Nat.le_refl _) _⟩
 have hr:=HO.out.set k (.int .u32 (((cr+p) % 1000000000:Nat):Int))
 rw[bH] at hr
 exact hr):p:=h
theorem Yv {p:Prop} (h:p:=by
 refine⟨k+1,l.set k (cr % 1000000000),cr / 1000000000,byOmega,by go_num,by go_num,byOmega,by rw[List.length_set,HL.out],HM.out.set (by show _ < 1000000000; omega),pO (by rw[HL.out]; exact hlt) HI.out (by rw[HX.out,Nat.zero_mul]; show _+1000000000*_=_; omega),?_,hbel.setCell (Nat.le_refl _) _⟩
 have hr:=HO.out.set k (.int .u32 ((cr % 1000000000:Nat):Int))
 rw[bH] at hr
 exact hr):p:=h
theorem Yw {p:Prop} (h:p:=by
 have:=hrow.limbs (F:=fun b=>w.heap.size≤b) (Nat.le_refl _) (n:=l.length) (c:=(dig a).length) (Nat.le_refl _) (by rw[HL.out]; exact Nat.le_refl _)
 rw[List.take_length,HL.out] at this
 exact this):p:=h
theorem Yy {p:Prop} (h:p:=by
 have HF:=Ac (show aU g.au g.infos.length x=3 by unfold aU dU; rw[if_neg k1,if_pos k2,if_pos byOmega])
 clear k1 k2
 go_in
 exact Zl):p:=h
theorem Yz {p:Prop} (h:p:=by
 exact⟨none,0,rfl,Nat.le_refl _,fun h=>absurd h ay⟩):p:=h
theorem YA {p:Prop} (h:p:=by
 rw[List.take_of_length_le byOmega,List.take_of_length_le byOmega] at h3
 exact h3):p:=h
theorem YB {p:Prop} (h:p:=by
 go_in
 go_wp2
 go_ret
 exact⟨_,rfl,(Below.refl _ _).alloc (Nat.le_refl _) _,by rw[HD.out]; rfl⟩):p:=h
theorem YC {p q:Prop} (k:q) (h:Mhid q→p:=by
 intro hq
 have HF:=Ac (show aU g.au g.infos.length x=3 by unfold aU ig; rw[if_neg k1,if_neg k2,if_pos k3,if_pos byOmega])
 revert HF
 exact hq.out):p:=h ⟨k⟩
theorem YD {p:Prop} (h:p:=by
 go_wp2
 refine bodyPost_ret (nV rfl _ _ _) rfl ?_
 exact⟨⟨p,q,A,B,C,D,rfl,HLE.out,a1,a2,b1,b2,c1,c2,d1,d2⟩,rfl⟩):p:=h
theorem YE {p q:Prop} (k:q) (h:Mhid q→p:=by
 intro hq
 have HF:=Ac (show aU g.au g.infos.length x=3 by unfold aU bZ; rw[if_pos k1,if_pos byOmega])
 revert HF
 exact hq.out):p:=h ⟨k⟩
theorem YG {p:Prop} (h:p:=by
 have hne:((x:Int) != (y:Int))=true:=aB
 have HO:=Ac (show dw x y=dw a b by rw[HE.out]; first | exact iI h | exact lQ h)
 go_wp2
 go_quiet (fail)
 go_wp2
 go_quiet ((go_at_call 196; exact adU (sK _ _ _)))
 go_wp2
 go_ret
 exact⟨by rw[HE.out]; rw[← HE.out,← HO.out]; rfl,(by simp only[World.drewN_drewN]; exact⟨_,rfl⟩)⟩):p:=h
theorem YI {p:Prop} (h:p:=by
 go_ret
 exact⟨by rw[HE.out]; first | rfl | (rw[HE2.out]; rfl),0,rfl⟩):p:=h
theorem YK {p:Prop} (h:p:=by
 subst h0
 go_wp2
 go_ret
 refine⟨_,rfl,hbel,?_⟩
 have h2:=HD.out
 rw[bM,List.append_nil] at h2
 unfold Aj
 rw[← h2]
 exact iU HO.out fun b hb=>(HO.out.lt b hb).1):p:=h
theorem YR {p q:Prop} (k:q) (h:Mhid q→p:=by
 intro hq
 rw[Nat.mul_one] at ey
 have hyl:y < 1000000000:=(aS b).get hy'
 have HY:=Ac (aO hy')
 revert HY
 revert hyl
 revert ey
 exact hq.out):p:=h ⟨k⟩
theorem YS {p q:Prop} (k:q) (h:Mhid q→p:=by
 intro hq
 refine⟨k+1,l.set k s,1,byOmega,by go_num,rfl,byOmega,by rw[List.length_set,HL.out],HM.out.set (by have:=HS.out; show _ < 1000000000; omega),wM (by rw[HL.out]; exact hlt) HI.out (by have:=HS.out; rw[HX.out,HY.out]; show _=_+1000000000*_; omega),?_,hbel.setCell (Nat.le_refl _) _⟩
 have hr:=HO.out.set k (.int .u32 (s:Int))
 rw[bH] at hr
 revert hr
 exact hq.out):p:=h ⟨k⟩
theorem YT {p q:Prop} (k:q) (h:Mhid q→p:=by
 intro hq
 refine⟨k+1,l.set k s,0,byOmega,by go_num,rfl,byOmega,by rw[List.length_set,HL.out],HM.out.set (by have:=HS.out; show _ < 1000000000; omega),wM (by rw[HL.out]; exact hlt) HI.out (by have:=HS.out; rw[HX.out,HY.out]; show _=_+1000000000*_; omega),?_,hbel.setCell (Nat.le_refl _) _⟩
 have hr:=HO.out.set k (.int .u32 (s:Int))
 rw[bH] at hr
 revert hr
 exact hq.out):p:=h ⟨k⟩
theorem YW {p q:Prop} (k:q) (h:Mhid q→p:=by
 intro hq
 have HD:=Ac (show n.next.drop j=ch :: n.next.drop (j+1) by rw[List.drop_eq_getElem_cons hjt]; congr 1; simpa [hjt] using hch)
 revert HD
 exact hq.out):p:=h ⟨k⟩
theorem Y0 {p:Prop} (h:p:=by
 unfold Oper.wp execOp
 simp only[ho,resolve,invoke,builtin,Sem.run_bind,Sem.run_pure,Result.andThen_ok,List.map_toArray,List.map_cons,List.map_nil,hs,hx,hrun]
 refine hK _ _ (h _ w' h2 ⟨A',cap,rfl,h3,fun h0=>?_⟩)
 obtain⟨e,rest,hrow⟩:=h4 h0
 exact⟨_,rest,e,Nat.le_refl _,hrow⟩):p:=h
theorem Y2 {p q:Prop} (k:q) (h:Mhid q→p:=by
 intro hq
 obtain⟨e,he⟩:∃ e:Nat,(e:Int)=rm:=⟨rm.toNat,byOmega⟩
 have hdd:decide (rm < 0)=false:=decide_eq_false hneg
 have HE:=Ac he
 clear he
 revert HE
 revert hdd
 revert e
 exact hq.out):p:=h ⟨k⟩
theorem Y6 {p:Prop} (h:p:=by
 go_wp2
 go_quiet (fail)
 go_wp2
 go_ret
 exact⟨by rw[HF.out]; rfl,n+nq,by rw[World.drewN_drewN]⟩):p:=h
theorem Y8 {p:Prop} (h:p:=by
 go_in
 go_wp2_with (first | ((with_reducible refine(acV _ _).mono ?_); rintro e w' ⟨rfl,rfl⟩))
 go_ret
 exact⟨by rw[HO.out]; rfl,rfl⟩):p:=h
theorem Y9 {p:Prop} (h:p:=by
 go_wp2
 go_ret
 exact⟨by rw[HE.out]; rfl,(by simp only[World.drewN_drewN]; exact⟨_,rfl⟩)⟩):p:=h
theorem zaa {p:Prop} (h:p:=by
 go_in
 go_wp2_with (first | ((with_reducible refine(vK _ _).mono ?_); rintro e w' ⟨rfl,rfl⟩))
 go_ret
 exact⟨by rw[HO.out]; rfl,rfl⟩):p:=h
theorem zad {p:Prop} (h:p:=by
 have h1:=hinv
 rw[List.drop_zero,List.drop_zero,aZ] at h1
 rw[h1]
 exact⟨by rw[Nat.mul_comm,Nat.add_comm,Nat.add_mul_div_right _ _ byOmega,Nat.div_eq_of_lt hr,Nat.zero_add],by rw[Nat.mul_comm,Nat.add_comm,Nat.add_mul_mod_self_right,Nat.mod_eq_of_lt hr]⟩):p:=h
theorem zae {p:Prop} (h:p:=by
 have hd:((x:Int)==0)=false:=aB
 have HZ:=Ac hz
 clear hz
 go_wp2
 go_ret
 exact⟨by rw[← HT.out,HS.out,if_neg HZ.out]; rfl,rfl⟩):p:=h
theorem zai {p:Prop} (h:p:=by
 refine⟨j,_,q.set j dd,by go_num,HST.out,byOmega,HU4.out.other (a:=⟨w2.heap.size,j,none⟩) aB _,?_,HV4.out.other (a:=⟨w2.heap.size,j,none⟩) aB _,hb4.setCell aB _,aB⟩
 have hr:=HQ4.out.set j (.int .u32 (dd:Int))
 rw[bH] at hr
 exact hr):p:=h
theorem zaq {p q:Prop} (k:q) (h:Mhid q→p:=by
 intro hq
 have HL:=Ac hlen
 have HI:=Ac hinv
 have HO:=Ac hrow
 have HM:=Ac hlim
 have hold:=aJ hbel
 revert hold
 revert HM
 revert HO
 revert HI
 revert HL
 exact hq.out):p:=h ⟨k⟩
theorem zar {p q:Prop} (k:q) (h:Mhid q→p:=by
 intro hq
 obtain⟨e,he⟩:∃ e:Nat,(e:Int)=rm+1000000000:=⟨(rm+1000000000).toNat,byOmega⟩
 have HE:=Ac he
 clear he
 revert HE
 revert e
 exact hq.out):p:=h ⟨k⟩
theorem zau {p:Prop} (h:p:=by
 rintro e w' ⟨rfl,rfl⟩
 go_wp2
 go_ret
 refine⟨_,rfl,hbel,?_⟩
 have:=fG HO.out HM.out (F:=fun b=>w.heap.size≤b) (Nat.le_refl _) (c:=(dig a).length+(dig b).length) HL.out (Nat.le_refl _)
 rw[HF.out] at this
 exact this):p:=h
theorem zaw {p:Prop} (h:p:=by
 have h1:=hinv
 rw[hke,List.take_length,List.take_of_length_le byOmega,List.take_of_length_le hlb,aZ,aZ,HR.out] at h1
 have h2:=gB hlim
 rw[hlen] at h2
 have h3:=kH a
 have h4:=HRA.out
 have:=agL h2 byOmega byOmega h1
 omega):p:=h
theorem zax {p:Prop} (h:p:=by
 have hd:(ch != next)=true:=by simp[hne]
 have HF:=Ac (show bK g.nodes (f+1) a depth deep=(-1,dp) by rw[HV.out,HD.out]; simp[bJ,hne])
 clear hne
 go_wp2
 go_ret
 exact⟨by rw[HF.out]; rfl,by rw[HF.out]; exact hrw,hgr⟩):p:=h
theorem zaz {p:Prop} (h:p:=by
 have:=hrow.limbs (F:=fun b=>w.heap.size≤b) (Nat.le_refl _) (n:=l.length) (c:=(dig a).length+(dig b).length) (Nat.le_refl _) (by rw[HL.out]; exact Nat.le_refl _)
 rw[List.take_length,HL.out] at this
 exact this):p:=h
theorem zaA {p q:Prop} (k:q) (h:Mhid q→p:=by
 intro hq
 have t2:(q+D != 0)=true:=by simp[hD]
 have hD':0 < q+D:=byOmega
 obtain⟨k,hk⟩:∃ k,(p+A) / (q+C)=k:=⟨_,rfl⟩
 obtain⟨k2,hk2⟩:∃ k,(p+B) / (q+D)=k:=⟨_,rfl⟩
 have kn:0≤k:=by rw[← hk];exact Int.ediv_nonneg pA qC
 have k2n:0≤k2:=by rw[← hk2];exact Int.ediv_nonneg pB qD
 have kle:k≤p+A:=by rw[← hk];exact Int.ediv_le_self _ pA
 have k2le:k2≤p+B:=by rw[← hk2];exact Int.ediv_le_self _ pB
 revert k2le
 revert kle
 revert k2n
 revert kn
 revert hk2
 revert k2
 revert hk
 revert k
 revert hD'
 revert t2
 exact hq.out):p:=h ⟨k⟩
theorem zaC {p q:Prop} (k:q) (h:Mhid q→p:=by
 intro hq
 obtain⟨f,hf⟩:=named (LB / (t+1))
 have hfit:=rW hn hb00
 have ad6:=qH (a:=a) (f:=f) byOmega
 rw[gt,← hf] at hfit
 have HDB:=Ac (fun (v:List Nat) (h1:v.length=n) (h2:Limbs v) (h3:aH v=b*f)=>(by have:=adG (b:=b) (v:=v) hn byOmega h1 h2 (by rw[gt,← hf]; exact h3); rw[gt,← hf] at this; exact this:CZ v n b f))
 revert HDB
 revert hfit
 revert ad6
 revert hf
 revert f
 exact hq.out):p:=h ⟨k⟩
theorem zaE {p:Prop} (h:p:=by
 have HD:=Ac (show decide (n=1)=false from decide_eq_false fun h=>h1 (by rw[h,jl]; rfl))
 have hd:(((dig n).length:Int)==1)=false:=aB
 clear h1
 go_in
 go_wp2
 go_ret
 exact⟨by rw[HD.out]; rfl,rfl⟩):p:=h
theorem zaF {p:Prop} (h:p:=by
 refine⟨_,rfl,hbel,_,by rw[← HF.out.2]; rfl,?_⟩
 have:=fG HO.out HM.out (F:=fun b=>w.heap.size≤b) (Nat.le_refl _) (c:=(dig a).length) HL.out (Nat.le_refl _)
 rw[HF.out.1] at this
 exact this):p:=h
theorem zaJ {p q:Prop} (k:q) (h:Mhid q→p:=by
 intro hq
 obtain⟨z,hz⟩:=aC (l:=l) (k:=k) byOmega
 have rc:=hrow.cell (bG hz)
 have fc:=hrow.frozen k
 revert fc
 revert rc
 revert hz
 revert z
 exact hq.out):p:=h ⟨k⟩
theorem zaL {p:Prop} (h:p:=by
 have:=HS.out
 rw[HX.out,HY.out,← HP.out]
 show _=_+1000000000*_
 omega):p:=h
theorem zaO {p:Prop} (h:p:=by
 rintro e w' ⟨rfl,rfl⟩
 go_wp2
 go_ret
 refine⟨_,rfl,hbel,?_⟩
 have:=fG HO.out HM.out (F:=fun b=>w.heap.size≤b) (Nat.le_refl _) HL.out (Nat.le_refl _)
 rw[HF.out] at this
 exact this):p:=h
theorem zaQ {p:Prop} (h:p:=by
 go_ret
 exact⟨_,rfl,aY _ _ _ _,by rw[HF.out]; rfl⟩):p:=h
theorem zaT {p:Prop} (h:p:=by
 have h1:=gB ((aS n).drop (j+1))
 have h2:LB ^ ((dig n).drop (j+1)).length≤LB ^ 1:=Nat.pow_le_pow_right aA (by rw[List.length_drop]; omega)
 have h3:LB ^ 1=1000000000:=aA
 omega):p:=h
theorem zaW {p q:Prop} (k:q) (h:Mhid q→p:=by
 intro hq
 have hr:=HRW.out.set (j+k) (.int .u32 (s:Int))
 rw[bH,set_mid HPP.out aaB] at hr
 have hss:=HS.out
 revert hss
 revert hr
 exact hq.out):p:=h ⟨k⟩
theorem zaY {p:Prop} (h:p:=by
 rw[HX.out,HY.out,HP.out,HQ.out]
 show(e:Int)+1000000000*_=_
 omega):p:=h
theorem za0 {p:Prop} (h:p:=by
 exact⟨_,rfl,hwz _ _ (Nat.le_refl _) hB,by unfold NmV; rw[HW.out]; exact AL.make rfl ((Aj.on (n:=m) HV.out (hkz _ byOmega)).mono (fun b hb _=>by omega)) (jG _ _ _ _)⟩):p:=h
theorem za2 {p q:Prop} (k:q) (h:Mhid q→p:=by
 intro hq
 have HB:=Ac (show rV q r v2 u2=false by rw[HBAD.out]; exact decide_eq_false byOmega)
 revert HB
 exact hq.out):p:=h ⟨k⟩
theorem za4 {p:Prop} (h:p:=by
 subst h0
 have HE:=Ac (show aH ((dig n).drop 0)=n by rw[List.drop_zero,aZ])
 generalize aH ((dig n).drop 0)=m at *
 go_wp2
 go_ret
 exact⟨by rw[← HE.out]; rfl,rfl⟩):p:=h
theorem za9 {p:Prop} (h:p:=by
 go_wp2
 go_ret
 have HF:bK g.nodes (f+1) a depth deep=(next,dp):=by rw[HV.out,List.drop_eq_nil_of_le byOmega];rfl
 exact⟨by rw[HF]; rfl,by rw[HF]; exact hrw,hgr⟩):p:=h
theorem zbb {p q:Prop} (k:q) (h:Mhid q→p:=by
 intro hq
 have t5:decide (1000000000≤abr (A - kc) (-(A - kc)) (B - kd) (-(B - kd)))=false:=decide_eq_false hmx
 have hn:=mt agP.2 hmx
 have n1:-1000000000 < A - kc:=byOmega
 have n2:A - kc < 1000000000:=byOmega
 have n3:-1000000000 < B - kd:=byOmega
 have n4:B - kd < 1000000000:=byOmega
 clear hn
 revert n4
 revert n3
 revert n2
 revert n1
 revert t5
 exact hq.out):p:=h ⟨k⟩
theorem zbe {p:Prop} (h:p:=by
 have HE:=Ac (lQ (l9 h))
 have HE2:=Ac (lQ h)
 have hnlt:decide ((dig a).length < (dig b).length)=false:=decide_eq_false byOmega
 clear hlen
 go_in
 go_wp2
 exact YI):p:=h
theorem zbi {p q:Prop} (k:q) (h:Mhid q→p:=by
 intro hq
 obtain⟨z,hz⟩:=aC (l:=l') (k:=k+m) (by rw[hmul.len]; omega)
 have rc:=hrow.cell (bG hz)
 have fc:=hrow.frozen (k+m)
 have hzl:z < 1000000000:=hmul.limbs.get hz
 have HZ:=Ac (aO hz)
 have hpb:=tX hxl hyl
 obtain⟨p,hp⟩:=named (x*y)
 have hpI:(x:Int)*(y:Int)=(p:Int):=by rw[hp];simp
 rw[← hp] at hpb
 have HP:=Ac hp
 have hLl:k+m < (dig a).length+(dig b).length:=byOmega
 clear hz hp
 revert hLl
 revert HP
 revert hpb
 revert hpI
 revert p
 revert HZ
 revert hzl
 revert fc
 revert rc
 revert z
 exact hq.out):p:=h ⟨k⟩
theorem zbj {p q:Prop} (k:q) (h:Mhid q→p:=by
 intro hq
 have HB:=Ac (show rV q r v2 u2=true by rw[HBAD.out]; exact decide_eq_true ⟨c1,.inl c2⟩)
 have d1:decide ((r:Int) < 1000000000)=true:=decide_eq_true byOmega
 have d2:decide ((1000000000:Int)≤(q:Int))=true:=decide_eq_true byOmega
 revert d2
 revert d1
 revert HB
 exact hq.out):p:=h ⟨k⟩
theorem zbm {p:Prop} (h:p:=by
 have HF:=Ac (show bK g.nodes (f+1) a depth deep=(-1,rd) by rw[HV3.out,if_pos hng])
 go_wp2
 go_ret
 exact⟨by rw[HF.out]; rfl,by rw[HF.out]; exact afm,hgg⟩):p:=h
theorem zbn {p:Prop} (h:p:=by
 obtain⟨u,hu,hr⟩:=h
 exact⟨u,by rw[hs.cell hb hl]; exact hu,hr.keep hFG hs⟩):p:=h
theorem zbp {p:Prop} (h:p:=by
 rw[HX.out,HY.out,HP.out]
 show(e:Int)+1000000000*_=_
 omega):p:=h
theorem zbv {p:Prop} (h:p:=by
 go_ret
 exact⟨_,rfl,hbel.drew.trans (hb.mono hbel.size),by rw[HF.out]; rfl⟩):p:=h
theorem zby {p:Prop} (h:p:=by
 clear k1 k2 k3
 go_in
 exact Zl):p:=h
theorem zbA {p:Prop} (h:p:=by
 refine⟨0,l,0,byOmega,rfl,rfl,byOmega,?_,HO.out,hbel⟩
 have h:=HI.out
 exact⟨h.len,h.limbs,by have:=h.eq; simpa [aH] using this,h.zero⟩):p:=h
theorem zbH {p:Prop} (h:p:=by
 have HF:=Ac (show G=a by rw[HGC.out,hb0,Nat.gcd_zero_right])
 clear hb0
 go_wp2
 go_ret
 exact⟨_,rfl,hbel,by rw[HF.out]; exact HNA.out⟩):p:=h
theorem zbM {p:Prop} (h:p:=by
 have hd:((x:Int)==1)=false:=aB
 have H2:=Ac h2
 clear h2
 go_in
 go_wp2
 go_ret
 exact⟨by rw[HD.out,decide_eq_false H2.out]; rfl,rfl⟩):p:=h
theorem zbN {p:Prop} (h:p:=by
 exact⟨b0,a0,rfl,HB.out.ext (aK (Below.refl _ w) z0),HA.out.ext (aK (Below.refl _ w) z0),byOmega,by rw[HG.out,Nat.gcd_comm],hlb⟩):p:=h
theorem zbP {p q:Prop} (k:q) (h:Mhid q→p:=by
 intro hq
 obtain⟨p,hp⟩:=named (q*v2)
 have hpI:(q:Int)*(v2:Int)=(p:Int):=by rw[hp];simp
 rw[← hp] at hpb
 have HP:=Ac hp
 clear hp
 have hbad:rV q r v2 u2=decide (r < 1000000000∧(1000000000≤q∨r*1000000000+u2 < p)):=by unfold rV;rw[HP.out]
 have HBAD:=Ac hbad
 clear hbad
 revert HBAD
 revert HP
 revert hpb
 revert hpI
 revert p
 exact hq.out):p:=h ⟨k⟩
theorem zbQ {p:Prop} (h:p:=by
 have h1:=fG DY.out HQL.out (F:=Ext F w.heap.size) (.inr byOmega) (c:=la - n+1) HQN.out (Nat.le_refl _)
 rw[HQ.out] at h1
 exact h1):p:=h
theorem zbS {p:Prop} (h:p:=by
 clear hlen
 go_in
 go_wp2_with (go_at_call 195; ((with_reducible refine(yX _ _ _).mono ?_); rintro e w' ⟨rfl,rfl⟩))
 exact YI):p:=h
theorem zbT {p:Prop} (h:p:=by
 rw[bH,set_mid HPP.out hm2] at hr
 have hss:=HS.out
 rw[show(s:Int)=(x:Int)+(y:Int)+(o:Int) - 1000000000 by omega] at hr
 exact hr):p:=h
theorem zbU {p:Prop} (h:p:=by
 rw[HQ.out,HG.out.1]
 obtain⟨q',rfl⟩:∃ q',q=q'+1:=⟨q - 1,byOmega⟩
 rw[Nat.add_sub_cancel,Nat.add_mul,Nat.one_mul]
 omega):p:=h
theorem zbV {p q:Prop} (k:q) (h:Mhid q→p:=by
 intro hq
 obtain⟨n1,hn1⟩:∃ n1,n1+1=n:=⟨n - 1,byOmega⟩
 revert hn1
 revert n1
 exact hq.out):p:=h ⟨k⟩
theorem zbX {p q:Prop} (k:q) (h:Mhid q→p:=by
 intro hq
 obtain⟨x,hx'⟩:=aC hlt
 have ex:=hx k x hx'
 revert ex
 revert hx'
 revert x
 exact hq.out):p:=h ⟨k⟩
theorem zbY {p:Prop} (h:p:=by
 go_in
 go_wp2
 go_ret
 exact⟨rfl,rfl⟩):p:=h
theorem zb7 {p q:Prop} (k:q) (h:Mhid q→p:=by
 intro hq
 refine decide_eq_false ?_
 unfold dw
 exact hq.out):p:=h ⟨k⟩
theorem zb8 {p:Prop} (h:p:=by
 go_wp2
 go_ret
 refine⟨_,rfl,aY _ _ _ 0,?_⟩
 have h:=HP.out
 rw[List.take_of_length_le byOmega] at h
 rw[HV.out,h]
 rfl):p:=h
theorem zca {p q:Prop} (k:q) (h:Mhid q→p:=by
 intro hq
 have HB:=Ac (show rV q r v2 u2=true by rw[HBAD.out]; exact decide_eq_true ⟨c1,.inr c3⟩)
 have d3:decide ((r:Int)*1000000000+(u2:Int) < (p:Int))=true:=decide_eq_true byOmega
 revert d3
 revert HB
 exact hq.out):p:=h ⟨k⟩
theorem zce {p q:Prop} (k:q) (h:Mhid q→p:=by
 intro hq
 have hda:(((dig a).length:Int)==0)=false:=by have:=bI.2 ha0;exact beq_false_of_ne byOmega
 have hdb:(((dig b).length:Int)==0)=false:=by have:=bI.2 hb0;exact beq_false_of_ne byOmega
 revert hdb
 revert hda
 exact hq.out):p:=h ⟨k⟩
theorem zcf {p:Prop} (h:p:=by
 have HF:=Ac hF
 clear hF hinv hlim hlen hrow
 go_wp2
 go_ret
 exact⟨_,rfl,hbel,rfl,l,HL.out,HM.out,HF.out,HO.out⟩):p:=h
theorem zci {p:Prop} (h:p:=by
 exact⟨a0,b0,rfl,HA.out.ext (aK (Below.refl _ w) z0),HB.out.ext (aK (Below.refl _ w) z0),byOmega,HG.out,hla⟩):p:=h
theorem zck {p:Prop} (h:p:=by
 subst h0
 go_wp2
 go_ret
 exact⟨by rw[← HT.out]; rfl,rfl⟩):p:=h
theorem zcm {p q:Prop} (k:q) (h:Mhid q→p:=by
 intro hq
 obtain⟨x,hx'⟩:=aC (l:=dig a) (k:=j) byOmega
 obtain⟨y,hy'⟩:=aC (l:=dig b) (k:=j) byOmega
 have ex:=hx j x hx'
 have ey:=hy j y hy'
 revert ey
 revert ex
 revert hy'
 revert y
 revert hx'
 revert x
 exact hq.out):p:=h ⟨k⟩
theorem zcn {p:Prop} (h:p:=by
 obtain⟨y,hy⟩:=List.length_eq_one_iff.1 h1
 have h2:=aZ b
 rw[hy] at hx' h2
 simp at hx'
 simp[aH] at h2
 omega):p:=h
theorem zco {p q:Prop} (k:q) (h:Mhid q→p:=by
 intro hq
 have hpb:x*d≤999999999000000000:=Nat.le_trans (Nat.mul_le_mul (show x≤999999999 by omega) hd1) aA
 obtain⟨p,hp⟩:=named (x*d)
 have hpI:(x:Int)*(d:Int)=(p:Int):=by rw[hp];simp
 rw[← hp] at hpb
 have HP:=Ac hp
 clear hp
 revert HP
 revert hpb
 revert hpI
 revert p
 exact hq.out):p:=h ⟨k⟩
theorem zcq {p q:Prop} (k:q) (h:Mhid q→p:=by
 intro hq
 have T1:=Ac t1
 have ale:-2500000000≤qd:=byOmega
 have alf:qd≤2500000000:=byOmega
 revert alf
 revert ale
 revert T1
 exact hq.out):p:=h ⟨k⟩
theorem zcr {p:Prop} (h:p:=by
 exact⟨_,rfl,(aK (Below.refl _ w) z0).trans hb1,_,_,rfl,by rw[HS.out,nS]; exact HV.out,by rw[HS.out,nS]⟩):p:=h
theorem zcv {p:Prop} (h:p:=by
 go_wp2
 go_ret
 refine⟨_,rfl,hbel,?_⟩
 unfold Aj
 rw[HF.out]
 exact iU HO.out fun b hb=>(HO.out.lt b hb).1):p:=h
theorem zcw {p q:Prop} (k:q) (h:Mhid q→p:=by
 intro hq
 obtain⟨W,hW,hr,hWb,hWz⟩:=aP w 118 #[.bool false,.slice none 0 0,.slice none 0 0]
 rw[← hW]
 revert hWz
 revert hWb
 revert hr
 revert hW
 revert W
 exact hq.out):p:=h ⟨k⟩
theorem zcB {p:Prop} (h:p:=by
 rw[← hd,List.length_append] at h1
 omega):p:=h
theorem zcC {p q:Prop} (k:q) (h:Mhid q→p:=by
 intro hq
 have R1:=Ac r1
 have R2:=Ac r2
 have HL:=Ac hl
 have hb:((l1.length:Int) != (l2.length:Int))=false:=by simp[hl]
 revert hb
 revert HL
 revert R2
 revert R1
 exact hq.out):p:=h ⟨k⟩
theorem zcI {p:Prop} (h:p:=by
 have:bytes*n≤1000*1000000:=Nat.mul_le_mul hb hn
 omega):p:=h
theorem zcJ {p:Prop} (h:p:=by
 simp only[decide_eq_false_iff_not]
 rintro rfl
 have h3:=HX.out
 rw[HY.out] at h3
 cases h3
 exact he rfl):p:=h
theorem zcO {p:Prop} (h:p:=by
 have:=HE.out.abP HQ.out (HT.out.2.imp id fun h=>by rw[HG.out.2.2.2.2,HG.out.2.1]; exact h)
 omega):p:=h
theorem zcQ {p q:Prop} (k:q) (h:Mhid q→p:=by
 intro hq
 have HSU:=Ac (BL.start (U:=U0) HDV.out HN.out HLA.out hlb hul ad7 hun)
 have hB2:Below w.heap.size w w2:=(aK (Below.refl _ w) z0).trans (vP.trans (hbw2.mono hzz))
 revert hB2
 revert HSU
 exact hq.out):p:=h ⟨k⟩
theorem zcU {p:Prop} (h:p:=by
 have h1:=hinv
 rw[List.take_of_length_le (l:=dig a) hla,aZ] at h1
 exact aay hlim hlen h1 HT.out):p:=h
theorem zcX {p q:Prop} (k:q) (h:Mhid q→p:=by
 intro hq
 have hxl:x < 1000000000:=(aS a).get hx'
 have hyl:y < 1000000000:=(aS b).get hy'
 have HX:=Ac hx'
 have HY:=Ac hy'
 refine Yk ?_
 revert HY
 revert HX
 revert hyl
 revert hxl
 exact hq.out):p:=h ⟨k⟩
theorem zcY {p q:Prop} (k:q) (h:Mhid q→p:=by
 intro hq
 refine(IH.out q (depth+1) dp wr bd _ (HG.out.on (Same.adK hgr)) hrw byOmega byOmega byOmega aiM aiN).mono ?_
 exact hq.out):p:=h ⟨k⟩
theorem zc0 {p:Prop} (h:p:=by
 rw[Nat.mul_one] at this
 rw[Addr.add_lit]
 exact this):p:=h
theorem zc5 {p:Prop} (h:p:=by
 rw[Nat.div_eq_of_lt HLT.out]
 exact Aj.zero _ _ _ _):p:=h
theorem zc9 {p:Prop} (h:p:=by
 go_wp2
 go_ret
 exact⟨by rw[HE.out]; rfl,q,rfl⟩):p:=h
open Lib renaming hid → Ac
open Go.RowKit
abbrev Ag:=Nat→Prop
structure Same (F:Ag) (w w':World):Prop where
 size:w.heap.size≤w'.heap.size
 block:∀ b,F b→b < w.heap.size→w'.heap[b]? = w.heap[b]?
section
variable {F G:Ag} {w w' w'':World}
theorem Same.cell (h:Same F w w') {b:Nat} (hb:F b) (hl:b < w.heap.size) (o:Nat):w'.cell? ⟨b,o,none⟩=w.cell? ⟨b,o,none⟩:=World.cell?_of_block (w:=w) (h.block b hb hl)
theorem Same.refl (F:Ag) (w:World):Same F w w:=⟨Nat.le_refl _,fun _ _ _=>rfl⟩
theorem Same.trans (h:Same F w w') (k:Same F w' w''):Same F w w'':=⟨Nat.le_trans h.size k.size,fun i hi hl=>(k.block i hi (Nat.lt_of_lt_of_le hl h.size)).trans (h.block i hi hl)⟩
theorem Below.same' (h:Below w.heap.size w w') (F:Ag):Same F w w':=⟨h.size,fun b _ hl=>h.block b hl⟩
theorem Same.alloc (F:Ag) (w:World) (o:Obj):Same F w (w.alloc o):=⟨ay,fun b _ hl=>Below.heap_alloc w o b hl⟩
theorem Same.drewN (F:Ag) (w:World) (n:Nat):Same F w (w.drewN n):=⟨Nat.le_refl _,fun _ _ _=>rfl⟩
theorem Same.setCell (F:Ag) (w:World) {p:Addr} (hp:¬ F p.block) (v:Value):Same F w (w.setCell p v) :=
 ⟨ay,fun b hb _=>Below.heap_setCell w p v b (fun e=>hp (e▸hb))⟩
end
theorem aC {α:Type} {l:List α} {k:Nat} (h:k < l.length):∃ x,l[k]? = some x:=⟨l[k],by simp[h]⟩
theorem aI {α:Type} {l:List α} {k:Nat} {x:α} (h:l[k]? = some x):k < l.length:=by
 rcases Nat.lt_or_ge k l.length with h1 | h1
 ·exact h1
 ·rw[List.getElem?_eq_none h1] at h;cases h
theorem take_snoc {α:Type} {l:List α} {k:Nat} {x:α} (h:l[k]? = some x):l.take (k+1)=l.take k ++ [x]:=by
 rw[List.take_succ_eq_append_getElem (aI h)];congr 2;have:=aI h;simpa [this] using h
def BP {α:Type} (sz:Nat) (E:World→Ag→Nat→Nat→α→Prop) (w:World) (F:Ag) (v:Value) (l:List α):Prop :=
 ∃ A c,v = .slice A l.length c∧l.length≤c∧(0 < l.length→∃ b o,A=some ⟨b,o,none⟩∧F b∧b < w.heap.size∧∀ k x,l[k]? = some x→E w F b (o+k*sz) x)
theorem BP.keep {α:Type} {sz:Nat} {E:World→Ag→Nat→Nat→α→Prop} {w w':World} {F G:Ag} {v:Value} {l:List α}
  (h:BP sz E w F v l) (hFG:∀ b,F b→b < w.heap.size→G b) (hsz:w.heap.size≤w'.heap.size) (hE:∀ b o x,x∈l→F b→b < w.heap.size→E w F b o x→E w' G b o x):BP sz E w' G v l:=by
 obtain⟨A,c,rfl,hc,hr⟩:=h;refine⟨A,c,rfl,hc,fun h0=>?_⟩;obtain⟨b,o,rfl,hb,hl,hx⟩:=hr h0;exact⟨b,o,rfl,hFG b hb hl,Nat.lt_of_lt_of_le hl hsz,fun k x hk=>hE b _ x (List.mem_of_getElem? hk) hb hl (hx k x hk)⟩
def iE (k:IntKind) (w:World) (_:Ag) (b o:Nat) (x:Int):Prop:=w.cell? ⟨b,o,none⟩=some (.int k x)
def uJ (w:World) (_:Ag) (b o:Nat) (x:Bool):Prop:=w.cell? ⟨b,o,none⟩=some (.bool x)
def yg {α:Type} (S:World→Ag→Value→α→Prop) (w:World) (F:Ag) (b o:Nat) (x:α):Prop:=∃ v,w.cell? ⟨b,o,none⟩=some v∧S w F v x
def Ah (w:World) (F:Ag) (v:Value) (l:List Int):Prop:=BP 1 (iE .i64) w F v l
def AU (w:World) (F:Ag) (v:Value) (l:List Bool):Prop:=BP 1 uJ w F v l
def Bc (w:World) (F:Ag) (v:Value) (l:List (List Int)):Prop:=BP 1 (yg Ah) w F v l
theorem Ah.keep {w w':World} {F G:Ag} {v:Value} {l:List Int} (h:Ah w F v l) (hFG:∀ b,F b→b < w.heap.size→G b) (hs:Same F w w'):Ah w' G v l :=
 BP.keep h hFG hs.size fun b o x _ hb hl hx=>by unfold iE at *; rw[hs.cell hb hl]; exact hx
theorem AU.keep {w w':World} {F G:Ag} {v:Value} {l:List Bool} (h:AU w F v l) (hFG:∀ b,F b→b < w.heap.size→G b) (hs:Same F w w'):AU w' G v l :=
 BP.keep h hFG hs.size fun b o x _ hb hl hx=>by unfold uJ at *; rw[hs.cell hb hl]; exact hx
theorem Bc.keep {w w':World} {F G:Ag} {v:Value} {l:List (List Int)} (h:Bc w F v l) (hFG:∀ b,F b→b < w.heap.size→G b) (hs:Same F w w'):Bc w' G v l :=
 BP.keep h hFG hs.size fun b o x _ hb hl hx=>by
  obtain⟨u,hu,hr⟩:=hx;exact⟨u,by rw[hs.cell hb hl]; exact hu,hr.keep hFG hs⟩
structure Nd where
 kind:Int
 aF:Int
 info:Int
 next:List Int
 weights:List Int
 pay:List Int
 deriving Inhabited,DecidableEq
structure Inf where
 aF:Int
 actions:Int
 deriving Inhabited,DecidableEq
structure Gm where
 au:Int
 nodes:List Nd
 infos:List Inf
 deriving Inhabited,DecidableEq
structure Dw (w:World) (F:Ag) (b o:Nat) (n:Nd):Prop where
 c0:w.cell? ⟨b,o,none⟩=some (.int .i64 n.kind)
 c1:w.cell? ⟨b,o+1,none⟩=some (.int .i64 n.aF)
 c2:w.cell? ⟨b,o+2,none⟩=some (.int .i64 n.info)
 c3:yg Ah w F b (o+3) n.next
 c4:yg Ah w F b (o+4) n.weights
 c5:yg Ah w F b (o+5) n.pay
structure DR (w:World) (_:Ag) (b o:Nat) (n:Inf):Prop where
 c0:w.cell? ⟨b,o,none⟩=some (.int .i64 n.aF)
 c1:w.cell? ⟨b,o+1,none⟩=some (.int .i64 n.actions)
theorem qI {w w':World} {F G:Ag} {b o:Nat} {l:List Int} (h:yg Ah w F b o l) (hFG:∀ b,F b→b < w.heap.size→G b) (hs:Same F w w') (hb:F b) (hl:b < w.heap.size):yg Ah w' G b o l:=by
 exact zbn
theorem Dw.keep {w w':World} {F G:Ag} {b o:Nat} {n:Nd} (h:Dw w F b o n) (hFG:∀ b,F b→b < w.heap.size→G b) (hs:Same F w w') (hb:F b) (hl:b < w.heap.size):Dw w' G b o n :=
 ⟨by rw[hs.cell hb hl]; exact h.c0,by rw[hs.cell hb hl]; exact h.c1,by rw[hs.cell hb hl]; exact h.c2,qI h.c3 hFG hs hb hl,qI h.c4 hFG hs hb hl,qI h.c5 hFG hs hb hl⟩
def AP (w:World) (F:Ag) (v:Value) (l:List Nd):Prop:=BP 6 Dw w F v l
def A8 (w:World) (F:Ag) (v:Value) (l:List Inf):Prop:=BP 2 DR w F v l
theorem AP.keep {w w':World} {F G:Ag} {v:Value} {l:List Nd} (h:AP w F v l) (hFG:∀ b,F b→b < w.heap.size→G b) (hs:Same F w w'):AP w' G v l :=
 BP.keep h hFG hs.size fun _ _ _ _ hb hl hx=>hx.keep hFG hs hb hl
theorem A8.keep {w w':World} {F G:Ag} {v:Value} {l:List Inf} (h:A8 w F v l) (hFG:∀ b,F b→b < w.heap.size→G b) (hs:Same F w w'):A8 w' G v l :=
 BP.keep h hFG hs.size fun _ _ _ _ hb hl hx=>⟨by rw[hs.cell hb hl]; exact hx.c0,by rw[hs.cell hb hl]; exact hx.c1⟩
def AB (w:World) (F:Ag) (v:Value) (g:Gm):Prop :=
 ∃ vn vi,v = .agg #[.int .i64 g.au,vn,vi]∧AP w F vn g.nodes∧A8 w F vi g.infos
theorem AB.keep {w w':World} {F G:Ag} {v:Value} {g:Gm} (h:AB w F v g) (hFG:∀ b,F b→b < w.heap.size→G b) (hs:Same F w w'):AB w' G v g:=by
 obtain⟨vn,vi,rfl,hn,hi⟩:=h;exact⟨vn,vi,rfl,hn.keep hFG hs,hi.keep hFG hs⟩
def Row (w:World) (b:Nat) (t:TypeId) (vs:List Value):Prop:=w.heap[b]? = some (.cells vs.toArray t (0,0))
section
variable {w w':World} {b:Nat} {t:TypeId} {vs:List Value}
theorem Row.cell (h:Row w b t vs) {i:Nat} {v:Value} (hi:vs[i]? = some v):w.cell? ⟨b,i,none⟩=some v:=by
 unfold Row at h;simp[World.cell?,h,hi]
theorem Row.frozen (h:Row w b t vs) (i:Nat):w.frozen? ⟨b,i,none⟩=false:=by
 unfold Row at h;simp[World.frozen?,h]
theorem Row.lt (h:Row w b t vs):b < w.heap.size:=by
 obtain⟨hlt,_⟩:=Array.getElem?_eq_some_iff.1 h;exact hlt
theorem Row.of_block (h:Row w b t vs) (e:w'.heap[b]? = w.heap[b]?):Row w' b t vs:=e.trans h
theorem Row.set (h:Row w b t vs) (i:Nat) (v:Value):Row (w.setCell ⟨b,i,none⟩ v) b t (vs.set i v):=by
 unfold Row at *;simp[World.setCell,Array.getElem?_modify,h]
theorem Row.other (h:Row w b t vs) {a:Addr} (ha:b≠a.block) (v:Value):Row (w.setCell a v) b t vs:=h.of_block (Below.heap_setCell _ _ _ _ ha)
theorem sto {W:World} {a:Addr} {v:Value} (hw:W=w.setCell a v) (h:Row w b t vs) (ha:b≠a.block):Row W b t vs:=hw▸h.other ha v
theorem ste {W:World} {i:Nat} {v:Value} (hw:W=w.setCell ⟨b,i,none⟩ v) (h:Row w b t vs):Row W b t (vs.set i v):=hw▸h.set i v
theorem stb {W w0:World} {B:Nat} {p:Addr} {v:Value} (hw:W=w.setCell p v) (h:Below B w0 w) (hp:B≤p.block):Below B w0 W:=hw▸h.setCell hp v
theorem Row.alloc (h:Row w b t vs) (o:Obj):Row (w.alloc o) b t vs:=h.of_block (Below.heap_alloc _ _ _ h.lt)
theorem Row.drew (h:Row w b t vs):Row w.drew b t vs:=h
theorem Row.below {B:Nat} (h:Row w b t vs) (hb:Below B w w') (hB:b < B):Row w' b t vs:=h.of_block (hb.block b hB)
theorem Row.new (w:World) (t:TypeId) (c:Array Value):Row (w.alloc (.cells c t)) w.heap.size t c.toList:=by
 unfold Row;show(w.heap.push _)[w.heap.size]? = _;simp
end
theorem Row.made (w:World) (z:Value) (n:Nat) (t:TypeId):Row (w.alloc (.cells (madeCells #[z] n) t)) w.heap.size t (List.replicate n z):=by
 have h:=Row.new w t (madeCells #[z] n);have e:(madeCells #[z] n).toList=List.replicate n z:=by
  apply List.ext_getElem?
  intro i;by_cases hi:i < n
  ·simp[madeCells,hi,Nat.mod_one]
  ·simp[madeCells,hi]
 rw[e] at h;exact h
def BF (w:World) (F:Ag) (v:Value) (n:Nd):Prop :=
 ∃ v3 v4 v5,v = .agg #[.int .i64 n.kind,.int .i64 n.aF,.int .i64 n.info,v3,v4,v5]∧Ah w F v3 n.next∧Ah w F v4 n.weights∧Ah w F v5 n.pay
theorem BF.keep {w w':World} {F G:Ag} {v:Value} {n:Nd} (h:BF w F v n) (hFG:∀ b,F b→b < w.heap.size→G b) (hs:Same F w w'):BF w' G v n:=by
 obtain⟨v3,v4,v5,rfl,h3,h4,h5⟩:=h;exact⟨v3,v4,v5,rfl,h3.keep hFG hs,h4.keep hFG hs,h5.keep hFG hs⟩
theorem Ah.on {w w':World} {F:Ag} {v:Value} {l:List Int} (h:Ah w F v l) (hs:Same F w w'):Ah w' F v l:=h.keep (fun _ h _=>h) hs
theorem AU.on {w w':World} {F:Ag} {v:Value} {l:List Bool} (h:AU w F v l) (hs:Same F w w'):AU w' F v l:=h.keep (fun _ h _=>h) hs
theorem Bc.on {w w':World} {F:Ag} {v:Value} {l:List (List Int)} (h:Bc w F v l) (hs:Same F w w'):Bc w' F v l:=h.keep (fun _ h _=>h) hs
theorem AP.on {w w':World} {F:Ag} {v:Value} {l:List Nd} (h:AP w F v l) (hs:Same F w w'):AP w' F v l:=h.keep (fun _ h _=>h) hs
theorem A8.on {w w':World} {F:Ag} {v:Value} {l:List Inf} (h:A8 w F v l) (hs:Same F w w'):A8 w' F v l:=h.keep (fun _ h _=>h) hs
theorem AB.on {w w':World} {F:Ag} {v:Value} {g:Gm} (h:AB w F v g) (hs:Same F w w'):AB w' F v g:=h.keep (fun _ h _=>h) hs
theorem BF.on {w w':World} {F:Ag} {v:Value} {n:Nd} (h:BF w F v n) (hs:Same F w w'):BF w' F v n:=h.keep (fun _ h _=>h) hs
theorem aK {B:Nat} {a w:World} (h:Below B a w) (n:Nat):Below B a (w.drewN n):=⟨h.os,h.tape,h.output,h.size,h.block⟩
theorem Row.dN {w:World} {b:Nat} {t:TypeId} {vs:List Value} (h:Row w b t vs) (n:Nat):Row (w.drewN n) b t vs:=h
theorem aJ {B:Nat} {w w':World} (h:Below B w w'):∀ b o,b < B→w'.cell? ⟨b,o,none⟩=w.cell? ⟨b,o,none⟩:=fun b o hb=>h.cell (p:=⟨b,o,none⟩) hb
theorem Row.ints {w:World} {b:Nat} {t:TypeId} {l:List Int} (h:Row w b t (l.map (Value.int .i64))) {F:Ag} (hF:F b) {c:Nat} (hc:l.length≤c):Ah w F (.slice (some ⟨b,0,none⟩) l.length c) l :=
 ⟨_,c,rfl,hc,fun _=>⟨b,0,rfl,hF,h.lt,fun k x hk=>by unfold iE; simp only[Nat.mul_one,Nat.zero_add]; exact h.cell (by simp[hk])⟩⟩
theorem Row.bools {w:World} {b:Nat} {t:TypeId} {l:List Bool} (h:Row w b t (l.map Value.bool)) {F:Ag} (hF:F b) {c:Nat} (hc:l.length≤c):AU w F (.slice (some ⟨b,0,none⟩) l.length c) l :=
 ⟨_,c,rfl,hc,fun _=>⟨b,0,rfl,hF,h.lt,fun k x hk=>by unfold uJ; simp only[Nat.mul_one,Nat.zero_add]; exact h.cell (by simp[hk])⟩⟩
theorem gG {P:Program} (w:World) {ops:Array Oper} {rest:List Oper} {o:Oper} {a:Act} {Q:Exit→Act→World→Prop}
  (hg:o.guard=none) (l c:Operand) (t:TypeId) (hop:o.op=Op.makeSlice t l c)
  (e:TypeId) (z:Value) (bytes:Nat) (ht:P.underlying t=some (.slice e)) (hinfo:(P.info? e).map (fun i=>(i.zero,i.size,i.bytes))=some (some z,1,bytes)) (hz1:z.cells = #[z])
  (n:Nat) (hl:a.eval l = .int .i64 (n:Int)) (hc:a.eval c = .int .i64 (n:Int)) (hn:n≤1000000) (hb:bytes≤1000)
  (hK:∀ w1,Below w.heap.size w w1→w1.heap.size=w.heap.size+1→Row w1 w.heap.size e (List.replicate n z) →
   wpList P ops Q rest (a.put o.dst (.slice (some ⟨w.heap.size,0,none⟩) n n)) w1) :
  wpList P ops Q (o :: rest) a w:=by
 refine wpList_plain hg fun K hK'=>?_
 have hbytes:bytes*n≤281474976710656:=by
  exact zcI
 have hrun:=run_make_row' (P:=P) t e z bytes ht hinfo hz1 .i64 .i64 n hbytes byOmega w;unfold Oper.wp;simp[execOp,hop,hl,hc,hrun,Result.andThen];have hbel:Below w.heap.size w (w.alloc (.cells (madeCells #[z] n) e)):=(Below.refl _ _).alloc (Nat.le_refl _) _;exact hK' _ _ (hK _ hbel ay (Row.made w z n e))
theorem Tryz.infoInt:(Tryz.prog.info? 3).map (fun i=>(i.zero,i.size,i.bytes))=some (some (.int .i64 0),1,8):=ak
theorem Tryz.infoBool:(Tryz.prog.info? 4).map (fun i=>(i.zero,i.size,i.bytes))=some (some (.bool false),1,1):=ak
theorem Tryz.infoInts:(Tryz.prog.info? 26).map (fun i=>(i.zero,i.size,i.bytes))=some (some (.slice none 0 0),1,24):=ak
def Ret (w:World) (R:Value→World→Prop) (e:Ending) (w':World):Prop:=∃ v,e = .returned v∧Below w.heap.size w w'∧R v w'
theorem lN {α:Type} {l:List α} {p:α→Bool} {k:Nat} {x:α} (h:l[k]? = some x) (hn:(l.take k).any p=false) (hx:p x=false):(l.take (k+1)).any p=false:=by
 rw[take_snoc h,List.any_append];simp[hn,hx]
def ug (l:List Int) (i:Int) (p:List Int):List Int:=l.foldl (fun p c=>p.set c.toNat i) p
def uK (nodes:List Nd):Nat→List Int
 | 0=>(List.replicate nodes.length 0).set 0 (-1)
 | k+1=>match nodes[k]? with
  | some n=>ug n.next k (uK nodes k)
  | none=>uK nodes k
def rY (nodes:List Nd):List Int:=uK nodes nodes.length
theorem aal (l:List Int) (i:Int) (p:List Int):(ug l i p).length=p.length:=by
 unfold ug;induction l generalizing p with
 | nil=>rfl
 | cons c l ih=>simp only[List.foldl_cons]; rw[ih]; simp
theorem acK (nodes:List Nd) (k:Nat):(uK nodes k).length=nodes.length:=by
 induction k with
 | zero=>simp[uK]
 | succ k ih =>
  unfold uK;split
  ·rw[aal,ih]
  ·exact ih
theorem afl {nodes:List Nd} {k:Nat} {n:Nd} (h:nodes[k]? = some n):uK nodes (k+1)=ug n.next k (uK nodes k):=by
 simp[uK,h]
def uM (roots:List Int) (l:List Bool):List Bool:=roots.foldl (fun l r=>l.set r.toNat true) l
def acL (par:List Int) (l:List Bool) (i:Nat):List Bool:=l.set i (l.getD i false||l.getD (par.getD i 0).toNat false)
def acM (par:List Int) (l:List Bool) (m:Nat):List Bool:=(List.range' 1 (m - 1)).foldl (acL par) l
def iR (nodes:List Nd) (roots:List Int):List Bool:=acM (rY nodes) (uM roots (List.replicate nodes.length false)) nodes.length
theorem acN (l:List Int) (p:List Bool):(uM l p).length=p.length:=by
 unfold uM;induction l generalizing p with
 | nil=>rfl
 | cons c l ih=>simp only[List.foldl_cons]; rw[ih]; simp
theorem ahi (par:List Int) (l:List Bool) (m:Nat) (h:1≤m):acM par l (m+1)=acL par (acM par l m) m:=by
 unfold acM;have:m+1 - 1=(m - 1)+1:=byOmega;rw[this,List.range'_concat,List.foldl_append];simp;rw[show 1+(m - 1)=m by omega]
theorem adJ (par:List Int) (l:List Bool) (m:Nat):(acM par l m).length=l.length:=by
 unfold acM;generalize List.range' 1 (m - 1)=r;induction r generalizing l with
 | nil=>rfl
 | cons c r ih=>simp only[List.foldl_cons]; rw[ih]; simp[acL]
def Em (nodes:List Nd):Prop:=∀ n∈nodes,∀ c∈n.next,0≤c∧c < (nodes.length:Int)
structure Small (g:Gm):Prop where
 nodes:g.nodes.length≤100
 infos:g.infos.length≤100
 next:∀ n∈g.nodes,n.next.length≤100
 weights:∀ n∈g.nodes,n.weights.length≤100
 pay:∀ n∈g.nodes,n.pay.length≤100
theorem je {α:Type} {l1 l2:List α} {k:Nat} {x:α} (h1:l1[k]? = some x) (h2:l2[k]? = some x) (h:l1.take k=l2.take k):l1.take (k+1)=l2.take (k+1):=by
 rw[take_snoc h1,take_snoc h2,h]
theorem bU (w:World) (F:Ag) (v1 v2:Value) (l1 l2:List Int) (h1:Ah w F v1 l1) (h2:Ah w F v2 l2) (hl1:l1.length < 1000000) (hl2:l2.length < 1000000) :
  Calls Tryz.prog 37 #[v1,v2] w fun e w'=>e = .returned (.bool (decide (l1=l2)))∧∃ n,w'=w.drewN n:=by
 obtain⟨A1,c1,rfl,hc1,r1⟩:=h1;obtain⟨A2,c2,rfl,hc2,r2⟩:=h2;by_cases hl:l1.length=l2.length
 ·refine zcC ?_;clear r1 r2 hl;intro R1 R2 HL hb;go_in;go_wp2
  go_loopw [5] (fun i wr=>∃ k:Nat,k≤l1.length∧i = .int .i64 k∧l1.take k=l2.take k∧∃ n,wr=w.drewN n) (fun i _=>l1.length - (intOf i).toNat)
  case atStart=>exact⟨0,byOmega,rfl,ay,0,rfl⟩
  case round =>
   obtain⟨k,hk,rfl,hpre,n,rfl⟩:=hrel;have HP:=Ac hpre;clear hpre;by_cases hlt:k < l1.length
   ·obtain⟨b1,o1,rfl,hb1,_,hcell1⟩:=R1.out byOmega;have hk2:k < l2.length:=by have:=HL.out;omega
    obtain⟨b2,o2,rfl,hb2,_,hcell2⟩:=R2.out byOmega;obtain⟨x,hx⟩:=aC hlt;obtain⟨y,hy⟩:=aC hk2;have e1:=hcell1 k x hx;have e2:=hcell2 k y hy;unfold iE at e1 e2;rw[Nat.mul_one] at e1 e2;clear hcell1 hcell2;have HX:=Ac hx;clear hx;have HY:=Ac hy;clear hy;by_cases he:x=y
    ·subst he;go_wp2
     go_quiet (fail)
     go_wp2
     go_roundw
     case rel=>exact⟨k+1,byOmega,by go_num,je HX.out HY.out HP.out,_,rfl⟩
     case measure=>simp[intOf]; omega
    ·have hne:(x != y)=true:=by simp[he]
     have hfin:decide (l1=l2)=false:=by
      exact zcJ
     have HF:=Ac hfin;clear hfin he;exact Y6
   ·go_wp2
    go_ret;have:k=l1.length:=byOmega;have h3:=HP.out;have h4:=HL.out;refine⟨?_,_,rfl⟩;have h5:l1=l2:=by
     exact YA
    simp[h5]
 ·have hb:((l1.length:Int) != (l2.length:Int))=true:=aB;go_in;go_wp2
  go_ret;refine⟨?_,0,rfl⟩;have:l1≠l2:=by rintro rfl;exact hl rfl
  simp[this]
theorem uN (w:World) (F:Ag) (v1 v2:Value) (l1 l2:List Inf) (h1:A8 w F v1 l1) (h2:A8 w F v2 l2) (hl1:l1.length < 1000000) (hl2:l2.length < 1000000) :
  Calls Tryz.prog 79 #[v1,v2] w fun e w'=>e = .returned (.bool (decide (l1=l2)))∧∃ n,w'=w.drewN n:=by
 obtain⟨A1,c1,rfl,hc1,r1⟩:=h1;obtain⟨A2,c2,rfl,hc2,r2⟩:=h2;by_cases hl:l1.length=l2.length
 ·refine zcC ?_;clear r1 r2 hl;intro R1 R2 HL hb;go_in;go_wp2
  go_loopw [5] (fun i wr=>∃ k:Nat,k≤l1.length∧i = .int .i64 k∧l1.take k=l2.take k∧∃ n,wr=w.drewN n) (fun i _=>l1.length - (intOf i).toNat)
  case atStart=>exact⟨0,byOmega,rfl,ay,0,rfl⟩
  case round =>
   obtain⟨k,hk,rfl,hpre,n,rfl⟩:=hrel;have HP:=Ac hpre;clear hpre;by_cases hlt:k < l1.length
   ·obtain⟨b1,o1,rfl,hb1,_,hcell1⟩:=R1.out byOmega;have hk2:k < l2.length:=by have:=HL.out;omega
    obtain⟨b2,o2,rfl,hb2,_,hcell2⟩:=R2.out byOmega;obtain⟨x,hx⟩:=aC hlt;obtain⟨y,hy⟩:=aC hk2;have e1:=hcell1 k x hx;have e2:=hcell2 k y hy;obtain⟨e10,e11⟩:=e1;obtain⟨e20,e21⟩:=e2;clear hcell1 hcell2;obtain⟨xp,xa⟩:=x;obtain⟨yp,ya⟩:=y;dsimp only at e10 e11 e20 e21;have HX:=Ac hx;clear hx;have HY:=Ac hy;clear hy;by_cases he:xp=yp∧xa=ya
    ·obtain⟨rfl,rfl⟩:=he;go_wp2
     go_quiet (fail)
     go_wp2
     go_roundw
     case rel=>exact⟨k+1,byOmega,by go_num,je HX.out HY.out HP.out,_,rfl⟩
     case measure=>simp[intOf]; omega
    ·have hfin:decide (l1=l2)=false:=by
      simp only[decide_eq_false_iff_not];rintro rfl;have h3:=HX.out;rw[HY.out] at h3;cases h3;exact he ⟨rfl,rfl⟩
     have HF:=Ac hfin;clear hfin;by_cases h1:xp=yp
     ·subst h1;have hne:(xa==ya)=false:=by simp;exact fun h2=>he ⟨rfl,h2⟩
      clear he;exact Y6
     ·have hne:(xp==yp)=false:=by simp[h1]
      clear he h1;exact Y6
   ·go_wp2
    go_ret;have:k=l1.length:=byOmega;have h3:=HP.out;have h4:=HL.out;refine⟨?_,_,rfl⟩;have h5:l1=l2:=by
     exact YA
    simp[h5]
 ·have hb:((l1.length:Int) != (l2.length:Int))=true:=aB;go_in;go_wp2
  go_ret;refine⟨?_,0,rfl⟩;have:l1≠l2:=by rintro rfl;exact hl rfl
  simp[this]
theorem ahj (a b:Nd):a=b↔a.kind=b.kind∧a.aF=b.aF∧a.info=b.info∧a.next=b.next∧a.weights=b.weights∧a.pay=b.pay:=by
 cases a;cases b;simp
theorem aY (w:World) (a b:Obj) (n:Nat):Below w.heap.size w (((w.alloc a).alloc b).drewN n):=by
 have h:=(((Below.refl w.heap.size w).alloc (Nat.le_refl _) a).alloc ay b);exact⟨h.os,h.tape,h.output,h.size,h.block⟩
theorem uO (w:World) (F:Ag) (u1 u2:Value) (n1 n2:Nd) (h1:BF w F u1 n1) (h2:BF w F u2 n2)
  (hl1:n1.next.length < 1000000∧n1.weights.length < 1000000∧n1.pay.length < 1000000) (hl2:n2.next.length < 1000000∧n2.weights.length < 1000000∧n2.pay.length < 1000000) :
  Calls Tryz.prog 80 #[u1,u2] w (Ret w fun v _=>v = .bool (decide (n1=n2))):=by
 obtain⟨v3,v4,v5,rfl,h13,h14,h15⟩:=h1;obtain⟨u3,u4,u5,rfl,h23,h24,h25⟩:=h2;obtain⟨hl13,hl14,hl15⟩:=hl1;obtain⟨hl23,hl24,hl25⟩:=hl2;have H13:=Ac h13;clear h13;have H14:=Ac h14;clear h14;have H15:=Ac h15;clear h15;have H23:=Ac h23;clear h23;have H24:=Ac h24;clear h24;have H25:=Ac h25;clear h25;have HE:=Ac (ahj n1 n2);by_cases q0:n1.kind=n2.kind
 case neg =>
  have d0:(n1.kind==n2.kind)=false:=by simp[q0]
  have HF:=Ac (show decide (n1=n2)=false by simp only[decide_eq_false_iff_not]; exact fun h=>q0 (HE.out.1 h).1);clear q0;go_in;exact Zl
 have d0:(n1.kind==n2.kind)=true:=by simp[q0]
 have Q0:=Ac q0;clear q0;by_cases q1:n1.aF=n2.aF
 case neg =>
  have d1:(n1.aF==n2.aF)=false:=by simp[q1]
  have HF:=Ac (show decide (n1=n2)=false by simp only[decide_eq_false_iff_not]; exact fun h=>q1 (HE.out.1 h).2.1);clear q1;go_in;exact Zl
 have d1:(n1.aF==n2.aF)=true:=by simp[q1]
 have Q1:=Ac q1;clear q1;by_cases q2:n1.info=n2.info
 case neg =>
  have d2:(n1.info==n2.info)=false:=by simp[q2]
  have HF:=Ac (show decide (n1=n2)=false by simp only[decide_eq_false_iff_not]; exact fun h=>q2 (HE.out.1 h).2.2.1);clear q2;go_in;exact Zl
 have d2:(n1.info==n2.info)=true:=by simp[q2]
 have Q2:=Ac q2;clear q2;by_cases q3:n1.next=n2.next
 case neg =>
  have d3:decide (n1.next=n2.next)=false:=by simp[q3]
  have HF:=Ac (show decide (n1=n2)=false by simp only[decide_eq_false_iff_not]; exact fun h=>q3 (HE.out.1 h).2.2.2.1);clear q3;go_in;go_wp2_with (first | (go_at_call 37; (with_reducible refine(bU _ F _ _ n1.next n2.next (H13.out.on ?_) (H23.out.on ?_) hl13 hl23).mono ?_); exact(by repeat (first | exact Same.refl _ _ | exact Same.drewN _ _ _ | exact Same.alloc _ _ _ | refine Same.trans ?_ (Same.drewN _ _ _) | refine Same.trans ?_ (Same.alloc _ _ _))); exact(by repeat (first | exact Same.refl _ _ | exact Same.drewN _ _ _ | exact Same.alloc _ _ _ | refine Same.trans ?_ (Same.drewN _ _ _) | refine Same.trans ?_ (Same.alloc _ _ _))); rintro e w' ⟨rfl,m,rfl⟩) | (go_at_call 37; (with_reducible refine(bU _ F _ _ n1.weights n2.weights (H14.out.on ?_) (H24.out.on ?_) hl14 hl24).mono ?_); exact(by repeat (first | exact Same.refl _ _ | exact Same.drewN _ _ _ | exact Same.alloc _ _ _ | refine Same.trans ?_ (Same.drewN _ _ _) | refine Same.trans ?_ (Same.alloc _ _ _))); exact(by repeat (first | exact Same.refl _ _ | exact Same.drewN _ _ _ | exact Same.alloc _ _ _ | refine Same.trans ?_ (Same.drewN _ _ _) | refine Same.trans ?_ (Same.alloc _ _ _))); rintro e w' ⟨rfl,m,rfl⟩) | (go_at_call 37; (with_reducible refine(bU _ F _ _ n1.pay n2.pay (H15.out.on ?_) (H25.out.on ?_) hl15 hl25).mono ?_); exact(by repeat (first | exact Same.refl _ _ | exact Same.drewN _ _ _ | exact Same.alloc _ _ _ | refine Same.trans ?_ (Same.drewN _ _ _) | refine Same.trans ?_ (Same.alloc _ _ _))); exact(by repeat (first | exact Same.refl _ _ | exact Same.drewN _ _ _ | exact Same.alloc _ _ _ | refine Same.trans ?_ (Same.drewN _ _ _) | refine Same.trans ?_ (Same.alloc _ _ _))); rintro e w' ⟨rfl,m,rfl⟩))
  exact zaQ
 have d3:decide (n1.next=n2.next)=true:=by simp[q3]
 have Q3:=Ac q3;clear q3;by_cases q4:n1.weights=n2.weights
 case neg =>
  have d4:decide (n1.weights=n2.weights)=false:=by simp[q4]
  have HF:=Ac (show decide (n1=n2)=false by simp only[decide_eq_false_iff_not]; exact fun h=>q4 (HE.out.1 h).2.2.2.2.1);clear q4;go_in;go_wp2_with (first | (go_at_call 37; (with_reducible refine(bU _ F _ _ n1.next n2.next (H13.out.on ?_) (H23.out.on ?_) hl13 hl23).mono ?_); exact(by repeat (first | exact Same.refl _ _ | exact Same.drewN _ _ _ | exact Same.alloc _ _ _ | refine Same.trans ?_ (Same.drewN _ _ _) | refine Same.trans ?_ (Same.alloc _ _ _))); exact(by repeat (first | exact Same.refl _ _ | exact Same.drewN _ _ _ | exact Same.alloc _ _ _ | refine Same.trans ?_ (Same.drewN _ _ _) | refine Same.trans ?_ (Same.alloc _ _ _))); rintro e w' ⟨rfl,m,rfl⟩) | (go_at_call 37; (with_reducible refine(bU _ F _ _ n1.weights n2.weights (H14.out.on ?_) (H24.out.on ?_) hl14 hl24).mono ?_); exact(by repeat (first | exact Same.refl _ _ | exact Same.drewN _ _ _ | exact Same.alloc _ _ _ | refine Same.trans ?_ (Same.drewN _ _ _) | refine Same.trans ?_ (Same.alloc _ _ _))); exact(by repeat (first | exact Same.refl _ _ | exact Same.drewN _ _ _ | exact Same.alloc _ _ _ | refine Same.trans ?_ (Same.drewN _ _ _) | refine Same.trans ?_ (Same.alloc _ _ _))); rintro e w' ⟨rfl,m,rfl⟩) | (go_at_call 37; (with_reducible refine(bU _ F _ _ n1.pay n2.pay (H15.out.on ?_) (H25.out.on ?_) hl15 hl25).mono ?_); exact(by repeat (first | exact Same.refl _ _ | exact Same.drewN _ _ _ | exact Same.alloc _ _ _ | refine Same.trans ?_ (Same.drewN _ _ _) | refine Same.trans ?_ (Same.alloc _ _ _))); exact(by repeat (first | exact Same.refl _ _ | exact Same.drewN _ _ _ | exact Same.alloc _ _ _ | refine Same.trans ?_ (Same.drewN _ _ _) | refine Same.trans ?_ (Same.alloc _ _ _))); rintro e w' ⟨rfl,m,rfl⟩))
  exact zaQ
 have d4:decide (n1.weights=n2.weights)=true:=by simp[q4]
 have Q4:=Ac q4;clear q4;by_cases q5:n1.pay=n2.pay
 case neg =>
  have d5:decide (n1.pay=n2.pay)=false:=by simp[q5]
  have HF:=Ac (show decide (n1=n2)=false by simp only[decide_eq_false_iff_not]; exact fun h=>q5 (HE.out.1 h).2.2.2.2.2);clear q5;go_in;go_wp2_with (first | (go_at_call 37; (with_reducible refine(bU _ F _ _ n1.next n2.next (H13.out.on ?_) (H23.out.on ?_) hl13 hl23).mono ?_); exact(by repeat (first | exact Same.refl _ _ | exact Same.drewN _ _ _ | exact Same.alloc _ _ _ | refine Same.trans ?_ (Same.drewN _ _ _) | refine Same.trans ?_ (Same.alloc _ _ _))); exact(by repeat (first | exact Same.refl _ _ | exact Same.drewN _ _ _ | exact Same.alloc _ _ _ | refine Same.trans ?_ (Same.drewN _ _ _) | refine Same.trans ?_ (Same.alloc _ _ _))); rintro e w' ⟨rfl,m,rfl⟩) | (go_at_call 37; (with_reducible refine(bU _ F _ _ n1.weights n2.weights (H14.out.on ?_) (H24.out.on ?_) hl14 hl24).mono ?_); exact(by repeat (first | exact Same.refl _ _ | exact Same.drewN _ _ _ | exact Same.alloc _ _ _ | refine Same.trans ?_ (Same.drewN _ _ _) | refine Same.trans ?_ (Same.alloc _ _ _))); exact(by repeat (first | exact Same.refl _ _ | exact Same.drewN _ _ _ | exact Same.alloc _ _ _ | refine Same.trans ?_ (Same.drewN _ _ _) | refine Same.trans ?_ (Same.alloc _ _ _))); rintro e w' ⟨rfl,m,rfl⟩) | (go_at_call 37; (with_reducible refine(bU _ F _ _ n1.pay n2.pay (H15.out.on ?_) (H25.out.on ?_) hl15 hl25).mono ?_); exact(by repeat (first | exact Same.refl _ _ | exact Same.drewN _ _ _ | exact Same.alloc _ _ _ | refine Same.trans ?_ (Same.drewN _ _ _) | refine Same.trans ?_ (Same.alloc _ _ _))); exact(by repeat (first | exact Same.refl _ _ | exact Same.drewN _ _ _ | exact Same.alloc _ _ _ | refine Same.trans ?_ (Same.drewN _ _ _) | refine Same.trans ?_ (Same.alloc _ _ _))); rintro e w' ⟨rfl,m,rfl⟩))
  exact zaQ
 have d5:decide (n1.pay=n2.pay)=true:=by simp[q5]
 have Q5:=Ac q5;clear q5;have HF:=Ac (show decide (n1=n2)=true by simp only[decide_eq_true_eq]; exact HE.out.2 ⟨Q0.out,Q1.out,Q2.out,Q3.out,Q4.out,Q5.out⟩);go_in;go_wp2_with (first | (go_at_call 37; (with_reducible refine(bU _ F _ _ n1.next n2.next (H13.out.on ?_) (H23.out.on ?_) hl13 hl23).mono ?_); exact(by repeat (first | exact Same.refl _ _ | exact Same.drewN _ _ _ | exact Same.alloc _ _ _ | refine Same.trans ?_ (Same.drewN _ _ _) | refine Same.trans ?_ (Same.alloc _ _ _))); exact(by repeat (first | exact Same.refl _ _ | exact Same.drewN _ _ _ | exact Same.alloc _ _ _ | refine Same.trans ?_ (Same.drewN _ _ _) | refine Same.trans ?_ (Same.alloc _ _ _))); rintro e w' ⟨rfl,m,rfl⟩) | (go_at_call 37; (with_reducible refine(bU _ F _ _ n1.weights n2.weights (H14.out.on ?_) (H24.out.on ?_) hl14 hl24).mono ?_); exact(by repeat (first | exact Same.refl _ _ | exact Same.drewN _ _ _ | exact Same.alloc _ _ _ | refine Same.trans ?_ (Same.drewN _ _ _) | refine Same.trans ?_ (Same.alloc _ _ _))); exact(by repeat (first | exact Same.refl _ _ | exact Same.drewN _ _ _ | exact Same.alloc _ _ _ | refine Same.trans ?_ (Same.drewN _ _ _) | refine Same.trans ?_ (Same.alloc _ _ _))); rintro e w' ⟨rfl,m,rfl⟩) | (go_at_call 37; (with_reducible refine(bU _ F _ _ n1.pay n2.pay (H15.out.on ?_) (H25.out.on ?_) hl15 hl25).mono ?_); exact(by repeat (first | exact Same.refl _ _ | exact Same.drewN _ _ _ | exact Same.alloc _ _ _ | refine Same.trans ?_ (Same.drewN _ _ _) | refine Same.trans ?_ (Same.alloc _ _ _))); exact(by repeat (first | exact Same.refl _ _ | exact Same.drewN _ _ _ | exact Same.alloc _ _ _ | refine Same.trans ?_ (Same.drewN _ _ _) | refine Same.trans ?_ (Same.alloc _ _ _))); rintro e w' ⟨rfl,m,rfl⟩))
 exact zaQ
def bJ (rec:Nat→Int→Int×Int):List Int→Int→Int→Int×Int
 | [],next,deep=>(next,deep)
 | c :: cs,next,deep=>if c≠next then (-1,deep) else if (rec next.toNat deep).1 < 0 then (-1,(rec next.toNat deep).2) else bJ rec cs (rec next.toNat deep).1 (rec next.toNat deep).2
def bK (nodes:List Nd):Nat→Nat→Int→Int→Int×Int
 | 0,_,_,deep=>(-1,deep)
 | f+1,a,depth,deep=>match nodes[a]? with
  | none=>(-1,deep)
  | some n=>bJ (fun a d=>bK nodes f a (depth+1) d) n.next ((a:Int)+1) (max deep depth)
theorem rZ {rec:Nat→Int→Int×Int} {N lo:Nat} (hrec:∀ a d,lo≤a→(rec a d).1 = -1∨((a:Int) < (rec a d).1∧(rec a d).1≤N)):∀ (cs:List Int) (next deep:Int),(lo:Int)≤next→next≤N →
  (bJ rec cs next deep).1 = -1∨((lo:Int)≤(bJ rec cs next deep).1∧(bJ rec cs next deep).1≤N)
 | [],next,deep,h1,h2=>.inr ⟨h1,h2⟩
 | c :: cs,next,deep,h1,h2=>by
  unfold bJ;split
  ·exact .inl rfl
  ·split
   ·exact .inl rfl
   ·rcases hrec next.toNat deep byOmega with h | h
    ·omega
    ·exact rZ hrec cs _ _ byOmega byOmega
theorem pI (nodes:List Nd):∀ (f a:Nat) (depth deep:Int),(bK nodes f a depth deep).1 = -1∨((a:Int) < (bK nodes f a depth deep).1∧(bK nodes f a depth deep).1≤nodes.length)
 | 0,_,_,_=>.inl rfl
 | f+1,a,depth,deep=>by
  unfold bK;split
  ·exact .inl rfl
  ·rename_i n hn
   have:=aI hn;rcases rZ (rec:=fun a d=>bK nodes f a (depth+1) d) (N:=nodes.length) (lo:=a+1) (fun a' d _=>pI nodes f a' (depth+1) d) n.next ((a:Int)+1) (max deep depth) byOmega byOmega with h | h
   ·exact .inl h
   ·exact .inr byOmega
theorem uP {rec:Nat→Int→Int×Int} {D:Int} (hrec:∀ a d,-1≤d→d≤D→-1≤(rec a d).2∧(rec a d).2≤D):∀ (cs:List Int) (next deep:Int),-1≤deep→deep≤D→-1≤(bJ rec cs next deep).2∧(bJ rec cs next deep).2≤D
 | [],next,deep,h1,h2=>⟨h1,h2⟩
 | c :: cs,next,deep,h1,h2=>by
  unfold bJ;have:=hrec next.toNat deep h1 h2
  split
  ·exact⟨h1,h2⟩
  ·split
   ·exact this
   ·exact uP hrec cs _ _ this.1 this.2
theorem qJ (nodes:List Nd) (D:Int):∀ (f a:Nat) (depth deep:Int),depth+f≤D→-1≤deep→deep≤D→-1≤(bK nodes f a depth deep).2∧(bK nodes f a depth deep).2≤D
 | 0,_,_,_,_,h1,h2=>⟨h1,h2⟩
 | f+1,a,depth,deep,h,h1,h2=>by
  unfold bK;split
  ·exact⟨h1,h2⟩
  ·exact uP (fun a' d g1 g2=>qJ nodes D f a' (depth+1) d byOmega g1 g2) _ _ _ byOmega byOmega
theorem Same.adK {w w':World} {b:Nat} (h:w.grownBy w' (some b)):Same (fun k=>k≠b) w w':=⟨h.size,fun k hk hl=>h.block k hl (by simpa using hk)⟩
theorem pJ {a w:World} {row:Option Nat} (h:a.grownBy w row) (o:Obj):a.grownBy (w.alloc o) row :=
 ⟨h.os,h.tape,h.output,Nat.le_trans h.size ay,fun i hi hne=>(Below.heap_alloc w o i (Nat.lt_of_lt_of_le hi h.size)).trans (h.block i hi hne)⟩
theorem grown_setCell {a w:World} {g:Nat} (h:a.grownBy w (some g)) {p:Addr} (hp:p.block=g∨a.heap.size≤p.block) (u:Value):a.grownBy (w.setCell p u) (some g) :=
 ⟨h.os,h.tape,h.output,by simpa using h.size,fun i hi hne=>(Below.heap_setCell w p u i (by
  rintro rfl;rcases hp with hp | hp
  ·exact hne (by rw[hp])
  ·omega)).trans (h.block i hi hne)⟩
theorem qK (w:World) (row:Option Nat):w.grownBy w row:=⟨rfl,rfl,rfl,Nat.le_refl _,fun _ _ _=>rfl⟩
theorem yU {a b c:World} {row:Option Nat} (h:a.grownBy b row) (k:b.grownBy c row):a.grownBy c row :=
 ⟨k.os.trans h.os,k.tape.trans h.tape,k.output.trans h.output,Nat.le_trans h.size k.size,fun i hi hne=>(k.block i (Nat.lt_of_lt_of_le hi h.size) hne).trans (h.block i hi hne)⟩
theorem aam {w w':World} {d:Nat} (h:w.grownBy w' (some d)):∀ b o,b < w.heap.size→b≠d→w'.cell? ⟨b,o,none⟩=w.cell? ⟨b,o,none⟩:=fun b o hb hd=>World.cell?_of_block (h.block b hb (by simpa using hd))
theorem ahk (g:Gm) (hsm:Small g):∀ (f a:Nat) (depth deep:Int) (w:World) (bd:Nat) (u:Value),AB w (fun b=>b≠bd) u g→Row w bd 3 [.int .i64 deep]→g.nodes.length < a+f→0≤depth→depth+f≤100000→-1≤deep→deep≤100000 →
  Calls Tryz.prog 96 #[u,.int .i64 a,.int .i64 depth,.pointer (some ⟨bd,0,none⟩)] w fun e w'=>e = .returned (.int .i64 (bK g.nodes f a depth deep).1)∧Row w' bd 3 [.int .i64 (bK g.nodes f a depth deep).2]∧w.grownBy w' (some bd):=by
 intro f;induction f with
 | zero =>
  intro a depth deep w bd u hg hrow hf hd0 hd1 hp0 hp1;obtain⟨vn,vi,rfl,⟨A,c,rfl,hc,hN⟩,⟨Ai,ci,rfl,hci,hI⟩⟩:=hg;clear hN hI;have hge:(g.nodes.length:Int)≤(a:Int):=byOmega;have hn:=hsm.nodes;have BJ:=Ac hrow;clear hrow;go_in;go_wp2
  go_ret;exact⟨rfl,BJ.out.alloc _,pJ (qK _ _) _⟩
 | succ f ih =>
  intro a depth deep w bd u hg hrow hf hd0 hd1 hp0 hp1;have HG:=Ac hg;obtain⟨vn,vi,rfl,⟨A,c,rfl,hc,hN⟩,⟨Ai,ci,rfl,hci,hI⟩⟩:=hg;have HN:=Ac hN;clear hN hI;have IH:=Ac ih;clear ih;have HSM:=Ac hsm;have hn:=hsm.nodes;clear hsm;have hbd:=hrow.lt;have xd:=hrow.cell (i:=0) rfl;have fd:=hrow.frozen 0;have BJ:=Ac hrow;clear hrow;by_cases hlt:a < g.nodes.length
  ·obtain⟨b,o,rfl,hbF,hb,hcell⟩:=HN.out byOmega;obtain⟨n,hn'⟩:=aC hlt;obtain⟨v3,e3,A3,c3,rfl,hc3,i3⟩:=(hcell a n hn').c3;have HX:=Ac hn';have hl3:=HSM.out.next n (List.mem_of_getElem? hn');have H3:=Ac i3; clear i3 hcell hn';have HW:=Ac (show bK g.nodes (f+1) a depth deep=bJ (fun a d=>bK g.nodes f a (depth+1) d) n.next ((a:Int)+1) (max deep depth) by
    rw[bK]; simp only[HX.out])
   have hrl:∀ d,(max deep depth:Int)=d→∀ (w':World),Row w' bd 3 [.int .i64 deep]→Row (w'.setCell ⟨bd,0,none⟩ (.int .i64 d)) bd 3 [.int .i64 d]:=fun d _ w' h=>by simpa using h.set 0 (.int .i64 d)
   have HRL:=Ac hrl;clear hrl;by_cases hmx:deep < depth
   ·have HMX:=Ac (show(max deep depth:Int)=depth by omega);have hm0:-1≤depth∧depth≤100000:=byOmega;go_in;go_wp2
    go_loopw [9,10] (fun nx i wr=>∃ (j:Nat) (next dp:Int),j≤n.next.length∧i = .int .i64 j∧nx = .int .i64 next∧(a:Int) < next∧next≤g.nodes.length∧-1≤dp∧dp≤100000∧Row wr w.heap.size 25 [.int .i64 g.au,.slice (some ⟨b,o,none⟩) g.nodes.length c,.slice Ai g.infos.length ci]∧Row wr bd 3 [.int .i64 dp]∧w.grownBy wr (some bd)∧bK g.nodes (f+1) a depth deep=bJ (fun a d=>bK g.nodes f a (depth+1) d) (n.next.drop j) next dp) (fun _ i _=>n.next.length - (intOf i).toNat)
    case atStart =>
     refine⟨0,(a:Int)+1,depth,byOmega,rfl,rfl,byOmega,byOmega,hm0.1,hm0.2,?_,?_,?_,?_⟩
     ·have:=Row.new (w.setCell ⟨bd,0,none⟩ (.int .i64 depth)) 25 #[.int .i64 g.au,.slice (some ⟨b,o,none⟩) g.nodes.length c,.slice Ai g.infos.length ci];simpa using this
     ·exact(HRL.out depth HMX.out w BJ.out).alloc _
     ·exact pJ (grown_setCell (qK _ _) (.inl rfl) _) _
     ·rw[HW.out,HMX.out];rfl
    case round =>
     obtain⟨j,next,dp,hj,rfl,rfl,ak8,hnx1,aiM,aiN,hbx,hrw,hgr,hval⟩:=hrel;have HV:=Ac hval;clear hval;have x1:=hbx.cell (i:=1) rfl;have x0:=hbx.cell (i:=0) rfl;have x2:=hbx.cell (i:=2) rfl;have hold:=aam hgr;by_cases hjt:j < n.next.length
     ·obtain⟨ch,hch⟩:=aC hjt;obtain⟨b3,o3,rfl,hb3,aiO,hx3⟩:=H3.out byOmega;have ec:=hx3 j ch hch;unfold iE at ec;rw[Nat.mul_one] at ec;refine YW ?_;intro HD;clear hch hx3;by_cases hne:ch=next
      ·subst hne;obtain⟨q,rfl⟩:=Int.eq_ofNat_of_zero_le (show 0≤ch by omega);have hbd2:=pI g.nodes f q (depth+1) dp;have HV2:=Ac (show bJ (fun a d=>bK g.nodes f a (depth+1) d) (n.next.drop j) (q:Int) dp=if (bK g.nodes f q (depth+1) dp).1 < 0 then (-1,(bK g.nodes f q (depth+1) dp).2) else bJ (fun a d=>bK g.nodes f a (depth+1) d) (n.next.drop (j+1)) (bK g.nodes f q (depth+1) dp).1 (bK g.nodes f q (depth+1) dp).2 by
        rw[HD.out]; simp[bJ])
       have HBD:=Ac hbd2;clear hbd2;go_wp2_with fail
       refine zcY ?_;rintro e w' ⟨rfl,afm,gZ⟩;have hdd:=qJ g.nodes 100000 f q (depth+1) dp byOmega aiM aiN;have mF:Row w' w.heap.size _ _:=hbx.of_block (gZ.block _ hbx.lt aB);have hgg:=yU hgr gZ;have hbb:=HBD.out;have HV3:=Ac (HV.out.trans HV2.out);generalize bK g.nodes f q (depth+1) dp=rr at *;obtain⟨rn,rd⟩:=rr;dsimp only at afm hdd hbb HV3 ⊢;clear HV2 HBD hold x0 x1 x2 hbx hrw hgr gZ;by_cases hng:rn < 0
       ·exact zbm
       ·go_wp2
        go_roundw
        case rel=>exact⟨j+1,rn,rd,byOmega,by go_num,rfl,byOmega,byOmega,hdd.1,hdd.2,mF,afm,hgg,by rw[HV3.out,if_neg hng]⟩
        case measure=>simp[intOf]; omega
      ·exact zax
     ·exact za9
   ·have HMX:=Ac (show(max deep depth:Int)=deep by omega);have hm0:-1≤deep∧deep≤100000:=byOmega;go_in;go_wp2
    go_loopw [9,10] (fun nx i wr=>∃ (j:Nat) (next dp:Int),j≤n.next.length∧i = .int .i64 j∧nx = .int .i64 next∧(a:Int) < next∧next≤g.nodes.length∧-1≤dp∧dp≤100000∧Row wr w.heap.size 25 [.int .i64 g.au,.slice (some ⟨b,o,none⟩) g.nodes.length c,.slice Ai g.infos.length ci]∧Row wr bd 3 [.int .i64 dp]∧w.grownBy wr (some bd)∧bK g.nodes (f+1) a depth deep=bJ (fun a d=>bK g.nodes f a (depth+1) d) (n.next.drop j) next dp) (fun _ i _=>n.next.length - (intOf i).toNat)
    case atStart =>
     refine⟨0,(a:Int)+1,deep,byOmega,rfl,rfl,byOmega,byOmega,hm0.1,hm0.2,?_,?_,?_,?_⟩
     ·have:=Row.new (w.setCell ⟨bd,0,none⟩ (.int .i64 deep)) 25 #[.int .i64 g.au,.slice (some ⟨b,o,none⟩) g.nodes.length c,.slice Ai g.infos.length ci];simpa using this
     ·exact(HRL.out deep HMX.out w BJ.out).alloc _
     ·exact pJ (grown_setCell (qK _ _) (.inl rfl) _) _
     ·rw[HW.out,HMX.out];rfl
    case round =>
     obtain⟨j,next,dp,hj,rfl,rfl,ak8,hnx1,aiM,aiN,hbx,hrw,hgr,hval⟩:=hrel;have HV:=Ac hval;clear hval;have x1:=hbx.cell (i:=1) rfl;have x0:=hbx.cell (i:=0) rfl;have x2:=hbx.cell (i:=2) rfl;have hold:=aam hgr;by_cases hjt:j < n.next.length
     ·obtain⟨ch,hch⟩:=aC hjt;obtain⟨b3,o3,rfl,hb3,aiO,hx3⟩:=H3.out byOmega;have ec:=hx3 j ch hch;unfold iE at ec;rw[Nat.mul_one] at ec;refine YW ?_;intro HD;clear hch hx3;by_cases hne:ch=next
      ·subst hne;obtain⟨q,rfl⟩:=Int.eq_ofNat_of_zero_le (show 0≤ch by omega);have hbd2:=pI g.nodes f q (depth+1) dp;have HV2:=Ac (show bJ (fun a d=>bK g.nodes f a (depth+1) d) (n.next.drop j) (q:Int) dp=if (bK g.nodes f q (depth+1) dp).1 < 0 then (-1,(bK g.nodes f q (depth+1) dp).2) else bJ (fun a d=>bK g.nodes f a (depth+1) d) (n.next.drop (j+1)) (bK g.nodes f q (depth+1) dp).1 (bK g.nodes f q (depth+1) dp).2 by
        rw[HD.out]; simp[bJ])
       have HBD:=Ac hbd2;clear hbd2;go_wp2_with fail
       refine zcY ?_;rintro e w' ⟨rfl,afm,gZ⟩;have hdd:=qJ g.nodes 100000 f q (depth+1) dp byOmega aiM aiN;have mF:Row w' w.heap.size _ _:=hbx.of_block (gZ.block _ hbx.lt aB);have hgg:=yU hgr gZ;have hbb:=HBD.out;have HV3:=Ac (HV.out.trans HV2.out);generalize bK g.nodes f q (depth+1) dp=rr at *;obtain⟨rn,rd⟩:=rr;dsimp only at afm hdd hbb HV3 ⊢;clear HV2 HBD hold x0 x1 x2 hbx hrw hgr gZ;by_cases hng:rn < 0
       ·exact zbm
       ·go_wp2
        go_roundw
        case rel=>exact⟨j+1,rn,rd,byOmega,by go_num,rfl,byOmega,byOmega,hdd.1,hdd.2,mF,afm,hgg,by rw[HV3.out,if_neg hng]⟩
        case measure=>simp[intOf]; omega
      ·exact zax
     ·exact za9
  ·have hge:(g.nodes.length:Int)≤(a:Int):=byOmega;have HF:=Ac (show bK g.nodes (f+1) a depth deep=(-1,deep) by
    rw[bK]; rw[List.getElem?_eq_none byOmega])
   go_in;go_wp2
   go_ret;exact⟨by rw[HF.out]; rfl,by rw[HF.out]; exact BJ.out.alloc _,pJ (qK _ _) _⟩
def CX (w:World) (fid:FuncId) (caps:Array Value) (l:List Int) (p:Int→Bool):Prop :=
 (∀ (args:Array Value) (w':World),(callFunc fid args).run Tryz.prog w' = .ok (.enter fid args) w') ∧
 ∀ (n:Nat) (x:Int),x∈l→Calls Tryz.prog fid (#[.int .i64 x]++caps) (w.drewN n) fun e w'=>e = .returned (.bool (p x))∧∃ m,w'=w.drewN m
def idxOf (p:Int→Bool) (l:List Int):Int:=match l.findIdx? p with | some i=>(i:Int) | none=>-1
theorem idxOf_hit {p:Int→Bool} {l:List Int} {k:Nat} {x:Int} (h:l[k]? = some x) (hp:p x=true) (hn:(l.take k).any p=false):idxOf p l=k:=by
 have hk:=aI h;have:l.findIdx? p=some k:=by
  rw[List.findIdx?_eq_some_iff_getElem];refine⟨hk,?_,fun j hj=>?_⟩
  ·have:l[k]=x:=by simpa [hk] using h
   rw[this];exact hp
  ·have h1:=List.any_eq_false.1 hn l[j] (by rw[List.mem_take_iff_getElem]; exact⟨j,byOmega,rfl⟩);simpa using h1
 simp[idxOf,this]
theorem aan {p:Int→Bool} {l:List Int} (hn:l.any p=false):idxOf p l = -1:=by
 have:l.findIdx? p=none:=by
  rw[List.findIdx?_eq_none_iff];intro x hx;have:=List.any_eq_false.1 hn x hx;simpa using this
 simp[idxOf,this]
theorem ahl (p:Int→Bool) (l:List Int):decide (0≤idxOf p l)=l.any p:=by
 cases h:l.any p with
 | false=>rw[aan h]; rfl
 | true =>
  obtain⟨x,hx,hp⟩:=List.any_eq_true.1 h;unfold idxOf;split
  ·rw[decide_eq_true_iff];omega
  ·rename_i h1
   rw[List.findIdx?_eq_none_iff] at h1;have:=h1 x hx;rw[hp] at this;cases this
theorem abn (w:World) (F:Ag) (v:Value) (l:List Int) (fid:FuncId) (caps:Array Value) (p:Int→Bool) (hv:Ah w F v l) (hl:l.length≤1000000) (ha:CX w fid caps l p) :
  Calls Tryz.prog 182 #[v,.func (.func fid) #[] caps] w fun e w'=>e = .returned (.int .i64 (idxOf p l))∧∃ n,w'=w.drewN n:=by
 obtain⟨A,c,rfl,hc,hr⟩:=hv;have HR:=Ac hr;clear hr;obtain⟨hcf,hcl⟩:=ha;have HCL:=Ac hcl;clear hcl;go_in;go_wp2
 go_loopw [8] (fun i wr=>∃ k n:Nat,k≤l.length∧i = .int .i64 k∧(l.take k).any p=false∧wr=w.drewN n) (fun i _=>l.length - (intOf i).toNat)
 case atStart=>exact⟨0,0,byOmega,rfl,rfl,rfl⟩
 case round =>
  obtain⟨k,n,hk,rfl,hpre,rfl⟩:=hrel;have HP:=Ac hpre;clear hpre;by_cases hlt:k < l.length
  ·obtain⟨b,o,rfl,_,hb,hx⟩:=HR.out byOmega;obtain⟨x,hxx⟩:=aC hlt;have ex:=hx k x hxx;unfold iE at ex;rw[Nat.mul_one] at ex;have HX:=Ac hxx;clear hxx hx;go_wp2_with fail
   refine(HCL.out n x (List.mem_of_getElem? HX.out)).mono ?_;rintro e w' ⟨rfl,m,rfl⟩;dsimp only;cases hpx:p x
   ·have HPX:=Ac hpx;clear hpx;go_wp2
    go_roundw
    case rel=>exact⟨k+1,m,byOmega,by go_num,lN HX.out HP.out HPX.out,rfl⟩
    case measure=>simp[intOf]; omega
   ·have HF:=Ac (idxOf_hit HX.out hpx HP.out);clear hpx;go_wp2
    go_ret;exact⟨by rw[HF.out]; rfl,m,rfl⟩
  ·go_wp2
   go_ret;have h:=HP.out;rw[List.take_of_length_le byOmega] at h;exact⟨by rw[aan h]; rfl,n,rfl⟩
theorem qo (w:World) (F:Ag) (v:Value) (l:List Int) (fid:FuncId) (caps:Array Value) (p:Int→Bool) (hv:Ah w F v l) (hl:l.length≤1000000) (ha:CX w fid caps l p) :
  Calls Tryz.prog 139 #[v,.func (.func fid) #[] caps] w fun e w'=>e = .returned (.bool (l.any p))∧∃ n,w'=w.drewN n:=by
 have HV:=Ac hv;clear hv;have HA:=Ac ha;clear ha;go_in;go_wp2_with fail
 refine(abn w F v l fid caps p HV.out hl HA.out).mono ?_;rintro e w' ⟨rfl,n,rfl⟩;dsimp only;have HF:=Ac (ahl p l);generalize idxOf p l=q at *;go_wp2
 all_goals
  go_ret;refine⟨?_,n,rfl⟩;rw[← HF.out];first | rfl | (simp; omega)
theorem neF {a b:Int} (h:a=b):(a != b)=false:=by simp[h]
theorem neT {a b:Int} (h:a≠b):(a != b)=true:=by simp[h]
theorem eqF {a b:Int} (h:a≠b):(a==b)=false:=by simp[h]
theorem eqT {a b:Int} (h:a=b):(a==b)=true:=by simp[h]
def outside (lo hi:Int) (l:List Int):Bool:=l.any fun x=>decide (x < lo)||decide (hi < x)
def bZ (x:Nd):Int :=
 if x.aF≠0∨x.info≠0∨0 < x.pay.length∨x.next.length < 1∨60 < x.next.length∨x.weights.length≠x.next.length then 3 else if outside 1 1000 x.weights then 2 else 0
def dU (au:Int) (ni:Nat) (x:Nd):Int :=
 if 0 < x.pay.length∨0 < x.weights.length∨x.next.length < 1∨10 < x.next.length then 3 else if x.aF < 0∨au≤x.aF∨x.info < 0∨(ni:Int)≤x.info then 2 else 0
def ig (au:Int) (x:Nd):Int :=
 if x.aF≠0∨x.info≠0∨0 < x.next.length∨0 < x.weights.length∨(x.pay.length:Int)≠au then 3 else if outside (-1000000) 1000000 x.pay then 2 else 0
def aU (au:Int) (ni:Nat) (x:Nd):Int :=
 if x.kind=1 then bZ x else if x.kind=2 then dU au ni x else if x.kind=3 then ig au x else 3
theorem aiP (w:World) (F:Ag) (u ux:Value) (g:Gm) (x:Nd) (hg:AB w F u g) (hx:BF w F ux x) (hl:x.next.length < 1000000∧x.weights.length < 1000000∧x.pay.length < 1000000) (hni:g.infos.length < 1000000) :
  Calls Tryz.prog 95 #[u,ux] w (Ret w fun v _=>v = .int .i64 (aU g.au g.infos.length x)):=by
 obtain⟨vn,vi,rfl,⟨A,c,rfl,hc,hN⟩,⟨Ai,ci,rfl,hci,hI⟩⟩:=hg;clear hN hI;obtain⟨v3,v4,v5,rfl,⟨A3,c3,rfl,hc3,h3⟩,⟨A4,c4,rfl,hc4,h4⟩,⟨A5,c5,rfl,hc5,h5⟩⟩:=hx;obtain⟨hl3,hl4,hl5⟩:=hl;have H4:=Ac h4;clear h4;have H5:=Ac h5;clear h5 h3;by_cases k1:x.kind=1
 ·have e1:(x.kind==1)=true:=by simp[k1]
  by_cases q0:x.aF≠0
  ·refine YE ?_;intro HF;have d0:(x.aF != 0)=true:=neT byOmega;clear k1;go_in;exact Zl
  have d0:(x.aF != 0)=false:=neF byOmega;by_cases q1:x.info≠0
  ·refine YE ?_;intro HF;have d1:(x.info != 0)=true:=neT byOmega;clear k1;go_in;exact Zl
  have d1:(x.info != 0)=false:=neF byOmega;by_cases q2:0 < x.pay.length
  ·refine YE ?_;intro HF;clear k1;go_in;exact Zl
  have d2:decide ((0:Int) < (x.pay.length:Int))=false:=decide_eq_false byOmega;by_cases q3:x.next.length < 1
  ·refine YE ?_;intro HF;clear k1;go_in;exact Zl
  have d3:decide ((x.next.length:Int) < 1)=false:=decide_eq_false byOmega;by_cases q4:60 < x.next.length
  ·refine YE ?_;intro HF;clear k1;go_in;exact Zl
  have d4:decide ((60:Int) < (x.next.length:Int))=false:=decide_eq_false byOmega;by_cases q5:x.weights.length≠x.next.length
  ·refine YE ?_;intro HF;have d5:((x.weights.length:Int) != (x.next.length:Int))=true:=neT byOmega;clear k1;go_in;exact Zl
  have d5:((x.weights.length:Int) != (x.next.length:Int))=false:=neF byOmega;have HV:=Ac (show aU g.au g.infos.length x=if outside 1 1000 x.weights then 2 else 0 by unfold aU bZ; rw[if_pos k1,if_neg byOmega]);clear k1 q0 q1 q5;go_in;go_wp2
  go_loop [5] (fun i=>∃ k:Nat,k≤x.weights.length∧i = .int .i64 k∧outside 1 1000 (x.weights.take k)=false) (fun i=>x.weights.length - (intOf i).toNat)
  case atStart=>exact⟨0,byOmega,rfl,rfl⟩
  case round =>
   obtain⟨k,hk,rfl,hpre⟩:=hrel;have HP:=Ac hpre;clear hpre;by_cases hlt:k < x.weights.length
   ·obtain⟨b,o,rfl,_,hb,hx⟩:=H4.out byOmega;obtain⟨y,hy⟩:=aC hlt;have ey:=hx k y hy;unfold iE at ey; rw[Nat.mul_one] at ey;have BAD:=Ac (show(y < 1∨1000 < y)→aU g.au g.infos.length x=2 by
     intro hb; rw[HV.out,if_pos (show outside _ _ _=true from List.any_eq_true.2 ⟨y,List.mem_of_getElem? hy,by simpa using hb⟩)])
    have HX:=Ac hy;clear hx hy;by_cases pl:y < 1
    ·have HF:=Ac (BAD.out (.inl pl));exact Zl
    have fl:decide (y < 1)=false:=decide_eq_false byOmega;by_cases pr:1000 < y
    ·have HF:=Ac (BAD.out (.inr pr));exact Zl
    have fr:decide ((1000:Int) < y)=false:=decide_eq_false byOmega;go_wp2
    go_round
    case rel=>exact⟨k+1,byOmega,by go_num,lN HX.out HP.out aB⟩
    case measure=>simp[intOf]; omega
   ·exact zb8
 have e1:(x.kind==1)=false:=by simp[k1]
 by_cases k2:x.kind=2
 ·have e2:(x.kind==2)=true:=by simp[k2]
  by_cases q0:0 < x.pay.length
  ·exact Yy
  have d0:decide ((0:Int) < (x.pay.length:Int))=false:=decide_eq_false byOmega;by_cases q1:0 < x.weights.length
  ·exact Yy
  have d1:decide ((0:Int) < (x.weights.length:Int))=false:=decide_eq_false byOmega;by_cases q2:x.next.length < 1
  ·exact Yy
  have d2:decide ((x.next.length:Int) < 1)=false:=decide_eq_false byOmega;by_cases q3:10 < x.next.length
  ·exact Yy
  have d3:decide ((10:Int) < (x.next.length:Int))=false:=decide_eq_false byOmega;by_cases r0:x.aF < 0
  ·exact Ym
  have s0:decide (x.aF < 0)=false:=decide_eq_false byOmega;by_cases r1:g.au≤x.aF
  ·exact Ym
  have s1:decide (g.au≤x.aF)=false:=decide_eq_false byOmega;by_cases r2:x.info < 0
  ·exact Ym
  have s2:decide (x.info < 0)=false:=decide_eq_false byOmega;by_cases r3:(g.infos.length:Int)≤x.info
  ·exact Ym
  have s3:decide ((g.infos.length:Int)≤x.info)=false:=decide_eq_false byOmega;have HF:=Ac (show aU g.au g.infos.length x=0 by unfold aU dU; rw[if_neg k1,if_pos k2,if_neg byOmega,if_neg byOmega]);clear k1 k2;go_in;exact Zl
 have e2:(x.kind==2)=false:=by simp[k2]
 by_cases k3:x.kind=3
 ·have e3:(x.kind==3)=true:=by simp[k3]
  by_cases q0:x.aF≠0
  ·refine YC ?_;intro HF;have d0:(x.aF != 0)=true:=neT byOmega;exact zby
  have d0:(x.aF != 0)=false:=neF byOmega;by_cases q1:x.info≠0
  ·refine YC ?_;intro HF;have d1:(x.info != 0)=true:=neT byOmega;exact zby
  have d1:(x.info != 0)=false:=neF byOmega;by_cases q2:0 < x.next.length
  ·refine YC ?_;intro HF;exact zby
  have d2:decide ((0:Int) < (x.next.length:Int))=false:=decide_eq_false byOmega;by_cases q3:0 < x.weights.length
  ·refine YC ?_;intro HF;exact zby
  have d3:decide ((0:Int) < (x.weights.length:Int))=false:=decide_eq_false byOmega;by_cases q4:(x.pay.length:Int)≠g.au
  ·refine YC ?_;intro HF;have d4:((x.pay.length:Int) != g.au)=true:=neT byOmega;exact zby
  have d4:((x.pay.length:Int) != g.au)=false:=neF byOmega;have HV:=Ac (show aU g.au g.infos.length x=if outside (-1000000) 1000000 x.pay then 2 else 0 by unfold aU ig; rw[if_neg k1,if_neg k2,if_pos k3,if_neg byOmega]);clear k1 k2 k3 q0 q1 q4;go_in;go_wp2
  go_loop [6] (fun i=>∃ k:Nat,k≤x.pay.length∧i = .int .i64 k∧outside (-1000000) 1000000 (x.pay.take k)=false) (fun i=>x.pay.length - (intOf i).toNat)
  case atStart=>exact⟨0,byOmega,rfl,rfl⟩
  case round =>
   obtain⟨k,hk,rfl,hpre⟩:=hrel;have HP:=Ac hpre;clear hpre;by_cases hlt:k < x.pay.length
   ·obtain⟨b,o,rfl,_,hb,hx⟩:=H5.out byOmega;obtain⟨y,hy⟩:=aC hlt;have ey:=hx k y hy;unfold iE at ey; rw[Nat.mul_one] at ey;have BAD:=Ac (show(y < (-1000000)∨1000000 < y)→aU g.au g.infos.length x=2 by
     intro hb; rw[HV.out,if_pos (show outside _ _ _=true from List.any_eq_true.2 ⟨y,List.mem_of_getElem? hy,by simpa using hb⟩)])
    have HX:=Ac hy;clear hx hy;by_cases pl:y < (-1000000)
    ·have HF:=Ac (BAD.out (.inl pl));exact Zl
    have fl:decide (y < (-1000000))=false:=decide_eq_false byOmega;by_cases pr:1000000 < y
    ·have HF:=Ac (BAD.out (.inr pr));exact Zl
    have fr:decide ((1000000:Int) < y)=false:=decide_eq_false byOmega;go_wp2
    go_round
    case rel=>exact⟨k+1,byOmega,by go_num,lN HX.out HP.out aB⟩
    case measure=>simp[intOf]; omega
   ·exact zb8
 have e3:(x.kind==3)=false:=by simp[k3]
 have HF:=Ac (show aU g.au g.infos.length x=3 by unfold aU; rw[if_neg k1,if_neg k2,if_neg k3]);exact zby
end Go.Proofs.YthmklhapjegfdaaGreatDoor
