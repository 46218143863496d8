/- Words for memory that all contracts of this seat share: slices that read as lists, rows of cells, worlds that keep some blocks. -/
import Derived.Test.YthmklhapjegfdaaGreatDoorP03
import Derived.Test.YthmklhapjegfdaaGreatDoorP01
import Derived.Test.YthmklhapjegfdaaGreatDoorProg
import Derived.WalkKit
import Derived.Deep.QuietTactic
import Derived.BigQuiet
import Derived.Lib.Hide
import Derived.Deep.OwnRows
set_option linter.all false
set_option maxRecDepth 100000
set_option maxHeartbeats 12800000
namespace Go.Proofs.YthmklhapjegfdaaGreatDoor
theorem Zl {p q:Prop} (k:q) (h:Mhid q→p:=by
 intro hq
 rw[← hWz]
 have t0:=hrz.cell (i:=0) rfl
 have t1:=hrz.cell (i:=1) rfl
 have t2:=hrz.cell (i:=2) rfl
 revert t2
 revert t1
 revert t0
 exact hq.out):p:=h ⟨k⟩
theorem Zt {p q:Prop} (k:q) (h:Mhid q→p:=by
 intro hq
 have q0:=hr.cell (i:=0) rfl
 have y0:=hr.frozen 0
 have q1:=hr.cell (i:=1) rfl
 have y1:=hr.frozen 1
 have q2:=hr.cell (i:=2) rfl
 have y2:=hr.frozen 2
 revert y2
 revert q2
 revert y1
 revert q1
 revert y0
 revert q0
 exact hq.out):p:=h ⟨k⟩
theorem ZI {p q:Prop} (k:q) (h:Mhid q→p:=by
 intro hq
 refine(iq w1 F _ _ a b C D Y (HVA.out.below hb1) (HVB.out.below hb1) hla hlb byOmega byOmega byOmega byOmega HX.out.2.1 (by have:=HY.out.1; have:=HX.out.2.2; omega)).mono ?_
 exact hq.out):p:=h ⟨k⟩
theorem ZJ {p:Prop} (h:p:=by
 clear cx HMS HRW HGR Ci
 obtain⟨u3,rfl,aex,ahi,ac0,hrow3,ajy⟩:=hcut
 obtain⟨x,hx⟩:=aF (l:=u3) (k:=k) byOmega
 have cx:=hrow3.cell (aX ((iW HPP.out byOmega).trans hx))
 have fx:=hrow3.frozen (j+k)
 have hQlt:aI u / aI v < 1000000000:=HE.out.q_lt
 have HLN:=Af (aaY aex ac0)
 have Ej:=Af aex
 have hk3:k < u3.length:=byOmega
 clear hx aex ac0
 generalize hQ:aI u / aI v=Q at *
 have HQQ:=Af hQ
 clear hQ
 go_wp2
 go_ret
 refine⟨by rw[HQQ.out]; rfl,⟨u3.set k 0,by rw[List.length_set,Ej.out],ahi.set ay,HLN.out,?_⟩,iU ajy _ _⟩
 have hr:=hrow3.set (j+k) (.int .u32 ((0:Nat):Int))
 rw[bf,set_mid HPP.out hk3] at hr
 exact hr):p:=h
theorem ZO {p q:Prop} (k:q) (h:Mhid q→p:=by
 intro hq
 obtain⟨top,htop⟩:=aF (l:=v) (k:=n1) byOmega
 obtain⟨v2,hv2⟩:=aF (l:=v) (k:=n2) byOmega
 obtain⟨un,hun⟩:=aF (l:=u) (k:=n) byOmega
 obtain⟨u1,hu1⟩:=aF (l:=u) (k:=n1) byOmega
 obtain⟨u2,hu2⟩:=aF (l:=u) (k:=n2) byOmega
 have ct:=hv.cell (aX htop)
 have cv2:=hv.cell (aX hv2)
 have cun:=hu.cell (aX ((iW hP byOmega).trans hun))
 have cu1:=hu.cell (aX ((iW hP byOmega).trans hu1))
 have cu2:=hu.cell (aX ((iW hP byOmega).trans hu2))
 have topl:top < 1000000000:=he.lv.get htop
 have v2l:v2 < 1000000000:=he.lv.get hv2
 have unl:un < 1000000000:=he.lu.get hun
 have u1l:u1 < 1000000000:=he.lu.get hu1
 have u2l:u2 < 1000000000:=he.lu.get hu2
 have gt:v.getD (n - 1) 0=top:=by rw[show n - 1=n1 by omega];exact aP htop
 have gv2:v.getD (n - 2) 0=v2:=by rw[show n - 2=n2 by omega];exact aP hv2
 have gun:u.getD n 0=un:=aP hun
 have gu1:u.getD (n - 1) 0=u1:=by rw[show n - 1=n1 by omega];exact aP hu1
 have gu2:u.getD (n - 2) 0=u2:=by rw[show n - 2=n2 by omega];exact aP hu2
 have aiD:500000000≤top:=by have:=he.half;rw[gt] at this;unfold LB at this;omega
 revert aiD
 revert gu2
 revert gu1
 revert gun
 revert gv2
 revert gt
 revert u2l
 revert u1l
 revert unl
 revert v2l
 revert topl
 revert cu2
 revert cu1
 revert cun
 revert cv2
 revert ct
 revert hu2
 revert u2
 revert hu1
 revert u1
 revert hun
 revert un
 revert hv2
 revert v2
 revert htop
 revert top
 exact hq.out):p:=h ⟨k⟩
theorem ZY {p q:Prop} (k:q) (h:Mhid q→p:=by
 intro hq
 have hmf:∀ (fn:Fn) (first cap:Array Value) (w:World),(Instr.makeFunc fn first cap).run Tryz.prog w = .ok (.func fn first cap) w:=fun _ _ _ _=>rfl
 revert hmf
 exact hq.out):p:=h ⟨k⟩
theorem Z4 {p:Prop} (h:p:=by
 exact⟨by rw[HB.out],by simp only[World.drewN_drewN]; exact⟨_,rfl⟩⟩):p:=h
theorem Yd {p:Prop} (h:p:=by
 have hr:=HO.out.set k (.int .u32 (e:Int))
 rw[bf,he] at hr
 exact hr):p:=h
theorem Yg {p q:Prop} (k:q) (h:Mhid q→p:=by
 intro hq
 refine(iq w F _ _ a b A B X HVA.out HVB.out hla hlb byOmega byOmega byOmega byOmega HX.out.1 HX.out.2.2).mono ?_
 exact hq.out):p:=h ⟨k⟩
theorem Yi {p:Prop} (h:p:=by
 refine⟨k+1,l.set k ((cr+p) % 1000000000),(cr+p) / 1000000000,byOmega,by go_num,by go_num,byOmega,by rw[List.length_set,HL.out],HM.out.set (by show _ < 1000000000; omega),oL (by rw[HL.out]; exact hlt) HI.out (by rw[HX.out,← HP.out]; show _+1000000000*_=_; omega),?_,hbel.setCell (Nat.le_refl _) _⟩
 have hr:=HO.out.set k (.int .u32 (((cr+p) % 1000000000:Nat):Int))
 rw[bf] at hr
 exact hr):p:=h
theorem Yj {p:Prop} (h:p:=by
 refine⟨k+1,l.set k (cr % 1000000000),cr / 1000000000,byOmega,by go_num,by go_num,byOmega,by rw[List.length_set,HL.out],HM.out.set (by show _ < 1000000000; omega),oL (by rw[HL.out]; exact hlt) HI.out (by rw[HX.out,Nat.zero_mul]; show _+1000000000*_=_; omega),?_,hbel.setCell (Nat.le_refl _) _⟩
 have hr:=HO.out.set k (.int .u32 ((cr % 1000000000:Nat):Int))
 rw[bf] at hr
 exact hr):p:=h
theorem Yk {p:Prop} (h:p:=by
 have:=hrow.limbs (F:=fun b=>w.heap.size≤b) (Nat.le_refl _) (n:=l.length) (c:=(dig a).length) (Nat.le_refl _) (by rw[HL.out]; exact Nat.le_refl _)
 rw[List.take_length,HL.out] at this
 exact this):p:=h
theorem Yl {p q:Prop} (k:q) (h:Mhid q→p:=by
 intro hq
 have e1:((j+1:Nat):Int) - 1=(j:Int):=byOmega
 rw[e1]
 clear e1
 exact hq.out):p:=h ⟨k⟩
theorem Yo {p:Prop} (h:p:=by
 rw[List.take_of_length_le byOmega,List.take_of_length_le byOmega] at h3
 exact h3):p:=h
theorem Yp {p:Prop} (h:p:=by
 go_in
 go_wp2
 go_ret
 exact⟨_,rfl,(Below.refl _ _).alloc (Nat.le_refl _) _,by rw[HD.out]; rfl⟩):p:=h
theorem Yr {p:Prop} (h:p:=by
 go_wp2
 refine bodyPost_ret (mV rfl _ _ _) rfl ?_
 exact⟨⟨p,q,A,B,C,D,rfl,HLE.out,a1,a2,b1,b2,c1,c2,d1,d2⟩,rfl⟩):p:=h
theorem Yu {p:Prop} (h:p:=by
 exact⟨none,0,rfl,Nat.le_refl _,fun h=>absurd h aB⟩):p:=h
theorem Yw {p:Prop} (h:p:=by
 subst h0
 go_wp2
 go_ret
 refine⟨_,rfl,hbel,?_⟩
 have h2:=HD.out
 rw[bF,List.append_nil] at h2
 unfold Aj
 rw[← h2]
 exact nP HO.out fun b hb=>(HO.out.lt b hb).1):p:=h
theorem YD {p q:Prop} (k:q) (h:Mhid q→p:=by
 intro hq
 rw[Nat.mul_one] at ex
 have hxl:x < 1000000000:=(aT a).get hx'
 have HX:=Af (aP hx')
 revert HX
 revert hxl
 revert ex
 exact hq.out):p:=h ⟨k⟩
theorem YE {p q:Prop} (k:q) (h:Mhid q→p:=by
 intro hq
 refine⟨k+1,l.set k s,1,byOmega,by go_num,rfl,byOmega,by rw[List.length_set,HL.out],HM.out.set (by have:=HS.out; show _ < 1000000000; omega),uQ (by rw[HL.out]; exact hlt) HI.out (by have:=HS.out; rw[HX.out,HY.out]; show _=_+1000000000*_; omega),?_,hbel.setCell (Nat.le_refl _) _⟩
 have hr:=HO.out.set k (.int .u32 (s:Int))
 rw[bf] at hr
 revert hr
 exact hq.out):p:=h ⟨k⟩
theorem YF {p q:Prop} (k:q) (h:Mhid q→p:=by
 intro hq
 refine⟨k+1,l.set k s,0,byOmega,by go_num,rfl,byOmega,by rw[List.length_set,HL.out],HM.out.set (by have:=HS.out; show _ < 1000000000; omega),uQ (by rw[HL.out]; exact hlt) HI.out (by have:=HS.out; rw[HX.out,HY.out]; show _=_+1000000000*_; omega),?_,hbel.setCell (Nat.le_refl _) _⟩
 have hr:=HO.out.set k (.int .u32 (s:Int))
 rw[bf] at hr
 revert hr
 exact hq.out):p:=h ⟨k⟩
theorem YH {p q:Prop} (k:q) (h:Mhid q→p:=by
 intro hq
 obtain⟨e,he⟩:∃ e:Nat,(e:Int)=rm:=⟨rm.toNat,byOmega⟩
 have hdd:decide (rm < 0)=false:=decide_eq_false hneg
 have HE:=Af he
 clear he
 revert HE
 revert hdd
 revert e
 exact hq.out):p:=h ⟨k⟩
theorem YL {p:Prop} (h:p:=by
 go_in
 go_wp2_with (first | ((with_reducible refine(abW _ _).mono ?_); rintro e w' ⟨rfl,rfl⟩))
 go_ret
 exact⟨by rw[HO.out]; rfl,rfl⟩):p:=h
theorem YM {p:Prop} (h:p:=by
 go_in
 go_wp2_with (first | ((with_reducible refine(uf _ _).mono ?_); rintro e w' ⟨rfl,rfl⟩))
 go_ret
 exact⟨by rw[HO.out]; rfl,rfl⟩):p:=h
theorem YN {p:Prop} (h:p:=by
 have h1:=hinv
 rw[List.drop_zero,List.drop_zero,bg] at h1
 rw[h1]
 exact⟨by rw[Nat.mul_comm,Nat.add_comm,Nat.add_mul_div_right _ _ byOmega,Nat.div_eq_of_lt hr,Nat.zero_add],by rw[Nat.mul_comm,Nat.add_comm,Nat.add_mul_mod_self_right,Nat.mod_eq_of_lt hr]⟩):p:=h
theorem YP {p:Prop} (h:p:=by
 refine⟨j,_,q.set j dd,by go_num,HST.out,byOmega,HU4.out.other (a:=⟨w2.heap.size,j,none⟩) aG _,?_,HV4.out.other (a:=⟨w2.heap.size,j,none⟩) aG _,hb4.setCell aG _,aG⟩
 have hr:=HQ4.out.set j (.int .u32 (dd:Int))
 rw[bf] at hr
 exact hr):p:=h
theorem YV {p q:Prop} (k:q) (h:Mhid q→p:=by
 intro hq
 have HL:=Af hlen
 have HI:=Af hinv
 have HO:=Af hrow
 have HM:=Af hlim
 have hold:=aQ hbel
 revert hold
 revert HM
 revert HO
 revert HI
 revert HL
 exact hq.out):p:=h ⟨k⟩
theorem YW {p q:Prop} (k:q) (h:Mhid q→p:=by
 intro hq
 obtain⟨e,he⟩:∃ e:Nat,(e:Int)=rm+1000000000:=⟨(rm+1000000000).toNat,byOmega⟩
 have HE:=Af he
 clear he
 revert HE
 revert e
 exact hq.out):p:=h ⟨k⟩
theorem Y1 {p:Prop} (h:p:=by
 have h1:=hinv
 rw[hke,List.take_length,List.take_of_length_le byOmega,List.take_of_length_le hlb,bg,bg,HR.out] at h1
 have h2:=gI hlim
 rw[hlen] at h2
 have h3:=l9 a
 have h4:=HRA.out
 have:=afs h2 byOmega byOmega h1
 omega):p:=h
theorem Y6 {p q:Prop} (k:q) (h:Mhid q→p:=by
 intro hq
 have hdd:decide (k < (dig b).length)=false:=decide_eq_false hlt2
 have HY:=Af (dU (l:=dig b) (k:=k) byOmega)
 revert HY
 revert hdd
 exact hq.out):p:=h ⟨k⟩
theorem Y7 {p q:Prop} (k:q) (h:Mhid q→p:=by
 intro hq
 have t2:(q+D != 0)=true:=by simp[hD]
 have hD':0 < q+D:=byOmega
 obtain⟨k,hk⟩:∃ k,(p+A) / (q+C)=k:=⟨_,rfl⟩
 obtain⟨k2,hk2⟩:∃ k,(p+B) / (q+D)=k:=⟨_,rfl⟩
 have kn:0≤k:=by rw[← hk];exact Int.ediv_nonneg pA qC
 have k2n:0≤k2:=by rw[← hk2];exact Int.ediv_nonneg pB qD
 have kle:k≤p+A:=by rw[← hk];exact Int.ediv_le_self _ pA
 have k2le:k2≤p+B:=by rw[← hk2];exact Int.ediv_le_self _ pB
 revert k2le
 revert kle
 revert k2n
 revert kn
 revert hk2
 revert k2
 revert hk
 revert k
 revert hD'
 revert t2
 exact hq.out):p:=h ⟨k⟩
theorem zaa {p q:Prop} (k:q) (h:Mhid q→p:=by
 intro hq
 obtain⟨f,hf⟩:=named (LB / (t+1))
 have hfit:=xM hn hb00
 have ac6:=uV (a:=a) (f:=f) byOmega
 rw[gt,← hf] at hfit
 have HDB:=Af (fun (v:List Nat) (h1:v.length=n) (h2:Limbs v) (h3:aI v=b*f)=>(by have:=acP (b:=b) (v:=v) hn byOmega h1 h2 (by rw[gt,← hf]; exact h3); rw[gt,← hf] at this; exact this:CQ v n b f))
 revert HDB
 revert hfit
 revert ac6
 revert hf
 revert f
 exact hq.out):p:=h ⟨k⟩
theorem zac {p:Prop} (h:p:=by
 have HD:=Af (show decide (n=1)=false from decide_eq_false fun h=>h1 (by rw[h,iJ]; rfl))
 have hd:(((dig n).length:Int)==1)=false:=aG
 clear h1
 go_in
 go_wp2
 go_ret
 exact⟨by rw[HD.out]; rfl,rfl⟩):p:=h
theorem zad {p:Prop} (h:p:=by
 refine⟨_,rfl,hbel,_,by rw[← HF.out.2]; rfl,?_⟩
 have:=fF HO.out HM.out (F:=fun b=>w.heap.size≤b) (Nat.le_refl _) (c:=(dig a).length) HL.out (Nat.le_refl _)
 rw[HF.out.1] at this
 exact this):p:=h
theorem zae {p:Prop} (h:p:=by
 go_ret
 exact⟨by rw[HE.out]; first | rfl | (rw[HE2.out]; rfl),0,rfl⟩):p:=h
theorem zai {p q:Prop} (k:q) (h:Mhid q→p:=by
 intro hq
 obtain⟨z,hz⟩:=aF (l:=l) (k:=k) byOmega
 have rc:=hrow.cell (aX hz)
 have fc:=hrow.frozen k
 revert fc
 revert rc
 revert hz
 revert z
 exact hq.out):p:=h ⟨k⟩
theorem zak {p:Prop} (h:p:=by
 have:=HS.out
 rw[HX.out,HY.out,← HP.out]
 show _=_+1000000000*_
 omega):p:=h
theorem zal {p:Prop} (h:p:=by
 rintro e w' ⟨rfl,rfl⟩
 go_wp2
 go_ret
 refine⟨_,rfl,hbel,?_⟩
 have:=fF HO.out HM.out (F:=fun b=>w.heap.size≤b) (Nat.le_refl _) HL.out (Nat.le_refl _)
 rw[HF.out] at this
 exact this):p:=h
theorem zam {p:Prop} (h:p:=by
 go_in
 go_wp2
 go_ret
 exact⟨rfl,rfl⟩):p:=h
theorem zaq {p:Prop} (h:p:=by
 have h1:=gI ((aT n).drop (j+1))
 have h2:LB ^ ((dig n).drop (j+1)).length≤LB ^ 1:=Nat.pow_le_pow_right ay (by rw[List.length_drop]; omega)
 have h3:LB ^ 1=1000000000:=ay
 omega):p:=h
theorem zau {p:Prop} (h:p:=by
 rw[HX.out,HY.out,HP.out,HQ.out]
 show(e:Int)+1000000000*_=_
 omega):p:=h
theorem zav {p q:Prop} (k:q) (h:Mhid q→p:=by
 intro hq
 have hr:=HRW.out.set (j+k) (.int .u32 (s:Int))
 rw[bf,set_mid HPP.out zT] at hr
 have hss:=HS.out
 revert hss
 revert hr
 exact hq.out):p:=h ⟨k⟩
theorem zax {p:Prop} (h:p:=by
 exact⟨_,rfl,hwz _ _ (Nat.le_refl _) hB,by unfold NmV; rw[HW.out]; exact Ak.make rfl ((Aj.on (n:=m) HV.out (hkz _ byOmega)).mono (fun b hb _=>by omega)) (jy _ _ _ _)⟩):p:=h
theorem zaz {p q:Prop} (k:q) (h:Mhid q→p:=by
 intro hq
 have HB:=Af (show qQ q r v2 u2=false by rw[HBAD.out]; exact decide_eq_false byOmega)
 revert HB
 exact hq.out):p:=h ⟨k⟩
theorem zaA {p:Prop} (h:p:=by
 subst h0
 have HE:=Af (show aI ((dig n).drop 0)=n by rw[List.drop_zero,bg])
 generalize aI ((dig n).drop 0)=m at *
 go_wp2
 go_ret
 exact⟨by rw[← HE.out]; rfl,rfl⟩):p:=h
theorem zaE {p q:Prop} (k:q) (h:Mhid q→p:=by
 intro hq
 have t5:decide (1000000000≤aaI (A - kc) (-(A - kc)) (B - kd) (-(B - kd)))=false:=decide_eq_false hmx
 have hn:=mt afx.2 hmx
 have n1:-1000000000 < A - kc:=byOmega
 have n2:A - kc < 1000000000:=byOmega
 have n3:-1000000000 < B - kd:=byOmega
 have n4:B - kd < 1000000000:=byOmega
 clear hn
 revert n4
 revert n3
 revert n2
 revert n1
 revert t5
 exact hq.out):p:=h ⟨k⟩
theorem zaK {p q:Prop} (k:q) (h:Mhid q→p:=by
 intro hq
 have HB:=Af (show qQ q r v2 u2=true by rw[HBAD.out]; exact decide_eq_true ⟨c1,.inl c2⟩)
 have d1:decide ((r:Int) < 1000000000)=true:=decide_eq_true byOmega
 have d2:decide ((1000000000:Int)≤(q:Int))=true:=decide_eq_true byOmega
 revert d2
 revert d1
 revert HB
 exact hq.out):p:=h ⟨k⟩
theorem zaP {p:Prop} (h:p:=by
 obtain⟨u,hu,hr⟩:=h
 exact⟨u,by rw[hs.cell hb hl]; exact hu,hr.keep hFG hs⟩):p:=h
theorem zaQ {p:Prop} (h:p:=by
 rw[HX.out,HY.out,HP.out]
 show(e:Int)+1000000000*_=_
 omega):p:=h
theorem za6 {p:Prop} (h:p:=by
 have hd:((x:Int)==1)=false:=aG
 have H2:=Af h2
 clear h2
 go_in
 go_wp2
 go_ret
 exact⟨by rw[HD.out,decide_eq_false H2.out]; rfl,rfl⟩):p:=h
theorem za7 {p:Prop} (h:p:=by
 exact⟨b0,a0,rfl,HB.out.ext (aK (Below.refl _ w) z0),HA.out.ext (aK (Below.refl _ w) z0),byOmega,by rw[HG.out,Nat.gcd_comm],hlb⟩):p:=h
theorem za8 {p q:Prop} (k:q) (h:Mhid q→p:=by
 intro hq
 obtain⟨p,hp⟩:=named (q*v2)
 have hpI:(q:Int)*(v2:Int)=(p:Int):=by rw[hp];simp
 rw[← hp] at hpb
 have HP:=Af hp
 clear hp
 have hbad:qQ q r v2 u2=decide (r < 1000000000∧(1000000000≤q∨r*1000000000+u2 < p)):=by unfold qQ;rw[HP.out]
 have HBAD:=Af hbad
 clear hbad
 revert HBAD
 revert HP
 revert hpb
 revert hpI
 revert p
 exact hq.out):p:=h ⟨k⟩
theorem za9 {p:Prop} (h:p:=by
 have h1:=fF DZ.out HQL.out (F:=Ext F w.heap.size) (.inr byOmega) (c:=la - n+1) HQN.out (Nat.le_refl _)
 rw[HQ.out] at h1
 exact h1):p:=h
theorem zba {p:Prop} (h:p:=by
 have HF:=Af hfin
 clear hfin he
 go_wp2
 go_quiet (fail)
 go_wp2
 go_ret
 exact⟨by rw[HF.out]; rfl,n+nq,by rw[World.drewN_drewN]⟩):p:=h
theorem zbb {p:Prop} (h:p:=by
 have hd:((x:Int)==0)=false:=aG
 have HZ:=Af hz
 clear hz
 go_wp2
 go_ret
 exact⟨by rw[← HT.out,HS.out,if_neg HZ.out]; rfl,rfl⟩):p:=h
theorem zbd {p:Prop} (h:p:=by
 rw[bf,set_mid HPP.out hm2] at hr
 have hss:=HS.out
 rw[show(s:Int)=(x:Int)+(y:Int)+(o:Int) - 1000000000 by omega] at hr
 exact hr):p:=h
theorem zbe {p:Prop} (h:p:=by
 rw[HQ.out,HG.out.1]
 obtain⟨q',rfl⟩:∃ q',q=q'+1:=⟨q - 1,byOmega⟩
 rw[Nat.add_sub_cancel,Nat.add_mul,Nat.one_mul]
 omega):p:=h
theorem zbf {p:Prop} (h:p:=by
 go_wp2
 go_ret
 exact⟨by rw[HE.out]; rw[← HE.out,← HO.out]; rfl,(by simp only[World.drewN_drewN]; exact⟨_,rfl⟩)⟩):p:=h
theorem zbj {p q:Prop} (k:q) (h:Mhid q→p:=by
 intro hq
 rw[Nat.mul_one] at ey
 have hyl:y < 1000000000:=(aT b).get hy'
 have HY:=Af (aP hy')
 revert HY
 revert hyl
 revert ey
 exact hq.out):p:=h ⟨k⟩
theorem zbn {p q:Prop} (k:q) (h:Mhid q→p:=by
 intro hq
 have HB:=Af (show qQ q r v2 u2=true by rw[HBAD.out]; exact decide_eq_true ⟨c1,.inr c3⟩)
 have d3:decide ((r:Int)*1000000000+(u2:Int) < (p:Int))=true:=decide_eq_true byOmega
 revert d3
 revert HB
 exact hq.out):p:=h ⟨k⟩
theorem zbt {p q:Prop} (k:q) (h:Mhid q→p:=by
 intro hq
 have hda:(((dig a).length:Int)==0)=false:=by have:=bT.2 ha0;exact beq_false_of_ne byOmega
 have hdb:(((dig b).length:Int)==0)=false:=by have:=bT.2 hb0;exact beq_false_of_ne byOmega
 revert hdb
 revert hda
 exact hq.out):p:=h ⟨k⟩
theorem zbu {p:Prop} (h:p:=by
 have HF:=Af hF
 clear hF hinv hlim hlen hrow
 go_wp2
 go_ret
 exact⟨_,rfl,hbel,rfl,l,HL.out,HM.out,HF.out,HO.out⟩):p:=h
theorem zby {p:Prop} (h:p:=by
 exact⟨a0,b0,rfl,HA.out.ext (aK (Below.refl _ w) z0),HB.out.ext (aK (Below.refl _ w) z0),byOmega,HG.out,hla⟩):p:=h
theorem zbz {p:Prop} (h:p:=by
 obtain⟨y,hy⟩:=List.length_eq_one_iff.1 h1
 have h2:=bg b
 rw[hy] at hx' h2
 simp at hx'
 simp[aI] at h2
 omega):p:=h
theorem zbA {p q:Prop} (k:q) (h:Mhid q→p:=by
 intro hq
 have hpb:x*d≤999999999000000000:=Nat.le_trans (Nat.mul_le_mul (show x≤999999999 by omega) hd1) ay
 obtain⟨p,hp⟩:=named (x*d)
 have hpI:(x:Int)*(d:Int)=(p:Int):=by rw[hp];simp
 rw[← hp] at hpb
 have HP:=Af hp
 clear hp
 revert HP
 revert hpb
 revert hpI
 revert p
 exact hq.out):p:=h ⟨k⟩
theorem zbC {p q:Prop} (k:q) (h:Mhid q→p:=by
 intro hq
 have T1:=Af t1
 have ajA:-2500000000≤qd:=byOmega
 have ajB:qd≤2500000000:=byOmega
 revert ajB
 revert ajA
 revert T1
 exact hq.out):p:=h ⟨k⟩
theorem zbD {p:Prop} (h:p:=by
 exact⟨_,rfl,(aK (Below.refl _ w) z0).trans hb1,_,_,rfl,by rw[HS.out,oD]; exact HV.out,by rw[HS.out,oD]⟩):p:=h
theorem zbG {p q:Prop} (k:q) (h:Mhid q→p:=by
 intro hq
 refine⟨_,rfl,hbel,?_⟩
 exact hq.out):p:=h ⟨k⟩
theorem zbJ {p q:Prop} (k:q) (h:Mhid q→p:=by
 intro hq
 obtain⟨W,hW,hr,hWb,hWz⟩:=aO w 118 #[.bool false,.slice none 0 0,.slice none 0 0]
 rw[← hW]
 revert hWz
 revert hWb
 revert hr
 revert hW
 revert W
 exact hq.out):p:=h ⟨k⟩
theorem zbK {p:Prop} (h:p:=by
 exact⟨_,rfl,hwz _ _ byOmega hB3,HU.out.keep (fun b hb _=>hb.1) (hkz _ (fun h=>by have:=h.2; omega))⟩):p:=h
theorem zbN {p:Prop} (h:p:=by
 simp only[decide_eq_false_iff_not]
 rintro rfl
 have h3:=HX.out
 rw[HY.out] at h3
 cases h3
 exact he rfl):p:=h
theorem zbR {p q:Prop} (k:q) (h:Mhid q→p:=by
 intro hq
 obtain⟨n1,hn1⟩:∃ n1,n1+1=n:=⟨n - 1,byOmega⟩
 revert hn1
 revert n1
 exact hq.out):p:=h ⟨k⟩
theorem zbS {p q:Prop} (k:q) (h:Mhid q→p:=by
 intro hq
 refine decide_eq_false ?_
 unfold dD
 exact hq.out):p:=h ⟨k⟩
theorem zbW {p:Prop} (h:p:=by
 have:=HE.out.aaW HQ.out (HT.out.2.imp id fun h=>by rw[HG.out.2.2.2.2,HG.out.2.1]; exact h)
 omega):p:=h
theorem zbX {p q:Prop} (k:q) (h:Mhid q→p:=by
 intro hq
 have HSU:=Af (BJ.start (U:=U0) HDV.out HN.out HLA.out hlb hul ac7 hun)
 have hB2:Below w.heap.size w w2:=(aK (Below.refl _ w) z0).trans (uq.trans (hbw2.mono hzz))
 revert hB2
 revert HSU
 exact hq.out):p:=h ⟨k⟩
theorem zbZ {p:Prop} (h:p:=by
 go_wp2
 go_ret
 exact⟨by rw[HE.out]; rfl,(by simp only[World.drewN_drewN]; exact⟨_,rfl⟩)⟩):p:=h
theorem zcc {p:Prop} (h:p:=by
 have h1:(dig n).length≤3:=aY (Nat.lt_trans hn ay)
 rw[← hd,List.length_append] at h1
 omega):p:=h
theorem zcd {p:Prop} (h:p:=by
 have h1:=hinv
 rw[List.take_of_length_le (l:=dig a) hla,bg] at h1
 exact zO hlim hlen h1 HT.out):p:=h
open Lib renaming hid → Af
open Go.RowKit
abbrev Ah:=Nat→Prop
structure Same (F:Ah) (w w':World):Prop where
 size:w.heap.size≤w'.heap.size
 block:∀ b,F b→b < w.heap.size→w'.heap[b]? = w.heap[b]?
section
variable {F G:Ah} {w w' w'':World}
theorem Same.cell (h:Same F w w') {b:Nat} (hb:F b) (hl:b < w.heap.size) (o:Nat):w'.cell? ⟨b,o,none⟩=w.cell? ⟨b,o,none⟩:=World.cell?_of_block (w:=w) (h.block b hb hl)
theorem Same.refl (F:Ah) (w:World):Same F w w:=⟨Nat.le_refl _,fun _ _ _=>rfl⟩
theorem Same.trans (h:Same F w w') (k:Same F w' w''):Same F w w'':=⟨Nat.le_trans h.size k.size,fun i hi hl=>(k.block i hi (Nat.lt_of_lt_of_le hl h.size)).trans (h.block i hi hl)⟩
theorem Same.mono (h:Same F w w') (hG:∀ b,G b→F b):Same G w w':=⟨h.size,fun b hb hl=>h.block b (hG b hb) hl⟩
theorem Below.same' (h:Below w.heap.size w w') (F:Ah):Same F w w':=⟨h.size,fun b _ hl=>h.block b hl⟩
theorem Same.alloc (F:Ah) (w:World) (o:Obj):Same F w (w.alloc o):=⟨aB,fun b _ hl=>Below.heap_alloc w o b hl⟩
theorem Same.drewN (F:Ah) (w:World) (n:Nat):Same F w (w.drewN n):=⟨Nat.le_refl _,fun _ _ _=>rfl⟩
theorem Same.setCell (F:Ah) (w:World) {p:Addr} (hp:¬ F p.block) (v:Value):Same F w (w.setCell p v) :=
 ⟨aB,fun b hb _=>Below.heap_setCell w p v b (fun e=>hp (e▸hb))⟩
end
theorem aF {α:Type} {l:List α} {k:Nat} (h:k < l.length):∃ x,l[k]? = some x:=⟨l[k],by simp[h]⟩
theorem aJ {α:Type} {l:List α} {k:Nat} {x:α} (h:l[k]? = some x):k < l.length:=by
 rcases Nat.lt_or_ge k l.length with h1 | h1
 ·exact h1
 ·rw[List.getElem?_eq_none h1] at h;cases h
theorem take_snoc {α:Type} {l:List α} {k:Nat} {x:α} (h:l[k]? = some x):l.take (k+1)=l.take k ++ [x]:=by
 rw[List.take_succ_eq_append_getElem (aJ h)];congr 2;have:=aJ h;simpa [this] using h
def BN {α:Type} (sz:Nat) (E:World→Ah→Nat→Nat→α→Prop) (w:World) (F:Ah) (v:Value) (l:List α):Prop :=
 ∃ A c,v = .slice A l.length c∧l.length≤c∧(0 < l.length→∃ b o,A=some ⟨b,o,none⟩∧F b∧b < w.heap.size∧∀ k x,l[k]? = some x→E w F b (o+k*sz) x)
theorem BN.keep {α:Type} {sz:Nat} {E:World→Ah→Nat→Nat→α→Prop} {w w':World} {F G:Ah} {v:Value} {l:List α}
  (h:BN sz E w F v l) (hFG:∀ b,F b→b < w.heap.size→G b) (hsz:w.heap.size≤w'.heap.size) (hE:∀ b o x,x∈l→F b→b < w.heap.size→E w F b o x→E w' G b o x):BN sz E w' G v l:=by
 obtain⟨A,c,rfl,hc,hr⟩:=h;refine⟨A,c,rfl,hc,fun h0=>?_⟩;obtain⟨b,o,rfl,hb,hl,hx⟩:=hr h0;exact⟨b,o,rfl,hFG b hb hl,Nat.lt_of_lt_of_le hl hsz,fun k x hk=>hE b _ x (List.mem_of_getElem? hk) hb hl (hx k x hk)⟩
def pF (k:IntKind) (w:World) (_:Ah) (b o:Nat) (x:Int):Prop:=w.cell? ⟨b,o,none⟩=some (.int k x)
def wM {α:Type} (S:World→Ah→Value→α→Prop) (w:World) (F:Ah) (b o:Nat) (x:α):Prop:=∃ v,w.cell? ⟨b,o,none⟩=some v∧S w F v x
def AO (w:World) (F:Ah) (v:Value) (l:List Int):Prop:=BN 1 (pF .i64) w F v l
def Ba (w:World) (F:Ah) (v:Value) (l:List (List Int)):Prop:=BN 1 (wM AO) w F v l
theorem AO.keep {w w':World} {F G:Ah} {v:Value} {l:List Int} (h:AO w F v l) (hFG:∀ b,F b→b < w.heap.size→G b) (hs:Same F w w'):AO w' G v l :=
 BN.keep h hFG hs.size fun b o x _ hb hl hx=>by unfold pF at *; rw[hs.cell hb hl]; exact hx
theorem Ba.keep {w w':World} {F G:Ah} {v:Value} {l:List (List Int)} (h:Ba w F v l) (hFG:∀ b,F b→b < w.heap.size→G b) (hs:Same F w w'):Ba w' G v l :=
 BN.keep h hFG hs.size fun b o x _ hb hl hx=>by
  obtain⟨u,hu,hr⟩:=hx;exact⟨u,by rw[hs.cell hb hl]; exact hu,hr.keep hFG hs⟩
structure Nd where
 kind:Int
 aC:Int
 info:Int
 next:List Int
 weights:List Int
 pay:List Int
 deriving Inhabited,DecidableEq
structure Inf where
 aC:Int
 actions:Int
 deriving Inhabited,DecidableEq
structure Gm where
 aA:Int
 nodes:List Nd
 infos:List Inf
 deriving Inhabited,DecidableEq
structure Df (w:World) (F:Ah) (b o:Nat) (n:Nd):Prop where
 c0:w.cell? ⟨b,o,none⟩=some (.int .i64 n.kind)
 c1:w.cell? ⟨b,o+1,none⟩=some (.int .i64 n.aC)
 c2:w.cell? ⟨b,o+2,none⟩=some (.int .i64 n.info)
 c3:wM AO w F b (o+3) n.next
 c4:wM AO w F b (o+4) n.weights
 c5:wM AO w F b (o+5) n.pay
structure Ee (w:World) (_:Ah) (b o:Nat) (n:Inf):Prop where
 c0:w.cell? ⟨b,o,none⟩=some (.int .i64 n.aC)
 c1:w.cell? ⟨b,o+1,none⟩=some (.int .i64 n.actions)
theorem qc {w w':World} {F G:Ah} {b o:Nat} {l:List Int} (h:wM AO w F b o l) (hFG:∀ b,F b→b < w.heap.size→G b) (hs:Same F w w') (hb:F b) (hl:b < w.heap.size):wM AO w' G b o l:=by
 exact zaP
theorem Df.keep {w w':World} {F G:Ah} {b o:Nat} {n:Nd} (h:Df w F b o n) (hFG:∀ b,F b→b < w.heap.size→G b) (hs:Same F w w') (hb:F b) (hl:b < w.heap.size):Df w' G b o n :=
 ⟨by rw[hs.cell hb hl]; exact h.c0,by rw[hs.cell hb hl]; exact h.c1,by rw[hs.cell hb hl]; exact h.c2,qc h.c3 hFG hs hb hl,qc h.c4 hFG hs hb hl,qc h.c5 hFG hs hb hl⟩
def Bf (w:World) (F:Ah) (v:Value) (l:List Nd):Prop:=BN 6 Df w F v l
def Bc (w:World) (F:Ah) (v:Value) (l:List Inf):Prop:=BN 2 Ee w F v l
theorem Bf.keep {w w':World} {F G:Ah} {v:Value} {l:List Nd} (h:Bf w F v l) (hFG:∀ b,F b→b < w.heap.size→G b) (hs:Same F w w'):Bf w' G v l :=
 BN.keep h hFG hs.size fun _ _ _ _ hb hl hx=>hx.keep hFG hs hb hl
theorem Bc.keep {w w':World} {F G:Ah} {v:Value} {l:List Inf} (h:Bc w F v l) (hFG:∀ b,F b→b < w.heap.size→G b) (hs:Same F w w'):Bc w' G v l :=
 BN.keep h hFG hs.size fun _ _ _ _ hb hl hx=>⟨by rw[hs.cell hb hl]; exact hx.c0,by rw[hs.cell hb hl]; exact hx.c1⟩
def AV (w:World) (F:Ah) (v:Value) (g:Gm):Prop :=
 ∃ vn vi,v = .agg #[.int .i64 g.aA,vn,vi]∧Bf w F vn g.nodes∧Bc w F vi g.infos
theorem AV.keep {w w':World} {F G:Ah} {v:Value} {g:Gm} (h:AV w F v g) (hFG:∀ b,F b→b < w.heap.size→G b) (hs:Same F w w'):AV w' G v g:=by
 obtain⟨vn,vi,rfl,hn,hi⟩:=h;exact⟨vn,vi,rfl,hn.keep hFG hs,hi.keep hFG hs⟩
def Row (w:World) (b:Nat) (t:TypeId) (vs:List Value):Prop:=w.heap[b]? = some (.cells vs.toArray t (0,0))
section
variable {w w':World} {b:Nat} {t:TypeId} {vs:List Value}
theorem Row.cell (h:Row w b t vs) {i:Nat} {v:Value} (hi:vs[i]? = some v):w.cell? ⟨b,i,none⟩=some v:=by
 unfold Row at h;simp[World.cell?,h,hi]
theorem Row.frozen (h:Row w b t vs) (i:Nat):w.frozen? ⟨b,i,none⟩=false:=by
 unfold Row at h;simp[World.frozen?,h]
theorem Row.lt (h:Row w b t vs):b < w.heap.size:=by
 obtain⟨hlt,_⟩:=Array.getElem?_eq_some_iff.1 h;exact hlt
theorem Row.of_block (h:Row w b t vs) (e:w'.heap[b]? = w.heap[b]?):Row w' b t vs:=e.trans h
theorem Row.set (h:Row w b t vs) (i:Nat) (v:Value):Row (w.setCell ⟨b,i,none⟩ v) b t (vs.set i v):=by
 unfold Row at *;simp[World.setCell,Array.getElem?_modify,h]
theorem Row.other (h:Row w b t vs) {a:Addr} (ha:b≠a.block) (v:Value):Row (w.setCell a v) b t vs:=h.of_block (Below.heap_setCell _ _ _ _ ha)
theorem ste {W:World} {i:Nat} {v:Value} (hw:W=w.setCell ⟨b,i,none⟩ v) (h:Row w b t vs):Row W b t (vs.set i v):=hw▸h.set i v
theorem Row.alloc (h:Row w b t vs) (o:Obj):Row (w.alloc o) b t vs:=h.of_block (Below.heap_alloc _ _ _ h.lt)
theorem Row.drew (h:Row w b t vs):Row w.drew b t vs:=h
theorem Row.below {B:Nat} (h:Row w b t vs) (hb:Below B w w') (hB:b < B):Row w' b t vs:=h.of_block (hb.block b hB)
theorem Row.new (w:World) (t:TypeId) (c:Array Value):Row (w.alloc (.cells c t)) w.heap.size t c.toList:=by
 unfold Row;show(w.heap.push _)[w.heap.size]? = _;simp
end
theorem Row.made (w:World) (z:Value) (n:Nat) (t:TypeId):Row (w.alloc (.cells (madeCells #[z] n) t)) w.heap.size t (List.replicate n z):=by
 have h:=Row.new w t (madeCells #[z] n);have e:(madeCells #[z] n).toList=List.replicate n z:=by
  apply List.ext_getElem?
  intro i;by_cases hi:i < n
  ·simp[madeCells,hi,Nat.mod_one]
  ·simp[madeCells,hi]
 rw[e] at h;exact h
def BR (w:World) (F:Ah) (v:Value) (n:Nd):Prop :=
 ∃ v3 v4 v5,v = .agg #[.int .i64 n.kind,.int .i64 n.aC,.int .i64 n.info,v3,v4,v5]∧AO w F v3 n.next∧AO w F v4 n.weights∧AO w F v5 n.pay
theorem BR.keep {w w':World} {F G:Ah} {v:Value} {n:Nd} (h:BR w F v n) (hFG:∀ b,F b→b < w.heap.size→G b) (hs:Same F w w'):BR w' G v n:=by
 obtain⟨v3,v4,v5,rfl,h3,h4,h5⟩:=h;exact⟨v3,v4,v5,rfl,h3.keep hFG hs,h4.keep hFG hs,h5.keep hFG hs⟩
theorem AO.on {w w':World} {F:Ah} {v:Value} {l:List Int} (h:AO w F v l) (hs:Same F w w'):AO w' F v l:=h.keep (fun _ h _=>h) hs
theorem Ba.on {w w':World} {F:Ah} {v:Value} {l:List (List Int)} (h:Ba w F v l) (hs:Same F w w'):Ba w' F v l:=h.keep (fun _ h _=>h) hs
theorem Bf.on {w w':World} {F:Ah} {v:Value} {l:List Nd} (h:Bf w F v l) (hs:Same F w w'):Bf w' F v l:=h.keep (fun _ h _=>h) hs
theorem Bc.on {w w':World} {F:Ah} {v:Value} {l:List Inf} (h:Bc w F v l) (hs:Same F w w'):Bc w' F v l:=h.keep (fun _ h _=>h) hs
theorem AV.on {w w':World} {F:Ah} {v:Value} {g:Gm} (h:AV w F v g) (hs:Same F w w'):AV w' F v g:=h.keep (fun _ h _=>h) hs
theorem BR.on {w w':World} {F:Ah} {v:Value} {n:Nd} (h:BR w F v n) (hs:Same F w w'):BR w' F v n:=h.keep (fun _ h _=>h) hs
theorem aK {B:Nat} {a w:World} (h:Below B a w) (n:Nat):Below B a (w.drewN n):=⟨h.os,h.tape,h.output,h.size,h.block⟩
theorem Row.dN {w:World} {b:Nat} {t:TypeId} {vs:List Value} (h:Row w b t vs) (n:Nat):Row (w.drewN n) b t vs:=h
theorem aQ {B:Nat} {w w':World} (h:Below B w w'):∀ b o,b < B→w'.cell? ⟨b,o,none⟩=w.cell? ⟨b,o,none⟩:=fun b o hb=>h.cell (p:=⟨b,o,none⟩) hb
theorem Row.ints {w:World} {b:Nat} {t:TypeId} {l:List Int} (h:Row w b t (l.map (Value.int .i64))) {F:Ah} (hF:F b) {c:Nat} (hc:l.length≤c):AO w F (.slice (some ⟨b,0,none⟩) l.length c) l :=
 ⟨_,c,rfl,hc,fun _=>⟨b,0,rfl,hF,h.lt,fun k x hk=>by unfold pF; simp only[Nat.mul_one,Nat.zero_add]; exact h.cell (by simp[hk])⟩⟩
theorem dV {P:Program} (w:World) {ops:Array Oper} {rest:List Oper} {o:Oper} {a:Act} {Q:Exit→Act→World→Prop}
  (hg:o.guard=none) (l c:Operand) (t:TypeId) (hop:o.op=Op.makeSlice t l c)
  (e:TypeId) (z:Value) (bytes:Nat) (ht:P.underlying t=some (.slice e)) (hinfo:(P.info? e).map (fun i=>(i.zero,i.size,i.bytes))=some (some z,1,bytes)) (hz1:z.cells = #[z])
  (n:Nat) (hl:a.eval l = .int .i64 (n:Int)) (hc:a.eval c = .int .i64 (n:Int)) (hn:n≤1000000) (hb:bytes≤1000)
  (hK:∀ w1,Below w.heap.size w w1→w1.heap.size=w.heap.size+1→Row w1 w.heap.size e (List.replicate n z) →
   wpList P ops Q rest (a.put o.dst (.slice (some ⟨w.heap.size,0,none⟩) n n)) w1) :
  wpList P ops Q (o :: rest) a w:=by
 refine wpList_plain hg fun K hK'=>?_
 have hbytes:bytes*n≤281474976710656:=by
  have:bytes*n≤1000*1000000:=Nat.mul_le_mul hb hn;omega
 have hrun:=run_make_row' (P:=P) t e z bytes ht hinfo hz1 .i64 .i64 n hbytes byOmega w;unfold Oper.wp;simp[execOp,hop,hl,hc,hrun,Result.andThen];have hbel:Below w.heap.size w (w.alloc (.cells (madeCells #[z] n) e)):=(Below.refl _ _).alloc (Nat.le_refl _) _;exact hK' _ _ (hK _ hbel aB (Row.made w z n e))
theorem Tryz.infoInt:(Tryz.prog.info? 3).map (fun i=>(i.zero,i.size,i.bytes))=some (some (.int .i64 0),1,8):=ah
theorem Tryz.infoInts:(Tryz.prog.info? 26).map (fun i=>(i.zero,i.size,i.bytes))=some (some (.slice none 0 0),1,24):=ah
def Ret (w:World) (R:Value→World→Prop) (e:Ending) (w':World):Prop:=∃ v,e = .returned v∧Below w.heap.size w w'∧R v w'
theorem zC {α:Type} {l:List α} {p:α→Bool} {k:Nat} {x:α} (h:l[k]? = some x) (hn:(l.take k).any p=false) (hx:p x=false):(l.take (k+1)).any p=false:=by
 rw[take_snoc h,List.any_append];simp[hn,hx]
def sF (l:List Int) (i:Int) (p:List Int):List Int:=l.foldl (fun p c=>p.set c.toNat i) p
def pG (nodes:List Nd):Nat→List Int
 | 0=>(List.replicate nodes.length 0).set 0 (-1)
 | k+1=>match nodes[k]? with
  | some n=>sF n.next k (pG nodes k)
  | none=>pG nodes k
def dW (nodes:List Nd):List Int:=pG nodes nodes.length
theorem zD (l:List Int) (i:Int) (p:List Int):(sF l i p).length=p.length:=by
 unfold sF;induction l generalizing p with
 | nil=>rfl
 | cons c l ih=>simp only[List.foldl_cons]; rw[ih]; simp
theorem qg (nodes:List Nd) (k:Nat):(pG nodes k).length=nodes.length:=by
 induction k with
 | zero=>simp[pG]
 | succ k ih =>
  unfold pG;split
  ·rw[zD,ih]
  ·exact ih
theorem aek {nodes:List Nd} {k:Nat} {n:Nd} (h:nodes[k]? = some n):pG nodes (k+1)=sF n.next k (pG nodes k):=by
 simp[pG,h]
def Ei (nodes:List Nd):Prop:=∀ n∈nodes,∀ c∈n.next,0≤c∧c < (nodes.length:Int)
structure Small (g:Gm):Prop where
 nodes:g.nodes.length≤100
 infos:g.infos.length≤100
 next:∀ n∈g.nodes,n.next.length≤100
 weights:∀ n∈g.nodes,n.weights.length≤100
 pay:∀ n∈g.nodes,n.pay.length≤100
theorem kG {α:Type} {l1 l2:List α} {k:Nat} {x:α} (h1:l1[k]? = some x) (h2:l2[k]? = some x) (h:l1.take k=l2.take k):l1.take (k+1)=l2.take (k+1):=by
 rw[take_snoc h1,take_snoc h2,h]
theorem uY (w:World) (F:Ah) (v1 v2:Value) (l1 l2:List Int) (h1:AO w F v1 l1) (h2:AO w F v2 l2) (hl1:l1.length < 1000000) (hl2:l2.length < 1000000) :
  Calls Tryz.prog 37 #[v1,v2] w fun e w'=>e = .returned (.bool (decide (l1=l2)))∧∃ n,w'=w.drewN n:=by
 obtain⟨A1,c1,rfl,hc1,r1⟩:=h1;obtain⟨A2,c2,rfl,hc2,r2⟩:=h2;by_cases hl:l1.length=l2.length
 ·have R1:=Af r1;clear r1;have R2:=Af r2;clear r2;have HL:=Af hl;have hb:((l1.length:Int) != (l2.length:Int))=false:=by simp[hl]
  clear hl;go_in;go_wp2
  go_loopw [5] (fun i wr=>∃ k:Nat,k≤l1.length∧i = .int .i64 k∧l1.take k=l2.take k∧∃ n,wr=w.drewN n) (fun i _=>l1.length - (intOf i).toNat)
  case atStart=>exact⟨0,byOmega,rfl,aB,0,rfl⟩
  case round =>
   obtain⟨k,hk,rfl,hpre,n,rfl⟩:=hrel;have HP:=Af hpre;clear hpre;by_cases hlt:k < l1.length
   ·obtain⟨b1,o1,rfl,hb1,_,hcell1⟩:=R1.out byOmega;have hk2:k < l2.length:=by have:=HL.out;omega
    obtain⟨b2,o2,rfl,hb2,_,hcell2⟩:=R2.out byOmega;obtain⟨x,hx⟩:=aF hlt;obtain⟨y,hy⟩:=aF hk2;have e1:=hcell1 k x hx;have e2:=hcell2 k y hy;unfold pF at e1 e2;rw[Nat.mul_one] at e1 e2;clear hcell1 hcell2;have HX:=Af hx;clear hx;have HY:=Af hy;clear hy;by_cases he:x=y
    ·subst he;go_wp2
     go_quiet (fail)
     go_wp2
     go_roundw
     case rel=>exact⟨k+1,byOmega,by go_num,kG HX.out HY.out HP.out,_,rfl⟩
     case measure=>simp[intOf]; omega
    ·have hne:(x != y)=true:=by simp[he]
     have hfin:decide (l1=l2)=false:=by
      exact zbN
     exact zba
   ·go_wp2
    go_ret;have:k=l1.length:=byOmega;have h3:=HP.out;have h4:=HL.out;refine⟨?_,_,rfl⟩;have h5:l1=l2:=by
     exact Yo
    simp[h5]
 ·have hb:((l1.length:Int) != (l2.length:Int))=true:=aG;go_in;go_wp2
  go_ret;refine⟨?_,0,rfl⟩;have:l1≠l2:=by rintro rfl;exact hl rfl
  simp[this]
theorem sG (w:World) (a b:Obj) (n:Nat):Below w.heap.size w (((w.alloc a).alloc b).drewN n):=by
 have h:=(((Below.refl w.heap.size w).alloc (Nat.le_refl _) a).alloc aB b);exact⟨h.os,h.tape,h.output,h.size,h.block⟩
def dJ (rec:Nat→Int→Int×Int):List Int→Int→Int→Int×Int
 | [],next,deep=>(next,deep)
 | c :: cs,next,deep=>if c≠next then (-1,deep) else if (rec next.toNat deep).1 < 0 then (-1,(rec next.toNat deep).2) else dJ rec cs (rec next.toNat deep).1 (rec next.toNat deep).2
def fJ (nodes:List Nd):Nat→Nat→Int→Int→Int×Int
 | 0,_,_,deep=>(-1,deep)
 | f+1,a,depth,deep=>match nodes[a]? with
  | none=>(-1,deep)
  | some n=>dJ (fun a d=>fJ nodes f a (depth+1) d) n.next ((a:Int)+1) (max deep depth)
theorem qW {rec:Nat→Int→Int×Int} {N lo:Nat} (hrec:∀ a d,lo≤a→(rec a d).1 = -1∨((a:Int) < (rec a d).1∧(rec a d).1≤N)):∀ (cs:List Int) (next deep:Int),(lo:Int)≤next→next≤N →
  (dJ rec cs next deep).1 = -1∨((lo:Int)≤(dJ rec cs next deep).1∧(dJ rec cs next deep).1≤N)
 | [],next,deep,h1,h2=>.inr ⟨h1,h2⟩
 | c :: cs,next,deep,h1,h2=>by
  unfold dJ;split
  ·exact .inl rfl
  ·split
   ·exact .inl rfl
   ·rcases hrec next.toNat deep byOmega with h | h
    ·omega
    ·exact qW hrec cs _ _ byOmega byOmega
theorem xP (nodes:List Nd):∀ (f a:Nat) (depth deep:Int),(fJ nodes f a depth deep).1 = -1∨((a:Int) < (fJ nodes f a depth deep).1∧(fJ nodes f a depth deep).1≤nodes.length)
 | 0,_,_,_=>.inl rfl
 | f+1,a,depth,deep=>by
  unfold fJ;split
  ·exact .inl rfl
  ·rename_i n hn
   have:=aJ hn;rcases qW (rec:=fun a d=>fJ nodes f a (depth+1) d) (N:=nodes.length) (lo:=a+1) (fun a' d _=>xP nodes f a' (depth+1) d) n.next ((a:Int)+1) (max deep depth) byOmega byOmega with h | h
   ·exact .inl h
   ·exact .inr byOmega
def CW (w:World) (fid:FuncId) (caps:Array Value) (l:List Int) (p:Int→Bool):Prop :=
 (∀ (args:Array Value) (w':World),(callFunc fid args).run Tryz.prog w' = .ok (.enter fid args) w') ∧
 ∀ (n:Nat) (x:Int),x∈l→Calls Tryz.prog fid (#[.int .i64 x]++caps) (w.drewN n) fun e w'=>e = .returned (.bool (p x))∧∃ m,w'=w.drewN m
def idxOf (p:Int→Bool) (l:List Int):Int:=match l.findIdx? p with | some i=>(i:Int) | none=>-1
theorem idxOf_hit {p:Int→Bool} {l:List Int} {k:Nat} {x:Int} (h:l[k]? = some x) (hp:p x=true) (hn:(l.take k).any p=false):idxOf p l=k:=by
 have hk:=aJ h;have:l.findIdx? p=some k:=by
  rw[List.findIdx?_eq_some_iff_getElem];refine⟨hk,?_,fun j hj=>?_⟩
  ·have:l[k]=x:=by simpa [hk] using h
   rw[this];exact hp
  ·have h1:=List.any_eq_false.1 hn l[j] (by rw[List.mem_take_iff_getElem]; exact⟨j,byOmega,rfl⟩);simpa using h1
 simp[idxOf,this]
theorem zF {p:Int→Bool} {l:List Int} (hn:l.any p=false):idxOf p l = -1:=by
 have:l.findIdx? p=none:=by
  rw[List.findIdx?_eq_none_iff];intro x hx;have:=List.any_eq_false.1 hn x hx;simpa using this
 simp[idxOf,this]
theorem afS (p:Int→Bool) (l:List Int):decide (0≤idxOf p l)=l.any p:=by
 cases h:l.any p with
 | false=>rw[zF h]; rfl
 | true =>
  obtain⟨x,hx,hp⟩:=List.any_eq_true.1 h;unfold idxOf;split
  ·rw[decide_eq_true_iff];omega
  ·rename_i h1
   rw[List.findIdx?_eq_none_iff] at h1;have:=h1 x hx;rw[hp] at this;cases this
theorem aaD (w:World) (F:Ah) (v:Value) (l:List Int) (fid:FuncId) (caps:Array Value) (p:Int→Bool) (hv:AO w F v l) (hl:l.length≤1000000) (ha:CW w fid caps l p) :
  Calls Tryz.prog 182 #[v,.func (.func fid) #[] caps] w fun e w'=>e = .returned (.int .i64 (idxOf p l))∧∃ n,w'=w.drewN n:=by
 obtain⟨A,c,rfl,hc,hr⟩:=hv;have HR:=Af hr;clear hr;obtain⟨hcf,hcl⟩:=ha;have HCL:=Af hcl;clear hcl;go_in;go_wp2
 go_loopw [8] (fun i wr=>∃ k n:Nat,k≤l.length∧i = .int .i64 k∧(l.take k).any p=false∧wr=w.drewN n) (fun i _=>l.length - (intOf i).toNat)
 case atStart=>exact⟨0,0,byOmega,rfl,rfl,rfl⟩
 case round =>
  obtain⟨k,n,hk,rfl,hpre,rfl⟩:=hrel;have HP:=Af hpre;clear hpre;by_cases hlt:k < l.length
  ·obtain⟨b,o,rfl,_,hb,hx⟩:=HR.out byOmega;obtain⟨x,hxx⟩:=aF hlt;have ex:=hx k x hxx;unfold pF at ex;rw[Nat.mul_one] at ex;have HX:=Af hxx;clear hxx hx;go_wp2_with fail
   refine(HCL.out n x (List.mem_of_getElem? HX.out)).mono ?_;rintro e w' ⟨rfl,m,rfl⟩;dsimp only;cases hpx:p x
   ·have HPX:=Af hpx;clear hpx;go_wp2
    go_roundw
    case rel=>exact⟨k+1,m,byOmega,by go_num,zC HX.out HP.out HPX.out,rfl⟩
    case measure=>simp[intOf]; omega
   ·have HF:=Af (idxOf_hit HX.out hpx HP.out);clear hpx;go_wp2
    go_ret;exact⟨by rw[HF.out]; rfl,m,rfl⟩
  ·go_wp2
   go_ret;have h:=HP.out;rw[List.take_of_length_le byOmega] at h;exact⟨by rw[zF h]; rfl,n,rfl⟩
theorem wO (w:World) (F:Ah) (v:Value) (l:List Int) (fid:FuncId) (caps:Array Value) (p:Int→Bool) (hv:AO w F v l) (hl:l.length≤1000000) (ha:CW w fid caps l p) :
  Calls Tryz.prog 139 #[v,.func (.func fid) #[] caps] w fun e w'=>e = .returned (.bool (l.any p))∧∃ n,w'=w.drewN n:=by
 have HV:=Af hv;clear hv;have HA:=Af ha;clear ha;go_in;go_wp2_with fail
 refine(aaD w F v l fid caps p HV.out hl HA.out).mono ?_;rintro e w' ⟨rfl,n,rfl⟩;dsimp only;have HF:=Af (afS p l);generalize idxOf p l=q at *;go_wp2
 all_goals
  go_ret;refine⟨?_,n,rfl⟩;rw[← HF.out];first | rfl | (simp; omega)
theorem neF {a b:Int} (h:a=b):(a != b)=false:=by simp[h]
theorem neT {a b:Int} (h:a≠b):(a != b)=true:=by simp[h]
def outside (lo hi:Int) (l:List Int):Bool:=l.any fun x=>decide (x < lo)||decide (hi < x)
def dH (x:Nd):Int :=
 if x.aC≠0∨x.info≠0∨0 < x.pay.length∨x.next.length < 1∨60 < x.next.length∨x.weights.length≠x.next.length then 3 else if outside 1 1000 x.weights then 2 else 0
def fU (aA:Int) (ni:Nat) (x:Nd):Int :=
 if 0 < x.pay.length∨0 < x.weights.length∨x.next.length < 1∨10 < x.next.length then 3 else if x.aC < 0∨aA≤x.aC∨x.info < 0∨(ni:Int)≤x.info then 2 else 0
def jD (aA:Int) (x:Nd):Int :=
 if x.aC≠0∨x.info≠0∨0 < x.next.length∨0 < x.weights.length∨(x.pay.length:Int)≠aA then 3 else if outside (-1000000) 1000000 x.pay then 2 else 0
def dR (aA:Int) (ni:Nat) (x:Nd):Int :=
 if x.kind=1 then dH x else if x.kind=2 then fU aA ni x else if x.kind=3 then jD aA x else 3
end Go.Proofs.YthmklhapjegfdaaGreatDoor
