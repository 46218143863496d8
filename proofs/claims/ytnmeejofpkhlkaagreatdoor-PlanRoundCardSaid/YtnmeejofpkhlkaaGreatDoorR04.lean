/- Words for memory that all contracts of this seat share: slices that read as lists, rows of cells, worlds that keep some blocks. -/
import Derived.Test.YtnmeejofpkhlkaaGreatDoorR03
import Derived.Test.YtnmeejofpkhlkaaGreatDoorR01
import Derived.Test.YtnmeejofpkhlkaaGreatDoorProg
import Derived.WalkKit
import Derived.Deep.QuietTactic
import Derived.BigQuiet
import Derived.Lib.Hide
import Derived.Deep.OwnRows
set_option linter.all false
set_option maxRecDepth 100000
set_option maxHeartbeats 12800000
namespace Go.Proofs.YtnmeejofpkhlkaaGreatDoor
theorem Zj {p q:Prop} (k:q) (h:Mhid q→p:=by
 intro hq
 rw[← hWz]
 have t0:=hrz.cell (i:=0) rfl
 have t1:=hrz.cell (i:=1) rfl
 have t2:=hrz.cell (i:=2) rfl
 revert t2
 revert t1
 revert t0
 exact hq.out):p:=h ⟨k⟩
theorem Zp {p q:Prop} (k:q) (h:Mhid q→p:=by
 intro hq
 have q0:=hr.cell (i:=0) rfl
 have y0:=hr.frozen 0
 have q1:=hr.cell (i:=1) rfl
 have y1:=hr.frozen 1
 have q2:=hr.cell (i:=2) rfl
 have y2:=hr.frozen 2
 revert y2
 revert q2
 revert y1
 revert q1
 revert y0
 revert q0
 exact hq.out):p:=h ⟨k⟩
theorem ZI {p q:Prop} (k:q) (h:Mhid q→p:=by
 intro hq
 refine(iP w1 F _ _ a b C D Y (HVA.out.below hb1) (HVB.out.below hb1) hla hlb byOmega byOmega byOmega byOmega HX.out.2.1 (by have:=HY.out.1; have:=HX.out.2.2; omega)).mono ?_
 exact hq.out):p:=h ⟨k⟩
theorem ZJ {p:Prop} (h:p:=by
 clear cx HMS HRW HGR Cm
 obtain⟨u3,rfl,aff,aif,adH,hrow3,akE⟩:=hcut
 obtain⟨x,hx⟩:=getSome (l:=u3) (k:=k) byOmega
 have cx:=hrow3.cell (aY ((jA HPP.out byOmega).trans hx))
 have fx:=hrow3.frozen (j+k)
 have hQlt:aH u / aH v < 1000000000:=HE.out.q_lt
 have HLN:=Ag (abx aff adH)
 have Ep:=Ag aff
 have hk3:k < u3.length:=byOmega
 clear hx aff adH
 generalize hQ:aH u / aH v=Q at *
 have HQQ:=Ag hQ
 clear hQ
 go_wp2
 go_ret
 refine⟨by rw[HQQ.out]; rfl,⟨u3.set k 0,by rw[List.length_set,Ep.out],aif.set ay,HLN.out,?_⟩,jq akE _ _⟩
 have hr:=hrow3.set (j+k) (.int .u32 ((0:Nat):Int))
 rw[aZ,set_mid HPP.out hk3] at hr
 exact hr):p:=h
theorem ZN {p:Prop} (h:p:=by
 go_in
 go_wp2
 go_ret
 exact⟨_,rfl,(Below.refl _ _).alloc (Nat.le_refl _) _,by rw[HD.out]; rfl⟩):p:=h
theorem ZV {p q:Prop} (k:q) (h:Mhid q→p:=by
 intro hq
 have hmf:∀ (fn:Fn) (first cap:Array Value) (w:World),(Instr.makeFunc fn first cap).run Tryz.prog w = .ok (.func fn first cap) w:=fun _ _ _ _=>rfl
 revert hmf
 exact hq.out):p:=h ⟨k⟩
theorem ZX {p:Prop} (h:p:=by
 exact⟨by rw[HB.out],by simp only[World.drewN_drewN]; exact⟨_,rfl⟩⟩):p:=h
theorem Z9 {p q:Prop} (k:q) (h:Mhid q→p:=by
 intro hq
 have e1:((j+1:Nat):Int) - 1=(j:Int):=byOmega
 rw[e1]
 clear e1
 exact hq.out):p:=h ⟨k⟩
theorem Yc {p:Prop} (h:p:=by
 have hr:=HO.out.set k (.int .u32 (e:Int))
 rw[aZ,he] at hr
 exact hr):p:=h
theorem Yf {p q:Prop} (k:q) (h:Mhid q→p:=by
 intro hq
 refine(iP w F _ _ a b A B X HVA.out HVB.out hla hlb byOmega byOmega byOmega byOmega HX.out.1 HX.out.2.2).mono ?_
 exact hq.out):p:=h ⟨k⟩
theorem Yh {p:Prop} (h:p:=by
 refine⟨k+1,l.set k ((cr+p) % 1000000000),(cr+p) / 1000000000,byOmega,by go_num,by go_num,byOmega,by rw[List.length_set,HL.out],HM.out.set (by show _ < 1000000000; omega),pI (by rw[HL.out]; exact hlt) HI.out (by rw[HX.out,← HP.out]; show _+1000000000*_=_; omega),?_,hbel.setCell (Nat.le_refl _) _⟩
 have hr:=HO.out.set k (.int .u32 (((cr+p) % 1000000000:Nat):Int))
 rw[aZ] at hr
 exact hr):p:=h
theorem Yi {p q:Prop} (k:q) (h:Mhid q→p:=by
 intro hq
 rw[Nat.mul_one] at ex
 have hxl:x < 1000000000:=(aP a).get hx'
 have HX:=Ag (aN hx')
 revert HX
 revert hxl
 revert ex
 exact hq.out):p:=h ⟨k⟩
theorem Yj {p:Prop} (h:p:=by
 refine⟨k+1,l.set k (cr % 1000000000),cr / 1000000000,byOmega,by go_num,by go_num,byOmega,by rw[List.length_set,HL.out],HM.out.set (by show _ < 1000000000; omega),pI (by rw[HL.out]; exact hlt) HI.out (by rw[HX.out,Nat.zero_mul]; show _+1000000000*_=_; omega),?_,hbel.setCell (Nat.le_refl _) _⟩
 have hr:=HO.out.set k (.int .u32 ((cr % 1000000000:Nat):Int))
 rw[aZ] at hr
 exact hr):p:=h
theorem Yk {p:Prop} (h:p:=by
 have:=hrow.limbs (F:=fun b=>w.heap.size≤b) (Nat.le_refl _) (n:=l.length) (c:=(dig a).length) (Nat.le_refl _) (by rw[HL.out]; exact Nat.le_refl _)
 rw[List.take_length,HL.out] at this
 exact this):p:=h
theorem Ym {p:Prop} (h:p:=by
 rw[List.take_of_length_le byOmega,List.take_of_length_le byOmega] at h3
 exact h3):p:=h
theorem Yo {p q:Prop} (k:q) (h:Mhid q→p:=by
 intro hq
 obtain⟨n2,akC⟩:∃ n2,n2+2=n:=⟨n - 2,byOmega⟩
 have i1:(n:Int) - 1=(n1:Int):=byOmega
 have i2:(n:Int) - 2=(n2:Int):=byOmega
 have l1:n1 < n:=byOmega
 have l2:n2 < n:=byOmega
 have ul:=he.ul
 have vl:=he.vl
 obtain⟨top,htop⟩:=getSome (l:=v) (k:=n1) byOmega
 obtain⟨v2,hv2⟩:=getSome (l:=v) (k:=n2) byOmega
 obtain⟨un,hun⟩:=getSome (l:=u) (k:=n) byOmega
 obtain⟨u1,hu1⟩:=getSome (l:=u) (k:=n1) byOmega
 obtain⟨u2,hu2⟩:=getSome (l:=u) (k:=n2) byOmega
 have ct:=hv.cell (aY htop)
 have cv2:=hv.cell (aY hv2)
 have cun:=hu.cell (aY ((jA hP byOmega).trans hun))
 have cu1:=hu.cell (aY ((jA hP byOmega).trans hu1))
 have cu2:=hu.cell (aY ((jA hP byOmega).trans hu2))
 have topl:top < 1000000000:=he.lv.get htop
 have v2l:v2 < 1000000000:=he.lv.get hv2
 have unl:un < 1000000000:=he.lu.get hun
 have u1l:u1 < 1000000000:=he.lu.get hu1
 have u2l:u2 < 1000000000:=he.lu.get hu2
 revert u2l
 revert u1l
 revert unl
 revert v2l
 revert topl
 revert cu2
 revert cu1
 revert cun
 revert cv2
 revert ct
 revert hu2
 revert u2
 revert hu1
 revert u1
 revert hun
 revert un
 revert hv2
 revert v2
 revert htop
 revert top
 revert vl
 revert ul
 revert l2
 revert l1
 revert i2
 revert i1
 revert akC
 revert n2
 exact hq.out):p:=h ⟨k⟩
theorem Yr {p:Prop} (h:p:=by
 go_wp2
 refine bodyPost_ret (nS rfl _ _ _) rfl ?_
 exact⟨⟨p,q,A,B,C,D,rfl,HLE.out,a1,a2,b1,b2,c1,c2,d1,d2⟩,rfl⟩):p:=h
theorem Yv {p:Prop} (h:p:=by
 exact⟨none,0,rfl,Nat.le_refl _,fun h=>absurd h aB⟩):p:=h
theorem Yw {p:Prop} (h:p:=by
 go_ret
 exact⟨by rw[HE.out]; first | rfl | (rw[HE2.out]; rfl),0,rfl⟩):p:=h
theorem Yz {p:Prop} (h:p:=by
 subst h0
 go_wp2
 go_ret
 refine⟨_,rfl,hbel,?_⟩
 have h2:=HD.out
 rw[bD,List.append_nil] at h2
 unfold Ah
 rw[← h2]
 exact jG HO.out fun b hb=>(HO.out.lt b hb).1):p:=h
theorem YE {p q:Prop} (k:q) (h:Mhid q→p:=by
 intro hq
 refine⟨k+1,l.set k s,1,byOmega,by go_num,rfl,byOmega,by rw[List.length_set,HL.out],HM.out.set (by have:=HS.out; show _ < 1000000000; omega),vV (by rw[HL.out]; exact hlt) HI.out (by have:=HS.out; rw[HX.out,HY.out]; show _=_+1000000000*_; omega),?_,hbel.setCell (Nat.le_refl _) _⟩
 have hr:=HO.out.set k (.int .u32 (s:Int))
 rw[aZ] at hr
 revert hr
 exact hq.out):p:=h ⟨k⟩
theorem YF {p q:Prop} (k:q) (h:Mhid q→p:=by
 intro hq
 refine⟨k+1,l.set k s,0,byOmega,by go_num,rfl,byOmega,by rw[List.length_set,HL.out],HM.out.set (by have:=HS.out; show _ < 1000000000; omega),vV (by rw[HL.out]; exact hlt) HI.out (by have:=HS.out; rw[HX.out,HY.out]; show _=_+1000000000*_; omega),?_,hbel.setCell (Nat.le_refl _) _⟩
 have hr:=HO.out.set k (.int .u32 (s:Int))
 rw[aZ] at hr
 revert hr
 exact hq.out):p:=h ⟨k⟩
theorem YH {p q:Prop} (k:q) (h:Mhid q→p:=by
 intro hq
 have hdd:decide (k < (dig b).length)=false:=decide_eq_false hlt2
 have HY:=Ag (eF (l:=dig b) (k:=k) byOmega)
 revert HY
 revert hdd
 exact hq.out):p:=h ⟨k⟩
theorem YJ {p q:Prop} (k:q) (h:Mhid q→p:=by
 intro hq
 obtain⟨e,he⟩:∃ e:Nat,(e:Int)=rm:=⟨rm.toNat,byOmega⟩
 have hdd:decide (rm < 0)=false:=decide_eq_false hneg
 have HE:=Ag he
 clear he
 revert HE
 revert hdd
 revert e
 exact hq.out):p:=h ⟨k⟩
theorem YN {p:Prop} (h:p:=by
 go_in
 go_wp2_with (first | ((with_reducible refine(acz _ _).mono ?_); rintro e w' ⟨rfl,rfl⟩))
 go_ret
 exact⟨by rw[HO.out]; rfl,rfl⟩):p:=h
theorem YO {p:Prop} (h:p:=by
 go_wp2
 go_ret
 exact⟨by rw[HE.out]; rfl,(by simp only[World.drewN_drewN]; exact⟨_,rfl⟩)⟩):p:=h
theorem YP {p:Prop} (h:p:=by
 go_in
 go_wp2_with (first | ((with_reducible refine(uT _ _).mono ?_); rintro e w' ⟨rfl,rfl⟩))
 go_ret
 exact⟨by rw[HO.out]; rfl,rfl⟩):p:=h
theorem YQ {p:Prop} (h:p:=by
 have h1:=hinv
 rw[List.drop_zero,List.drop_zero,aW] at h1
 rw[h1]
 exact⟨by rw[Nat.mul_comm,Nat.add_comm,Nat.add_mul_div_right _ _ byOmega,Nat.div_eq_of_lt hr,Nat.zero_add],by rw[Nat.mul_comm,Nat.add_comm,Nat.add_mul_mod_self_right,Nat.mod_eq_of_lt hr]⟩):p:=h
theorem YS {p:Prop} (h:p:=by
 have hd:((x:Int)==0)=false:=aF
 have HZ:=Ag hz
 clear hz
 go_wp2
 go_ret
 exact⟨by rw[← HT.out,HS.out,if_neg HZ.out]; rfl,rfl⟩):p:=h
theorem YU {p:Prop} (h:p:=by
 refine⟨j,_,q.set j dd,by go_num,HST.out,byOmega,HU4.out.other (a:=⟨w2.heap.size,j,none⟩) aF _,?_,HV4.out.other (a:=⟨w2.heap.size,j,none⟩) aF _,hb4.setCell aF _,aF⟩
 have hr:=HQ4.out.set j (.int .u32 (dd:Int))
 rw[aZ] at hr
 exact hr):p:=h
theorem Y0 {p q:Prop} (k:q) (h:Mhid q→p:=by
 intro hq
 have HL:=Ag hlen
 have HI:=Ag hinv
 have HO:=Ag hrow
 have HM:=Ag hlim
 have hold:=aQ hbel
 revert hold
 revert HM
 revert HO
 revert HI
 revert HL
 exact hq.out):p:=h ⟨k⟩
theorem Y1 {p q:Prop} (k:q) (h:Mhid q→p:=by
 intro hq
 obtain⟨e,he⟩:∃ e:Nat,(e:Int)=rm+1000000000:=⟨(rm+1000000000).toNat,byOmega⟩
 have HE:=Ag he
 clear he
 revert HE
 revert e
 exact hq.out):p:=h ⟨k⟩
theorem Y5 {p:Prop} (h:p:=by
 rintro e w' ⟨rfl,rfl⟩
 go_wp2
 go_ret
 refine⟨_,rfl,hbel,?_⟩
 have:=eX HO.out HM.out (F:=fun b=>w.heap.size≤b) (Nat.le_refl _) (c:=(dig a).length+(dig b).length) HL.out (Nat.le_refl _)
 rw[HF.out] at this
 exact this):p:=h
theorem Y6 {p:Prop} (h:p:=by
 have h1:=hinv
 rw[hke,List.take_length,List.take_of_length_le byOmega,List.take_of_length_le hlb,aW,aW,HR.out] at h1
 have h2:=fH hlim
 rw[hlen] at h2
 have h3:=jW a
 have h4:=HRA.out
 have:=agj h2 byOmega byOmega h1
 omega):p:=h
theorem zab {p q:Prop} (k:q) (h:Mhid q→p:=by
 intro hq
 obtain⟨z,hz⟩:=getSome (l:=l) (k:=k) byOmega
 have rc:=hrow.cell (aY hz)
 have fc:=hrow.frozen k
 revert fc
 revert rc
 revert hz
 revert z
 exact hq.out):p:=h ⟨k⟩
theorem zac {p:Prop} (h:p:=by
 have:=hrow.limbs (F:=fun b=>w.heap.size≤b) (Nat.le_refl _) (n:=l.length) (c:=(dig a).length+(dig b).length) (Nat.le_refl _) (by rw[HL.out]; exact Nat.le_refl _)
 rw[List.take_length,HL.out] at this
 exact this):p:=h
theorem zae {p q:Prop} (k:q) (h:Mhid q→p:=by
 intro hq
 rw[Nat.mul_one] at ey
 have hyl:y < 1000000000:=(aP b).get hy'
 have HY:=Ag (aN hy')
 revert HY
 revert hyl
 revert ey
 exact hq.out):p:=h ⟨k⟩
theorem zaj {p q:Prop} (k:q) (h:Mhid q→p:=by
 intro hq
 obtain⟨f,hf⟩:=named (LB / (t+1))
 have hfit:=rM hn hb00
 have adK:=qJ (a:=a) (f:=f) byOmega
 rw[gt,← hf] at hfit
 have HDB:=Ag (fun (v:List Nat) (h1:v.length=n) (h2:Limbs v) (h3:aH v=b*f)=>(by have:=adw (b:=b) (v:=v) hn byOmega h1 h2 (by rw[gt,← hf]; exact h3); rw[gt,← hf] at this; exact this:CW v n b f))
 revert HDB
 revert hfit
 revert adK
 revert hf
 revert f
 exact hq.out):p:=h ⟨k⟩
theorem zak {p:Prop} (h:p:=by
 have HD:=Ag (show decide (n=1)=false from decide_eq_false fun h=>h1 (by rw[h,iZ]; rfl))
 have hd:(((dig n).length:Int)==1)=false:=aF
 clear h1
 go_in
 go_wp2
 go_ret
 exact⟨by rw[HD.out]; rfl,rfl⟩):p:=h
theorem zal {p:Prop} (h:p:=by
 refine⟨_,rfl,hbel,_,by rw[← HF.out.2]; rfl,?_⟩
 have:=eX HO.out HM.out (F:=fun b=>w.heap.size≤b) (Nat.le_refl _) (c:=(dig a).length) HL.out (Nat.le_refl _)
 rw[HF.out.1] at this
 exact this):p:=h
theorem zaq {p:Prop} (h:p:=by
 have:=HS.out
 rw[HX.out,HY.out,← HP.out]
 show _=_+1000000000*_
 omega):p:=h
theorem zar {p:Prop} (h:p:=by
 rintro e w' ⟨rfl,rfl⟩
 go_wp2
 go_ret
 refine⟨_,rfl,hbel,?_⟩
 have:=eX HO.out HM.out (F:=fun b=>w.heap.size≤b) (Nat.le_refl _) HL.out (Nat.le_refl _)
 rw[HF.out] at this
 exact this):p:=h
theorem zat {p:Prop} (h:p:=by
 go_in
 go_wp2
 go_ret
 exact⟨rfl,rfl⟩):p:=h
theorem zau {p:Prop} (h:p:=by
 have h1:=fH ((aP n).drop (j+1))
 have h2:LB ^ ((dig n).drop (j+1)).length≤LB ^ 1:=Nat.pow_le_pow_right ay (by rw[List.length_drop]; omega)
 have h3:LB ^ 1=1000000000:=ay
 omega):p:=h
theorem zaw {p q:Prop} (k:q) (h:Mhid q→p:=by
 intro hq
 have hr:=HRW.out.set (j+k) (.int .u32 (s:Int))
 rw[aZ,set_mid HPP.out aat] at hr
 have hss:=HS.out
 revert hss
 revert hr
 exact hq.out):p:=h ⟨k⟩
theorem zaz {p:Prop} (h:p:=by
 rw[HX.out,HY.out,HP.out,HQ.out]
 show(e:Int)+1000000000*_=_
 omega):p:=h
theorem zaC {p:Prop} (h:p:=by
 exact⟨_,rfl,hwz _ _ (Nat.le_refl _) hB,by unfold NmV; rw[HW.out]; exact Ak.make rfl ((Ah.on (n:=m) HV.out (hkz _ byOmega)).mono (fun b hb _=>by omega)) (iF _ _ _ _)⟩):p:=h
theorem zaF {p q:Prop} (k:q) (h:Mhid q→p:=by
 intro hq
 have HB:=Ag (show rH q r v2 u2=false by rw[HBAD.out]; exact decide_eq_false byOmega)
 revert HB
 exact hq.out):p:=h ⟨k⟩
theorem zaH {p:Prop} (h:p:=by
 subst h0
 have HE:=Ag (show aH ((dig n).drop 0)=n by rw[List.drop_zero,aW])
 generalize aH ((dig n).drop 0)=m at *
 go_wp2
 go_ret
 exact⟨by rw[← HE.out]; rfl,rfl⟩):p:=h
theorem zaL {p q:Prop} (k:q) (h:Mhid q→p:=by
 intro hq
 have t5:decide (1000000000≤abb (A - kc) (-(A - kc)) (B - kd) (-(B - kd)))=false:=decide_eq_false hmx
 have hn:=mt agm.2 hmx
 have n1:-1000000000 < A - kc:=byOmega
 have n2:A - kc < 1000000000:=byOmega
 have n3:-1000000000 < B - kd:=byOmega
 have n4:B - kd < 1000000000:=byOmega
 clear hn
 revert n4
 revert n3
 revert n2
 revert n1
 revert t5
 exact hq.out):p:=h ⟨k⟩
theorem zaP {p:Prop} (h:p:=by
 have HE:=Ag (lq (lS h))
 have HE2:=Ag (lq h)
 have hnlt:decide ((dig a).length < (dig b).length)=false:=decide_eq_false byOmega
 clear hlen
 go_in
 go_wp2
 exact Yw):p:=h
theorem zaS {p q:Prop} (k:q) (h:Mhid q→p:=by
 intro hq
 have HB:=Ag (show rH q r v2 u2=true by rw[HBAD.out]; exact decide_eq_true ⟨c1,.inl c2⟩)
 have d1:decide ((r:Int) < 1000000000)=true:=decide_eq_true byOmega
 have d2:decide ((1000000000:Int)≤(q:Int))=true:=decide_eq_true byOmega
 revert d2
 revert d1
 revert HB
 exact hq.out):p:=h ⟨k⟩
theorem zaX {p:Prop} (h:p:=by
 obtain⟨u,hu,hr⟩:=h
 exact⟨u,by rw[hs.cell hb hl]; exact hu,hr.keep hFG hs⟩):p:=h
theorem zaY {p:Prop} (h:p:=by
 rw[HX.out,HY.out,HP.out]
 show(e:Int)+1000000000*_=_
 omega):p:=h
theorem za6 {p:Prop} (h:p:=by
 refine⟨0,l,0,byOmega,rfl,rfl,byOmega,?_,HO.out,hbel⟩
 have h:=HI.out
 exact⟨h.len,h.limbs,by have:=h.eq; simpa [aH] using this,h.zero⟩):p:=h
theorem zbb {p:Prop} (h:p:=by
 have HF:=Ag (show G=a by rw[HGC.out,hb0,Nat.gcd_zero_right])
 clear hb0
 go_wp2
 go_ret
 exact⟨_,rfl,hbel,by rw[HF.out]; exact HNA.out⟩):p:=h
theorem zbd {p q:Prop} (k:q) (h:Mhid q→p:=by
 intro hq
 unfold Oper.wp execOp
 simp only[ho,resolve,invoke,builtin,Sem.run_bind,Sem.run_pure,Result.andThen_ok,List.map_toArray,List.map_cons,List.map_nil,hs,hx,hrun]
 exact hq.out):p:=h ⟨k⟩
theorem zbg {p:Prop} (h:p:=by
 have hd:((x:Int)==1)=false:=aF
 have H2:=Ag h2
 clear h2
 go_in
 go_wp2
 go_ret
 exact⟨by rw[HD.out,decide_eq_false H2.out]; rfl,rfl⟩):p:=h
theorem zbh {p:Prop} (h:p:=by
 exact⟨b0,a0,rfl,HB.out.ext (aI (Below.refl _ w) z0),HA.out.ext (aI (Below.refl _ w) z0),byOmega,by rw[HG.out,Nat.gcd_comm],hlb⟩):p:=h
theorem zbi {p q:Prop} (k:q) (h:Mhid q→p:=by
 intro hq
 obtain⟨x,hx'⟩:=getSome (l:=dig a) (k:=j) byOmega
 obtain⟨y,hy'⟩:=getSome (l:=dig b) (k:=j) byOmega
 have ex:=hx j x hx'
 have ey:=hy j y hy'
 revert ey
 revert ex
 revert hy'
 revert y
 revert hx'
 revert x
 exact hq.out):p:=h ⟨k⟩
theorem zbj {p q:Prop} (k:q) (h:Mhid q→p:=by
 intro hq
 obtain⟨x,hx'⟩:=getSome hlt
 have ex:=hx k x hx'
 revert ex
 revert hx'
 revert x
 exact hq.out):p:=h ⟨k⟩
theorem zbk {p:Prop} (h:p:=by
 have h1:=eX D7.out HQL.out (F:=Ext F w.heap.size) (.inr byOmega) (c:=la - n+1) HQN.out (Nat.le_refl _)
 rw[HQ.out] at h1
 exact h1):p:=h
theorem zbl {p:Prop} (h:p:=by
 have HF:=Ag hfin
 clear hfin he
 go_wp2
 go_quiet (fail)
 go_wp2
 go_ret
 exact⟨by rw[HF.out]; rfl,n+nq,by rw[World.drewN_drewN]⟩):p:=h
theorem zbm {p:Prop} (h:p:=by
 rw[aZ,set_mid HPP.out hm2] at hr
 have hss:=HS.out
 rw[show(s:Int)=(x:Int)+(y:Int)+(o:Int) - 1000000000 by omega] at hr
 exact hr):p:=h
theorem zbn {p:Prop} (h:p:=by
 rw[HQ.out,HG.out.1]
 obtain⟨q',rfl⟩:∃ q',q=q'+1:=⟨q - 1,byOmega⟩
 rw[Nat.add_sub_cancel,Nat.add_mul,Nat.one_mul]
 omega):p:=h
theorem zbo {p q:Prop} (k:q) (h:Mhid q→p:=by
 intro hq
 obtain⟨n1,hn1⟩:∃ n1,n1+1=n:=⟨n - 1,byOmega⟩
 revert hn1
 revert n1
 exact hq.out):p:=h ⟨k⟩
theorem zbp {p:Prop} (h:p:=by
 go_wp2
 go_ret
 exact⟨by rw[HE.out]; rw[← HE.out,← HO.out]; rfl,(by simp only[World.drewN_drewN]; exact⟨_,rfl⟩)⟩):p:=h
theorem zbx {p q:Prop} (k:q) (h:Mhid q→p:=by
 intro hq
 refine decide_eq_false ?_
 unfold bZ
 exact hq.out):p:=h ⟨k⟩
theorem zbA {p q:Prop} (k:q) (h:Mhid q→p:=by
 intro hq
 have HB:=Ag (show rH q r v2 u2=true by rw[HBAD.out]; exact decide_eq_true ⟨c1,.inr c3⟩)
 have d3:decide ((r:Int)*1000000000+(u2:Int) < (p:Int))=true:=decide_eq_true byOmega
 revert d3
 revert HB
 exact hq.out):p:=h ⟨k⟩
theorem zbG {p:Prop} (h:p:=by
 have HF:=Ag hF
 clear hF hinv hlim hlen hrow
 go_wp2
 go_ret
 exact⟨_,rfl,hbel,rfl,l,HL.out,HM.out,HF.out,HO.out⟩):p:=h
theorem zbJ {p:Prop} (h:p:=by
 exact⟨a0,b0,rfl,HA.out.ext (aI (Below.refl _ w) z0),HB.out.ext (aI (Below.refl _ w) z0),byOmega,HG.out,hla⟩):p:=h
theorem zbK {p:Prop} (h:p:=by
 subst h0
 go_wp2
 go_ret
 exact⟨by rw[← HT.out]; rfl,rfl⟩):p:=h
theorem zbL {p:Prop} (h:p:=by
 obtain⟨y,hy⟩:=List.length_eq_one_iff.1 h1
 have h2:=aW b
 rw[hy] at hx' h2
 simp at hx'
 simp[aH] at h2
 omega):p:=h
theorem zbN {p q:Prop} (k:q) (h:Mhid q→p:=by
 intro hq
 have T1:=Ag t1
 have akG:-2500000000≤qd:=byOmega
 have akH:qd≤2500000000:=byOmega
 revert akH
 revert akG
 revert T1
 exact hq.out):p:=h ⟨k⟩
theorem zbO {p:Prop} (h:p:=by
 exact⟨_,rfl,(aI (Below.refl _ w) z0).trans hb1,_,_,rfl,by rw[HS.out,nK]; exact HV.out,by rw[HS.out,nK]⟩):p:=h
theorem zbS {p q:Prop} (k:q) (h:Mhid q→p:=by
 intro hq
 obtain⟨W,hW,hr,hWb,hWz⟩:=aO w 114 #[.bool false,.slice none 0 0,.slice none 0 0]
 rw[← hW]
 revert hWz
 revert hWb
 revert hr
 revert hW
 revert W
 exact hq.out):p:=h ⟨k⟩
theorem zbT {p:Prop} (h:p:=by
 exact⟨_,rfl,hwz _ _ byOmega hB3,HU.out.keep (fun b hb _=>hb.1) (hkz _ (fun h=>by have:=h.2; omega))⟩):p:=h
theorem zbY {p:Prop} (h:p:=by
 have:bytes*n≤1000*1000000:=Nat.mul_le_mul hb hn
 omega):p:=h
theorem zbZ {p:Prop} (h:p:=by
 simp only[decide_eq_false_iff_not]
 rintro rfl
 have h3:=HX.out
 rw[HY.out] at h3
 cases h3
 exact he rfl):p:=h
theorem zca {p:Prop} (h:p:=by
 have:=HE.out.abv HQ.out (HT.out.2.imp id fun h=>by rw[HG.out.2.2.2.2,HG.out.2.1]; exact h)
 omega):p:=h
theorem zcb {p q:Prop} (k:q) (h:Mhid q→p:=by
 intro hq
 have HSU:=Ag (BK.start (U:=U0) HDV.out HN.out HLA.out hlb hul adL hun)
 have hB2:Below w.heap.size w w2:=(aI (Below.refl _ w) z0).trans (uY.trans (hbw2.mono hzz))
 revert hB2
 revert HSU
 exact hq.out):p:=h ⟨k⟩
theorem zcf {p:Prop} (h:p:=by
 have h1:=hinv
 rw[List.take_of_length_le (l:=dig a) hla,aW] at h1
 exact aaq hlim hlen h1 HT.out):p:=h
theorem zck {p q:Prop} (k:q) (h:Mhid q→p:=by
 intro hq
 have hxl:x < 1000000000:=(aP a).get hx'
 have hyl:y < 1000000000:=(aP b).get hy'
 have HX:=Ag hx'
 have HY:=Ag hy'
 refine Z9 ?_
 revert HY
 revert HX
 revert hyl
 revert hxl
 exact hq.out):p:=h ⟨k⟩
theorem zcn {p:Prop} (h:p:=by
 have h1:(dig n).length≤3:=aS (Nat.lt_trans hn ay)
 rw[← hd,List.length_append] at h1
 omega):p:=h
theorem zco {p:Prop} (h:p:=by
 rw[Nat.mul_one] at this
 rw[Addr.add_lit]
 exact this):p:=h
theorem zcp {p:Prop} (h:p:=by
 have h0:=aax h
 have HD:=Ag (show decide (x=0)=false from decide_eq_false h)
 clear h
 exact ZN):p:=h
theorem zcq {p:Prop} (h:p:=by
 rw[Nat.div_eq_of_lt HLT.out]
 exact Ah.zero _ _ _ _):p:=h
theorem zcr {p:Prop} (h:p:=by
 have h0:=aaw h
 have HD:=Ag (show decide (x=0)=true from decide_eq_true h)
 clear h
 exact ZN):p:=h
theorem zct {p:Prop} (h:p:=by
 go_wp2
 go_ret
 exact⟨by rw[HE.out]; rfl,q,rfl⟩):p:=h
theorem zcv {p q:Prop} (k:q) (h:Mhid q→p:=by
 intro hq
 refine⟨_,rfl,hbel,?_⟩
 exact hq.out):p:=h ⟨k⟩
open Lib renaming hid → Ag
open Go.RowKit
abbrev Foot:=Nat→Prop
structure Same (F:Foot) (w w':World):Prop where
 size:w.heap.size≤w'.heap.size
 block:∀ b,F b→b < w.heap.size→w'.heap[b]? = w.heap[b]?
section
variable {F G:Foot} {w w' w'':World}
theorem Same.cell (h:Same F w w') {b:Nat} (hb:F b) (hl:b < w.heap.size) (o:Nat):w'.cell? ⟨b,o,none⟩=w.cell? ⟨b,o,none⟩:=World.cell?_of_block (w:=w) (h.block b hb hl)
theorem Same.refl (F:Foot) (w:World):Same F w w:=⟨Nat.le_refl _,fun _ _ _=>rfl⟩
theorem Same.trans (h:Same F w w') (k:Same F w' w''):Same F w w'':=⟨Nat.le_trans h.size k.size,fun i hi hl=>(k.block i hi (Nat.lt_of_lt_of_le hl h.size)).trans (h.block i hi hl)⟩
theorem Same.mono (h:Same F w w') (hG:∀ b,G b→F b):Same G w w':=⟨h.size,fun b hb hl=>h.block b (hG b hb) hl⟩
theorem Below.same' (h:Below w.heap.size w w') (F:Foot):Same F w w':=⟨h.size,fun b _ hl=>h.block b hl⟩
theorem Same.alloc (F:Foot) (w:World) (o:Obj):Same F w (w.alloc o):=⟨aB,fun b _ hl=>Below.heap_alloc w o b hl⟩
theorem Same.drewN (F:Foot) (w:World) (n:Nat):Same F w (w.drewN n):=⟨Nat.le_refl _,fun _ _ _=>rfl⟩
theorem Same.setCell (F:Foot) (w:World) {p:Addr} (hp:¬ F p.block) (v:Value):Same F w (w.setCell p v) :=
 ⟨aB,fun b hb _=>Below.heap_setCell w p v b (fun e=>hp (e▸hb))⟩
end
theorem getSome {α:Type} {l:List α} {k:Nat} (h:k < l.length):∃ x,l[k]? = some x:=⟨l[k],by simp[h]⟩
theorem lt_of_get {α:Type} {l:List α} {k:Nat} {x:α} (h:l[k]? = some x):k < l.length:=by
 rcases Nat.lt_or_ge k l.length with h1 | h1
 ·exact h1
 ·rw[List.getElem?_eq_none h1] at h;cases h
theorem take_snoc {α:Type} {l:List α} {k:Nat} {x:α} (h:l[k]? = some x):l.take (k+1)=l.take k ++ [x]:=by
 rw[List.take_succ_eq_append_getElem (lt_of_get h)];congr 2;have:=lt_of_get h;simpa [this] using h
def BN {α:Type} (sz:Nat) (E:World→Foot→Nat→Nat→α→Prop) (w:World) (F:Foot) (v:Value) (l:List α):Prop :=
 ∃ A c,v = .slice A l.length c∧l.length≤c∧(0 < l.length→∃ b o,A=some ⟨b,o,none⟩∧F b∧b < w.heap.size∧∀ k x,l[k]? = some x→E w F b (o+k*sz) x)
theorem BN.keep {α:Type} {sz:Nat} {E:World→Foot→Nat→Nat→α→Prop} {w w':World} {F G:Foot} {v:Value} {l:List α}
  (h:BN sz E w F v l) (hFG:∀ b,F b→b < w.heap.size→G b) (hsz:w.heap.size≤w'.heap.size) (hE:∀ b o x,x∈l→F b→b < w.heap.size→E w F b o x→E w' G b o x):BN sz E w' G v l:=by
 obtain⟨A,c,rfl,hc,hr⟩:=h;refine⟨A,c,rfl,hc,fun h0=>?_⟩;obtain⟨b,o,rfl,hb,hl,hx⟩:=hr h0;exact⟨b,o,rfl,hFG b hb hl,Nat.lt_of_lt_of_le hl hsz,fun k x hk=>hE b _ x (List.mem_of_getElem? hk) hb hl (hx k x hk)⟩
def o7 (k:IntKind) (w:World) (_:Foot) (b o:Nat) (x:Int):Prop:=w.cell? ⟨b,o,none⟩=some (.int k x)
def xJ {α:Type} (S:World→Foot→Value→α→Prop) (w:World) (F:Foot) (b o:Nat) (x:α):Prop:=∃ v,w.cell? ⟨b,o,none⟩=some v∧S w F v x
def AA (w:World) (F:Foot) (v:Value) (l:List Int):Prop:=BN 1 (o7 .i64) w F v l
def Bd (w:World) (F:Foot) (v:Value) (l:List (List Int)):Prop:=BN 1 (xJ AA) w F v l
theorem AA.keep {w w':World} {F G:Foot} {v:Value} {l:List Int} (h:AA w F v l) (hFG:∀ b,F b→b < w.heap.size→G b) (hs:Same F w w'):AA w' G v l :=
 BN.keep h hFG hs.size fun b o x _ hb hl hx=>by unfold o7 at *; rw[hs.cell hb hl]; exact hx
theorem Bd.keep {w w':World} {F G:Foot} {v:Value} {l:List (List Int)} (h:Bd w F v l) (hFG:∀ b,F b→b < w.heap.size→G b) (hs:Same F w w'):Bd w' G v l :=
 BN.keep h hFG hs.size fun b o x _ hb hl hx=>by
  obtain⟨u,hu,hr⟩:=hx;exact⟨u,by rw[hs.cell hb hl]; exact hu,hr.keep hFG hs⟩
structure Nd where
 kind:Int
 aC:Int
 info:Int
 next:List Int
 weights:List Int
 pay:List Int
 deriving Inhabited,DecidableEq
structure Inf where
 aC:Int
 actions:Int
 deriving Inhabited,DecidableEq
structure Gm where
 aA:Int
 nodes:List Nd
 infos:List Inf
 deriving Inhabited,DecidableEq
structure Dl (w:World) (F:Foot) (b o:Nat) (n:Nd):Prop where
 c0:w.cell? ⟨b,o,none⟩=some (.int .i64 n.kind)
 c1:w.cell? ⟨b,o+1,none⟩=some (.int .i64 n.aC)
 c2:w.cell? ⟨b,o+2,none⟩=some (.int .i64 n.info)
 c3:xJ AA w F b (o+3) n.next
 c4:xJ AA w F b (o+4) n.weights
 c5:xJ AA w F b (o+5) n.pay
structure Ej (w:World) (_:Foot) (b o:Nat) (n:Inf):Prop where
 c0:w.cell? ⟨b,o,none⟩=some (.int .i64 n.aC)
 c1:w.cell? ⟨b,o+1,none⟩=some (.int .i64 n.actions)
theorem qK {w w':World} {F G:Foot} {b o:Nat} {l:List Int} (h:xJ AA w F b o l) (hFG:∀ b,F b→b < w.heap.size→G b) (hs:Same F w w') (hb:F b) (hl:b < w.heap.size):xJ AA w' G b o l:=by
 exact zaX
theorem Dl.keep {w w':World} {F G:Foot} {b o:Nat} {n:Nd} (h:Dl w F b o n) (hFG:∀ b,F b→b < w.heap.size→G b) (hs:Same F w w') (hb:F b) (hl:b < w.heap.size):Dl w' G b o n :=
 ⟨by rw[hs.cell hb hl]; exact h.c0,by rw[hs.cell hb hl]; exact h.c1,by rw[hs.cell hb hl]; exact h.c2,qK h.c3 hFG hs hb hl,qK h.c4 hFG hs hb hl,qK h.c5 hFG hs hb hl⟩
def Bl (w:World) (F:Foot) (v:Value) (l:List Nd):Prop:=BN 6 Dl w F v l
def Bh (w:World) (F:Foot) (v:Value) (l:List Inf):Prop:=BN 2 Ej w F v l
theorem Bl.keep {w w':World} {F G:Foot} {v:Value} {l:List Nd} (h:Bl w F v l) (hFG:∀ b,F b→b < w.heap.size→G b) (hs:Same F w w'):Bl w' G v l :=
 BN.keep h hFG hs.size fun _ _ _ _ hb hl hx=>hx.keep hFG hs hb hl
theorem Bh.keep {w w':World} {F G:Foot} {v:Value} {l:List Inf} (h:Bh w F v l) (hFG:∀ b,F b→b < w.heap.size→G b) (hs:Same F w w'):Bh w' G v l :=
 BN.keep h hFG hs.size fun _ _ _ _ hb hl hx=>⟨by rw[hs.cell hb hl]; exact hx.c0,by rw[hs.cell hb hl]; exact hx.c1⟩
def AO (w:World) (F:Foot) (v:Value) (g:Gm):Prop :=
 ∃ vn vi,v = .agg #[.int .i64 g.aA,vn,vi]∧Bl w F vn g.nodes∧Bh w F vi g.infos
theorem AO.keep {w w':World} {F G:Foot} {v:Value} {g:Gm} (h:AO w F v g) (hFG:∀ b,F b→b < w.heap.size→G b) (hs:Same F w w'):AO w' G v g:=by
 obtain⟨vn,vi,rfl,hn,hi⟩:=h;exact⟨vn,vi,rfl,hn.keep hFG hs,hi.keep hFG hs⟩
def Row (w:World) (b:Nat) (t:TypeId) (vs:List Value):Prop:=w.heap[b]? = some (.cells vs.toArray t (0,0))
section
variable {w w':World} {b:Nat} {t:TypeId} {vs:List Value}
theorem Row.cell (h:Row w b t vs) {i:Nat} {v:Value} (hi:vs[i]? = some v):w.cell? ⟨b,i,none⟩=some v:=by
 unfold Row at h;simp[World.cell?,h,hi]
theorem Row.frozen (h:Row w b t vs) (i:Nat):w.frozen? ⟨b,i,none⟩=false:=by
 unfold Row at h;simp[World.frozen?,h]
theorem Row.lt (h:Row w b t vs):b < w.heap.size:=by
 obtain⟨hlt,_⟩:=Array.getElem?_eq_some_iff.1 h;exact hlt
theorem Row.of_block (h:Row w b t vs) (e:w'.heap[b]? = w.heap[b]?):Row w' b t vs:=e.trans h
theorem Row.set (h:Row w b t vs) (i:Nat) (v:Value):Row (w.setCell ⟨b,i,none⟩ v) b t (vs.set i v):=by
 unfold Row at *;simp[World.setCell,Array.getElem?_modify,h]
theorem Row.other (h:Row w b t vs) {a:Addr} (ha:b≠a.block) (v:Value):Row (w.setCell a v) b t vs:=h.of_block (Below.heap_setCell _ _ _ _ ha)
theorem ste {W:World} {i:Nat} {v:Value} (hw:W=w.setCell ⟨b,i,none⟩ v) (h:Row w b t vs):Row W b t (vs.set i v):=hw▸h.set i v
theorem Row.alloc (h:Row w b t vs) (o:Obj):Row (w.alloc o) b t vs:=h.of_block (Below.heap_alloc _ _ _ h.lt)
theorem Row.drew (h:Row w b t vs):Row w.drew b t vs:=h
theorem Row.below {B:Nat} (h:Row w b t vs) (hb:Below B w w') (hB:b < B):Row w' b t vs:=h.of_block (hb.block b hB)
theorem Row.new (w:World) (t:TypeId) (c:Array Value):Row (w.alloc (.cells c t)) w.heap.size t c.toList:=by
 unfold Row;show(w.heap.push _)[w.heap.size]? = _;simp
end
theorem Row.made (w:World) (z:Value) (n:Nat) (t:TypeId):Row (w.alloc (.cells (madeCells #[z] n) t)) w.heap.size t (List.replicate n z):=by
 have h:=Row.new w t (madeCells #[z] n);have e:(madeCells #[z] n).toList=List.replicate n z:=by
  apply List.ext_getElem?
  intro i;by_cases hi:i < n
  ·simp[madeCells,hi,Nat.mod_one]
  ·simp[madeCells,hi]
 rw[e] at h;exact h
def BR (w:World) (F:Foot) (v:Value) (n:Nd):Prop :=
 ∃ v3 v4 v5,v = .agg #[.int .i64 n.kind,.int .i64 n.aC,.int .i64 n.info,v3,v4,v5]∧AA w F v3 n.next∧AA w F v4 n.weights∧AA w F v5 n.pay
theorem BR.keep {w w':World} {F G:Foot} {v:Value} {n:Nd} (h:BR w F v n) (hFG:∀ b,F b→b < w.heap.size→G b) (hs:Same F w w'):BR w' G v n:=by
 obtain⟨v3,v4,v5,rfl,h3,h4,h5⟩:=h;exact⟨v3,v4,v5,rfl,h3.keep hFG hs,h4.keep hFG hs,h5.keep hFG hs⟩
theorem AA.on {w w':World} {F:Foot} {v:Value} {l:List Int} (h:AA w F v l) (hs:Same F w w'):AA w' F v l:=h.keep (fun _ h _=>h) hs
theorem Bd.on {w w':World} {F:Foot} {v:Value} {l:List (List Int)} (h:Bd w F v l) (hs:Same F w w'):Bd w' F v l:=h.keep (fun _ h _=>h) hs
theorem Bl.on {w w':World} {F:Foot} {v:Value} {l:List Nd} (h:Bl w F v l) (hs:Same F w w'):Bl w' F v l:=h.keep (fun _ h _=>h) hs
theorem Bh.on {w w':World} {F:Foot} {v:Value} {l:List Inf} (h:Bh w F v l) (hs:Same F w w'):Bh w' F v l:=h.keep (fun _ h _=>h) hs
theorem AO.on {w w':World} {F:Foot} {v:Value} {g:Gm} (h:AO w F v g) (hs:Same F w w'):AO w' F v g:=h.keep (fun _ h _=>h) hs
theorem BR.on {w w':World} {F:Foot} {v:Value} {n:Nd} (h:BR w F v n) (hs:Same F w w'):BR w' F v n:=h.keep (fun _ h _=>h) hs
theorem aI {B:Nat} {a w:World} (h:Below B a w) (n:Nat):Below B a (w.drewN n):=⟨h.os,h.tape,h.output,h.size,h.block⟩
theorem Row.dN {w:World} {b:Nat} {t:TypeId} {vs:List Value} (h:Row w b t vs) (n:Nat):Row (w.drewN n) b t vs:=h
theorem aQ {B:Nat} {w w':World} (h:Below B w w'):∀ b o,b < B→w'.cell? ⟨b,o,none⟩=w.cell? ⟨b,o,none⟩:=fun b o hb=>h.cell (p:=⟨b,o,none⟩) hb
theorem Row.ints {w:World} {b:Nat} {t:TypeId} {l:List Int} (h:Row w b t (l.map (Value.int .i64))) {F:Foot} (hF:F b) {c:Nat} (hc:l.length≤c):AA w F (.slice (some ⟨b,0,none⟩) l.length c) l :=
 ⟨_,c,rfl,hc,fun _=>⟨b,0,rfl,hF,h.lt,fun k x hk=>by unfold o7; simp only[Nat.mul_one,Nat.zero_add]; exact h.cell (by simp[hk])⟩⟩
theorem dQ {P:Program} (w:World) {ops:Array Oper} {rest:List Oper} {o:Oper} {a:Act} {Q:Exit→Act→World→Prop}
  (hg:o.guard=none) (l c:Operand) (t:TypeId) (hop:o.op=Op.makeSlice t l c)
  (e:TypeId) (z:Value) (bytes:Nat) (ht:P.underlying t=some (.slice e)) (hinfo:(P.info? e).map (fun i=>(i.zero,i.size,i.bytes))=some (some z,1,bytes)) (hz1:z.cells = #[z])
  (n:Nat) (hl:a.eval l = .int .i64 (n:Int)) (hc:a.eval c = .int .i64 (n:Int)) (hn:n≤1000000) (hb:bytes≤1000)
  (hK:∀ w1,Below w.heap.size w w1→w1.heap.size=w.heap.size+1→Row w1 w.heap.size e (List.replicate n z) →
   wpList P ops Q rest (a.put o.dst (.slice (some ⟨w.heap.size,0,none⟩) n n)) w1) :
  wpList P ops Q (o :: rest) a w:=by
 refine wpList_plain hg fun K hK'=>?_
 have hbytes:bytes*n≤281474976710656:=by
  exact zbY
 have hrun:=run_make_row' (P:=P) t e z bytes ht hinfo hz1 .i64 .i64 n hbytes byOmega w;unfold Oper.wp;simp[execOp,hop,hl,hc,hrun,Result.andThen];have hbel:Below w.heap.size w (w.alloc (.cells (madeCells #[z] n) e)):=(Below.refl _ _).alloc (Nat.le_refl _) _;exact hK' _ _ (hK _ hbel aB (Row.made w z n e))
theorem Tryz.infoInt:(Tryz.prog.info? 3).map (fun i=>(i.zero,i.size,i.bytes))=some (some (.int .i64 0),1,8):=ah
theorem Tryz.infoInts:(Tryz.prog.info? 22).map (fun i=>(i.zero,i.size,i.bytes))=some (some (.slice none 0 0),1,24):=ah
def Ret (w:World) (R:Value→World→Prop) (e:Ending) (w':World):Prop:=∃ v,e = .returned v∧Below w.heap.size w w'∧R v w'
theorem aae {α:Type} {l:List α} {p:α→Bool} {k:Nat} {x:α} (h:l[k]? = some x) (hn:(l.take k).any p=false) (hx:p x=false):(l.take (k+1)).any p=false:=by
 rw[take_snoc h,List.any_append];simp[hn,hx]
def tY (l:List Int) (i:Int) (p:List Int):List Int:=l.foldl (fun p c=>p.set c.toNat i) p
def qB (nodes:List Nd):Nat→List Int
 | 0=>(List.replicate nodes.length 0).set 0 (-1)
 | k+1=>match nodes[k]? with
  | some n=>tY n.next k (qB nodes k)
  | none=>qB nodes k
def eU (nodes:List Nd):List Int:=qB nodes nodes.length
theorem aaf (l:List Int) (i:Int) (p:List Int):(tY l i p).length=p.length:=by
 unfold tY;induction l generalizing p with
 | nil=>rfl
 | cons c l ih=>simp only[List.foldl_cons]; rw[ih]; simp
theorem qL (nodes:List Nd) (k:Nat):(qB nodes k).length=nodes.length:=by
 induction k with
 | zero=>simp[qB]
 | succ k ih =>
  unfold qB;split
  ·rw[aaf,ih]
  ·exact ih
theorem ae2 {nodes:List Nd} {k:Nat} {n:Nd} (h:nodes[k]? = some n):qB nodes (k+1)=tY n.next k (qB nodes k):=by
 simp[qB,h]
def Eo (nodes:List Nd):Prop:=∀ n∈nodes,∀ c∈n.next,0≤c∧c < (nodes.length:Int)
structure Small (g:Gm):Prop where
 nodes:g.nodes.length≤100
 infos:g.infos.length≤100
 next:∀ n∈g.nodes,n.next.length≤100
 weights:∀ n∈g.nodes,n.weights.length≤100
 pay:∀ n∈g.nodes,n.pay.length≤100
theorem kW {α:Type} {l1 l2:List α} {k:Nat} {x:α} (h1:l1[k]? = some x) (h2:l2[k]? = some x) (h:l1.take k=l2.take k):l1.take (k+1)=l2.take (k+1):=by
 rw[take_snoc h1,take_snoc h2,h]
theorem vZ (w:World) (F:Foot) (v1 v2:Value) (l1 l2:List Int) (h1:AA w F v1 l1) (h2:AA w F v2 l2) (hl1:l1.length < 1000000) (hl2:l2.length < 1000000) :
  Calls Tryz.prog 132 #[v1,v2] w fun e w'=>e = .returned (.bool (decide (l1=l2)))∧∃ n,w'=w.drewN n:=by
 obtain⟨A1,c1,rfl,hc1,r1⟩:=h1;obtain⟨A2,c2,rfl,hc2,r2⟩:=h2;by_cases hl:l1.length=l2.length
 ·have R1:=Ag r1;clear r1;have R2:=Ag r2;clear r2;have HL:=Ag hl;have hb:((l1.length:Int) != (l2.length:Int))=false:=by simp[hl]
  clear hl;go_in;go_wp2
  go_loopw [5] (fun i wr=>∃ k:Nat,k≤l1.length∧i = .int .i64 k∧l1.take k=l2.take k∧∃ n,wr=w.drewN n) (fun i _=>l1.length - (intOf i).toNat)
  case atStart=>exact⟨0,byOmega,rfl,aB,0,rfl⟩
  case round =>
   obtain⟨k,hk,rfl,hpre,n,rfl⟩:=hrel;have HP:=Ag hpre;clear hpre;by_cases hlt:k < l1.length
   ·obtain⟨b1,o1,rfl,hb1,_,hcell1⟩:=R1.out byOmega;have hk2:k < l2.length:=by have:=HL.out;omega
    obtain⟨b2,o2,rfl,hb2,_,hcell2⟩:=R2.out byOmega;obtain⟨x,hx⟩:=getSome hlt;obtain⟨y,hy⟩:=getSome hk2;have e1:=hcell1 k x hx;have e2:=hcell2 k y hy;unfold o7 at e1 e2;rw[Nat.mul_one] at e1 e2;clear hcell1 hcell2;have HX:=Ag hx;clear hx;have HY:=Ag hy;clear hy;by_cases he:x=y
    ·subst he;go_wp2
     go_quiet (fail)
     go_wp2
     go_roundw
     case rel=>exact⟨k+1,byOmega,by go_num,kW HX.out HY.out HP.out,_,rfl⟩
     case measure=>simp[intOf]; omega
    ·have hne:(x != y)=true:=by simp[he]
     have hfin:decide (l1=l2)=false:=by
      exact zbZ
     exact zbl
   ·go_wp2
    go_ret;have:k=l1.length:=byOmega;have h3:=HP.out;have h4:=HL.out;refine⟨?_,_,rfl⟩;have h5:l1=l2:=by
     exact Ym
    simp[h5]
 ·have hb:((l1.length:Int) != (l2.length:Int))=true:=aF;go_in;go_wp2
  go_ret;refine⟨?_,0,rfl⟩;have:l1≠l2:=by rintro rfl;exact hl rfl
  simp[this]
theorem tZ (w:World) (a b:Obj) (n:Nat):Below w.heap.size w (((w.alloc a).alloc b).drewN n):=by
 have h:=(((Below.refl w.heap.size w).alloc (Nat.le_refl _) a).alloc aB b);exact⟨h.os,h.tape,h.output,h.size,h.block⟩
def dJ (rec:Nat→Int→Int×Int):List Int→Int→Int→Int×Int
 | [],next,deep=>(next,deep)
 | c :: cs,next,deep=>if c≠next then (-1,deep) else if (rec next.toNat deep).1 < 0 then (-1,(rec next.toNat deep).2) else dJ rec cs (rec next.toNat deep).1 (rec next.toNat deep).2
def gy (nodes:List Nd):Nat→Nat→Int→Int→Int×Int
 | 0,_,_,deep=>(-1,deep)
 | f+1,a,depth,deep=>match nodes[a]? with
  | none=>(-1,deep)
  | some n=>dJ (fun a d=>gy nodes f a (depth+1) d) n.next ((a:Int)+1) (max deep depth)
theorem rP {rec:Nat→Int→Int×Int} {N lo:Nat} (hrec:∀ a d,lo≤a→(rec a d).1 = -1∨((a:Int) < (rec a d).1∧(rec a d).1≤N)):∀ (cs:List Int) (next deep:Int),(lo:Int)≤next→next≤N →
  (dJ rec cs next deep).1 = -1∨((lo:Int)≤(dJ rec cs next deep).1∧(dJ rec cs next deep).1≤N)
 | [],next,deep,h1,h2=>.inr ⟨h1,h2⟩
 | c :: cs,next,deep,h1,h2=>by
  unfold dJ;split
  ·exact .inl rfl
  ·split
   ·exact .inl rfl
   ·rcases hrec next.toNat deep byOmega with h | h
    ·omega
    ·exact rP hrec cs _ _ byOmega byOmega
theorem yG (nodes:List Nd):∀ (f a:Nat) (depth deep:Int),(gy nodes f a depth deep).1 = -1∨((a:Int) < (gy nodes f a depth deep).1∧(gy nodes f a depth deep).1≤nodes.length)
 | 0,_,_,_=>.inl rfl
 | f+1,a,depth,deep=>by
  unfold gy;split
  ·exact .inl rfl
  ·rename_i n hn
   have:=lt_of_get hn;rcases rP (rec:=fun a d=>gy nodes f a (depth+1) d) (N:=nodes.length) (lo:=a+1) (fun a' d _=>yG nodes f a' (depth+1) d) n.next ((a:Int)+1) (max deep depth) byOmega byOmega with h | h
   ·exact .inl h
   ·exact .inr byOmega
def Di (w:World) (fid:FuncId) (caps:Array Value) (l:List Int) (p:Int→Bool):Prop :=
 (∀ (args:Array Value) (w':World),(callFunc fid args).run Tryz.prog w' = .ok (.enter fid args) w') ∧
 ∀ (n:Nat) (x:Int),x∈l→Calls Tryz.prog fid (#[.int .i64 x]++caps) (w.drewN n) fun e w'=>e = .returned (.bool (p x))∧∃ m,w'=w.drewN m
def idxOf (p:Int→Bool) (l:List Int):Int:=match l.findIdx? p with | some i=>(i:Int) | none=>-1
theorem idxOf_hit {p:Int→Bool} {l:List Int} {k:Nat} {x:Int} (h:l[k]? = some x) (hp:p x=true) (hn:(l.take k).any p=false):idxOf p l=k:=by
 have hk:=lt_of_get h;have:l.findIdx? p=some k:=by
  rw[List.findIdx?_eq_some_iff_getElem];refine⟨hk,?_,fun j hj=>?_⟩
  ·have:l[k]=x:=by simpa [hk] using h
   rw[this];exact hp
  ·have h1:=List.any_eq_false.1 hn l[j] (by rw[List.mem_take_iff_getElem]; exact⟨j,byOmega,rfl⟩);simpa using h1
 simp[idxOf,this]
theorem aag {p:Int→Bool} {l:List Int} (hn:l.any p=false):idxOf p l = -1:=by
 have:l.findIdx? p=none:=by
  rw[List.findIdx?_eq_none_iff];intro x hx;have:=List.any_eq_false.1 hn x hx;simpa using this
 simp[idxOf,this]
theorem agO (p:Int→Bool) (l:List Int):decide (0≤idxOf p l)=l.any p:=by
 cases h:l.any p with
 | false=>rw[aag h]; rfl
 | true =>
  obtain⟨x,hx,hp⟩:=List.any_eq_true.1 h;unfold idxOf;split
  ·rw[decide_eq_true_iff];omega
  ·rename_i h1
   rw[List.findIdx?_eq_none_iff] at h1;have:=h1 x hx;rw[hp] at this;cases this
theorem aa6 (w:World) (F:Foot) (v:Value) (l:List Int) (fid:FuncId) (caps:Array Value) (p:Int→Bool) (hv:AA w F v l) (hl:l.length≤1000000) (ha:Di w fid caps l p) :
  Calls Tryz.prog 200 #[v,.func (.func fid) #[] caps] w fun e w'=>e = .returned (.int .i64 (idxOf p l))∧∃ n,w'=w.drewN n:=by
 obtain⟨A,c,rfl,hc,hr⟩:=hv;have HR:=Ag hr;clear hr;obtain⟨hcf,hcl⟩:=ha;have HCL:=Ag hcl;clear hcl;go_in;go_wp2
 go_loopw [8] (fun i wr=>∃ k n:Nat,k≤l.length∧i = .int .i64 k∧(l.take k).any p=false∧wr=w.drewN n) (fun i _=>l.length - (intOf i).toNat)
 case atStart=>exact⟨0,0,byOmega,rfl,rfl,rfl⟩
 case round =>
  obtain⟨k,n,hk,rfl,hpre,rfl⟩:=hrel;have HP:=Ag hpre;clear hpre;by_cases hlt:k < l.length
  ·obtain⟨b,o,rfl,_,hb,hx⟩:=HR.out byOmega;obtain⟨x,hxx⟩:=getSome hlt;have ex:=hx k x hxx;unfold o7 at ex;rw[Nat.mul_one] at ex;have HX:=Ag hxx;clear hxx hx;go_wp2_with fail
   refine(HCL.out n x (List.mem_of_getElem? HX.out)).mono ?_;rintro e w' ⟨rfl,m,rfl⟩;dsimp only;cases hpx:p x
   ·have HPX:=Ag hpx;clear hpx;go_wp2
    go_roundw
    case rel=>exact⟨k+1,m,byOmega,by go_num,aae HX.out HP.out HPX.out,rfl⟩
    case measure=>simp[intOf]; omega
   ·have HF:=Ag (idxOf_hit HX.out hpx HP.out);clear hpx;go_wp2
    go_ret;exact⟨by rw[HF.out]; rfl,m,rfl⟩
  ·go_wp2
   go_ret;have h:=HP.out;rw[List.take_of_length_le byOmega] at h;exact⟨by rw[aag h]; rfl,n,rfl⟩
theorem xK (w:World) (F:Foot) (v:Value) (l:List Int) (fid:FuncId) (caps:Array Value) (p:Int→Bool) (hv:AA w F v l) (hl:l.length≤1000000) (ha:Di w fid caps l p) :
  Calls Tryz.prog 173 #[v,.func (.func fid) #[] caps] w fun e w'=>e = .returned (.bool (l.any p))∧∃ n,w'=w.drewN n:=by
 have HV:=Ag hv;clear hv;have HA:=Ag ha;clear ha;go_in;go_wp2_with fail
 refine(aa6 w F v l fid caps p HV.out hl HA.out).mono ?_;rintro e w' ⟨rfl,n,rfl⟩;dsimp only;have HF:=Ag (agO p l);generalize idxOf p l=q at *;go_wp2
 all_goals
  go_ret;refine⟨?_,n,rfl⟩;rw[← HF.out];first | rfl | (simp; omega)
theorem neF {a b:Int} (h:a=b):(a != b)=false:=by simp[h]
theorem neT {a b:Int} (h:a≠b):(a != b)=true:=by simp[h]
def outside (lo hi:Int) (l:List Int):Bool:=l.any fun x=>decide (x < lo)||decide (hi < x)
def dI (x:Nd):Int :=
 if x.aC≠0∨x.info≠0∨0 < x.pay.length∨x.next.length < 1∨60 < x.next.length∨x.weights.length≠x.next.length then 3 else if outside 1 1000 x.weights then 2 else 0
def gW (aA:Int) (ni:Nat) (x:Nd):Int :=
 if 0 < x.pay.length∨0 < x.weights.length∨x.next.length < 1∨10 < x.next.length then 3 else if x.aC < 0∨aA≤x.aC∨x.info < 0∨(ni:Int)≤x.info then 2 else 0
def jS (aA:Int) (x:Nd):Int :=
 if x.aC≠0∨x.info≠0∨0 < x.next.length∨0 < x.weights.length∨(x.pay.length:Int)≠aA then 3 else if outside (-1000000) 1000000 x.pay then 2 else 0
def eH (aA:Int) (ni:Nat) (x:Nd):Int :=
 if x.kind=1 then dI x else if x.kind=2 then gW aA ni x else if x.kind=3 then jS aA x else 3
end Go.Proofs.YtnmeejofpkhlkaaGreatDoor
