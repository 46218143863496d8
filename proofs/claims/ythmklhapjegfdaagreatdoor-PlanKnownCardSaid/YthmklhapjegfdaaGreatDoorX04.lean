/- Words for memory that all contracts of this seat share: slices that read as lists, rows of cells, worlds that keep some blocks. -/
import Derived.Test.YthmklhapjegfdaaGreatDoorX03
import Derived.Test.YthmklhapjegfdaaGreatDoorX01
import Derived.Test.YthmklhapjegfdaaGreatDoorProg
import Derived.WalkKit
import Derived.Deep.QuietTactic
import Derived.BigQuiet
import Derived.Lib.Hide
import Derived.Deep.OwnRows
set_option linter.all false
set_option maxRecDepth 100000
set_option maxHeartbeats 12800000
namespace Go.Proofs.YthmklhapjegfdaaGreatDoor
theorem Zh {p q:Prop} (k:q) (h:Mhid q→p:=by
 intro hq
 rw[← hWz]
 have t0:=hrz.cell (i:=0) rfl
 have t1:=hrz.cell (i:=1) rfl
 have t2:=hrz.cell (i:=2) rfl
 revert t2
 revert t1
 revert t0
 exact hq.out):p:=h ⟨k⟩
theorem Zr {p:Prop} (h:p:=by
 go_wp2
 go_ret
 exact⟨_,rfl,bQ _ _ _ 0,by rw[HF.out]; rfl⟩):p:=h
theorem Zt {p q:Prop} (k:q) (h:Mhid q→p:=by
 intro hq
 dsimp only
 have q0:=hr.cell (i:=0) rfl
 have y0:=hr.frozen 0
 have q1:=hr.cell (i:=1) rfl
 have y1:=hr.frozen 1
 have q2:=hr.cell (i:=2) rfl
 have y2:=hr.frozen 2
 revert y2
 revert q2
 revert y1
 revert q1
 revert y0
 revert q0
 exact hq.out):p:=h ⟨k⟩
theorem Zu {p:Prop} (h:p:=by
 go_in
 go_wp2
 go_ret
 exact⟨_,rfl,(Below.refl _ _).alloc (Nat.le_refl _) _,by rw[HF.out]; rfl⟩):p:=h
theorem ZQ {p q:Prop} (k:q) (h:Mhid q→p:=by
 intro hq
 refine(iK w1 F _ _ a b C D Y (HVA.out.below hb1) (HVB.out.below hb1) hla hlb byOmega byOmega byOmega byOmega HX.out.2.1 (by have:=HY.out.1; have:=HX.out.2.2; omega)).mono ?_
 exact hq.out):p:=h ⟨k⟩
theorem ZR {p:Prop} (h:p:=by
 clear cx HMS HRW HGR Cj
 obtain⟨u3,rfl,afa,ah5,adL,hrow3,aki⟩:=hcut
 obtain⟨x,hx⟩:=aB (l:=u3) (k:=k) byOmega
 have cx:=hrow3.cell (aZ ((jA HPP.out byOmega).trans hx))
 have fx:=hrow3.frozen (j+k)
 have hQlt:aG u / aG v < 1000000000:=HE.out.q_lt
 have HLN:=Ag (abP afa adL)
 have Eu:=Ag afa
 have hk3:k < u3.length:=byOmega
 clear hx afa adL
 generalize hQ:aG u / aG v=Q at *
 have HQQ:=Ag hQ
 clear hQ
 go_wp2
 go_ret
 refine⟨by rw[HQQ.out]; rfl,⟨u3.set k 0,by rw[List.length_set,Eu.out],ah5.set ay,HLN.out,?_⟩,jm aki _ _⟩
 have hr:=hrow3.set (j+k) (.int .u32 ((0:Nat):Int))
 rw[bg,set_mid HPP.out hk3] at hr
 exact hr):p:=h
theorem Z5 {p q:Prop} (k:q) (h:Mhid q→p:=by
 intro hq
 obtain⟨top,htop⟩:=aB (l:=v) (k:=n1) byOmega
 obtain⟨v2,hv2⟩:=aB (l:=v) (k:=n2) byOmega
 obtain⟨un,hun⟩:=aB (l:=u) (k:=n) byOmega
 obtain⟨u1,hu1⟩:=aB (l:=u) (k:=n1) byOmega
 obtain⟨u2,hu2⟩:=aB (l:=u) (k:=n2) byOmega
 have ct:=hv.cell (aZ htop)
 have cv2:=hv.cell (aZ hv2)
 have cun:=hu.cell (aZ ((jA hP byOmega).trans hun))
 have cu1:=hu.cell (aZ ((jA hP byOmega).trans hu1))
 have cu2:=hu.cell (aZ ((jA hP byOmega).trans hu2))
 have topl:top < 1000000000:=he.lv.get htop
 have v2l:v2 < 1000000000:=he.lv.get hv2
 have unl:un < 1000000000:=he.lu.get hun
 have u1l:u1 < 1000000000:=he.lu.get hu1
 have u2l:u2 < 1000000000:=he.lu.get hu2
 have gt:v.getD (n - 1) 0=top:=by rw[show n - 1=n1 by omega];exact aO htop
 have gv2:v.getD (n - 2) 0=v2:=by rw[show n - 2=n2 by omega];exact aO hv2
 have gun:u.getD n 0=un:=aO hun
 have gu1:u.getD (n - 1) 0=u1:=by rw[show n - 1=n1 by omega];exact aO hu1
 have gu2:u.getD (n - 2) 0=u2:=by rw[show n - 2=n2 by omega];exact aO hu2
 have ajt:500000000≤top:=by have:=he.half;rw[gt] at this;unfold LB at this;omega
 revert ajt
 revert gu2
 revert gu1
 revert gun
 revert gv2
 revert gt
 revert u2l
 revert u1l
 revert unl
 revert v2l
 revert topl
 revert cu2
 revert cu1
 revert cun
 revert cv2
 revert ct
 revert hu2
 revert u2
 revert hu1
 revert u1
 revert hun
 revert un
 revert hv2
 revert v2
 revert htop
 revert top
 exact hq.out):p:=h ⟨k⟩
theorem Z7 {p:Prop} (h:p:=by
 go_in
 go_wp2
 go_ret
 exact⟨_,rfl,(Below.refl _ _).alloc (Nat.le_refl _) _,by rw[HD.out]; rfl⟩):p:=h
theorem Yf {p q:Prop} (k:q) (h:Mhid q→p:=by
 intro hq
 have hmf:∀ (fn:Fn) (first cap:Array Value) (w:World),(Instr.makeFunc fn first cap).run Tryz.prog w = .ok (.func fn first cap) w:=fun _ _ _ _=>rfl
 revert hmf
 exact hq.out):p:=h ⟨k⟩
theorem Yg {p:Prop} (h:p:=by
 exact⟨by rw[HB.out],by simp only[World.drewN_drewN]; exact⟨_,rfl⟩⟩):p:=h
theorem Yh {p q:Prop} (k:q) (h:Mhid q→p:=by
 intro hq
 have hdd:decide (k < (dig b).length)=false:=decide_eq_false hlt2
 have HY:=Ag (dR (l:=dig b) (k:=k) byOmega)
 revert HY
 revert hdd
 exact hq.out):p:=h ⟨k⟩
theorem Yr {p q:Prop} (k:q) (h:Mhid q→p:=by
 intro hq
 rw[Nat.mul_one] at ex
 have hxl:x < 1000000000:=(aQ a).get hx'
 have HX:=Ag (aO hx')
 revert HX
 revert hxl
 revert ex
 exact hq.out):p:=h ⟨k⟩
theorem Yv {p q:Prop} (k:q) (h:Mhid q→p:=by
 intro hq
 have e1:((j+1:Nat):Int) - 1=(j:Int):=byOmega
 rw[e1]
 clear e1
 exact hq.out):p:=h ⟨k⟩
theorem Yy {p:Prop} (h:p:=by
 have HF:=Ag (show aV g.aF g.infos.length x=2 by unfold aV dY; rw[if_neg k1,if_pos k2,if_neg byOmega,if_pos byOmega])
 clear k1 k2
 go_in
 exact Zr):p:=h
theorem Yz {p:Prop} (h:p:=by
 have hr:=HO.out.set k (.int .u32 (e:Int))
 rw[bg,he] at hr
 exact hr):p:=h
theorem YE {p:Prop} (h:p:=by
 refine⟨k+1,l.set k ((cr+p) % 1000000000),(cr+p) / 1000000000,byOmega,by go_num,by go_num,byOmega,by rw[List.length_set,HL.out],HM.out.set (by show _ < 1000000000; omega),pU (by rw[HL.out]; exact hlt) HI.out (by rw[HX.out,← HP.out]; show _+1000000000*_=_; omega),?_,hbel.setCell (Nat.le_refl _) _⟩
 have hr:=HO.out.set k (.int .u32 (((cr+p) % 1000000000:Nat):Int))
 rw[bg] at hr
 exact hr):p:=h
theorem YG {p q:Prop} (k:q) (h:Mhid q→p:=by
 intro hq
 refine(iK w F _ _ a b A B X HVA.out HVB.out hla hlb byOmega byOmega byOmega byOmega HX.out.1 HX.out.2.2).mono ?_
 exact hq.out):p:=h ⟨k⟩
theorem YH {p:Prop} (h:p:=by
 refine⟨k+1,l.set k (cr % 1000000000),cr / 1000000000,byOmega,by go_num,by go_num,byOmega,by rw[List.length_set,HL.out],HM.out.set (by show _ < 1000000000; omega),pU (by rw[HL.out]; exact hlt) HI.out (by rw[HX.out,Nat.zero_mul]; show _+1000000000*_=_; omega),?_,hbel.setCell (Nat.le_refl _) _⟩
 have hr:=HO.out.set k (.int .u32 ((cr % 1000000000:Nat):Int))
 rw[bg] at hr
 exact hr):p:=h
theorem YI {p:Prop} (h:p:=by
 have:=hrow.limbs (F:=fun b=>w.heap.size≤b) (Nat.le_refl _) (n:=l.length) (c:=(dig a).length) (Nat.le_refl _) (by rw[HL.out]; exact Nat.le_refl _)
 rw[List.take_length,HL.out] at this
 exact this):p:=h
theorem YK {p:Prop} (h:p:=by
 have HF:=Ag (show aV g.aF g.infos.length x=3 by unfold aV dY; rw[if_neg k1,if_pos k2,if_pos byOmega])
 clear k1 k2
 go_in
 exact Zr):p:=h
theorem YP {p q:Prop} (k:q) (h:Mhid q→p:=by
 intro hq
 have HF:=Ag (show aV g.aF g.infos.length x=3 by unfold aV iH; rw[if_neg k1,if_neg k2,if_pos k3,if_pos byOmega])
 revert HF
 exact hq.out):p:=h ⟨k⟩
theorem YR {p:Prop} (h:p:=by
 go_wp2
 refine bodyPost_ret (nU rfl _ _ _) rfl ?_
 exact⟨⟨p,q,A,B,C,D,rfl,HLE.out,a1,a2,b1,b2,c1,c2,d1,d2⟩,rfl⟩):p:=h
theorem YT {p q:Prop} (k:q) (h:Mhid q→p:=by
 intro hq
 have HF:=Ag (show aV g.aF g.infos.length x=3 by unfold aV dB; rw[if_pos k1,if_pos byOmega])
 revert HF
 exact hq.out):p:=h ⟨k⟩
theorem YU {p:Prop} (h:p:=by
 go_ret
 exact⟨by rw[HE.out]; first | rfl | (rw[HE2.out]; rfl),0,rfl⟩):p:=h
theorem YW {p:Prop} (h:p:=by
 subst h0
 go_wp2
 go_ret
 refine⟨_,rfl,hbel,?_⟩
 have h2:=HD.out
 rw[bK,List.append_nil] at h2
 unfold Ak
 rw[← h2]
 exact iI HO.out fun b hb=>(HO.out.lt b hb).1):p:=h
theorem Y4 {p q:Prop} (k:q) (h:Mhid q→p:=by
 intro hq
 rw[Nat.mul_one] at ey
 have hyl:y < 1000000000:=(aQ b).get hy'
 have HY:=Ag (aO hy')
 revert HY
 revert hyl
 revert ey
 exact hq.out):p:=h ⟨k⟩
theorem Y5 {p q:Prop} (k:q) (h:Mhid q→p:=by
 intro hq
 refine⟨k+1,l.set k s,1,byOmega,by go_num,rfl,byOmega,by rw[List.length_set,HL.out],HM.out.set (by have:=HS.out; show _ < 1000000000; omega),wY (by rw[HL.out]; exact hlt) HI.out (by have:=HS.out; rw[HX.out,HY.out]; show _=_+1000000000*_; omega),?_,hbel.setCell (Nat.le_refl _) _⟩
 have hr:=HO.out.set k (.int .u32 (s:Int))
 rw[bg] at hr
 revert hr
 exact hq.out):p:=h ⟨k⟩
theorem Y6 {p q:Prop} (k:q) (h:Mhid q→p:=by
 intro hq
 refine⟨k+1,l.set k s,0,byOmega,by go_num,rfl,byOmega,by rw[List.length_set,HL.out],HM.out.set (by have:=HS.out; show _ < 1000000000; omega),wY (by rw[HL.out]; exact hlt) HI.out (by have:=HS.out; rw[HX.out,HY.out]; show _=_+1000000000*_; omega),?_,hbel.setCell (Nat.le_refl _) _⟩
 have hr:=HO.out.set k (.int .u32 (s:Int))
 rw[bg] at hr
 revert hr
 exact hq.out):p:=h ⟨k⟩
theorem Y8 {p q:Prop} (k:q) (h:Mhid q→p:=by
 intro hq
 have HD:=Ag (show n.next.drop j=ch :: n.next.drop (j+1) by rw[List.drop_eq_getElem_cons hjt]; congr 1; simpa [hjt] using hch)
 revert HD
 exact hq.out):p:=h ⟨k⟩
theorem zab {p q:Prop} (k:q) (h:Mhid q→p:=by
 intro hq
 obtain⟨e,he⟩:∃ e:Nat,(e:Int)=rm:=⟨rm.toNat,byOmega⟩
 have hdd:decide (rm < 0)=false:=decide_eq_false hneg
 have HE:=Ag he
 clear he
 revert HE
 revert hdd
 revert e
 exact hq.out):p:=h ⟨k⟩
theorem zaj {p:Prop} (h:p:=by
 go_in
 go_wp2_with (first | ((with_reducible refine(acJ _ _).mono ?_); rintro e w' ⟨rfl,rfl⟩))
 go_ret
 exact⟨by rw[HO.out]; rfl,rfl⟩):p:=h
theorem zak {p:Prop} (h:p:=by
 go_wp2
 go_ret
 exact⟨by rw[HE.out]; rfl,(by simp only[World.drewN_drewN]; exact⟨_,rfl⟩)⟩):p:=h
theorem zal {p:Prop} (h:p:=by
 go_in
 go_wp2_with (first | ((with_reducible refine(vY _ _).mono ?_); rintro e w' ⟨rfl,rfl⟩))
 go_ret
 exact⟨by rw[HO.out]; rfl,rfl⟩):p:=h
theorem zan {p:Prop} (h:p:=by
 have h1:=hinv
 rw[List.drop_zero,List.drop_zero,aX] at h1
 rw[h1]
 exact⟨by rw[Nat.mul_comm,Nat.add_comm,Nat.add_mul_div_right _ _ byOmega,Nat.div_eq_of_lt hr,Nat.zero_add],by rw[Nat.mul_comm,Nat.add_comm,Nat.add_mul_mod_self_right,Nat.mod_eq_of_lt hr]⟩):p:=h
theorem zar {p:Prop} (h:p:=by
 have hd:((x:Int)==0)=false:=aC
 have HZ:=Ag hz
 clear hz
 go_wp2
 go_ret
 exact⟨by rw[← HT.out,HS.out,if_neg HZ.out]; rfl,rfl⟩):p:=h
theorem zas {p:Prop} (h:p:=by
 refine⟨j,_,q.set j dd,by go_num,HST.out,byOmega,HU4.out.other (a:=⟨w2.heap.size,j,none⟩) aC _,?_,HV4.out.other (a:=⟨w2.heap.size,j,none⟩) aC _,hb4.setCell aC _,aC⟩
 have hr:=HQ4.out.set j (.int .u32 (dd:Int))
 rw[bg] at hr
 exact hr):p:=h
theorem zaA {p q:Prop} (k:q) (h:Mhid q→p:=by
 intro hq
 have HL:=Ag hlen
 have HI:=Ag hinv
 have HO:=Ag hrow
 have HM:=Ag hlim
 have hold:=aP hbel
 revert hold
 revert HM
 revert HO
 revert HI
 revert HL
 exact hq.out):p:=h ⟨k⟩
theorem zaB {p q:Prop} (k:q) (h:Mhid q→p:=by
 intro hq
 obtain⟨e,he⟩:∃ e:Nat,(e:Int)=rm+1000000000:=⟨(rm+1000000000).toNat,byOmega⟩
 have HE:=Ag he
 clear he
 revert HE
 revert e
 exact hq.out):p:=h ⟨k⟩
theorem zaE {p:Prop} (h:p:=by
 rintro e w' ⟨rfl,rfl⟩
 go_wp2
 go_ret
 refine⟨_,rfl,hbel,?_⟩
 have:=fE HO.out HM.out (F:=fun b=>w.heap.size≤b) (Nat.le_refl _) (c:=(dig a).length+(dig b).length) HL.out (Nat.le_refl _)
 rw[HF.out] at this
 exact this):p:=h
theorem zaH {p:Prop} (h:p:=by
 have h1:=hinv
 rw[hke,List.take_length,List.take_of_length_le byOmega,List.take_of_length_le hlb,aX,aX,HR.out] at h1
 have h2:=fJ hlim
 rw[hlen] at h2
 have h3:=jT a
 have h4:=HRA.out
 have:=af4 h2 byOmega byOmega h1
 omega):p:=h
theorem zaI {p:Prop} (h:p:=by
 have hd:(ch != next)=true:=by simp[hne]
 have HF:=Ag (show bZ g.nodes (f+1) a depth deep=(-1,dp) by rw[HV.out,HD.out]; simp[dF,hne])
 clear hne
 go_wp2
 go_ret
 exact⟨by rw[HF.out]; rfl,by rw[HF.out]; exact hrw,hgr⟩):p:=h
theorem zaM {p:Prop} (h:p:=by
 have:=hrow.limbs (F:=fun b=>w.heap.size≤b) (Nat.le_refl _) (n:=l.length) (c:=(dig a).length+(dig b).length) (Nat.le_refl _) (by rw[HL.out]; exact Nat.le_refl _)
 rw[List.take_length,HL.out] at this
 exact this):p:=h
theorem zaN {p q:Prop} (k:q) (h:Mhid q→p:=by
 intro hq
 have t2:(q+D != 0)=true:=by simp[hD]
 have hD':0 < q+D:=byOmega
 obtain⟨k,hk⟩:∃ k,(p+A) / (q+C)=k:=⟨_,rfl⟩
 obtain⟨k2,hk2⟩:∃ k,(p+B) / (q+D)=k:=⟨_,rfl⟩
 have kn:0≤k:=by rw[← hk];exact Int.ediv_nonneg pA qC
 have k2n:0≤k2:=by rw[← hk2];exact Int.ediv_nonneg pB qD
 have kle:k≤p+A:=by rw[← hk];exact Int.ediv_le_self _ pA
 have k2le:k2≤p+B:=by rw[← hk2];exact Int.ediv_le_self _ pB
 revert k2le
 revert kle
 revert k2n
 revert kn
 revert hk2
 revert k2
 revert hk
 revert k
 revert hD'
 revert t2
 exact hq.out):p:=h ⟨k⟩
theorem zaQ {p q:Prop} (k:q) (h:Mhid q→p:=by
 intro hq
 obtain⟨f,hf⟩:=named (LB / (t+1))
 have hfit:=sF hn hb00
 have adS:=qZ (a:=a) (f:=f) byOmega
 rw[gt,← hf] at hfit
 have HDB:=Ag (fun (v:List Nat) (h1:v.length=n) (h2:Limbs v) (h3:aG v=b*f)=>(by have:=adx (b:=b) (v:=v) hn byOmega h1 h2 (by rw[gt,← hf]; exact h3); rw[gt,← hf] at this; exact this:CQ v n b f))
 revert HDB
 revert hfit
 revert adS
 revert hf
 revert f
 exact hq.out):p:=h ⟨k⟩
theorem zaS {p:Prop} (h:p:=by
 have HD:=Ag (show decide (n=1)=false from decide_eq_false fun h=>h1 (by rw[h,gZ]; rfl))
 have hd:(((dig n).length:Int)==1)=false:=aC
 clear h1
 go_in
 go_wp2
 go_ret
 exact⟨by rw[HD.out]; rfl,rfl⟩):p:=h
theorem zaT {p:Prop} (h:p:=by
 refine⟨_,rfl,hbel,_,by rw[← HF.out.2]; rfl,?_⟩
 have:=fE HO.out HM.out (F:=fun b=>w.heap.size≤b) (Nat.le_refl _) (c:=(dig a).length) HL.out (Nat.le_refl _)
 rw[HF.out.1] at this
 exact this):p:=h
theorem zaV {p:Prop} (h:p:=by
 exact cell_lt (a:=⟨b,off,none⟩) (by simpa [Addr.add_lit] using hc0)):p:=h
theorem zaX {p q:Prop} (k:q) (h:Mhid q→p:=by
 intro hq
 refine⟨_,rfl,hbel,?_⟩
 exact hq.out):p:=h ⟨k⟩
theorem zaY {p q:Prop} (k:q) (h:Mhid q→p:=by
 intro hq
 obtain⟨z,hz⟩:=aB (l:=l) (k:=k) byOmega
 have rc:=hrow.cell (aZ hz)
 have fc:=hrow.frozen k
 revert fc
 revert rc
 revert hz
 revert z
 exact hq.out):p:=h ⟨k⟩
theorem za5 {p:Prop} (h:p:=by
 have:=HS.out
 rw[HX.out,HY.out,← HP.out]
 show _=_+1000000000*_
 omega):p:=h
theorem zba {p:Prop} (h:p:=by
 go_in
 go_wp2
 go_ret
 exact⟨rfl,rfl⟩):p:=h
theorem zbd {p:Prop} (h:p:=by
 have h1:=fJ ((aQ n).drop (j+1))
 have h2:LB ^ ((dig n).drop (j+1)).length≤LB ^ 1:=Nat.pow_le_pow_right ay (by rw[List.length_drop]; omega)
 have h3:LB ^ 1=1000000000:=ay
 omega):p:=h
theorem zbe {p q:Prop} (k:q) (h:Mhid q→p:=by
 intro hq
 have hr:=HRW.out.set (j+k) (.int .u32 (s:Int))
 rw[bg,set_mid HPP.out aaN] at hr
 have hss:=HS.out
 revert hss
 revert hr
 exact hq.out):p:=h ⟨k⟩
theorem zbf {p:Prop} (h:p:=by
 rintro e w' ⟨rfl,rfl⟩
 go_wp2
 go_ret
 refine zaX ?_
 have:=fE HO.out HM.out (F:=fun b=>w.heap.size≤b) (Nat.le_refl _) HL.out (Nat.le_refl _)
 rw[HF.out] at this
 exact this):p:=h
theorem zbj {p:Prop} (h:p:=by
 rw[HX.out,HY.out,HP.out,HQ.out]
 show(e:Int)+1000000000*_=_
 omega):p:=h
theorem zbl {p:Prop} (h:p:=by
 injection hcs with hv _
 subst hv
 exact⟨[],none,0,rfl,Nat.le_refl _,fun h=>absurd h aA⟩):p:=h
theorem zbm {p:Prop} (h:p:=by
 exact⟨_,rfl,hwz _ _ (Nat.le_refl _) hB,by unfold NmV; rw[HW.out]; exact AA.make rfl ((Ak.on (n:=m) HV.out (hkz _ byOmega)).mono (fun b hb _=>by omega)) (gG _ _ _ _)⟩):p:=h
theorem zbo {p q:Prop} (k:q) (h:Mhid q→p:=by
 intro hq
 have HB:=Ag (show su q r v2 u2=false by rw[HBAD.out]; exact decide_eq_false byOmega)
 revert HB
 exact hq.out):p:=h ⟨k⟩
theorem zbp {p:Prop} (h:p:=by
 subst h0
 have HE:=Ag (show aG ((dig n).drop 0)=n by rw[List.drop_zero,aX])
 generalize aG ((dig n).drop 0)=m at *
 go_wp2
 go_ret
 exact⟨by rw[← HE.out]; rfl,rfl⟩):p:=h
theorem zbv {p:Prop} (h:p:=by
 go_wp2
 go_ret
 have HF:bZ g.nodes (f+1) a depth deep=(next,dp):=by rw[HV.out,List.drop_eq_nil_of_le byOmega];rfl
 exact⟨by rw[HF]; rfl,by rw[HF]; exact hrw,hgr⟩):p:=h
theorem zbx {p q:Prop} (k:q) (h:Mhid q→p:=by
 intro hq
 have t5:decide (1000000000≤abA (A - kc) (-(A - kc)) (B - kd) (-(B - kd)))=false:=decide_eq_false hmx
 have hn:=mt af8.2 hmx
 have n1:-1000000000 < A - kc:=byOmega
 have n2:A - kc < 1000000000:=byOmega
 have n3:-1000000000 < B - kd:=byOmega
 have n4:B - kd < 1000000000:=byOmega
 clear hn
 revert n4
 revert n3
 revert n2
 revert n1
 revert t5
 exact hq.out):p:=h ⟨k⟩
theorem zbB {p:Prop} (h:p:=by
 have HE:=Ag (lF (lV h))
 have HE2:=Ag (lF h)
 have hnlt:decide ((dig a).length < (dig b).length)=false:=decide_eq_false byOmega
 clear hlen
 go_in
 go_wp2
 exact YU):p:=h
theorem zbF {p q:Prop} (k:q) (h:Mhid q→p:=by
 intro hq
 obtain⟨z,hz⟩:=aB (l:=l') (k:=k+m) (by rw[hmul.len]; omega)
 have rc:=hrow.cell (aZ hz)
 have fc:=hrow.frozen (k+m)
 have hzl:z < 1000000000:=hmul.limbs.get hz
 have HZ:=Ag (aO hz)
 have hpb:=um hxl hyl
 obtain⟨p,hp⟩:=named (x*y)
 have hpI:(x:Int)*(y:Int)=(p:Int):=by rw[hp];simp
 rw[← hp] at hpb
 have HP:=Ag hp
 have hLl:k+m < (dig a).length+(dig b).length:=byOmega
 clear hz hp
 revert hLl
 revert HP
 revert hpb
 revert hpI
 revert p
 revert HZ
 revert hzl
 revert fc
 revert rc
 revert z
 exact hq.out):p:=h ⟨k⟩
theorem zbG {p q:Prop} (k:q) (h:Mhid q→p:=by
 intro hq
 have HB:=Ag (show su q r v2 u2=true by rw[HBAD.out]; exact decide_eq_true ⟨c1,.inl c2⟩)
 have d1:decide ((r:Int) < 1000000000)=true:=decide_eq_true byOmega
 have d2:decide ((1000000000:Int)≤(q:Int))=true:=decide_eq_true byOmega
 revert d2
 revert d1
 revert HB
 exact hq.out):p:=h ⟨k⟩
theorem zbI {p:Prop} (h:p:=by
 have HF:=Ag (show bZ g.nodes (f+1) a depth deep=(-1,rd) by rw[HV3.out,if_pos hng])
 go_wp2
 go_ret
 exact⟨by rw[HF.out]; rfl,by rw[HF.out]; exact aeZ,hgg⟩):p:=h
theorem zbM {p:Prop} (h:p:=by
 obtain⟨u,hu,hr⟩:=h
 exact⟨u,by rw[hs.cell hb hl]; exact hu,hr.keep hFG hs⟩):p:=h
theorem zbO {p:Prop} (h:p:=by
 rw[HX.out,HY.out,HP.out]
 show(e:Int)+1000000000*_=_
 omega):p:=h
theorem zbX {p:Prop} (h:p:=by
 clear k1 k2 k3
 go_in
 exact Zr):p:=h
theorem zbY {p:Prop} (h:p:=by
 exact⟨none,0,rfl,Nat.le_refl _,fun h=>absurd h aA⟩):p:=h
theorem zb4 {p:Prop} (h:p:=by
 refine⟨0,l,0,byOmega,rfl,rfl,byOmega,?_,HO.out,hbel⟩
 have h:=HI.out
 exact⟨h.len,h.limbs,by have:=h.eq; simpa [aG] using this,h.zero⟩):p:=h
theorem zcd {p:Prop} (h:p:=by
 have HF:=Ag (show G=a by rw[HGC.out,hb0,Nat.gcd_zero_right])
 clear hb0
 go_wp2
 go_ret
 exact⟨_,rfl,hbel,by rw[HF.out]; exact HNA.out⟩):p:=h
theorem zcf {p q:Prop} (k:q) (h:Mhid q→p:=by
 intro hq
 unfold Oper.wp execOp
 simp only[ho,resolve,invoke,builtin,Sem.run_bind,Sem.run_pure,Result.andThen_ok,List.map_toArray,List.map_cons,List.map_nil,hs,hx,hrun]
 exact hq.out):p:=h ⟨k⟩
theorem zcn {p:Prop} (h:p:=by
 have hd:((x:Int)==1)=false:=aC
 have H2:=Ag h2
 clear h2
 go_in
 go_wp2
 go_ret
 exact⟨by rw[HD.out,decide_eq_false H2.out]; rfl,rfl⟩):p:=h
theorem zco {p:Prop} (h:p:=by
 exact⟨b0,a0,rfl,HB.out.ext (aH (Below.refl _ w) z0),HA.out.ext (aH (Below.refl _ w) z0),byOmega,by rw[HG.out,Nat.gcd_comm],hlb⟩):p:=h
theorem zcp {p q:Prop} (k:q) (h:Mhid q→p:=by
 intro hq
 obtain⟨p,hp⟩:=named (q*v2)
 have hpI:(q:Int)*(v2:Int)=(p:Int):=by rw[hp];simp
 rw[← hp] at hpb
 have HP:=Ag hp
 clear hp
 have hbad:su q r v2 u2=decide (r < 1000000000∧(1000000000≤q∨r*1000000000+u2 < p)):=by unfold su;rw[HP.out]
 have HBAD:=Ag hbad
 clear hbad
 revert HBAD
 revert HP
 revert hpb
 revert hpI
 revert p
 exact hq.out):p:=h ⟨k⟩
theorem zcq {p:Prop} (h:p:=by
 have h1:=fE D8.out HQL.out (F:=Ext F w.heap.size) (.inr byOmega) (c:=la - n+1) HQN.out (Nat.le_refl _)
 rw[HQ.out] at h1
 exact h1):p:=h
theorem zcs {p:Prop} (h:p:=by
 rw[bg,set_mid HPP.out hm2] at hr
 have hss:=HS.out
 rw[show(s:Int)=(x:Int)+(y:Int)+(o:Int) - 1000000000 by omega] at hr
 exact hr):p:=h
theorem zct {p:Prop} (h:p:=by
 rw[HQ.out,HG.out.1]
 obtain⟨q',rfl⟩:∃ q',q=q'+1:=⟨q - 1,byOmega⟩
 rw[Nat.add_sub_cancel,Nat.add_mul,Nat.one_mul]
 omega):p:=h
theorem zcu {p q:Prop} (k:q) (h:Mhid q→p:=by
 intro hq
 obtain⟨n1,hn1⟩:∃ n1,n1+1=n:=⟨n - 1,byOmega⟩
 revert hn1
 revert n1
 exact hq.out):p:=h ⟨k⟩
theorem zcv {p q:Prop} (k:q) (h:Mhid q→p:=by
 intro hq
 obtain⟨x,hx'⟩:=aB hlt
 have ex:=hx k x hx'
 revert ex
 revert hx'
 revert x
 exact hq.out):p:=h ⟨k⟩
theorem zcw {p q:Prop} (k:q) (h:Mhid q→p:=by
 intro hq
 refine decide_eq_false ?_
 unfold dA
 exact hq.out):p:=h ⟨k⟩
theorem zcx {p:Prop} (h:p:=by
 go_wp2
 go_ret
 exact⟨by rw[HE.out]; rw[← HE.out,← HO.out]; rfl,(by simp only[World.drewN_drewN]; exact⟨_,rfl⟩)⟩):p:=h
theorem zcF {p:Prop} (h:p:=by
 go_wp2
 go_ret
 refine⟨_,rfl,bQ _ _ _ 0,?_⟩
 have h:=HP.out
 rw[List.take_of_length_le byOmega] at h
 rw[HV.out,h]
 rfl):p:=h
theorem zcG {p:Prop} (h:p:=by
 refine⟨l,_,cap,by rw[hll],by rw[hll]; exact hl,fun _=>⟨b,off,rfl,trivial,?_,fun k n hk=>hp k n hk⟩⟩
 exact zaV):p:=h
theorem zcI {p q:Prop} (k:q) (h:Mhid q→p:=by
 intro hq
 have HB:=Ag (show su q r v2 u2=true by rw[HBAD.out]; exact decide_eq_true ⟨c1,.inr c3⟩)
 have d3:decide ((r:Int)*1000000000+(u2:Int) < (p:Int))=true:=decide_eq_true byOmega
 revert d3
 revert HB
 exact hq.out):p:=h ⟨k⟩
theorem zcM {p q:Prop} (k:q) (h:Mhid q→p:=by
 intro hq
 have hda:(((dig a).length:Int)==0)=false:=by have:=aY.2 ha0;exact beq_false_of_ne byOmega
 have hdb:(((dig b).length:Int)==0)=false:=by have:=aY.2 hb0;exact beq_false_of_ne byOmega
 revert hdb
 revert hda
 exact hq.out):p:=h ⟨k⟩
theorem zcN {p:Prop} (h:p:=by
 have HF:=Ag hF
 clear hF hinv hlim hlen hrow
 go_wp2
 go_ret
 exact⟨_,rfl,hbel,rfl,l,HL.out,HM.out,HF.out,HO.out⟩):p:=h
theorem zcR {p:Prop} (h:p:=by
 exact⟨a0,b0,rfl,HA.out.ext (aH (Below.refl _ w) z0),HB.out.ext (aH (Below.refl _ w) z0),byOmega,HG.out,hla⟩):p:=h
theorem zcS {p:Prop} (h:p:=by
 subst h0
 go_wp2
 go_ret
 exact⟨by rw[← HT.out]; rfl,rfl⟩):p:=h
theorem zcU {p q:Prop} (k:q) (h:Mhid q→p:=by
 intro hq
 obtain⟨x,hx'⟩:=aB (l:=dig a) (k:=j) byOmega
 obtain⟨y,hy'⟩:=aB (l:=dig b) (k:=j) byOmega
 have ex:=hx j x hx'
 have ey:=hy j y hy'
 revert ey
 revert ex
 revert hy'
 revert y
 revert hx'
 revert x
 exact hq.out):p:=h ⟨k⟩
theorem zcX {p:Prop} (h:p:=by
 obtain⟨y,hy⟩:=List.length_eq_one_iff.1 h1
 have h2:=aX b
 rw[hy] at hx' h2
 simp at hx'
 simp[aG] at h2
 omega):p:=h
theorem zcY {p q:Prop} (k:q) (h:Mhid q→p:=by
 intro hq
 have hpb:x*d≤999999999000000000:=Nat.le_trans (Nat.mul_le_mul (show x≤999999999 by omega) hd1) ay
 obtain⟨p,hp⟩:=named (x*d)
 have hpI:(x:Int)*(d:Int)=(p:Int):=by rw[hp];simp
 rw[← hp] at hpb
 have HP:=Ag hp
 clear hp
 revert HP
 revert hpb
 revert hpI
 revert p
 exact hq.out):p:=h ⟨k⟩
theorem zc2 {p q:Prop} (k:q) (h:Mhid q→p:=by
 intro hq
 have T1:=Ag t1
 have akj:-2500000000≤qd:=byOmega
 have akk:qd≤2500000000:=byOmega
 revert akk
 revert akj
 revert T1
 exact hq.out):p:=h ⟨k⟩
theorem zc3 {p:Prop} (h:p:=by
 exact⟨_,rfl,(aH (Below.refl _ w) z0).trans hb1,_,_,rfl,by rw[HS.out,nS]; exact HV.out,by rw[HS.out,nS]⟩):p:=h
theorem zdc {p q:Prop} (k:q) (h:Mhid q→p:=by
 intro hq
 obtain⟨W,hW,hr,hWb,hWz⟩:=aN w 118 #[.bool false,.slice none 0 0,.slice none 0 0]
 rw[← hW]
 revert hWz
 revert hWb
 revert hr
 revert hW
 revert W
 exact hq.out):p:=h ⟨k⟩
theorem zdd {p:Prop} (h:p:=by
 exact⟨_,rfl,hwz _ _ byOmega hB3,HU.out.keep (fun b hb _=>hb.1) (hkz _ (fun h=>by have:=h.2; omega))⟩):p:=h
theorem zdg {p:Prop} (h:p:=by
 rw[← hd,List.length_append] at h1
 omega):p:=h
theorem zdk {p:Prop} (h:p:=by
 have:bytes*n≤1000*1000000:=Nat.mul_le_mul hb hn
 omega):p:=h
theorem zdu {p:Prop} (h:p:=by
 have:=HE.out.abN HQ.out (HT.out.2.imp id fun h=>by rw[HG.out.2.2.2.2,HG.out.2.1]; exact h)
 omega):p:=h
theorem zdw {p q:Prop} (k:q) (h:Mhid q→p:=by
 intro hq
 have HSU:=Ag (BM.start (U:=U0) HDV.out HN.out HLA.out hlb hul adT hun)
 have hB2:Below w.heap.size w w2:=(aH (Below.refl _ w) z0).trans (wI.trans (hbw2.mono hzz))
 revert hB2
 revert HSU
 exact hq.out):p:=h ⟨k⟩
theorem zdB {p:Prop} (h:p:=by
 have h1:=hinv
 rw[List.take_of_length_le (l:=dig a) hla,aX] at h1
 exact aaK hlim hlen h1 HT.out):p:=h
theorem zdF {p q:Prop} (k:q) (h:Mhid q→p:=by
 intro hq
 have hxl:x < 1000000000:=(aQ a).get hx'
 have hyl:y < 1000000000:=(aQ b).get hy'
 have HX:=Ag hx'
 have HY:=Ag hy'
 refine Yv ?_
 revert HY
 revert HX
 revert hyl
 revert hxl
 exact hq.out):p:=h ⟨k⟩
theorem zdH {p:Prop} (h:p:=by
 go_wp2
 go_ret
 refine zaX ?_
 unfold Ak
 rw[HF.out]
 exact iI HO.out fun b hb=>(HO.out.lt b hb).1):p:=h
theorem zdI {p q:Prop} (k:q) (h:Mhid q→p:=by
 intro hq
 refine(IH.out q (depth+1) dp wr bd _ (HG.out.on (Same.adA hgr)) hrw byOmega byOmega byOmega ahY ahZ).mono ?_
 exact hq.out):p:=h ⟨k⟩
theorem zdK {p:Prop} (h:p:=by
 have h0:=aaR h
 have HD:=Ag (show decide (x=0)=false from decide_eq_false h)
 clear h
 exact Z7):p:=h
theorem zdN {p:Prop} (h:p:=by
 rw[Nat.div_eq_of_lt HLT.out]
 exact Ak.zero _ _ _ _):p:=h
theorem zdO {p:Prop} (h:p:=by
 have h0:=aaQ h
 have HD:=Ag (show decide (x=0)=true from decide_eq_true h)
 clear h
 exact Z7):p:=h
theorem zdR {p:Prop} (h:p:=by
 go_wp2
 go_ret
 exact⟨by rw[HE.out]; rfl,q,rfl⟩):p:=h
theorem zdS {p:Prop} (h:p:=by
 rw[Addr.add_lit] at hu
 rw[Nat.add_assoc]
 exact hu):p:=h
open Lib renaming hid → Ag
open Go.RowKit
abbrev Aj:=Nat→Prop
structure Same (F:Aj) (w w':World):Prop where
 size:w.heap.size≤w'.heap.size
 block:∀ b,F b→b < w.heap.size→w'.heap[b]? = w.heap[b]?
section
variable {F G:Aj} {w w' w'':World}
theorem Same.cell (h:Same F w w') {b:Nat} (hb:F b) (hl:b < w.heap.size) (o:Nat):w'.cell? ⟨b,o,none⟩=w.cell? ⟨b,o,none⟩:=World.cell?_of_block (w:=w) (h.block b hb hl)
theorem Same.refl (F:Aj) (w:World):Same F w w:=⟨Nat.le_refl _,fun _ _ _=>rfl⟩
theorem Same.trans (h:Same F w w') (k:Same F w' w''):Same F w w'':=⟨Nat.le_trans h.size k.size,fun i hi hl=>(k.block i hi (Nat.lt_of_lt_of_le hl h.size)).trans (h.block i hi hl)⟩
theorem Same.mono (h:Same F w w') (hG:∀ b,G b→F b):Same G w w':=⟨h.size,fun b hb hl=>h.block b (hG b hb) hl⟩
theorem Below.same' (h:Below w.heap.size w w') (F:Aj):Same F w w':=⟨h.size,fun b _ hl=>h.block b hl⟩
theorem Same.alloc (F:Aj) (w:World) (o:Obj):Same F w (w.alloc o):=⟨aA,fun b _ hl=>Below.heap_alloc w o b hl⟩
theorem Same.drewN (F:Aj) (w:World) (n:Nat):Same F w (w.drewN n):=⟨Nat.le_refl _,fun _ _ _=>rfl⟩
theorem Same.setCell (F:Aj) (w:World) {p:Addr} (hp:¬ F p.block) (v:Value):Same F w (w.setCell p v) :=
 ⟨aA,fun b hb _=>Below.heap_setCell w p v b (fun e=>hp (e▸hb))⟩
end
theorem aB {α:Type} {l:List α} {k:Nat} (h:k < l.length):∃ x,l[k]? = some x:=⟨l[k],by simp[h]⟩
theorem aK {α:Type} {l:List α} {k:Nat} {x:α} (h:l[k]? = some x):k < l.length:=by
 rcases Nat.lt_or_ge k l.length with h1 | h1
 ·exact h1
 ·rw[List.getElem?_eq_none h1] at h;cases h
theorem take_snoc {α:Type} {l:List α} {k:Nat} {x:α} (h:l[k]? = some x):l.take (k+1)=l.take k ++ [x]:=by
 rw[List.take_succ_eq_append_getElem (aK h)];congr 2;have:=aK h;simpa [this] using h
def BN {α:Type} (sz:Nat) (E:World→Aj→Nat→Nat→α→Prop) (w:World) (F:Aj) (v:Value) (l:List α):Prop :=
 ∃ A c,v = .slice A l.length c∧l.length≤c∧(0 < l.length→∃ b o,A=some ⟨b,o,none⟩∧F b∧b < w.heap.size∧∀ k x,l[k]? = some x→E w F b (o+k*sz) x)
theorem BN.keep {α:Type} {sz:Nat} {E:World→Aj→Nat→Nat→α→Prop} {w w':World} {F G:Aj} {v:Value} {l:List α}
  (h:BN sz E w F v l) (hFG:∀ b,F b→b < w.heap.size→G b) (hsz:w.heap.size≤w'.heap.size) (hE:∀ b o x,x∈l→F b→b < w.heap.size→E w F b o x→E w' G b o x):BN sz E w' G v l:=by
 obtain⟨A,c,rfl,hc,hr⟩:=h;refine⟨A,c,rfl,hc,fun h0=>?_⟩;obtain⟨b,o,rfl,hb,hl,hx⟩:=hr h0;exact⟨b,o,rfl,hFG b hb hl,Nat.lt_of_lt_of_le hl hsz,fun k x hk=>hE b _ x (List.mem_of_getElem? hk) hb hl (hx k x hk)⟩
def kX (k:IntKind) (w:World) (_:Aj) (b o:Nat) (x:Int):Prop:=w.cell? ⟨b,o,none⟩=some (.int k x)
def xk {α:Type} (S:World→Aj→Value→α→Prop) (w:World) (F:Aj) (b o:Nat) (x:α):Prop:=∃ v,w.cell? ⟨b,o,none⟩=some v∧S w F v x
def AQ (w:World) (F:Aj) (v:Value) (l:List Int):Prop:=BN 1 (kX .i64) w F v l
def BI (w:World) (F:Aj) (v:Value) (l:List (List Int)):Prop:=BN 1 (xk AQ) w F v l
theorem AQ.keep {w w':World} {F G:Aj} {v:Value} {l:List Int} (h:AQ w F v l) (hFG:∀ b,F b→b < w.heap.size→G b) (hs:Same F w w'):AQ w' G v l :=
 BN.keep h hFG hs.size fun b o x _ hb hl hx=>by unfold kX at *; rw[hs.cell hb hl]; exact hx
theorem BI.keep {w w':World} {F G:Aj} {v:Value} {l:List (List Int)} (h:BI w F v l) (hFG:∀ b,F b→b < w.heap.size→G b) (hs:Same F w w'):BI w' G v l :=
 BN.keep h hFG hs.size fun b o x _ hb hl hx=>by
  obtain⟨u,hu,hr⟩:=hx;exact⟨u,by rw[hs.cell hb hl]; exact hu,hr.keep hFG hs⟩
structure Nd where
 kind:Int
 aJ:Int
 info:Int
 next:List Int
 weights:List Int
 pay:List Int
 deriving Inhabited,DecidableEq
structure Inf where
 aJ:Int
 actions:Int
 deriving Inhabited,DecidableEq
structure Gm where
 aF:Int
 nodes:List Nd
 infos:List Inf
 deriving Inhabited,DecidableEq
structure CY (w:World) (F:Aj) (b o:Nat) (n:Nd):Prop where
 c0:w.cell? ⟨b,o,none⟩=some (.int .i64 n.kind)
 c1:w.cell? ⟨b,o+1,none⟩=some (.int .i64 n.aJ)
 c2:w.cell? ⟨b,o+2,none⟩=some (.int .i64 n.info)
 c3:xk AQ w F b (o+3) n.next
 c4:xk AQ w F b (o+4) n.weights
 c5:xk AQ w F b (o+5) n.pay
structure DF (w:World) (_:Aj) (b o:Nat) (n:Inf):Prop where
 c0:w.cell? ⟨b,o,none⟩=some (.int .i64 n.aJ)
 c1:w.cell? ⟨b,o+1,none⟩=some (.int .i64 n.actions)
theorem rC {w w':World} {F G:Aj} {b o:Nat} {l:List Int} (h:xk AQ w F b o l) (hFG:∀ b,F b→b < w.heap.size→G b) (hs:Same F w w') (hb:F b) (hl:b < w.heap.size):xk AQ w' G b o l:=by
 exact zbM
theorem CY.keep {w w':World} {F G:Aj} {b o:Nat} {n:Nd} (h:CY w F b o n) (hFG:∀ b,F b→b < w.heap.size→G b) (hs:Same F w w') (hb:F b) (hl:b < w.heap.size):CY w' G b o n :=
 ⟨by rw[hs.cell hb hl]; exact h.c0,by rw[hs.cell hb hl]; exact h.c1,by rw[hs.cell hb hl]; exact h.c2,rC h.c3 hFG hs hb hl,rC h.c4 hFG hs hb hl,rC h.c5 hFG hs hb hl⟩
def Bh (w:World) (F:Aj) (v:Value) (l:List Nd):Prop:=BN 6 CY w F v l
def Bj (w:World) (F:Aj) (v:Value) (l:List Inf):Prop:=BN 2 DF w F v l
theorem Bh.keep {w w':World} {F G:Aj} {v:Value} {l:List Nd} (h:Bh w F v l) (hFG:∀ b,F b→b < w.heap.size→G b) (hs:Same F w w'):Bh w' G v l :=
 BN.keep h hFG hs.size fun _ _ _ _ hb hl hx=>hx.keep hFG hs hb hl
theorem Bj.keep {w w':World} {F G:Aj} {v:Value} {l:List Inf} (h:Bj w F v l) (hFG:∀ b,F b→b < w.heap.size→G b) (hs:Same F w w'):Bj w' G v l :=
 BN.keep h hFG hs.size fun _ _ _ _ hb hl hx=>⟨by rw[hs.cell hb hl]; exact hx.c0,by rw[hs.cell hb hl]; exact hx.c1⟩
def AU (w:World) (F:Aj) (v:Value) (g:Gm):Prop :=
 ∃ vn vi,v = .agg #[.int .i64 g.aF,vn,vi]∧Bh w F vn g.nodes∧Bj w F vi g.infos
theorem AU.keep {w w':World} {F G:Aj} {v:Value} {g:Gm} (h:AU w F v g) (hFG:∀ b,F b→b < w.heap.size→G b) (hs:Same F w w'):AU w' G v g:=by
 obtain⟨vn,vi,rfl,hn,hi⟩:=h;exact⟨vn,vi,rfl,hn.keep hFG hs,hi.keep hFG hs⟩
def Row (w:World) (b:Nat) (t:TypeId) (vs:List Value):Prop:=w.heap[b]? = some (.cells vs.toArray t (0,0))
section
variable {w w':World} {b:Nat} {t:TypeId} {vs:List Value}
theorem Row.cell (h:Row w b t vs) {i:Nat} {v:Value} (hi:vs[i]? = some v):w.cell? ⟨b,i,none⟩=some v:=by
 unfold Row at h;simp[World.cell?,h,hi]
theorem Row.frozen (h:Row w b t vs) (i:Nat):w.frozen? ⟨b,i,none⟩=false:=by
 unfold Row at h;simp[World.frozen?,h]
theorem Row.lt (h:Row w b t vs):b < w.heap.size:=by
 obtain⟨hlt,_⟩:=Array.getElem?_eq_some_iff.1 h;exact hlt
theorem Row.of_block (h:Row w b t vs) (e:w'.heap[b]? = w.heap[b]?):Row w' b t vs:=e.trans h
theorem Row.set (h:Row w b t vs) (i:Nat) (v:Value):Row (w.setCell ⟨b,i,none⟩ v) b t (vs.set i v):=by
 unfold Row at *;simp[World.setCell,Array.getElem?_modify,h]
theorem Row.other (h:Row w b t vs) {a:Addr} (ha:b≠a.block) (v:Value):Row (w.setCell a v) b t vs:=h.of_block (Below.heap_setCell _ _ _ _ ha)
theorem Row.alloc (h:Row w b t vs) (o:Obj):Row (w.alloc o) b t vs:=h.of_block (Below.heap_alloc _ _ _ h.lt)
theorem Row.drew (h:Row w b t vs):Row w.drew b t vs:=h
theorem Row.below {B:Nat} (h:Row w b t vs) (hb:Below B w w') (hB:b < B):Row w' b t vs:=h.of_block (hb.block b hB)
theorem Row.new (w:World) (t:TypeId) (c:Array Value):Row (w.alloc (.cells c t)) w.heap.size t c.toList:=by
 unfold Row;show(w.heap.push _)[w.heap.size]? = _;simp
end
theorem Row.made (w:World) (z:Value) (n:Nat) (t:TypeId):Row (w.alloc (.cells (madeCells #[z] n) t)) w.heap.size t (List.replicate n z):=by
 have h:=Row.new w t (madeCells #[z] n);have e:(madeCells #[z] n).toList=List.replicate n z:=by
  apply List.ext_getElem?
  intro i;by_cases hi:i < n
  ·simp[madeCells,hi,Nat.mod_one]
  ·simp[madeCells,hi]
 rw[e] at h;exact h
def BO (w:World) (F:Aj) (v:Value) (n:Nd):Prop :=
 ∃ v3 v4 v5,v = .agg #[.int .i64 n.kind,.int .i64 n.aJ,.int .i64 n.info,v3,v4,v5]∧AQ w F v3 n.next∧AQ w F v4 n.weights∧AQ w F v5 n.pay
theorem BO.keep {w w':World} {F G:Aj} {v:Value} {n:Nd} (h:BO w F v n) (hFG:∀ b,F b→b < w.heap.size→G b) (hs:Same F w w'):BO w' G v n:=by
 obtain⟨v3,v4,v5,rfl,h3,h4,h5⟩:=h;exact⟨v3,v4,v5,rfl,h3.keep hFG hs,h4.keep hFG hs,h5.keep hFG hs⟩
theorem AQ.on {w w':World} {F:Aj} {v:Value} {l:List Int} (h:AQ w F v l) (hs:Same F w w'):AQ w' F v l:=h.keep (fun _ h _=>h) hs
theorem BI.on {w w':World} {F:Aj} {v:Value} {l:List (List Int)} (h:BI w F v l) (hs:Same F w w'):BI w' F v l:=h.keep (fun _ h _=>h) hs
theorem Bh.on {w w':World} {F:Aj} {v:Value} {l:List Nd} (h:Bh w F v l) (hs:Same F w w'):Bh w' F v l:=h.keep (fun _ h _=>h) hs
theorem Bj.on {w w':World} {F:Aj} {v:Value} {l:List Inf} (h:Bj w F v l) (hs:Same F w w'):Bj w' F v l:=h.keep (fun _ h _=>h) hs
theorem AU.on {w w':World} {F:Aj} {v:Value} {g:Gm} (h:AU w F v g) (hs:Same F w w'):AU w' F v g:=h.keep (fun _ h _=>h) hs
theorem BO.on {w w':World} {F:Aj} {v:Value} {n:Nd} (h:BO w F v n) (hs:Same F w w'):BO w' F v n:=h.keep (fun _ h _=>h) hs
theorem aH {B:Nat} {a w:World} (h:Below B a w) (n:Nat):Below B a (w.drewN n):=⟨h.os,h.tape,h.output,h.size,h.block⟩
theorem Row.dN {w:World} {b:Nat} {t:TypeId} {vs:List Value} (h:Row w b t vs) (n:Nat):Row (w.drewN n) b t vs:=h
theorem aP {B:Nat} {w w':World} (h:Below B w w'):∀ b o,b < B→w'.cell? ⟨b,o,none⟩=w.cell? ⟨b,o,none⟩:=fun b o hb=>h.cell (p:=⟨b,o,none⟩) hb
theorem Row.ints {w:World} {b:Nat} {t:TypeId} {l:List Int} (h:Row w b t (l.map (Value.int .i64))) {F:Aj} (hF:F b) {c:Nat} (hc:l.length≤c):AQ w F (.slice (some ⟨b,0,none⟩) l.length c) l :=
 ⟨_,c,rfl,hc,fun _=>⟨b,0,rfl,hF,h.lt,fun k x hk=>by unfold kX; simp only[Nat.mul_one,Nat.zero_add]; exact h.cell (by simp[hk])⟩⟩
theorem eG {P:Program} (w:World) {ops:Array Oper} {rest:List Oper} {o:Oper} {a:Act} {Q:Exit→Act→World→Prop}
  (hg:o.guard=none) (l c:Operand) (t:TypeId) (hop:o.op=Op.makeSlice t l c)
  (e:TypeId) (z:Value) (bytes:Nat) (ht:P.underlying t=some (.slice e)) (hinfo:(P.info? e).map (fun i=>(i.zero,i.size,i.bytes))=some (some z,1,bytes)) (hz1:z.cells = #[z])
  (n:Nat) (hl:a.eval l = .int .i64 (n:Int)) (hc:a.eval c = .int .i64 (n:Int)) (hn:n≤1000000) (hb:bytes≤1000)
  (hK:∀ w1,Below w.heap.size w w1→w1.heap.size=w.heap.size+1→Row w1 w.heap.size e (List.replicate n z) →
   wpList P ops Q rest (a.put o.dst (.slice (some ⟨w.heap.size,0,none⟩) n n)) w1) :
  wpList P ops Q (o :: rest) a w:=by
 refine wpList_plain hg fun K hK'=>?_
 have hbytes:bytes*n≤281474976710656:=by
  exact zdk
 have hrun:=run_make_row' (P:=P) t e z bytes ht hinfo hz1 .i64 .i64 n hbytes byOmega w;unfold Oper.wp;simp[execOp,hop,hl,hc,hrun,Result.andThen];have hbel:Below w.heap.size w (w.alloc (.cells (madeCells #[z] n) e)):=(Below.refl _ _).alloc (Nat.le_refl _) _;exact hK' _ _ (hK _ hbel aA (Row.made w z n e))
theorem Tryz.infoInt:(Tryz.prog.info? 3).map (fun i=>(i.zero,i.size,i.bytes))=some (some (.int .i64 0),1,8):=aj
theorem Tryz.infoInts:(Tryz.prog.info? 26).map (fun i=>(i.zero,i.size,i.bytes))=some (some (.slice none 0 0),1,24):=aj
def Ret (w:World) (R:Value→World→Prop) (e:Ending) (w':World):Prop:=∃ v,e = .returned v∧Below w.heap.size w w'∧R v w'
theorem kY {α:Type} {l:List α} {p:α→Bool} {k:Nat} {x:α} (h:l[k]? = some x) (hn:(l.take k).any p=false) (hx:p x=false):(l.take (k+1)).any p=false:=by
 rw[take_snoc h,List.any_append];simp[hn,hx]
def jX (l:List Int) (i:Int) (p:List Int):List Int:=l.foldl (fun p c=>p.set c.toNat i) p
def mQ (nodes:List Nd):Nat→List Int
 | 0=>(List.replicate nodes.length 0).set 0 (-1)
 | k+1=>match nodes[k]? with
  | some n=>jX n.next k (mQ nodes k)
  | none=>mQ nodes k
def dK (nodes:List Nd):List Int:=mQ nodes nodes.length
theorem acC {l:List Int} {i:Int} {p:List Int} {k:Nat} {c:Int} (h:l[k]? = some c):jX (l.take (k+1)) i p=(jX (l.take k) i p).set c.toNat i:=by
 rw[take_snoc h];simp[jX,List.foldl_append]
theorem sJ (l:List Int) (i:Int) (p:List Int):(jX l i p).length=p.length:=by
 unfold jX;induction l generalizing p with
 | nil=>rfl
 | cons c l ih=>simp only[List.foldl_cons]; rw[ih]; simp
theorem iY (nodes:List Nd) (k:Nat):(mQ nodes k).length=nodes.length:=by
 induction k with
 | zero=>simp[mQ]
 | succ k ih =>
  unfold mQ;split
  ·rw[sJ,ih]
  ·exact ih
theorem aax {nodes:List Nd} {k:Nat} {n:Nd} (h:nodes[k]? = some n):mQ nodes (k+1)=jX n.next k (mQ nodes k):=by
 simp[mQ,h]
def DY (nodes:List Nd):Prop:=∀ n∈nodes,∀ c∈n.next,0≤c∧c < (nodes.length:Int)
structure Small (g:Gm):Prop where
 nodes:g.nodes.length≤100
 infos:g.infos.length≤100
 next:∀ n∈g.nodes,n.next.length≤100
 weights:∀ n∈g.nodes,n.weights.length≤100
 pay:∀ n∈g.nodes,n.pay.length≤100
theorem oD {α:Type} {l1 l2:List α} {k:Nat} {x:α} (h1:l1[k]? = some x) (h2:l2[k]? = some x) (h:l1.take k=l2.take k):l1.take (k+1)=l2.take (k+1):=by
 rw[take_snoc h1,take_snoc h2,h]
theorem bQ (w:World) (a b:Obj) (n:Nat):Below w.heap.size w (((w.alloc a).alloc b).drewN n):=by
 have h:=(((Below.refl w.heap.size w).alloc (Nat.le_refl _) a).alloc aA b);exact⟨h.os,h.tape,h.output,h.size,h.block⟩
theorem neF {a b:Int} (h:a=b):(a != b)=false:=by simp[h]
theorem neT {a b:Int} (h:a≠b):(a != b)=true:=by simp[h]
theorem eqF {a b:Int} (h:a≠b):(a==b)=false:=by simp[h]
theorem eqT {a b:Int} (h:a=b):(a==b)=true:=by simp[h]
def outside (lo hi:Int) (l:List Int):Bool:=l.any fun x=>decide (x < lo)||decide (hi < x)
def dB (x:Nd):Int :=
 if x.aJ≠0∨x.info≠0∨0 < x.pay.length∨x.next.length < 1∨60 < x.next.length∨x.weights.length≠x.next.length then 3 else if outside 1 1000 x.weights then 2 else 0
def dY (aF:Int) (ni:Nat) (x:Nd):Int :=
 if 0 < x.pay.length∨0 < x.weights.length∨x.next.length < 1∨10 < x.next.length then 3 else if x.aJ < 0∨aF≤x.aJ∨x.info < 0∨(ni:Int)≤x.info then 2 else 0
def iH (aF:Int) (x:Nd):Int :=
 if x.aJ≠0∨x.info≠0∨0 < x.next.length∨0 < x.weights.length∨(x.pay.length:Int)≠aF then 3 else if outside (-1000000) 1000000 x.pay then 2 else 0
def aV (aF:Int) (ni:Nat) (x:Nd):Int :=
 if x.kind=1 then dB x else if x.kind=2 then dY aF ni x else if x.kind=3 then iH aF x else 3
theorem ahX (w:World) (F:Aj) (u ux:Value) (g:Gm) (x:Nd) (hg:AU w F u g) (hx:BO w F ux x) (hl:x.next.length < 1000000∧x.weights.length < 1000000∧x.pay.length < 1000000) (hni:g.infos.length < 1000000) :
  Calls Tryz.prog 95 #[u,ux] w (Ret w fun v _=>v = .int .i64 (aV g.aF g.infos.length x)):=by
 obtain⟨vn,vi,rfl,⟨A,c,rfl,hc,hN⟩,⟨Ai,ci,rfl,hci,hI⟩⟩:=hg;clear hN hI;obtain⟨v3,v4,v5,rfl,⟨A3,c3,rfl,hc3,h3⟩,⟨A4,c4,rfl,hc4,h4⟩,⟨A5,c5,rfl,hc5,h5⟩⟩:=hx;obtain⟨hl3,hl4,hl5⟩:=hl;have H4:=Ag h4;clear h4;have H5:=Ag h5;clear h5 h3;by_cases k1:x.kind=1
 ·have e1:(x.kind==1)=true:=by simp[k1]
  by_cases q0:x.aJ≠0
  ·refine YT ?_;intro HF;have d0:(x.aJ != 0)=true:=neT byOmega;clear k1;go_in;exact Zr
  have d0:(x.aJ != 0)=false:=neF byOmega;by_cases q1:x.info≠0
  ·refine YT ?_;intro HF;have d1:(x.info != 0)=true:=neT byOmega;clear k1;go_in;exact Zr
  have d1:(x.info != 0)=false:=neF byOmega;by_cases q2:0 < x.pay.length
  ·refine YT ?_;intro HF;clear k1;go_in;exact Zr
  have d2:decide ((0:Int) < (x.pay.length:Int))=false:=decide_eq_false byOmega;by_cases q3:x.next.length < 1
  ·refine YT ?_;intro HF;clear k1;go_in;exact Zr
  have d3:decide ((x.next.length:Int) < 1)=false:=decide_eq_false byOmega;by_cases q4:60 < x.next.length
  ·refine YT ?_;intro HF;clear k1;go_in;exact Zr
  have d4:decide ((60:Int) < (x.next.length:Int))=false:=decide_eq_false byOmega;by_cases q5:x.weights.length≠x.next.length
  ·refine YT ?_;intro HF;have d5:((x.weights.length:Int) != (x.next.length:Int))=true:=neT byOmega;clear k1;go_in;exact Zr
  have d5:((x.weights.length:Int) != (x.next.length:Int))=false:=neF byOmega;have HV:=Ag (show aV g.aF g.infos.length x=if outside 1 1000 x.weights then 2 else 0 by unfold aV dB; rw[if_pos k1,if_neg byOmega]);clear k1 q0 q1 q5;go_in;go_wp2
  go_loop [5] (fun i=>∃ k:Nat,k≤x.weights.length∧i = .int .i64 k∧outside 1 1000 (x.weights.take k)=false) (fun i=>x.weights.length - (intOf i).toNat)
  case atStart=>exact⟨0,byOmega,rfl,rfl⟩
  case round =>
   obtain⟨k,hk,rfl,hpre⟩:=hrel;have HP:=Ag hpre;clear hpre;by_cases hlt:k < x.weights.length
   ·obtain⟨b,o,rfl,_,hb,hx⟩:=H4.out byOmega;obtain⟨y,hy⟩:=aB hlt;have ey:=hx k y hy;unfold kX at ey; rw[Nat.mul_one] at ey;have BAD:=Ag (show(y < 1∨1000 < y)→aV g.aF g.infos.length x=2 by
     intro hb; rw[HV.out,if_pos (show outside _ _ _=true from List.any_eq_true.2 ⟨y,List.mem_of_getElem? hy,by simpa using hb⟩)])
    have HX:=Ag hy;clear hx hy;by_cases pl:y < 1
    ·have HF:=Ag (BAD.out (.inl pl));exact Zr
    have fl:decide (y < 1)=false:=decide_eq_false byOmega;by_cases pr:1000 < y
    ·have HF:=Ag (BAD.out (.inr pr));exact Zr
    have fr:decide ((1000:Int) < y)=false:=decide_eq_false byOmega;go_wp2
    go_round
    case rel=>exact⟨k+1,byOmega,by go_num,kY HX.out HP.out aC⟩
    case measure=>simp[intOf]; omega
   ·exact zcF
 have e1:(x.kind==1)=false:=by simp[k1]
 by_cases k2:x.kind=2
 ·have e2:(x.kind==2)=true:=by simp[k2]
  by_cases q0:0 < x.pay.length
  ·exact YK
  have d0:decide ((0:Int) < (x.pay.length:Int))=false:=decide_eq_false byOmega;by_cases q1:0 < x.weights.length
  ·exact YK
  have d1:decide ((0:Int) < (x.weights.length:Int))=false:=decide_eq_false byOmega;by_cases q2:x.next.length < 1
  ·exact YK
  have d2:decide ((x.next.length:Int) < 1)=false:=decide_eq_false byOmega;by_cases q3:10 < x.next.length
  ·exact YK
  have d3:decide ((10:Int) < (x.next.length:Int))=false:=decide_eq_false byOmega;by_cases r0:x.aJ < 0
  ·exact Yy
  have s0:decide (x.aJ < 0)=false:=decide_eq_false byOmega;by_cases r1:g.aF≤x.aJ
  ·exact Yy
  have s1:decide (g.aF≤x.aJ)=false:=decide_eq_false byOmega;by_cases r2:x.info < 0
  ·exact Yy
  have s2:decide (x.info < 0)=false:=decide_eq_false byOmega;by_cases r3:(g.infos.length:Int)≤x.info
  ·exact Yy
  have s3:decide ((g.infos.length:Int)≤x.info)=false:=decide_eq_false byOmega;have HF:=Ag (show aV g.aF g.infos.length x=0 by unfold aV dY; rw[if_neg k1,if_pos k2,if_neg byOmega,if_neg byOmega]);clear k1 k2;go_in;exact Zr
 have e2:(x.kind==2)=false:=by simp[k2]
 by_cases k3:x.kind=3
 ·have e3:(x.kind==3)=true:=by simp[k3]
  by_cases q0:x.aJ≠0
  ·refine YP ?_;intro HF;have d0:(x.aJ != 0)=true:=neT byOmega;exact zbX
  have d0:(x.aJ != 0)=false:=neF byOmega;by_cases q1:x.info≠0
  ·refine YP ?_;intro HF;have d1:(x.info != 0)=true:=neT byOmega;exact zbX
  have d1:(x.info != 0)=false:=neF byOmega;by_cases q2:0 < x.next.length
  ·refine YP ?_;intro HF;exact zbX
  have d2:decide ((0:Int) < (x.next.length:Int))=false:=decide_eq_false byOmega;by_cases q3:0 < x.weights.length
  ·refine YP ?_;intro HF;exact zbX
  have d3:decide ((0:Int) < (x.weights.length:Int))=false:=decide_eq_false byOmega;by_cases q4:(x.pay.length:Int)≠g.aF
  ·refine YP ?_;intro HF;have d4:((x.pay.length:Int) != g.aF)=true:=neT byOmega;exact zbX
  have d4:((x.pay.length:Int) != g.aF)=false:=neF byOmega;have HV:=Ag (show aV g.aF g.infos.length x=if outside (-1000000) 1000000 x.pay then 2 else 0 by unfold aV iH; rw[if_neg k1,if_neg k2,if_pos k3,if_neg byOmega]);clear k1 k2 k3 q0 q1 q4;go_in;go_wp2
  go_loop [6] (fun i=>∃ k:Nat,k≤x.pay.length∧i = .int .i64 k∧outside (-1000000) 1000000 (x.pay.take k)=false) (fun i=>x.pay.length - (intOf i).toNat)
  case atStart=>exact⟨0,byOmega,rfl,rfl⟩
  case round =>
   obtain⟨k,hk,rfl,hpre⟩:=hrel;have HP:=Ag hpre;clear hpre;by_cases hlt:k < x.pay.length
   ·obtain⟨b,o,rfl,_,hb,hx⟩:=H5.out byOmega;obtain⟨y,hy⟩:=aB hlt;have ey:=hx k y hy;unfold kX at ey; rw[Nat.mul_one] at ey;have BAD:=Ag (show(y < (-1000000)∨1000000 < y)→aV g.aF g.infos.length x=2 by
     intro hb; rw[HV.out,if_pos (show outside _ _ _=true from List.any_eq_true.2 ⟨y,List.mem_of_getElem? hy,by simpa using hb⟩)])
    have HX:=Ag hy;clear hx hy;by_cases pl:y < (-1000000)
    ·have HF:=Ag (BAD.out (.inl pl));exact Zr
    have fl:decide (y < (-1000000))=false:=decide_eq_false byOmega;by_cases pr:1000000 < y
    ·have HF:=Ag (BAD.out (.inr pr));exact Zr
    have fr:decide ((1000000:Int) < y)=false:=decide_eq_false byOmega;go_wp2
    go_round
    case rel=>exact⟨k+1,byOmega,by go_num,kY HX.out HP.out aC⟩
    case measure=>simp[intOf]; omega
   ·exact zcF
 have e3:(x.kind==3)=false:=by simp[k3]
 have HF:=Ag (show aV g.aF g.infos.length x=3 by unfold aV; rw[if_neg k1,if_neg k2,if_neg k3]);exact zbX
def dF (rec:Nat→Int→Int×Int):List Int→Int→Int→Int×Int
 | [],next,deep=>(next,deep)
 | c :: cs,next,deep=>if c≠next then (-1,deep) else if (rec next.toNat deep).1 < 0 then (-1,(rec next.toNat deep).2) else dF rec cs (rec next.toNat deep).1 (rec next.toNat deep).2
def bZ (nodes:List Nd):Nat→Nat→Int→Int→Int×Int
 | 0,_,_,deep=>(-1,deep)
 | f+1,a,depth,deep=>match nodes[a]? with
  | none=>(-1,deep)
  | some n=>dF (fun a d=>bZ nodes f a (depth+1) d) n.next ((a:Int)+1) (max deep depth)
theorem sK {rec:Nat→Int→Int×Int} {N lo:Nat} (hrec:∀ a d,lo≤a→(rec a d).1 = -1∨((a:Int) < (rec a d).1∧(rec a d).1≤N)):∀ (cs:List Int) (next deep:Int),(lo:Int)≤next→next≤N →
  (dF rec cs next deep).1 = -1∨((lo:Int)≤(dF rec cs next deep).1∧(dF rec cs next deep).1≤N)
 | [],next,deep,h1,h2=>.inr ⟨h1,h2⟩
 | c :: cs,next,deep,h1,h2=>by
  unfold dF;split
  ·exact .inl rfl
  ·split
   ·exact .inl rfl
   ·rcases hrec next.toNat deep byOmega with h | h
    ·omega
    ·exact sK hrec cs _ _ byOmega byOmega
theorem pJ (nodes:List Nd):∀ (f a:Nat) (depth deep:Int),(bZ nodes f a depth deep).1 = -1∨((a:Int) < (bZ nodes f a depth deep).1∧(bZ nodes f a depth deep).1≤nodes.length)
 | 0,_,_,_=>.inl rfl
 | f+1,a,depth,deep=>by
  unfold bZ;split
  ·exact .inl rfl
  ·rename_i n hn
   have:=aK hn;rcases sK (rec:=fun a d=>bZ nodes f a (depth+1) d) (N:=nodes.length) (lo:=a+1) (fun a' d _=>pJ nodes f a' (depth+1) d) n.next ((a:Int)+1) (max deep depth) byOmega byOmega with h | h
   ·exact .inl h
   ·exact .inr byOmega
theorem uV {rec:Nat→Int→Int×Int} {D:Int} (hrec:∀ a d,-1≤d→d≤D→-1≤(rec a d).2∧(rec a d).2≤D):∀ (cs:List Int) (next deep:Int),-1≤deep→deep≤D→-1≤(dF rec cs next deep).2∧(dF rec cs next deep).2≤D
 | [],next,deep,h1,h2=>⟨h1,h2⟩
 | c :: cs,next,deep,h1,h2=>by
  unfold dF;have:=hrec next.toNat deep h1 h2
  split
  ·exact⟨h1,h2⟩
  ·split
   ·exact this
   ·exact uV hrec cs _ _ this.1 this.2
theorem rD (nodes:List Nd) (D:Int):∀ (f a:Nat) (depth deep:Int),depth+f≤D→-1≤deep→deep≤D→-1≤(bZ nodes f a depth deep).2∧(bZ nodes f a depth deep).2≤D
 | 0,_,_,_,_,h1,h2=>⟨h1,h2⟩
 | f+1,a,depth,deep,h,h1,h2=>by
  unfold bZ;split
  ·exact⟨h1,h2⟩
  ·exact uV (fun a' d g1 g2=>rD nodes D f a' (depth+1) d byOmega g1 g2) _ _ _ byOmega byOmega
theorem Same.adA {w w':World} {b:Nat} (h:w.grownBy w' (some b)):Same (fun k=>k≠b) w w':=⟨h.size,fun k hk hl=>h.block k hl (by simpa using hk)⟩
theorem pK {a w:World} {row:Option Nat} (h:a.grownBy w row) (o:Obj):a.grownBy (w.alloc o) row :=
 ⟨h.os,h.tape,h.output,Nat.le_trans h.size aA,fun i hi hne=>(Below.heap_alloc w o i (Nat.lt_of_lt_of_le hi h.size)).trans (h.block i hi hne)⟩
theorem grown_setCell {a w:World} {g:Nat} (h:a.grownBy w (some g)) {p:Addr} (hp:p.block=g∨a.heap.size≤p.block) (u:Value):a.grownBy (w.setCell p u) (some g) :=
 ⟨h.os,h.tape,h.output,by simpa using h.size,fun i hi hne=>(Below.heap_setCell w p u i (by
  rintro rfl;rcases hp with hp | hp
  ·exact hne (by rw[hp])
  ·omega)).trans (h.block i hi hne)⟩
theorem rE (w:World) (row:Option Nat):w.grownBy w row:=⟨rfl,rfl,rfl,Nat.le_refl _,fun _ _ _=>rfl⟩
theorem zk {a b c:World} {row:Option Nat} (h:a.grownBy b row) (k:b.grownBy c row):a.grownBy c row :=
 ⟨k.os.trans h.os,k.tape.trans h.tape,k.output.trans h.output,Nat.le_trans h.size k.size,fun i hi hne=>(k.block i (Nat.lt_of_lt_of_le hi h.size) hne).trans (h.block i hi hne)⟩
theorem aay {w w':World} {d:Nat} (h:w.grownBy w' (some d)):∀ b o,b < w.heap.size→b≠d→w'.cell? ⟨b,o,none⟩=w.cell? ⟨b,o,none⟩:=fun b o hb hd=>World.cell?_of_block (h.block b hb (by simpa using hd))
theorem agD (g:Gm) (hsm:Small g):∀ (f a:Nat) (depth deep:Int) (w:World) (bd:Nat) (u:Value),AU w (fun b=>b≠bd) u g→Row w bd 3 [.int .i64 deep]→g.nodes.length < a+f→0≤depth→depth+f≤100000→-1≤deep→deep≤100000 →
  Calls Tryz.prog 96 #[u,.int .i64 a,.int .i64 depth,.pointer (some ⟨bd,0,none⟩)] w fun e w'=>e = .returned (.int .i64 (bZ g.nodes f a depth deep).1)∧Row w' bd 3 [.int .i64 (bZ g.nodes f a depth deep).2]∧w.grownBy w' (some bd):=by
 intro f;induction f with
 | zero =>
  intro a depth deep w bd u hg hrow hf hd0 hd1 hp0 hp1;obtain⟨vn,vi,rfl,⟨A,c,rfl,hc,hN⟩,⟨Ai,ci,rfl,hci,hI⟩⟩:=hg;clear hN hI;have hge:(g.nodes.length:Int)≤(a:Int):=byOmega;have hn:=hsm.nodes;have AX:=Ag hrow;clear hrow;go_in;go_wp2
  go_ret;exact⟨rfl,AX.out.alloc _,pK (rE _ _) _⟩
 | succ f ih =>
  intro a depth deep w bd u hg hrow hf hd0 hd1 hp0 hp1;have HG:=Ag hg;obtain⟨vn,vi,rfl,⟨A,c,rfl,hc,hN⟩,⟨Ai,ci,rfl,hci,hI⟩⟩:=hg;have HN:=Ag hN;clear hN hI;have IH:=Ag ih;clear ih;have HSM:=Ag hsm;have hn:=hsm.nodes;clear hsm;have hbd:=hrow.lt;have xd:=hrow.cell (i:=0) rfl;have fd:=hrow.frozen 0;have AX:=Ag hrow;clear hrow;by_cases hlt:a < g.nodes.length
  ·obtain⟨b,o,rfl,hbF,hb,hcell⟩:=HN.out byOmega;obtain⟨n,hn'⟩:=aB hlt;obtain⟨v3,e3,A3,c3,rfl,hc3,i3⟩:=(hcell a n hn').c3;have HX:=Ag hn';have hl3:=HSM.out.next n (List.mem_of_getElem? hn');have H3:=Ag i3; clear i3 hcell hn';have HW:=Ag (show bZ g.nodes (f+1) a depth deep=dF (fun a d=>bZ g.nodes f a (depth+1) d) n.next ((a:Int)+1) (max deep depth) by
    rw[bZ]; simp only[HX.out])
   have hrl:∀ d,(max deep depth:Int)=d→∀ (w':World),Row w' bd 3 [.int .i64 deep]→Row (w'.setCell ⟨bd,0,none⟩ (.int .i64 d)) bd 3 [.int .i64 d]:=fun d _ w' h=>by simpa using h.set 0 (.int .i64 d)
   have HRL:=Ag hrl;clear hrl;by_cases hmx:deep < depth
   ·have HMX:=Ag (show(max deep depth:Int)=depth by omega);have hm0:-1≤depth∧depth≤100000:=byOmega;go_in;go_wp2
    go_loopw [9,10] (fun nx i wr=>∃ (j:Nat) (next dp:Int),j≤n.next.length∧i = .int .i64 j∧nx = .int .i64 next∧(a:Int) < next∧next≤g.nodes.length∧-1≤dp∧dp≤100000∧Row wr w.heap.size 25 [.int .i64 g.aF,.slice (some ⟨b,o,none⟩) g.nodes.length c,.slice Ai g.infos.length ci]∧Row wr bd 3 [.int .i64 dp]∧w.grownBy wr (some bd)∧bZ g.nodes (f+1) a depth deep=dF (fun a d=>bZ g.nodes f a (depth+1) d) (n.next.drop j) next dp) (fun _ i _=>n.next.length - (intOf i).toNat)
    case atStart =>
     refine⟨0,(a:Int)+1,depth,byOmega,rfl,rfl,byOmega,byOmega,hm0.1,hm0.2,?_,?_,?_,?_⟩
     ·have:=Row.new (w.setCell ⟨bd,0,none⟩ (.int .i64 depth)) 25 #[.int .i64 g.aF,.slice (some ⟨b,o,none⟩) g.nodes.length c,.slice Ai g.infos.length ci];simpa using this
     ·exact(HRL.out depth HMX.out w AX.out).alloc _
     ·exact pK (grown_setCell (rE _ _) (.inl rfl) _) _
     ·rw[HW.out,HMX.out];rfl
    case round =>
     obtain⟨j,next,dp,hj,rfl,rfl,ake,hnx1,ahY,ahZ,hbx,hrw,hgr,hval⟩:=hrel;have HV:=Ag hval;clear hval;have x1:=hbx.cell (i:=1) rfl;have x0:=hbx.cell (i:=0) rfl;have x2:=hbx.cell (i:=2) rfl;have hold:=aay hgr;by_cases hjt:j < n.next.length
     ·obtain⟨ch,hch⟩:=aB hjt;obtain⟨b3,o3,rfl,hb3,ah0,hx3⟩:=H3.out byOmega;have ec:=hx3 j ch hch;unfold kX at ec;rw[Nat.mul_one] at ec;refine Y8 ?_;intro HD;clear hch hx3;by_cases hne:ch=next
      ·subst hne;obtain⟨q,rfl⟩:=Int.eq_ofNat_of_zero_le (show 0≤ch by omega);have hbd2:=pJ g.nodes f q (depth+1) dp;have HV2:=Ag (show dF (fun a d=>bZ g.nodes f a (depth+1) d) (n.next.drop j) (q:Int) dp=if (bZ g.nodes f q (depth+1) dp).1 < 0 then (-1,(bZ g.nodes f q (depth+1) dp).2) else dF (fun a d=>bZ g.nodes f a (depth+1) d) (n.next.drop (j+1)) (bZ g.nodes f q (depth+1) dp).1 (bZ g.nodes f q (depth+1) dp).2 by
        rw[HD.out]; simp[dF])
       have HBD:=Ag hbd2;clear hbd2;go_wp2_with fail
       refine zdI ?_;rintro e w' ⟨rfl,aeZ,fZ⟩;have hdd:=rD g.nodes 100000 f q (depth+1) dp byOmega ahY ahZ;have adB:Row w' w.heap.size _ _:=hbx.of_block (fZ.block _ hbx.lt aC);have hgg:=zk hgr fZ;have hbb:=HBD.out;have HV3:=Ag (HV.out.trans HV2.out);generalize bZ g.nodes f q (depth+1) dp=rr at *;obtain⟨rn,rd⟩:=rr;dsimp only at aeZ hdd hbb HV3 ⊢;clear HV2 HBD hold x0 x1 x2 hbx hrw hgr fZ;by_cases hng:rn < 0
       ·exact zbI
       ·go_wp2
        go_roundw
        case rel=>exact⟨j+1,rn,rd,byOmega,by go_num,rfl,byOmega,byOmega,hdd.1,hdd.2,adB,aeZ,hgg,by rw[HV3.out,if_neg hng]⟩
        case measure=>simp[intOf]; omega
      ·exact zaI
     ·exact zbv
   ·have HMX:=Ag (show(max deep depth:Int)=deep by omega);have hm0:-1≤deep∧deep≤100000:=byOmega;go_in;go_wp2
    go_loopw [9,10] (fun nx i wr=>∃ (j:Nat) (next dp:Int),j≤n.next.length∧i = .int .i64 j∧nx = .int .i64 next∧(a:Int) < next∧next≤g.nodes.length∧-1≤dp∧dp≤100000∧Row wr w.heap.size 25 [.int .i64 g.aF,.slice (some ⟨b,o,none⟩) g.nodes.length c,.slice Ai g.infos.length ci]∧Row wr bd 3 [.int .i64 dp]∧w.grownBy wr (some bd)∧bZ g.nodes (f+1) a depth deep=dF (fun a d=>bZ g.nodes f a (depth+1) d) (n.next.drop j) next dp) (fun _ i _=>n.next.length - (intOf i).toNat)
    case atStart =>
     refine⟨0,(a:Int)+1,deep,byOmega,rfl,rfl,byOmega,byOmega,hm0.1,hm0.2,?_,?_,?_,?_⟩
     ·have:=Row.new (w.setCell ⟨bd,0,none⟩ (.int .i64 deep)) 25 #[.int .i64 g.aF,.slice (some ⟨b,o,none⟩) g.nodes.length c,.slice Ai g.infos.length ci];simpa using this
     ·exact(HRL.out deep HMX.out w AX.out).alloc _
     ·exact pK (grown_setCell (rE _ _) (.inl rfl) _) _
     ·rw[HW.out,HMX.out];rfl
    case round =>
     obtain⟨j,next,dp,hj,rfl,rfl,ake,hnx1,ahY,ahZ,hbx,hrw,hgr,hval⟩:=hrel;have HV:=Ag hval;clear hval;have x1:=hbx.cell (i:=1) rfl;have x0:=hbx.cell (i:=0) rfl;have x2:=hbx.cell (i:=2) rfl;have hold:=aay hgr;by_cases hjt:j < n.next.length
     ·obtain⟨ch,hch⟩:=aB hjt;obtain⟨b3,o3,rfl,hb3,ah0,hx3⟩:=H3.out byOmega;have ec:=hx3 j ch hch;unfold kX at ec;rw[Nat.mul_one] at ec;refine Y8 ?_;intro HD;clear hch hx3;by_cases hne:ch=next
      ·subst hne;obtain⟨q,rfl⟩:=Int.eq_ofNat_of_zero_le (show 0≤ch by omega);have hbd2:=pJ g.nodes f q (depth+1) dp;have HV2:=Ag (show dF (fun a d=>bZ g.nodes f a (depth+1) d) (n.next.drop j) (q:Int) dp=if (bZ g.nodes f q (depth+1) dp).1 < 0 then (-1,(bZ g.nodes f q (depth+1) dp).2) else dF (fun a d=>bZ g.nodes f a (depth+1) d) (n.next.drop (j+1)) (bZ g.nodes f q (depth+1) dp).1 (bZ g.nodes f q (depth+1) dp).2 by
        rw[HD.out]; simp[dF])
       have HBD:=Ag hbd2;clear hbd2;go_wp2_with fail
       refine zdI ?_;rintro e w' ⟨rfl,aeZ,fZ⟩;have hdd:=rD g.nodes 100000 f q (depth+1) dp byOmega ahY ahZ;have adB:Row w' w.heap.size _ _:=hbx.of_block (fZ.block _ hbx.lt aC);have hgg:=zk hgr fZ;have hbb:=HBD.out;have HV3:=Ag (HV.out.trans HV2.out);generalize bZ g.nodes f q (depth+1) dp=rr at *;obtain⟨rn,rd⟩:=rr;dsimp only at aeZ hdd hbb HV3 ⊢;clear HV2 HBD hold x0 x1 x2 hbx hrw hgr fZ;by_cases hng:rn < 0
       ·exact zbI
       ·go_wp2
        go_roundw
        case rel=>exact⟨j+1,rn,rd,byOmega,by go_num,rfl,byOmega,byOmega,hdd.1,hdd.2,adB,aeZ,hgg,by rw[HV3.out,if_neg hng]⟩
        case measure=>simp[intOf]; omega
      ·exact zaI
     ·exact zbv
  ·have hge:(g.nodes.length:Int)≤(a:Int):=byOmega;have HF:=Ag (show bZ g.nodes (f+1) a depth deep=(-1,deep) by
    rw[bZ]; rw[List.getElem?_eq_none byOmega])
   go_in;go_wp2
   go_ret;exact⟨by rw[HF.out]; rfl,by rw[HF.out]; exact AX.out.alloc _,pK (rE _ _) _⟩
theorem uX (w:World) (F:Aj) (v:Value) (g:Gm) (hg:AU w F v g) (hsm:Small g) (h0:0 < g.nodes.length) (hk:DY g.nodes) :
  Calls Tryz.prog 46 #[v] w (Ret w fun v w'=>AQ w' (fun b=>w.heap.size≤b) v (dK g.nodes)):=by
 obtain⟨vn,vi,rfl,⟨A,c,rfl,hc,hN⟩,hI⟩:=hg;obtain⟨b,o,rfl,hbF,hbB,hN⟩:=hN h0;have HN:=Ag hN;clear hN;have HK:=Ag hk;clear hk;have hn:=hsm.nodes;have HS:=Ag hsm;clear hsm;go_in;go_wp2_with (at_make; refine eG _ rfl _ _ 26 rfl 3 (.int .i64 0) 8 Tryz.underlying26 Tryz.infoInt rfl g.nodes.length rfl rfl byOmega byOmega ?_; intro w1 aaz hsz1 hrow1; have r0:=hrow1.cell (i:=0) (v:=.int .i64 0) (by simp[h0]); have f0:=hrow1.frozen 0; simp at r0 f0)
 go_loopw [4] (fun i wr=>∃ k:Nat,k≤g.nodes.length∧i = .int .i64 k∧wr.cell? ⟨w.heap.size,1,none⟩=some (.slice (some ⟨b,o,none⟩) g.nodes.length c)∧Row wr (w.heap.size+1) 3 ((mQ g.nodes k).map (Value.int .i64))∧Below w.heap.size w wr) (fun i _=>g.nodes.length - (intOf i).toNat)
 case atStart =>
  refine⟨0,byOmega,rfl,?_,?_,?_⟩
  ·rw[World.cell?_setCell_other _ _ _ _ aA,aP aaz _ _ aA];simp
  ·have:=hrow1.set 0 (.int .i64 (-1));simp only[World.size_alloc] at this;simpa [mQ,List.map_set] using this
  ·exact(((Below.refl _ _).alloc (Nat.le_refl _) _).trans (aaz.mono aA)).setCell aA _
 case round =>
  obtain⟨k,hk,rfl,hbox,hrow,hbel⟩:=hrel;by_cases hlt:k < g.nodes.length
  ·obtain⟨n,hn'⟩:=aB hlt;have af5:=HN.out k n hn';obtain⟨v3,e3,A3,c3,rfl,hc3,hN3⟩:=af5.c3;have hl3:=HS.out.next n (List.mem_of_getElem? hn');have HN3:=Ag hN3;clear hN3 af5;have HN':=Ag hn';clear hn';have hold:=aP hbel;go_wp2
   go_loopw [5] (fun i wi=>∃ j:Nat,j≤n.next.length∧i = .int .i64 j∧wi.cell? ⟨w.heap.size,1,none⟩=some (.slice (some ⟨b,o,none⟩) g.nodes.length c)∧Row wi (w.heap.size+1) 3 ((jX (n.next.take j) k (mQ g.nodes k)).map (Value.int .i64))∧Below w.heap.size w wi) (fun i _=>n.next.length - (intOf i).toNat)
   case atStart=>exact⟨0,byOmega,rfl,hbox,by simpa [jX] using hrow,hbel⟩
   case round =>
    clear hbox hrow hold;obtain⟨j,hj,rfl,hbox,hrow,kZ⟩:=hrel;have hold:=aP kZ;by_cases hjt:j < n.next.length
    ·obtain⟨ch,hch⟩:=aB hjt;obtain⟨b3,o3,rfl,hb3,hb3B,hx3⟩:=HN3.out byOmega;have ec:=hx3 j ch hch;unfold kX at ec;rw[Nat.mul_one] at ec;obtain⟨hch0,hch1⟩:=HK.out n (List.mem_of_getElem? HN'.out) ch (List.mem_of_getElem? hch);have HCH:=Ag hch;clear hch hx3;obtain⟨x,hx⟩:=aB (l:=jX (n.next.take j) k (mQ g.nodes k)) (k:=ch.toNat) (by rw[sJ,iY]; omega);have rc:=hrow.cell (i:=ch.toNat) (v:=.int .i64 x) (by simp[hx]);have fc:=hrow.frozen ch.toNat;clear hx;go_wp2
     go_roundw
     case rel =>
      refine⟨j+1,byOmega,by go_num,?_,?_,kZ.setCell aA _⟩
      ·rw[World.cell?_setCell_other _ _ _ _ aA];exact hbox
      ·have:=hrow.set ch.toNat (.int .i64 k);rw[acC HCH.out];simpa [List.map_set] using this
     case measure=>simp[intOf]; omega
    ·go_wp2
     go_roundw
     case rel =>
      have:j=n.next.length:=byOmega;subst this;refine⟨k+1,byOmega,by go_num,hbox,?_,kZ⟩;rw[aax HN'.out];simpa using hrow
     case measure=>simp[intOf]; omega
  ·go_wp2
   go_ret;have:k=g.nodes.length:=byOmega;subst this;refine zaX ?_;have hl:(dK g.nodes).length=g.nodes.length:=iY _ _;have:=hrow.ints (F:=fun b=>w.heap.size≤b) byOmega (c:=g.nodes.length) (by rw[iY]; omega);rw[iY] at this;exact this
def CZ (w:World) (fid:FuncId) (caps:Array Value) (l:List Int) (p:Int→Bool):Prop :=
 (∀ (args:Array Value) (w':World),(callFunc fid args).run Tryz.prog w' = .ok (.enter fid args) w') ∧
 ∀ (n:Nat) (x:Int),x∈l→Calls Tryz.prog fid (#[.int .i64 x]++caps) (w.drewN n) fun e w'=>e = .returned (.bool (p x))∧∃ m,w'=w.drewN m
def idxOf (p:Int→Bool) (l:List Int):Int:=match l.findIdx? p with | some i=>(i:Int) | none=>-1
theorem idxOf_hit {p:Int→Bool} {l:List Int} {k:Nat} {x:Int} (h:l[k]? = some x) (hp:p x=true) (hn:(l.take k).any p=false):idxOf p l=k:=by
 have hk:=aK h;have:l.findIdx? p=some k:=by
  rw[List.findIdx?_eq_some_iff_getElem];refine⟨hk,?_,fun j hj=>?_⟩
  ·have:l[k]=x:=by simpa [hk] using h
   rw[this];exact hp
  ·have h1:=List.any_eq_false.1 hn l[j] (by rw[List.mem_take_iff_getElem]; exact⟨j,byOmega,rfl⟩);simpa using h1
 simp[idxOf,this]
theorem aaA {p:Int→Bool} {l:List Int} (hn:l.any p=false):idxOf p l = -1:=by
 have:l.findIdx? p=none:=by
  rw[List.findIdx?_eq_none_iff];intro x hx;have:=List.any_eq_false.1 hn x hx;simpa using this
 simp[idxOf,this]
theorem agE (p:Int→Bool) (l:List Int):decide (0≤idxOf p l)=l.any p:=by
 cases h:l.any p with
 | false=>rw[aaA h]; rfl
 | true =>
  obtain⟨x,hx,hp⟩:=List.any_eq_true.1 h;unfold idxOf;split
  ·rw[decide_eq_true_iff];omega
  ·rename_i h1
   rw[List.findIdx?_eq_none_iff] at h1;have:=h1 x hx;rw[hp] at this;cases this
theorem abw (w:World) (F:Aj) (v:Value) (l:List Int) (fid:FuncId) (caps:Array Value) (p:Int→Bool) (hv:AQ w F v l) (hl:l.length≤1000000) (ha:CZ w fid caps l p) :
  Calls Tryz.prog 182 #[v,.func (.func fid) #[] caps] w fun e w'=>e = .returned (.int .i64 (idxOf p l))∧∃ n,w'=w.drewN n:=by
 obtain⟨A,c,rfl,hc,hr⟩:=hv;have HR:=Ag hr;clear hr;obtain⟨hcf,hcl⟩:=ha;have HCL:=Ag hcl;clear hcl;go_in;go_wp2
 go_loopw [8] (fun i wr=>∃ k n:Nat,k≤l.length∧i = .int .i64 k∧(l.take k).any p=false∧wr=w.drewN n) (fun i _=>l.length - (intOf i).toNat)
 case atStart=>exact⟨0,0,byOmega,rfl,rfl,rfl⟩
 case round =>
  obtain⟨k,n,hk,rfl,hpre,rfl⟩:=hrel;have HP:=Ag hpre;clear hpre;by_cases hlt:k < l.length
  ·obtain⟨b,o,rfl,_,hb,hx⟩:=HR.out byOmega;obtain⟨x,hxx⟩:=aB hlt;have ex:=hx k x hxx;unfold kX at ex;rw[Nat.mul_one] at ex;have HX:=Ag hxx;clear hxx hx;go_wp2_with fail
   refine(HCL.out n x (List.mem_of_getElem? HX.out)).mono ?_;rintro e w' ⟨rfl,m,rfl⟩;dsimp only;cases hpx:p x
   ·have HPX:=Ag hpx;clear hpx;go_wp2
    go_roundw
    case rel=>exact⟨k+1,m,byOmega,by go_num,kY HX.out HP.out HPX.out,rfl⟩
    case measure=>simp[intOf]; omega
   ·have HF:=Ag (idxOf_hit HX.out hpx HP.out);clear hpx;go_wp2
    go_ret;exact⟨by rw[HF.out]; rfl,m,rfl⟩
  ·go_wp2
   go_ret;have h:=HP.out;rw[List.take_of_length_le byOmega] at h;exact⟨by rw[aaA h]; rfl,n,rfl⟩
theorem yJ (w:World) (F:Aj) (v:Value) (l:List Int) (fid:FuncId) (caps:Array Value) (p:Int→Bool) (hv:AQ w F v l) (hl:l.length≤1000000) (ha:CZ w fid caps l p) :
  Calls Tryz.prog 139 #[v,.func (.func fid) #[] caps] w fun e w'=>e = .returned (.bool (l.any p))∧∃ n,w'=w.drewN n:=by
 have HV:=Ag hv;clear hv;have HA:=Ag ha;clear ha;go_in;go_wp2_with fail
 refine(abw w F v l fid caps p HV.out hl HA.out).mono ?_;rintro e w' ⟨rfl,n,rfl⟩;dsimp only;have HF:=Ag (agE p l);generalize idxOf p l=q at *;go_wp2
 all_goals
  go_ret;refine⟨?_,n,rfl⟩;rw[← HF.out];first | rfl | (simp; omega)
def qF (n:Nd):Bool:=decide (100 < n.next.length)||decide (100 < n.weights.length)||decide (100 < n.pay.length)
def lX (g:Gm) (nodes sets:Int):Bool:=decide (nodes < g.nodes.length)||decide (sets < g.infos.length)||g.nodes.any qF
theorem agF (w:World) (F:Aj) (u:Value) (g:Gm) (h:AU w F u g) (nodes sets:Int) (hn0:nodes≤1000) :
  Calls Tryz.prog 13 #[u,.int .i64 nodes,.int .i64 sets] w (Ret w fun v _=>v = .bool (lX g nodes sets)):=by
 obtain⟨vn,vi,rfl,⟨A,c,rfl,hc,hN⟩,⟨Ai,ci,rfl,hci,hI⟩⟩:=h;have HN:=Ag hN;clear hN hI;by_cases q0:nodes < g.nodes.length
 ·have HF:=Ag (show lX g nodes sets=true by simp[lX,q0]);exact Zu
 have d0:decide (nodes < (g.nodes.length:Int))=false:=aC;by_cases q1:sets < g.infos.length
 ·have HF:=Ag (show lX g nodes sets=true by simp[lX,q1]);exact Zu
 have d1:decide (sets < (g.infos.length:Int))=false:=aC;go_in;go_wp2
 go_loopw [7] (fun i wr=>∃ k:Nat,k≤g.nodes.length∧i = .int .i64 k∧(g.nodes.take k).any qF=false∧Row wr w.heap.size 25 [.int .i64 g.aF,.slice A g.nodes.length c,.slice Ai g.infos.length ci]∧Below w.heap.size w wr) (fun i _=>g.nodes.length - (intOf i).toNat)
 case atStart=>exact⟨0,byOmega,rfl,aA,Row.new w _ _,(Below.refl _ _).alloc (Nat.le_refl _) _⟩
 case round =>
  obtain⟨k,hk,rfl,hpre,hr,hbel⟩:=hrel;have HP:=Ag hpre;clear hpre;have x1:=hr.cell (i:=1) rfl;by_cases hlt:k < g.nodes.length
  ·obtain⟨b,o,rfl,_,hb,hcell⟩:=HN.out byOmega;obtain⟨n,hn⟩:=aB hlt;obtain⟨e0,e1,e2,⟨v3,e3,A3,c3,rfl,hc3,i3⟩,⟨v4,e4,A4,c4,rfl,hc4,i4⟩,⟨v5,e5,A5,c5,rfl,hc5,i5⟩⟩:=hcell k n hn;clear i3 i4 i5 hcell;have HX:=Ag hn; clear hn;have hold:=aP hbel;have LT:=Ag (show qF n=true→lX g nodes sets=true by
    intro h;unfold lX;have:g.nodes.any qF=true:=List.any_eq_true.2 ⟨n,List.mem_of_getElem? HX.out,h⟩;rw[this]; simp)
   by_cases q3:100 < n.next.length
   ·have HF:=Ag (LT.out (by unfold qF; simp[q3]));go_wp2
    go_ret;exact⟨_,rfl,by repeat (first | exact hbel | refine Below.alloc ?_ hbel.size _ | refine Below.setCell ?_ hbel.size _),by rw[HF.out]; rfl⟩
   have d3:decide ((100:Int) < (n.next.length:Int))=false:=aC;by_cases q4:100 < n.weights.length
   ·have HF:=Ag (LT.out (by unfold qF; simp[q4]));go_wp2
    go_ret;exact⟨_,rfl,by repeat (first | exact hbel | refine Below.alloc ?_ hbel.size _ | refine Below.setCell ?_ hbel.size _),by rw[HF.out]; rfl⟩
   have d4:decide ((100:Int) < (n.weights.length:Int))=false:=aC;by_cases q5:100 < n.pay.length
   ·have HF:=Ag (LT.out (by unfold qF; simp[q5]));go_wp2
    go_ret;exact⟨_,rfl,by repeat (first | exact hbel | refine Below.alloc ?_ hbel.size _ | refine Below.setCell ?_ hbel.size _),by rw[HF.out]; rfl⟩
   have d5:decide ((100:Int) < (n.pay.length:Int))=false:=aC;have LF:=Ag (show qF n=false by unfold qF; simp; omega);go_wp2
   go_roundw
   case rel=>exact⟨k+1,byOmega,by go_num,kY HX.out HP.out LF.out,by repeat (first | exact hr | refine Row.alloc ?_ _ | refine Row.other ?_ (by have:=hr.lt; simp; omega) _),by repeat (first | exact hbel | refine Below.alloc ?_ hbel.size _ | refine Below.setCell ?_ hbel.size _)⟩
   case measure=>simp[intOf]; omega
  ·go_wp2
   go_ret;refine zaX ?_;have h3:=HP.out;rw[List.take_of_length_le byOmega] at h3;have:lX g nodes sets=false:=by unfold lX;rw[h3,d0,d1];rfl
   rw[this];rfl
end Go.Proofs.YthmklhapjegfdaaGreatDoor
