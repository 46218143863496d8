/- Part of a claim. -/
import Derived.Test.YtnmeejofpkhlkaaGreatDoorE17
import Derived.Test.YtnmeejofpkhlkaaGreatDoorE14
set_option linter.all false
set_option maxRecDepth 100000
set_option maxHeartbeats 12800000
namespace Go.Proofs.YtnmeejofpkhlkaaGreatDoor
open Ah renaming make->JL
open _root_.Array renaming getD_eq_getD_getElem?->Gw
open Go.RowKit.Below renaming refl->F9
open Below renaming same'->FZ
open Bool renaming and_eq_true->GN
open Go.IntKind renaming i64->F5
open Go renaming Value->F7,World->FW
open Go.Value renaming bool->Gj,int->F6,slice->FQ
open Int renaming natAbs_mul->JF
open List renaming all_eq_true->Jc,erase_cons_head->LV,getElem?_append_right->Gx,getElem?_map->Gi,getElem?_replicate->JI,length_append->Gn,length_map->FX,map_append->GL,map_congr_left->Jo,map_cons->Hr,mem_cons_of_mem->GI,mem_of_getElem?->FT,mem_of_mem_erase->IC,range->Ir,replicate->F8
open Nat renaming eq_zero_or_pos->Gt,gcd->Gv,gcd_le_right->KD,gcd_pos_of_pos_right->Jq,le_refl->FV,le_trans->Gf,mul_assoc->IE,mul_le_mul_right->H8,mul_one->Gp,ne_of_gt->Lu,pow_succ->IJ,sub_self->Ih
open Go.Region renaming noSelect->Jm,ready->G7
open Same renaming refl->Gh
open Go.Proofs.Tryz renaming prog->FY,results108->JZ,results86->KU
open Lib renaming hid → Ac
open Go.RowKit
variable {a:Act} {listed:Array Bool} {E js:List Nat} {xs:List Rat} {B b fuel i j k n:Nat} {t:TypeId}
theorem ah {w w':FW} {b o:Nat} {v:F7} (h:w.cell? ⟨b,o,none⟩=some v) (hb:Below w.heap.size w w'):w'.cell? ⟨b,o,none⟩=some v :=
 (hb.cell (p:=⟨b,o,none⟩) (World.block_lt_of_cell? w _ h)).trans h
structure Fact where
 p:F7->FW->Prop
 keep:∀ v w w',p v w->Below w.heap.size w w'->p v w'
def Fact.tt:Fact:=⟨λ_ _=>True,λ_ _ _ h _=>h⟩
def Fact.nat (F:FI) (n:Nat):Fact:=⟨λv w=>Ae w F v n,λ_ _ _ h hb=>h.below hb⟩
def Fact.raw (F:FI) (r:Raw):Fact:=⟨λv w=>Ah w F v r,λ_ _ _ h hb=>h.below hb⟩
structure Hold where
 p:FW->Prop
 keep:∀ w w',p w->Below w.heap.size w w'->p w'
def Hold.cell (b o:Nat) (v:F7):Hold:=⟨λw=>w.cell? ⟨b,o,none⟩=some v,λ_ _ h hb=>ah h hb⟩
def Hold.of (f:Fact) (v:F7):Hold:=⟨λw=>f.p v w,λw w' h hb=>f.keep v w w' h hb⟩
def Hold.and (a b:Hold):Hold:=⟨λw=>a.p w/\b.p w,λw w' h hb=>⟨a.keep w w' h.1 hb,b.keep w w' h.2 hb⟩⟩
def Hold.below (B:Nat) (w0:FW):Hold:=⟨λw=>B<=w.heap.size/\Below B w0 w,λw _ h hb=>⟨Gf h.1 hb.size,h.2.trans (hb.mono h.1)⟩⟩
def facts (l:List (Nat×Fact)) (i:Nat) (v:F7) (w:FW):Prop:=((l.lookup i).getD Fact.tt).p v w
theorem ahJ (l:List (Nat×Fact)) (i:Nat) (v:F7) (w w':FW) (h:facts l i v w) (hb:Below w.heap.size w w'):facts l i v w':=Fact.keep _ _ _ _ h hb
theorem eY {l:List (Nat×Fact)} {v:F7} {w:FW} {f:Fact} (h:facts l i v w) (hl:(l.lookup i).getD Fact.tt=f):f.p v w:=by rw[<-hl]; exact h
section
variable {P:Program} {ops:Array Oper} {Q:Exit->Act->FW->Prop}
theorem og {w:FW} {S:FW->Prop} (H:Hold) (l:List (Nat×Fact)) (hok:alL ops listed js fuel=true)
  (hH:H.p w) (hHS:∀ w,H.p w->S w)
  (h:Flow P .any ops Q H.p (λw w'=>Below w.heap.size w w') (facts l) js [] a):wpAnyH P .any ops Q S fuel listed a w :=
 sF hHS (agk H.p 0 (facts l) hok hH (Nat.zero_le _) (λw w' _ h hb=>H.keep w w' h hb) (ahJ l) (h.hold λ_ h=>h.2))
end
def Ep (a b:Nat) (v:F7):Prop:=∃ M p q:Nat,v = .tuple #[F6 F5 (p:Int),F6 F5 (q:Int)]/\0 < M/\p=a / M/\q=b / M/\p < 1000000000000000000
theorem lead_any (w:FW) (F:FI) (va vb:F7) (a b:Nat) (ha:Ae w F va a) (hb:Ae w F vb b) (hba:b<=a) (hl3:3<=(dig a).length) (hla:(dig a).length<=100000) :
  Calls FY 184 #[va,vb] w (Ret w λv _=>Ep a b v):=by
 have HA:=Ac ha;have HB:=Ac hb;obtain⟨A,c,rfl,hc,hNa⟩:=ha;obtain⟨n,hn⟩:=FH ((dig a).length);refine zcr ?_;intro n1 hn1;obtain⟨bk,o,rfl,_,hbk,hx⟩:=hNa EN;obtain⟨x,hx'⟩:=FC (l:=dig a) (k:=n1) EN;have ex:=hx n1 x hx';unfold dF at ex;rw[Gp] at ex;have hxl:x < 1000000000:=(aP a).get hx';have hx1:1<=x:=by
  have h1:=tH a;rw[List.getLast?_eq_getElem?,show(dig a).length - 1=n1 by omega,hx'] at h1;rcases Gt x with h | h
  ·exact absurd (by rw[h]) h1
  ·exact h
 have hlb:=aT hba;rw[<-hn] at hc hl3 hla hlb ⊢;replace HA:=Ac (show Ae w F (FQ (some ⟨bk,o,none⟩) n c) a by rw[hn]; exact HA.out);have HX:=Ac (show(dig a).getD (n - 1) 0=x by rw[show n - 1=n1 by omega]; exact aN hx');have HN:=Ac hn;have i1:(n:Int) - 1=(n1:Int):=EN;have hn1l:n1 < n:=EN;clear hx hx' hNa hb hn hn1;go_in;go_wp2_with fail
 have hl0:w.heap.size < w.heap.size+1+1:=EN;go_loopw [] (λwr=>∃ i T:Nat,10 ^ i*T=LB/\i<=9/\x*10 ^ i < LB/\Row wr w.heap.size 3 [F6 F5 (n:Int)]/\Row wr (w.heap.size+1) 153 [.int .u64 ((10 ^ i:Nat):Int)]/\Below w.heap.size w wr) (λwr=>(match wr.cell? ⟨w.heap.size+1,0,none⟩ with | some v=>LB - (intOf v).toNat | none=>0))
 case atStart =>
  refine⟨0,LB,aF,EN,by simpa using hxl,?_,?_,?_⟩
  ·exact(Row.new w 3 #[F6 F5 (n:Int)]).alloc _
  ·have h:=Row.new (w.alloc (.cells #[F6 F5 (n:Int)] 3)) 153 #[.int .u64 1];simpa using h
  ·exact((F9 _ _).alloc (FV _) _).alloc aF _
 case round =>
  obtain⟨i,T,hT,hi,hxi,hr0,hr1,hbel⟩:=hrel;have ex':=(aS hbel bk (o+n1) hbk).trans ex;have e0:=hr0.cell (i:=0) rfl;have e1:=hr1.cell (i:=0) rfl;have y1:=hr1.frozen 0;obtain⟨t,ht⟩:=FH (10 ^ i);have HT:=Ac (show t=10 ^ i/\t*T=LB from⟨ht,by rw[ht]; exact hT⟩);rw[<-ht] at hxi e1 hr1 hT;have HXI:=Ac hxi;have ht1:1<=t:=by rw[ht];exact Nat.pow_pos aA
  have htl:t<=1000000000:=by
   have:1*t<=x*t:=H8 _ hx1;unfold LB at hxi;omega
  obtain⟨p,hp⟩:=FH (x*t);have hpI:(x:Int)*(t:Int)=(p:Int):=by rw[hp,Int.natCast_mul]
  have hpl:p < 1000000000:=by rw[hp];exact hxi
  have hpt:t<=p:=by
   have:1*t<=x*t:=H8 _ hx1;omega
  have HP:=Ac hp;clear ht hT hxi hp;by_cases hcd:p*10 < 1000000000
  ·have hd:decide ((p:Int)*10 < 1000000000)=true:=Mc EN;have ht10:t*10 < 1000000000:=EN;have hi9:i < 9:=by
    rcases Nat.lt_or_ge i 9 with h | h
    ·exact h
    ·have h2:10 ^ 9<=10 ^ i:=Nat.pow_le_pow_right aA h;have h3:=HT.out.1;have h4:(10:Nat) ^ 9=1000000000:=aA;omega
   have HI1:=Ac (show 10 ^ (i+1)=t*10 by rw[IJ,<-HT.out.1]);have hT10:=Ac (show t*10*(T / 10)=LB by
    have h1:=HT.out.2;have h2:10 ∣ T:=by
     have h3:T=10 ^ (9 - i):=by
      have h4:10 ^ i*10 ^ (9 - i)=LB:=by rw[<-Nat.pow_add,show i+(9 - i)=9 by omega]
      rw[HT.out.1] at h1;exact Nat.eq_of_mul_eq_mul_left (Nat.pow_pos aA) (h1.trans h4.symm)
     rw[h3,show 9 - i=(9 - i - 1)+1 by omega,IJ];exact⟨_,Nat.mul_comm _ _⟩
    obtain⟨q,hq⟩:=h2;rw[hq,Nat.mul_div_cancel_left _ aA,IE,<-hq]; exact h1)
   have HX10:=Ac (show x*(t*10) < LB by rw[<-IE,<-HP.out]; exact hcd);go_wp2
   go_quiet (fail)
   go_wp2
   go_roundw
   case rel =>
    refine⟨i+1,T / 10,by rw[HI1.out]; exact hT10.out,EN,by rw[HI1.out]; exact HX10.out,?_,?_,?_⟩
    ·exact(hr0.dN _).other (a:=⟨w.heap.size+1,0,none⟩) aF _
    ·rw[HI1.out];have h:=(hr1.dN nq).set 0 (.int .u64 ((t*10:Nat):Int));simpa using h
    ·exact(aI hbel nq).setCell (p:=⟨w.heap.size+1,0,none⟩) aF _
   case measure =>
    have h1:=((hr1.dN nq).set 0 (.int .u64 ((t:Int)*10))).cell (i:=0) rfl;rw[h1,e1];simp only[intOf];unfold LB;omega
  ·have hd:decide ((p:Int)*10 < 1000000000)=false:=L9 EN;go_wp2
   go_quiet (fail)
   go_wp2_with fail
   have hB1:=aI hbel nq;have e0d:(wr.drewN nq).cell? ⟨w.heap.size,0,none⟩=some (F6 F5 (n:Int)):=e0;have e1d:(wr.drewN nq).cell? ⟨w.heap.size+1,0,none⟩=some (.int .u64 (t:Int)):=e1;obtain⟨wq,hwq⟩:∃ W:FW,W=wr.drewN nq:=⟨_,rfl⟩;rw[<-hwq] at hB1 e0d e1d ⊢;clear hwq e0 e1;have HTT:=HT.out.2;have hxt:(dig a).getD (n - 1) 0*t < LB:=by rw[HX.out];exact HXI.out
   have hla2:(dig a).length=n:=HN.out.symm;have am7:=amP hla2 hl3 HTT (aP a) hxt;have HM:=Ac (show 0 < LB ^ (n - 3)*T by
    refine Nat.mul_pos (Bl _) ?_;rcases Gt T with h | h
    ·rw[h,Nat.mul_zero] at HTT;cases HTT
    ·exact h)
   have hltb:aH (dig b) / (LB ^ (n - 3)*T) < 1000000000000000000:=by
    refine Nat.lt_of_le_of_lt ?_ am7;rw[aX,aX];exact Nat.div_le_div_right EN
   refine(ad3 _ F _ (dig a) n t T _ _ (HA.out.below hB1) (aP a) EN hl3 hla HTT e0d e1d am7).mono ?_;rintro e w1 ⟨_,rfl,hb1,rfl⟩;have e0':=ah e0d hb1;have e1':=ah e1d hb1;dsimp only;go_wp2_with fail
   refine(ad3 _ F _ (dig b) n t T _ _ ((HB.out.below hB1).below hb1) (aP b) EN hl3 hla HTT e0' e1' hltb).mono ?_;rintro e w2 ⟨_,rfl,hb2,rfl⟩;rw[aX,aX];rw[aX] at am7;dsimp only;go_wp2
   go_ret2;exact⟨_,rfl,hB1.trans ((hb1.trans (hb2.mono hb1.size)).mono hB1.size),_,_,_,rfl,HM.out,rfl,rfl,am7⟩
theorem enters' {f:FuncId} {fn:Func} (hf:Tryz.prog.funcs[f]? = some fn) (hn:(fn.name == "runtime.NumGoroutine")=false) (hb:fn.body.isNone=false) (args:Array F7) (w:FW):(callFunc f args).run FY w = .ok (.enter f args) w:=by
 have h1:fn.name ≠ "runtime.NumGoroutine" := by simpa using hn
 obtain⟨b,hb⟩:∃ b,fn.body=some b:=by cases h:fn.body <;> simp_all
 simp[callFunc,hf,h1,hb,Sem.run]
theorem aaF {α:Type} {xs:List α} {f:α->Raw} {L:List RV} {x:α} {q:RV} (hL:L.map RV.r=(xs.take k).map f) (hx:xs[k]? = some x) (hq:q.r=f x):(L ++ [q]).map RV.r=(xs.take (k+1)).map f:=by
 rw[GL,hL,FP hx,GL,Hr,Hr,hq];rfl
theorem acC {L:List RV} {q:RV} (hl:L.length=k) (hk:k < n):(L++F8 (n - k) rv0).set k q=(L ++ [q])++F8 (n - (k+1)) rv0:=by
 rw[show n - k=(n - (k+1))+1 by omega,List.replicate_succ];subst hl;simp
structure EC (w:FW) (fid:FuncId) (caps:Array F7) (xs:List Int) (f:Int->Rat):Prop where
 enters:∀ (args:Array F7) (w':FW),(callFunc fid args).run FY w' = .ok (.enter fid args) w'
 calls:∀ (W:FW) (x:Int),x∈xs->Below w.heap.size w W->Calls FY fid (#[F6 F5 x]++caps) W (Ret W λu W'=>NmV W' (λb=>W.heap.size<=b) u (f x))
theorem abk (w:FW) (F:FI) (v:F7) (xs:List Int) (fid:FuncId) (caps:Array F7) (f:Int->Rat) (hv:Aj w F v xs) (hl:xs.length<=100000) (hf:EC w fid caps xs f) :
  Calls FY 106 #[v,.func (.func fid) #[] caps] w (Ret w λu w'=>u = FQ (some ⟨w.heap.size,0,none⟩) xs.length xs.length/\Bz w' (λb=>w.heap.size<=b) u (xs.map f)):=by
 obtain⟨A,c,rfl,hc,hN⟩:=hv;have HN:=Ac hN;clear hN;have hcf:=hf.enters;have HF:=Ac hf.calls;clear hf;go_in;go_wp2_with (at_make; refine xH _ rfl _ _ 96 rfl 114 Tryz.underlying96 Tryz.infoNum xs.length rfl rfl EN ?_; intro w1 hb1 hz1 hm1)
 have HM:=Ac (hm1 (λb=>w.heap.size<=b));clear hm1;refine zct ?_;intro bo hbo hbo1 adv hbo3;rw[<-hbo] at HM ⊢;have tK:=hb1;have HBO:=Ac hbo;clear hz1 hb1 hbo;go_loopw [13] (λi wr=>∃ (k:Nat) (L:List RV),k<=xs.length/\i = F6 F5 (k:Int)/\L.length=k/\L.map RV.r=(xs.take k).map (λx=>aB (f x))/\AB wr bo 114 (λb=>bo<=b) (L++F8 (xs.length - k) rv0)/\Below w.heap.size w wr/\w1.heap.size<=wr.heap.size) (λi _=>xs.length - (intOf i).toNat)
 case atStart=>exact⟨0,[],EN,rfl,rfl,rfl,HM.out.mono (λb hb _=>by omega),tK,FV _⟩
 case round =>
  clear HM tK;obtain⟨k,L,hk,rfl,hlen,hmap,hm,hbel,hz⟩:=hrel;have HMP:=Ac hmap;have HM:=Ac hm;have HLL:=Ac hlen;clear hmap hm hlen;by_cases hlt:k < xs.length
  ·obtain⟨b,o,rfl,hF,hb,hx⟩:=HN.out EN;refine zaQ ?_;intro x hx' ex;unfold jP at ex;rw[Gp] at ex;have ex2:wr.cell? ⟨b,o+k,none⟩=some (F6 F5 x):=(hbel.cell (p:=⟨b,o+k,none⟩) aG).trans ex;have HX:=Ac hx';clear hx hx' ex;go_wp2_with fail
   refine(HF.out wr x (FT HX.out) hbel).mono ?_;rintro e wn ⟨u,rfl,hb2,hu⟩;replace HM:=Ac (HM.out.below hb2);have jo:=hbel.trans (hb2.mono hbel.size);have hz3:=hb2.size;obtain⟨A1,c1,B1,d1,rfl,iJ⟩:=hu.opened;obtain⟨q,hq⟩:∃ q:RV,q=⟨aB (f x),FQ A1 (aB (f x)).num.length c1,FQ B1 (aB (f x)).den.length d1⟩:=⟨_,rfl⟩;rw[<-hq] at iJ;have HQ:=Ac (show q.r=aB (f x) by rw[hq]);have hqk:q.fine wn (λc=>bo<=c/\c≠bo):=iJ.keep (λb hb _=>by omega) (Gh _ _);have HQF:=Ac hqk;have hget:(L++F8 (xs.length - k) rv0)[k]? = some rv0:=by
    rw[Gx (by rw[HLL.out]; omega),HLL.out,Ih,JI,L8 EN]
   refine YB ?_;intro c0 c1 c2 f0 f1 f2;obtain⟨W,hW,hm,hwB,hwS,hwz,hwb⟩:=HM.out.set k q hqk;rw[acC HLL.out hlt] at hm;have HM2:=Ac hm;have hbelW:=hwB _ _ adv jo;have hzW:w1.heap.size<=W.heap.size:=EN;rw[hq] at hW;have HW:=Ac hW;clear hu iJ hqk hm hget hq hwB hwS hwz hwb hW ex2 hb2;dsimp only;go_wp2_with fail
   rw[<-HW.out];go_roundw
   case rel=>exact⟨k+1,L ++ [q],EN,by go_num,by rw[Gn,HLL.out]; rfl,aaF HMP.out HX.out HQ.out,HM2.out,hbelW,hzW⟩
   case measure=>simp[intOf]; omega
  ·go_wp2
   go_ret;refine zdr ?_;intro hall;have hk2:L.length=xs.length:=by have:=HLL.out;omega
   refine⟨_,rfl,hbel,by rw[HBO.out]; rfl,?_⟩;refine zcH ?_;intro hm;have:=hm.raws (G:=λb=>w.heap.size<=b) (λb hb=>by omega) adv (c:=xs.length) EN;rw[HMP.out,hall,hk2] at this;show FK _ _ _ _;rw[List.map_map];exact this
theorem agl (w:FW) (F:FI) (v:F7) (xs:List Rat) (hv:BD w F v xs) (hl:xs.length<=100000) (hf:∀ x∈xs,rl x<=100000) :
  Calls FY 140 #[v,.func (.func 76) #[] #[]] w (Ret w λu w'=>u = FQ (some ⟨w.heap.size,0,none⟩) xs.length xs.length/\Bz w' (Ext F w.heap.size) u xs):=by
 obtain⟨A,c,rfl,hc,hN⟩:=hv;rw[FX] at hc hN;have HN:=Ac hN;clear hN;have hcf:=λargs w=>enters' (f:=76) Tryz.func76 ak ak args w
 have HF:=Ac hf;clear hf;show Calls _ _ #[FQ A (xs.map au).length c,_] _ _;rw[FX];go_in;go_wp2_with (at_make; refine xH _ rfl _ _ 96 rfl 114 Tryz.underlying96 Tryz.infoNum xs.length rfl rfl EN ?_; intro w1 hb1 hz1 hm1)
 have HM:=Ac (hm1 (Ext (Old F w.heap.size) w.heap.size));clear hm1;refine zct ?_;intro bo hbo hbo1 adv hbo3;replace HM:Hid (AB w1 bo 114 (Ext (Old F w.heap.size) w.heap.size) (F8 xs.length rv0)):=by rw[hbo];exact HM
 rw[<-hbo];have tK:=hb1;have HBO:=Ac hbo;clear hz1 hb1 hbo;go_loopw [13] (λi wr=>∃ (k:Nat) (L:List RV),k<=xs.length/\i = F6 F5 (k:Int)/\L.length=k/\L.map RV.r=(xs.take k).map aB/\AB wr bo 114 (Ext (Old F w.heap.size) w.heap.size) (L++F8 (xs.length - k) rv0)/\Below w.heap.size w wr/\w1.heap.size<=wr.heap.size) (λi _=>xs.length - (intOf i).toNat)
 case atStart=>exact⟨0,[],EN,rfl,rfl,rfl,HM.out,tK,FV _⟩
 case round =>
  clear HM tK;obtain⟨k,L,hk,rfl,hlen,hmap,hm,hbel,hz⟩:=hrel;have HMP:=Ac hmap;have HM:=Ac hm;have HLL:=Ac hlen;clear hmap hm hlen;by_cases hlt:k < xs.length
  ·obtain⟨b,o,rfl,hF,hb,hx⟩:=HN.out EN;obtain⟨x,hx'⟩:=FC hlt;obtain⟨ex0,⟨vn,ex1,hn⟩,⟨vd,ex2,hd⟩⟩:=hx k (au x) (by rw[Gi,hx']; rfl);have HX:=Ac hx';have hrl:=HF.out x (FT hx');have HR:=Ac (Ah.below (r:=au x) (Ah.old (JL (r:=au x) rfl hn hd)) hbel);obtain⟨A1',c1',rfl,_,_⟩:=hn;obtain⟨A2',c2',rfl,_,_⟩:=hd;replace ex1:w.cell? ⟨b,o+k*3+1,none⟩=some (FQ A1' (dig x.num.natAbs).length c1'):=ex1;replace ex2:w.cell? ⟨b,o+k*3+2,none⟩=some (FQ A2' (dig x.den).length c2'):=ex2;have hold:=aS hbel;clear hx hx';go_wp2_with fail
   obtain⟨W2,hW2,rz,hB2,hzz⟩:=aJ wr 42 #[Gj (au x).neg,FQ A1' (dig x.num.natAbs).length c1',FQ A2' (dig x.den).length c2'];rw[<-hW2];have hz2:=hB2.size;replace HR:=Ac (HR.out.below hB2);replace HM:=Ac (HM.out.below hB2);replace hbel:=hbel.trans (hB2.mono hbel.size);refine zbo ?_;intro x0 x1 x2;clear hold hB2 hW2 hzz rz ex0 ex1 ex2;go_wp2_with fail
   refine(xG W2 _ _ x HR.out hrl).mono ?_;rintro e wn ⟨u,rfl,hb2,hu⟩;replace HM:=Ac (HM.out.below hb2);have jo:=hbel.trans (hb2.mono hbel.size);have hz3:=hb2.size;obtain⟨A1,c1,B1,d1,rfl,iJ⟩:=hu.opened;obtain⟨q,hq⟩:∃ q:RV,q=⟨aB x,FQ A1 (aB x).num.length c1,FQ B1 (aB x).den.length d1⟩:=⟨_,rfl⟩;rw[<-hq] at iJ;have HQ:=Ac (show q.r=aB x by rw[hq]);have hqk:q.fine wn (λc=>Ext (Old F w.heap.size) w.heap.size c/\c≠bo):=iJ.keep (λb hb _=>⟨.inl hb,by have:=hb.2; omega⟩) (Gh _ _);have HQF:=Ac hqk;have hget:(L++F8 (xs.length - k) rv0)[k]? = some rv0:=by
    rw[Gx (by rw[HLL.out]; omega),HLL.out,Ih,JI,L8 EN]
   refine YB ?_;intro c0 c1 c2 f0 f1 f2;obtain⟨W,hW,hm,hwB,hwS,hwz,hwb⟩:=HM.out.set k q hqk;rw[acC HLL.out hlt] at hm;have HM2:=Ac hm;have hbelW:=hwB _ _ adv jo;have hzW:w1.heap.size<=W.heap.size:=EN;rw[hq] at hW;have HW:=Ac hW;clear hu iJ hqk hm hget hq hwB hwS hwz hwb hW x0 x1 x2 hb2;dsimp only;go_wp2_with fail
   rw[<-HW.out];go_roundw
   case rel=>exact⟨k+1,L ++ [q],EN,by go_num,by rw[Gn,HLL.out]; rfl,aaF HMP.out HX.out HQ.out,HM2.out,hbelW,hzW⟩
   case measure=>simp[intOf]; omega
  ·go_wp2
   go_ret;refine zdr ?_;intro hall;have hk2:L.length=xs.length:=by have:=HLL.out;omega
   refine⟨_,rfl,hbel,by rw[HBO.out]; rfl,?_⟩;refine zcH ?_;intro hm;have:=hm.raws (G:=Ext F w.heap.size) (λb hb=>hb.elim (λh=>.inl h.1) .inr) (.inr adv) (c:=xs.length) EN;rw[HMP.out,hall,hk2] at this;exact this
open List renaming getElem_toArray → lq1, getElem_cons_zero → lq2, getElem_cons_succ → lq3, setIfInBounds_toArray → lq4, set_cons_zero → lq5, set_cons_succ → lq6
theorem aj3 (w:FW) (F:FI) (va vb:F7) (x y:Rat) (ha:NmV w F va x) (hb:NmV w F vb y) (hlx:rl x<=20000) (hly:rl y<=20000) (hx0:x≠0) (hy0:y≠0) :
  Calls FY 109 #[va,vb] w (Ret w λv w'=>NmV w' (Ext F w.heap.size) v (x*y)):=by
 refine zcT ?_;intro HX HY;obtain⟨A,c,B,d,rfl,hn,hd⟩:=ha.open;obtain⟨A',c',B',d',rfl,hn',hd'⟩:=hb.open;clear hn hd hn' hd' ha hb;refine zcL ?_;intro dx dy lx;have lx2:=gB x;have ly:=gy y;have ly2:=gB y;go_in;go_wp2_with fail
 refine Zi ?_;clear HX HY;intro W rx ry rz hB hz HX HY;refine zaP ?_;intro hz;intro x0 x1 x2 y0 y1 y2;clear rx ry;refine zc3 ?_;rintro e wn ⟨_,rfl,hb,rfl⟩;rw[dx];refine zZ ?_;clear x0 x1 x2 y0 y1 y2 HX HY;intro x0 x1 x2 y0 y1 y2 HX HY;refine zaX ?_;clear rz hz hB hb;intro rz hz hB;go_wp2_with fail
 refine(iU _ _ _ y HY.out).mono ?_;rintro e wn ⟨_,rfl,hb,rfl⟩;rw[dy];refine zZ ?_;clear x0 x1 x2 y0 y1 y2 HX HY;intro x0 x1 x2 y0 y1 y2 HX HY;refine zaX ?_;clear rz hz hB hb;intro rz hz hB;go_wp2_with fail
 refine Zf ?_;intro hHeld;refine zaA ?_;intro hb;refine zZ ?_;clear x0 x1 x2 y0 y1 y2 HX HY;intro x0 x1 x2 y0 y1 y2 HX HY;refine ZE ?_;clear rz hz hB hb;intro rz hz hB;generalize wn.drew=wn at *;refine tkm [0,2] ?_;refine tk2 1 ak rfl λK hK=>?_
 go_simp;refine(mM _ _ _ x HX.out).mono ?_;rintro e wn ⟨vdx,rfl,hb,hu⟩;have HDX:=Ac (hu.mono (G:=(Ext (Old F w.heap.size) (w.heap.size+3))) (λb hb _=>hb.elim .inl λh=>.inr EN));clear hu;refine zZ ?_;clear x0 x1 x2 y0 y1 y2 HX HY;intro x0 x1 x2 y0 y1 y2 HX HY;refine ZO ?_;clear rz hz hB hb hHeld hK K;intro rz hz hB hHeld;refine tk2 3 ak rfl λK hK=>?_
 go_simp;refine(mM _ _ _ y HY.out).mono ?_;rintro e wn ⟨vdy,rfl,hb,hu⟩;refine zbB ?_;intro HDY;clear hu;refine zZ ?_;clear x0 x1 x2 y0 y1 y2 HX HY;intro x0 x1 x2 y0 y1 y2 HX HY;replace HDX:=Ac (HDX.out.below hb);refine ZO ?_;clear rz hz hB hb hHeld hK K;intro rz hz hB hHeld;refine tkm [4,5] ?_;refine Yf ?_;clear hHeld;go_wp2_with fail
 obtain⟨_,_,hh,hn,hd⟩:=HX.out;refine Yw ?_;intro HNX;cases hh;clear hn hd;obtain⟨_,_,hh,hn,hd⟩:=HY.out;refine Yd ?_;intro HNY;cases hh;clear hn hd;refine Zf ?_;intro hHeld;refine zaA ?_;intro hb;refine zZ ?_;clear x0 x1 x2 y0 y1 y2 HX HY;intro x0 x1 x2 y0 y1 y2 HX HY;replace HDX:=Ac (HDX.out.below hb);replace HDY:=Ac (HDY.out.below hb);replace HNX:=Ac (HNX.out.below hb);replace HNY:=Ac (HNY.out.below hb);refine ZE ?_;clear rz hz hB hb;intro rz hz hB;generalize wn.drew=wn at *;refine tkm [0,1,2,4,5,6] ?_;refine tk2 3 ak rfl λK hK=>?_
 go_simp;refine(su _ _ _ _ x.num.natAbs y.den HNX.out HDY.out EN EN).mono ?_;rintro e wn ⟨vf,rfl,hb,hu⟩;have HF:=Ac (hu.mono (G:=(Ext (Old F w.heap.size) (w.heap.size+3))) (λb hb _=>hb.elim id λh=>.inr EN));clear hu;refine zZ ?_;clear x0 x1 x2 y0 y1 y2 HX HY;intro x0 x1 x2 y0 y1 y2 HX HY;replace HDX:=Ac (HDX.out.below hb);replace HDY:=Ac (HDY.out.below hb);replace HNX:=Ac (HNX.out.below hb);replace HNY:=Ac (HNY.out.below hb);refine ZO ?_;clear rz hz hB hb hHeld hK K;intro rz hz hB hHeld;refine tk2 7 ak rfl λK hK=>?_
 go_simp;refine(su _ _ _ _ y.num.natAbs x.den HNY.out HDX.out EN EN).mono ?_;rintro e wn ⟨vg,rfl,hb,hu⟩;have HG:=Ac (hu.mono (G:=(Ext (Old F w.heap.size) (w.heap.size+3))) (λb hb _=>hb.elim id λh=>.inr EN));clear hu;refine zZ ?_;clear x0 x1 x2 y0 y1 y2 HX HY;intro x0 x1 x2 y0 y1 y2 HX HY;replace HDX:=Ac (HDX.out.below hb);replace HDY:=Ac (HDY.out.below hb);replace HNX:=Ac (HNX.out.below hb);replace HNY:=Ac (HNY.out.below hb);replace HF:=Ac (HF.out.below hb);refine ZO ?_;clear rz hz hB hb hHeld hK K;intro rz hz hB hHeld;refine tkm [8,9] ?_;refine Yf ?_;clear hHeld;go_wp2_with fail
 obtain⟨f,hf⟩:=FH (Gv x.num.natAbs y.den);obtain⟨g,hg⟩:=FH (Gv y.num.natAbs x.den);have hf0:f≠0:=by rw[hf];exact Lu (Jq _ y.den_pos)
 have hg0:g≠0:=by rw[hg];exact Lu (Jq _ x.den_pos)
 have hlf:(dig f).length<=20000:=Gf (aT (by rw[hf]; exact KD _ y.den_pos)) EN;have hlg:(dig g).length<=20000:=Gf (aT (by rw[hg]; exact KD _ x.den_pos)) EN;rw[<-hf] at HF;rw[<-hg] at HG;have HFE:=Ac hf;have HGE:=Ac hg;clear hf hg;refine aW (λw'=>w'.cell? ⟨w.heap.size,0,none⟩=some (Gj (aB x).neg)/\w'.cell? ⟨w.heap.size,1,none⟩=some (FQ A (aB x).num.length c)/\w'.cell? ⟨w.heap.size,2,none⟩=some (FQ B (aB x).den.length d)/\w'.cell? ⟨w.heap.size+1,0,none⟩=some (Gj (aB y).neg)/\w'.cell? ⟨w.heap.size+1,1,none⟩=some (FQ A' (aB y).num.length c')/\w'.cell? ⟨w.heap.size+1,2,none⟩=some (FQ B' (aB y).den.length d')) 22 1 ak rfl ak ?_;have hHeld:(λw':FW=>w'.cell? ⟨w.heap.size,0,none⟩=some (Gj (aB x).neg)/\w'.cell? ⟨w.heap.size,1,none⟩=some (FQ A (aB x).num.length c)/\w'.cell? ⟨w.heap.size,2,none⟩=some (FQ B (aB x).den.length d)/\w'.cell? ⟨w.heap.size+1,0,none⟩=some (Gj (aB y).neg)/\w'.cell? ⟨w.heap.size+1,1,none⟩=some (FQ A' (aB y).num.length c')/\w'.cell? ⟨w.heap.size+1,2,none⟩=some (FQ B' (aB y).den.length d')) wn.drew:=⟨x0,x1,x2,y0,y1,y2⟩;refine Zv ?_;refine zaA ?_;intro hb;refine ZF ?_;clear x0 x1 x2 y0 y1 y2 HX HY HDX HDY HNX HNY HF HG;intro x0 x1 x2 y0 y1 y2 HX HY HDX HDY HNX HNY HF HG;refine ZE ?_;clear rz hz hB hb;intro rz hz hB;generalize wn.drew=wn at *;refine tkm [0,1,2,3,4,5,6,7,9,10,11,14,15,17,18] ?_;refine tk2 8 ak rfl λK hK=>?_
 go_simp;refine(nG _ _ _ _ (x.num.natAbs) f HNX.out HF.out hf0 EN EN).mono ?_;rintro e wn ⟨v8,rfl,hb,hu⟩;have HP1:=Ac (hu.mono (G:=(Ext (Old F w.heap.size) (w.heap.size+3))) (λb hb _=>hb.elim id λh=>.inr EN));clear hu;refine ZF ?_;clear x0 x1 x2 y0 y1 y2 HX HY HDX HDY HNX HNY HF HG;intro x0 x1 x2 y0 y1 y2 HX HY HDX HDY HNX HNY HF HG;refine ZO ?_;clear rz hz hB hb hHeld hK K;intro rz hz hB hHeld;refine tk2 12 ak rfl λK hK=>?_
 go_simp;refine(nG _ _ _ _ (y.num.natAbs) g HNY.out HG.out hg0 EN EN).mono ?_;rintro e wn ⟨v12,rfl,hb,hu⟩;have HP2:=Ac (hu.mono (G:=(Ext (Old F w.heap.size) (w.heap.size+3))) (λb hb _=>hb.elim id λh=>.inr EN));clear hu;refine ZF ?_;clear x0 x1 x2 y0 y1 y2 HX HY HDX HDY HNX HNY HF HG;intro x0 x1 x2 y0 y1 y2 HX HY HDX HDY HNX HNY HF HG;replace HP1:=Ac (HP1.out.below hb);refine ZO ?_;clear rz hz hB hb hHeld hK K;intro rz hz hB hHeld;refine tk2 13 ak rfl λK hK=>?_
 go_simp;refine(mG _ _ _ _ (x.num.natAbs / f) (y.num.natAbs / g) HP1.out HP2.out (by have:=bY x.num.natAbs f; have:=bY y.num.natAbs g; have:=bY x.den g; have:=bY y.den f; omega) (by have:=bY x.num.natAbs f; have:=bY y.num.natAbs g; have:=bY x.den g; have:=bY y.den f; omega)).mono ?_;rintro e wn ⟨v13,rfl,hb,hu⟩;have HT1:=Ac (hu.mono (G:=(Ext (Old F w.heap.size) (w.heap.size+3))) (λb hb _=>hb.elim id λh=>.inr EN));clear hu;refine ZF ?_;clear x0 x1 x2 y0 y1 y2 HX HY HDX HDY HNX HNY HF HG;intro x0 x1 x2 y0 y1 y2 HX HY HDX HDY HNX HNY HF HG;replace HP1:=Ac (HP1.out.below hb);replace HP2:=Ac (HP2.out.below hb);refine ZO ?_;clear rz hz hB hb hHeld hK K;intro rz hz hB hHeld;refine tk2 16 ak rfl λK hK=>?_
 go_simp;refine(nG _ _ _ _ (x.den) g HDX.out HG.out hg0 EN EN).mono ?_;rintro e wn ⟨v16,rfl,hb,hu⟩;have HP3:=Ac (hu.mono (G:=(Ext (Old F w.heap.size) (w.heap.size+3))) (λb hb _=>hb.elim id λh=>.inr EN));clear hu;refine ZF ?_;clear x0 x1 x2 y0 y1 y2 HX HY HDX HDY HNX HNY HF HG;intro x0 x1 x2 y0 y1 y2 HX HY HDX HDY HNX HNY HF HG;refine zdy ?_;clear HP1 HP2 HT1;intro HP1 HP2 HT1;refine ZO ?_;clear rz hz hB hb hHeld hK K;intro rz hz hB hHeld;refine tk2 19 ak rfl λK hK=>?_
 go_simp;refine(nG _ _ _ _ (y.den) f HDY.out HF.out hf0 EN EN).mono ?_;rintro e wn ⟨v19,rfl,hb,hu⟩;have HP4:=Ac (hu.mono (G:=(Ext (Old F w.heap.size) (w.heap.size+3))) (λb hb _=>hb.elim id λh=>.inr EN));clear hu;refine ZF ?_;clear x0 x1 x2 y0 y1 y2 HX HY HDX HDY HNX HNY HF HG;intro x0 x1 x2 y0 y1 y2 HX HY HDX HDY HNX HNY HF HG;refine zdy ?_;clear HP1 HP2 HT1;intro HP1 HP2 HT1;replace HP3:=Ac (HP3.out.below hb);refine ZO ?_;clear rz hz hB hb hHeld hK K;intro rz hz hB hHeld;refine tk2 20 ak rfl λK hK=>?_
 go_simp;refine(mG _ _ _ _ (x.den / g) (y.den / f) HP3.out HP4.out (by have:=bY x.num.natAbs f; have:=bY y.num.natAbs g; have:=bY x.den g; have:=bY y.den f; omega) (by have:=bY x.num.natAbs f; have:=bY y.num.natAbs g; have:=bY x.den g; have:=bY y.den f; omega)).mono ?_;rintro e wn ⟨v20,rfl,hb,hu⟩;have HT2:=Ac (hu.mono (G:=(Ext (Old F w.heap.size) (w.heap.size+3))) (λb hb _=>hb.elim id λh=>.inr EN));clear hu;refine ZF ?_;clear x0 x1 x2 y0 y1 y2 HX HY HDX HDY HNX HNY HF HG;intro x0 x1 x2 y0 y1 y2 HX HY HDX HDY HNX HNY HF HG;refine zdy ?_;clear HP1 HP2 HT1;intro HP1 HP2 HT1;replace HP3:=Ac (HP3.out.below hb);replace HP4:=Ac (HP4.out.below hb);refine ZO ?_;clear rz hz hB hb hHeld hK K;intro rz hz hB hHeld;have hmp:=ajE x y;rw[<-HFE.out,<-HGE.out] at hmp;rw[<-hmp.1] at HT1;rw[<-hmp.2.1] at HT2;have hneg:dI (x*y)=(dI x != dI y):=hmp.2.2 hx0 hy0;have HNG:=Ac hneg;clear hmp hneg;have lm:=kR x y;have lmd:=gB (x*y);refine tk2 21 ak rfl λK hK=>?_
 go_simp;refine(tX _ _ _ _ _ (x*y).num.natAbs (x*y).den (dig (x*y).den) HT1.out HT2.out (.inl rfl) (x*y).den_nz (jQ _) EN).mono ?_;rintro e wn ⟨vm,rfl,hb,hu⟩;have hu2:NmV wn (Ext (Old F w.heap.size) (w.heap.size+3)) vm (x*y):=by rw[show(!(aB x).neg==(aB y).neg)=dI (x*y) from HNG.out.symm,yF] at hu;exact hu
 have HM:=Ac hu2;obtain⟨Am,cm,Bm,dm,rfl,hn,hd⟩:=hu2.open;clear hn hd hu hu2;refine ZF ?_;clear x0 x1 x2 y0 y1 y2 HX HY HDX HDY HNX HNY HF HG;intro x0 x1 x2 y0 y1 y2 HX HY HDX HDY HNX HNY HF HG;refine zdy ?_;clear HP1 HP2 HT1;intro HP1 HP2 HT1;replace HP3:=Ac (HP3.out.below hb);replace HP4:=Ac (HP4.out.below hb);replace HT2:=Ac (HT2.out.below hb);refine zaY ?_;clear rz hz hB hb hHeld hK K x0 x1 x2 y0 y1 y2;intro rz hz hB;intro q0 y0 q1 y1 q2 y2;go_wp2
 refine ZR ?_;go_wp2
 obtain⟨Wz,hWz,hrz,hwz,hkz⟩:=bG rz (Gj (aB (x*y)).neg) (FQ Am (aB (x*y)).num.length cm) (FQ Bm (aB (x*y)).den.length dm);refine Zh ?_;clear hWz q0 q1 q2 y0 y1 y2;intro t0 t1 t2;refine bodyPost_ret (v:=.agg #[Gj (aB (x*y)).neg,FQ Am (aB (x*y)).num.length cm,FQ Bm (aB (x*y)).den.length dm]) (by simp[results,Tryz.results109,go_sem,t0,t1,t2]) rfl ?_;exact Zq
theorem acD (w:FW) (F:FI) (va vb:F7) (x y:Rat) (ha:NmV w F va x) (hb:NmV w F vb y) (hlx:rl x<=20000) (hly:rl y<=20000) :
  Calls FY 109 #[va,vb] w (Ret w λv w'=>NmV w' (Ext F w.heap.size) v (x*y)):=by
 by_cases hx0:x=0
 ·skip
  refine zcT ?_;intro HX HY;obtain⟨A,c,B,d,rfl,hn,hd⟩:=ha.open;obtain⟨A',c',B',d',rfl,hn',hd'⟩:=hb.open;clear hn hd hn' hd' ha hb hlx hly;have dx:decide (x=0)=true:=Mc hx0;have HZ:=Ac (show x*y=0 by rw[hx0,Rat.zero_mul]);clear hx0;go_in;go_wp2_with fail
  refine Zi ?_;clear HX HY;intro W rx ry rz hB hz HX HY;refine ZG ?_;intro x0 x1 x2 y0 y1 y2;clear rx ry hz;refine zc3 ?_;rintro e wn ⟨_,rfl,hb,rfl⟩;rw[dx];refine zZ ?_;clear x0 x1 x2 y0 y1 y2 HX HY;intro x0 x1 x2 y0 y1 y2 HX HY;replace rz:=rz.below hb rz.lt;refine YW ?_;clear hB hb;intro hB;have hz:=rz.lt;refine Zk ?_;intro q0 y0 q1 y1 q2 y2;go_wp2
  refine za8 ?_;clear q0 q1 q2 y0 y1 y2;intro Wz hrz hwz hkz;intro t0 t1 t2;refine bodyPost_ret (v:=.agg #[Gj false,FQ none 0 0,FQ none 0 0]) (by simp[results,Tryz.results109,go_sem,t0,t1,t2]) rfl ?_;exact zbY
 by_cases hy0:y=0
 ·skip
  refine zcT ?_;intro HX HY;obtain⟨A,c,B,d,rfl,hn,hd⟩:=ha.open;obtain⟨A',c',B',d',rfl,hn',hd'⟩:=hb.open;clear hn hd hn' hd' ha hb hlx hly;have dx:decide (x=0)=false:=L9 hx0;have dy:decide (y=0)=true:=Mc hy0;have HZ:=Ac (show x*y=0 by rw[hy0,Rat.mul_zero]);clear hx0 hy0;go_in;go_wp2_with fail
  refine Zi ?_;clear HX HY;intro W rx ry rz hB hz HX HY;refine ZG ?_;intro x0 x1 x2 y0 y1 y2;clear rx ry hz;refine zc3 ?_;rintro e wn ⟨_,rfl,hb,rfl⟩;rw[dx];refine zZ ?_;clear x0 x1 x2 y0 y1 y2 HX HY;intro x0 x1 x2 y0 y1 y2 HX HY;replace rz:=rz.below hb rz.lt;refine YW ?_;clear hB hb;intro hB;go_wp2_with fail
  refine(iU _ _ _ y HY.out).mono ?_;rintro e wn ⟨_,rfl,hb,rfl⟩;rw[dy];refine zZ ?_;clear x0 x1 x2 y0 y1 y2 HX HY;intro x0 x1 x2 y0 y1 y2 HX HY;replace rz:=rz.below hb rz.lt;refine YW ?_;clear hB hb;intro hB;have hz:=rz.lt;refine Zk ?_;intro q0 y0 q1 y1 q2 y2;go_wp2
  refine za8 ?_;clear q0 q1 q2 y0 y1 y2;intro Wz hrz hwz hkz;intro t0 t1 t2;refine bodyPost_ret (v:=.agg #[Gj false,FQ none 0 0,FQ none 0 0]) (by simp[results,Tryz.results109,go_sem,t0,t1,t2]) rfl ?_;exact zbY
 exact aj3 w F va vb x y ha hb hlx hly hx0 hy0
theorem alM (w:FW) (F:FI) (va vb:F7) (x y:Rat) (ha:NmV w F va x) (hb:NmV w F vb y) (hlx:rl x<=20000) (hly:rl y<=20000) (hy0:y≠0) :
  Calls FY 124 #[va,vb] w (Ret w λv w'=>NmV w' (Ext F w.heap.size) v (x / y)):=by
 have hiv:=tJ hy0;have ly:=gy y;have ly2:=gB y;have lyi:=ahj hy0;have hn0:y.num.natAbs≠0:=λh=>hy0 ((lF y).1 h)
 have ahK:Gv y.den y.num.natAbs=1:=by rw[Nat.gcd_comm];exact jQ y
 have HIV:=Ac (show mkRat (sgI (aB y).neg y.den) y.num.natAbs=y⁻¹ by rw[<-hiv.1,<-hiv.2.1,uO,<-hiv.2.2,yF]);have HXY:=Ac (show x*y⁻¹=x / y from(Rat.div_def x y).symm);clear hiv hy0;refine zcT ?_;intro HX HY;obtain⟨A,c,B,d,rfl,hn,hd⟩:=ha.open;obtain⟨A',c',B',d',rfl,hn',hd'⟩:=hb.open;clear hn hd hn' hd' ha hb;go_in;go_wp2_with fail
 refine Zi ?_;clear HX HY;intro W rx ry rz hB hz HX HY;refine zaP ?_;intro hz;intro x0 x1 x2 y0 y1 y2;clear rx ry;obtain⟨_,_,hh,hn,hd⟩:=HY.out;refine Yd ?_;intro HNY;cases hh;clear hn hd;refine aW (λw'=>w'.cell? ⟨w.heap.size,0,none⟩=some (Gj (aB x).neg)/\w'.cell? ⟨w.heap.size,1,none⟩=some (FQ A (aB x).num.length c)/\w'.cell? ⟨w.heap.size,2,none⟩=some (FQ B (aB x).den.length d)/\w'.cell? ⟨w.heap.size+1,0,none⟩=some (Gj (aB y).neg)/\w'.cell? ⟨w.heap.size+1,1,none⟩=some (FQ A' (aB y).num.length c')/\w'.cell? ⟨w.heap.size+1,2,none⟩=some (FQ B' (aB y).den.length d')) 9 1 ak rfl ak ?_;have hHeld:(λw':FW=>w'.cell? ⟨w.heap.size,0,none⟩=some (Gj (aB x).neg)/\w'.cell? ⟨w.heap.size,1,none⟩=some (FQ A (aB x).num.length c)/\w'.cell? ⟨w.heap.size,2,none⟩=some (FQ B (aB x).den.length d)/\w'.cell? ⟨w.heap.size+1,0,none⟩=some (Gj (aB y).neg)/\w'.cell? ⟨w.heap.size+1,1,none⟩=some (FQ A' (aB y).num.length c')/\w'.cell? ⟨w.heap.size+1,2,none⟩=some (FQ B' (aB y).den.length d')) W.drew:=⟨x0,x1,x2,y0,y1,y2⟩;refine Zv ?_;refine zcC ?_;intro hb;refine zZ ?_;clear x0 x1 x2 y0 y1 y2 HX HY;intro x0 x1 x2 y0 y1 y2 HX HY;replace HNY:=Ac (HNY.out.below hb);refine ZE ?_;clear rz hz hB hb;intro rz hz hB;generalize W.drew=wn at *;refine tkm [0,1,2,3,5,6] ?_;refine tk2 4 ak rfl λK hK=>?_
 go_simp;refine(mM _ _ _ y HY.out).mono ?_;rintro e wn ⟨vdy,rfl,hb,hu⟩;refine zbB ?_;intro HDY;clear hu;refine zZ ?_;clear x0 x1 x2 y0 y1 y2 HX HY;intro x0 x1 x2 y0 y1 y2 HX HY;replace HNY:=Ac (HNY.out.below hb);refine ZO ?_;clear rz hz hB hb hHeld hK K;intro rz hz hB hHeld;refine tk2 7 ak rfl λK hK=>?_
 go_simp;refine(tX _ _ _ _ _ y.den y.num.natAbs (dig y.num.natAbs) HDY.out HNY.out (.inl rfl) hn0 ahK EN).mono ?_;rintro e wn ⟨vi,rfl,hb,hu⟩;rw[HIV.out] at hu;have HI:=Ac hu;clear hu;refine zZ ?_;clear x0 x1 x2 y0 y1 y2 HX HY;intro x0 x1 x2 y0 y1 y2 HX HY;replace HNY:=Ac (HNY.out.below hb);replace HDY:=Ac (HDY.out.below hb);refine ZO ?_;clear rz hz hB hb hHeld hK K;intro rz hz hB hHeld;refine tk2 8 ak rfl λK hK=>?_
 go_simp;refine(acD _ (Ext (Old F w.heap.size) (w.heap.size+3)) _ _ x y⁻¹ (Ah.mono HX.out (λb hb _=>.inl hb)) HI.out hlx EN).mono ?_;rintro e wn ⟨vm,rfl,hb,hu⟩;rw[HXY.out] at hu;have hu2:NmV wn (Ext (Old F w.heap.size) (w.heap.size+3)) vm (x / y):=hu.mono (λb hb _=>hb.elim id λh=>.inr EN);have HM:=Ac hu2;obtain⟨Am,cm,Bm,dm,rfl,hn,hd⟩:=hu2.open;clear hn hd hu hu2;refine zZ ?_;clear x0 x1 x2 y0 y1 y2 HX HY;intro x0 x1 x2 y0 y1 y2 HX HY;replace HNY:=Ac (HNY.out.below hb);replace HDY:=Ac (HDY.out.below hb);replace HI:=Ac (HI.out.below hb);refine zaY ?_;clear rz hz hB hb hHeld hK K x0 x1 x2 y0 y1 y2;intro rz hz hB;intro q0 y0 q1 y1 q2 y2;go_wp2
 refine ZR ?_;go_wp2
 obtain⟨Wz,hWz,hrz,hwz,hkz⟩:=bG rz (Gj (aB (x / y)).neg) (FQ Am (aB (x / y)).num.length cm) (FQ Bm (aB (x / y)).den.length dm);refine Zh ?_;clear hWz q0 q1 q2 y0 y1 y2;intro t0 t1 t2;refine bodyPost_ret (v:=.agg #[Gj (aB (x / y)).neg,FQ Am (aB (x / y)).num.length cm,FQ Bm (aB (x / y)).den.length dm]) (by simp[results,Tryz.results124,go_sem,t0,t1,t2]) rfl ?_;exact Zq
theorem ae1 (w:FW) (F:FI) (va vb:F7) (a b:Nat) (ha:Ae w F va a) (hb:Ae w F vb b) (hla:(dig a).length<=1000000) (hlb:(dig b).length<=1000000) :
  Calls FY 120 #[va,vb] w (Ret w λv _=>v = F6 F5 (dB a b)):=by
 refine(jU w F va vb a b ha hb hla hlb).mono ?_;rintro e w' ⟨rfl,z0,rfl⟩;exact⟨_,rfl,aI (F9 _ w) _,rfl⟩
theorem acE (x:Rat):nT x = -1\/nT x=0\/nT x=1:=by unfold nT; split <;> (try split) <;> omega
theorem ahL (a b:Nat):-1<=dB a b/\dB a b<=1:=by unfold dB; split <;> (try split) <;> omega
theorem acF (w:FW) (F:FI) (va vb:F7) (x y:Rat) (ha:NmV w F va x) (hb:NmV w F vb y) (hlx:rl x<=20000) (hly:rl y<=20000) :
  Calls FY 70 #[va,vb] w (Ret w λv _=>v = F6 F5 (jC x y)):=by
 have lx:=gy x;have lx2:=gB x;have ly:=gy y;have ly2:=gB y;have hm1:(dig (x.num.natAbs*y.den)).length<=40000:=Gf (dW _ _) EN;have hm2:(dig (y.num.natAbs*x.den)).length<=40000:=Gf (dW _ _) EN;obtain⟨s,hs⟩:=FH (nT x);obtain⟨t,ht⟩:=FH (nT y);have hsc:=acE x;rw[<-hs] at hsc;have htc:=acE y;rw[<-ht] at htc;have h1:=Ac (λh:s < t=>(afQ (x:=x) (y:=y) (by rw[<-hs,<-ht]; exact h)).1);have h2:=Ac (λh:t < s=>(afQ (x:=y) (y:=x) (by rw[<-hs,<-ht]; exact h)).2);have h3:=Ac (λ(h:s=t) (h0:s=0)=>ale (x:=x) (y:=y) (by rw[<-hs,<-ht]; exact h) (by rw[<-hs]; exact h0));have h4:=Ac (λ(h:s=t) (h0:s≠0)=>alf (x:=x) (y:=y) (by rw[<-hs,<-ht]; exact h) (by rw[<-hs]; exact h0));have HS:=Ac hs;have HT:=Ac ht;clear hs ht;refine zcT ?_;intro HX HY;obtain⟨A,c,B,d,rfl,hn,hd⟩:=ha.open;obtain⟨A',c',B',d',rfl,hn',hd'⟩:=hb.open;clear hn hd hn' hd' ha hb;go_in;go_wp2_with fail
 obtain⟨W,hW,rx,ry,hB,hz⟩:=alloc2 w 114 #[Gj (aB x).neg,FQ A (aB x).num.length c,FQ B (aB x).den.length d] 114 #[Gj (aB y).neg,FQ A' (aB y).num.length c',FQ B' (aB y).den.length d'];rw[<-hW];clear hW;replace HX:=Ac (HX.out.on (FZ hB _));replace HY:=Ac (HY.out.on (FZ hB _));have hz:w.heap.size+2<=W.heap.size:=hz;refine ZG ?_;intro x0 x1 x2 y0 y1 y2;clear rx ry;refine Zf ?_;intro hHeld;refine zcC ?_;intro hb;refine zZ ?_;clear x0 x1 x2 y0 y1 y2 HX HY;intro x0 x1 x2 y0 y1 y2 HX HY;refine Zc ?_;clear hz hB hb;intro hz hB;generalize W.drew=wn at *;refine tkm [0,2] ?_;refine tk2 1 ak rfl λK hK=>?_
 go_simp;refine(ad4 _ _ _ x HX.out).mono ?_;rintro e wn ⟨_,rfl,hb,rfl⟩;rw[<-HS.out];refine zZ ?_;clear x0 x1 x2 y0 y1 y2 HX HY;intro x0 x1 x2 y0 y1 y2 HX HY;refine Za ?_;clear hz hB hb hHeld hK K;intro hz hB hHeld;refine tk2 3 ak rfl λK hK=>?_
 go_simp;refine(ad4 _ _ _ y HY.out).mono ?_;rintro e wn ⟨_,rfl,hb,rfl⟩;rw[<-HT.out];refine zZ ?_;clear x0 x1 x2 y0 y1 y2 HX HY;intro x0 x1 x2 y0 y1 y2 HX HY;refine Za ?_;clear hz hB hb hHeld hK K;intro hz hB hHeld;refine tkm [4,5] ?_;refine Yf ?_;clear hHeld;by_cases hlt:s < t
 ·have hd:=Mc hlt;have HR:=Ac (h1.out hlt);exact zdv
 have hd:=L9 hlt;by_cases hgt:t < s
 ·have hd2:=Mc hgt;have HR:=Ac (h2.out hgt);exact zdv
 have hd2:=L9 hgt;have hst:s=t:=EN;by_cases h0:s=0
 ·have HR:=Ac (h3.out hst h0);have he:(s==0)=true:=by rw[h0];rfl
  clear h0 hst;exact zdv
 have he:(s==0)=false:=beq_false_of_ne h0;have HR:=Ac (h4.out hst h0);have hs1:s=1\/s = -1:=EN;clear hst hlt hgt hsc htc h0 h1 h2 h3 h4;obtain⟨_,_,hh,hn,hd⟩:=HX.out;have HNX:=Ac (Ae.mono (n:=x.num.natAbs) (G:=(Ext (Old F w.heap.size) (w.heap.size+2))) hn (λb hb _=>.inl hb));cases hh;clear hn hd;obtain⟨_,_,hh,hn,hd⟩:=HY.out;have HNY:=Ac (Ae.mono (n:=y.num.natAbs) (G:=(Ext (Old F w.heap.size) (w.heap.size+2))) hn (λb hb _=>.inl hb));cases hh;clear hn hd;go_wp2_with fail
 refine Zf ?_;intro hHeld;refine zaA ?_;intro hb;refine YO ?_;clear x0 x1 x2 y0 y1 y2 HX HY HNX HNY;intro x0 x1 x2 y0 y1 y2 HX HY HNX HNY;refine Zc ?_;clear hz hB hb;intro hz hB;generalize wn.drew=wn at *;refine tkm [0,1,2,3,6,7,8] ?_;refine tk2 4 ak rfl λK hK=>?_
 go_simp;refine(mM _ _ _ y HY.out).mono ?_;rintro e wn ⟨vdy,rfl,hb,hu⟩;have HDY:=Ac (hu.mono (G:=(Ext (Old F w.heap.size) (w.heap.size+2))) (λb hb _=>hb.elim .inl λh=>.inr EN));clear hu;refine YO ?_;clear x0 x1 x2 y0 y1 y2 HX HY HNX HNY;intro x0 x1 x2 y0 y1 y2 HX HY HNX HNY;refine Za ?_;clear hz hB hb hHeld hK K;intro hz hB hHeld;refine tk2 5 ak rfl λK hK=>?_
 go_simp;refine(mG _ _ _ _ x.num.natAbs y.den HNX.out HDY.out EN EN).mono ?_;rintro e wn ⟨vt1,rfl,hb,hu⟩;have HT1:=Ac (hu.mono (G:=(Ext (Old F w.heap.size) (w.heap.size+2))) (λb hb _=>hb.elim id λh=>.inr EN));clear hu;refine YO ?_;clear x0 x1 x2 y0 y1 y2 HX HY HNX HNY;intro x0 x1 x2 y0 y1 y2 HX HY HNX HNY;replace HDY:=Ac (HDY.out.below hb);refine Za ?_;clear hz hB hb hHeld hK K;intro hz hB hHeld;refine tk2 9 ak rfl λK hK=>?_
 go_simp;refine(mM _ _ _ x HX.out).mono ?_;rintro e wn ⟨vdx,rfl,hb,hu⟩;have HDX:=Ac (hu.mono (G:=(Ext (Old F w.heap.size) (w.heap.size+2))) (λb hb _=>hb.elim .inl λh=>.inr EN));clear hu;refine YO ?_;clear x0 x1 x2 y0 y1 y2 HX HY HNX HNY;intro x0 x1 x2 y0 y1 y2 HX HY HNX HNY;replace HDY:=Ac (HDY.out.below hb);replace HT1:=Ac (HT1.out.below hb);refine Za ?_;clear hz hB hb hHeld hK K;intro hz hB hHeld;refine tk2 10 ak rfl λK hK=>?_
 go_simp;refine(mG _ _ _ _ y.num.natAbs x.den HNY.out HDX.out EN EN).mono ?_;rintro e wn ⟨vt2,rfl,hb,hu⟩;have HT2:=Ac (hu.mono (G:=(Ext (Old F w.heap.size) (w.heap.size+2))) (λb hb _=>hb.elim id λh=>.inr EN));clear hu;refine YO ?_;clear x0 x1 x2 y0 y1 y2 HX HY HNX HNY;intro x0 x1 x2 y0 y1 y2 HX HY HNX HNY;replace HDY:=Ac (HDY.out.below hb);replace HT1:=Ac (HT1.out.below hb);replace HDX:=Ac (HDX.out.below hb);refine Za ?_;clear hz hB hb hHeld hK K;intro hz hB hHeld;refine tk2 11 ak rfl λK hK=>?_
 go_simp;refine(ae1 _ _ _ _ (x.num.natAbs*y.den) (y.num.natAbs*x.den) HT1.out HT2.out EN EN).mono ?_;rintro e wn ⟨_,rfl,hb,rfl⟩;obtain⟨ho1,ho2⟩:=ahL (x.num.natAbs*y.den) (y.num.natAbs*x.den);generalize dB (x.num.natAbs*y.den) (y.num.natAbs*x.den)=od at *;refine YO ?_;clear x0 x1 x2 y0 y1 y2 HX HY HNX HNY;intro x0 x1 x2 y0 y1 y2 HX HY HNX HNY;replace HDY:=Ac (HDY.out.below hb);replace HT1:=Ac (HT1.out.below hb);replace HDX:=Ac (HDX.out.below hb);replace HT2:=Ac (HT2.out.below hb);refine Za ?_;clear hz hB hb hHeld hK K;intro hz hB hHeld
 rcases hs1 with rfl | rfl
 all_goals
  refine tkm [12,13] ?_;refine Yf ?_;clear hHeld;go_wp2
  go_ret;exact⟨_,rfl,hB,by rw[HR.out,<-HS.out]; simp; exact IntWalk.i64_in _ EN⟩
theorem aj6 (w:FW) (a b:Int) (ha1:-1000000000000<=a) (ha2:a<=1000000000000) (hb1:-1000000000000<=b) (hb2:b<=1000000000000) (hb0:b≠0) :
  Calls FY 142 #[F6 F5 a,F6 F5 b] w (Ret w λv w'=>NmV w' (λb=>w.heap.size<=b) v ((a:Rat) / (b:Rat))):=by
 have hla:rl (a:Rat)<=20000:=by
  rw[ab5];have:(dig a.natAbs).length<=2:=aV (by unfold LB; omega);omega
 have hlb:rl (b:Rat)<=20000:=by
  rw[ab5];have:(dig b.natAbs).length<=2:=aV (by unfold LB; omega);omega
 have agm:(b:Rat)≠0:=by intro h;exact hb0 (Rat.intCast_eq_zero_iff.1 h)
 go_in;go_wp2_with fail
 obtain⟨W,hW,hr,hB,hWz⟩:=aJ w 114 #[Gj false,FQ none 0 0,FQ none 0 0];rw[<-hW];clear hW;have hz:w.heap.size+1<=W.heap.size:=hr.lt;refine(qZ W a ha1 ha2).mono ?_;rintro e wn ⟨va,rfl,hb,hu⟩;have HA:=Ac (hu.mono (G:=(λb=>w.heap.size+1<=b)) (λb hb _=>by omega));clear hu;refine YE ?_;clear hr hz hB hb;intro hr hz hB;dsimp only;go_wp2_with fail
 refine(qZ _ b hb1 hb2).mono ?_;rintro e wn ⟨vb,rfl,hb,hu⟩;have HB:=Ac (hu.mono (G:=(λb=>w.heap.size+1<=b)) (λb hb _=>by omega));clear hu;replace HA:=Ac (HA.out.below hb);refine YE ?_;clear hr hz hB hb;intro hr hz hB;dsimp only;go_wp2_with fail
 refine(alM _ (λb=>w.heap.size+1<=b) _ _ (a:Rat) (b:Rat) HA.out HB.out hla hlb agm).mono ?_;rintro e wn ⟨vm,rfl,hb,hu⟩;have hu2:NmV wn (λb=>w.heap.size+1<=b) vm ((a:Rat) / (b:Rat)):=hu.mono (λb hb _=>hb.elim id λh=>by omega);have HM:=Ac hu2;obtain⟨Am,cm,Bm,dm,rfl,hn,hd⟩:=hu2.open;clear hn hd hu hu2;replace HA:=Ac (HA.out.below hb);replace HB:=Ac (HB.out.below hb);refine YE ?_;clear hr hz hB hb;intro hr hz hB;refine Zu ?_;intro q0 y0 q1 y1 q2 y2;go_wp2
 obtain⟨Wz,hWz,hrz,hwz,hkz⟩:=bG hr (Gj (aB ((a:Rat) / (b:Rat))).neg) (FQ Am (aB ((a:Rat) / (b:Rat))).num.length cm) (FQ Bm (aB ((a:Rat) / (b:Rat))).den.length dm);refine Zh ?_;clear hWz q0 q1 q2 y0 y1 y2;intro t0 t1 t2;refine bodyPost_ret (v:=.agg #[Gj (aB ((a:Rat) / (b:Rat))).neg,FQ Am (aB ((a:Rat) / (b:Rat))).num.length cm,FQ Bm (aB ((a:Rat) / (b:Rat))).den.length dm]) (by simp[results,Tryz.results142,go_sem,t0,t1,t2]) rfl ?_;exact zao
theorem am8 (x y:Rat) (l r:Nat):sgI (dI x) (x.num.natAbs*r)+sgI (dI y) (y.num.natAbs*l)=x.num*r+y.num*l:=by
 rw[mY,mY,lZ,lZ]
theorem an3 (w:FW) (F:FI) (va vb:F7) (x y:Rat) (ha:NmV w F va x) (hb:NmV w F vb y) (hlx:rl x<=20000) (hly:rl y<=20000) (hx0:x=0) :
  Calls FY 108 #[va,vb] w (Ret w λv w'=>NmV w' (Ext F w.heap.size) v (x+y)):=by
 have dx:decide (x=0)=true:=Mc hx0;have HZ:=Ac (show x+y=y by rw[hx0,Rat.zero_add]);clear hx0;refine zcT ?_;intro HX HY;obtain⟨A,c,B,d,rfl,hn,hd⟩:=ha.open;obtain⟨A',c',B',d',rfl,hn',hd'⟩:=hb.open;clear hn hd hn' hd' ha hb;go_in;go_wp2_with fail
 refine Zi ?_;clear HX HY;intro W rx ry rz hB hz HX HY;refine zaP ?_;intro hz;intro x0 x1 x2 y0 y1 y2;clear rx ry;refine zc3 ?_;rintro e wn ⟨_,rfl,hb,rfl⟩;rw[dx];refine zZ ?_;clear x0 x1 x2 y0 y1 y2 HX HY;intro x0 x1 x2 y0 y1 y2 HX HY;refine zaX ?_;clear rz hz hB hb;intro rz hz hB;refine Zk ?_;intro q0 y0 q1 y1 q2 y2;go_wp2
 obtain⟨Wz,hWz,hrz,hwz,hkz⟩:=bG rz (Gj (aB y).neg) (FQ A' (aB y).num.length c') (FQ B' (aB y).den.length d');refine Zh ?_;clear hWz q0 q1 q2 y0 y1 y2;intro t0 t1 t2;refine bodyPost_ret (v:=.agg #[Gj (aB y).neg,FQ A' (aB y).num.length c',FQ B' (aB y).den.length d']) (by simp[results,JZ,go_sem,t0,t1,t2]) rfl ?_;exact⟨_,rfl,hwz _ _ EN hB,by rw[HZ.out]; exact(HY.out.on (hkz _ (λh=>by have:=h.2; omega))).mono (λb hb _=>.inl hb.1)⟩
theorem an4 (w:FW) (F:FI) (va vb:F7) (x y:Rat) (ha:NmV w F va x) (hb:NmV w F vb y) (hlx:rl x<=20000) (hly:rl y<=20000) (hx0:x≠0) (hy0:y=0) :
  Calls FY 108 #[va,vb] w (Ret w λv w'=>NmV w' (Ext F w.heap.size) v (x+y)):=by
 have dx:decide (x=0)=false:=L9 hx0;have dy:decide (y=0)=true:=Mc hy0;have HZ:=Ac (show x+y=x by rw[hy0,Rat.add_zero]);clear hx0 hy0;refine zcT ?_;intro HX HY;obtain⟨A,c,B,d,rfl,hn,hd⟩:=ha.open;obtain⟨A',c',B',d',rfl,hn',hd'⟩:=hb.open;clear hn hd hn' hd' ha hb;go_in;go_wp2_with fail
 refine Zi ?_;clear HX HY;intro W rx ry rz hB hz HX HY;refine zaP ?_;intro hz;intro x0 x1 x2 y0 y1 y2;clear rx ry;refine zc3 ?_;rintro e wn ⟨_,rfl,hb,rfl⟩;rw[dx];refine zZ ?_;clear x0 x1 x2 y0 y1 y2 HX HY;intro x0 x1 x2 y0 y1 y2 HX HY;refine zaX ?_;clear rz hz hB hb;intro rz hz hB;go_wp2_with fail
 refine(iU _ _ _ y HY.out).mono ?_;rintro e wn ⟨_,rfl,hb,rfl⟩;rw[dy];refine zZ ?_;clear x0 x1 x2 y0 y1 y2 HX HY;intro x0 x1 x2 y0 y1 y2 HX HY;refine zaX ?_;clear rz hz hB hb;intro rz hz hB;refine Zk ?_;intro q0 y0 q1 y1 q2 y2;go_wp2
 obtain⟨Wz,hWz,hrz,hwz,hkz⟩:=bG rz (Gj (aB x).neg) (FQ A (aB x).num.length c) (FQ B (aB x).den.length d);refine Zh ?_;clear hWz q0 q1 q2 y0 y1 y2;intro t0 t1 t2;refine bodyPost_ret (v:=.agg #[Gj (aB x).neg,FQ A (aB x).num.length c,FQ B (aB x).den.length d]) (by simp[results,JZ,go_sem,t0,t1,t2]) rfl ?_;exact⟨_,rfl,hwz _ _ EN hB,by rw[HZ.out]; exact(HX.out.on (hkz _ (λh=>by have:=h.2; omega))).mono (λb hb _=>.inl hb.1)⟩
theorem ahM (w:FW) (F:FI) (va vb:F7) (x y:Rat) (ha:NmV w F va x) (hb:NmV w F vb y) (hlx:rl x<=20000) (hly:rl y<=20000) (hx0:x≠0) (hy0:y≠0) (hxd:x.den=1) (hyd:y.den=1) :
  Calls FY 108 #[va,vb] w (Ret w λv w'=>NmV w' (Ext F w.heap.size) v (x+y)):=by
 refine zcL ?_;intro dx dy lx;have ly:=gy y;have hlx1:(((aB x).den.length:Int)==0)=true:=by rw[pR hxd];rfl
 have hly1:(((aB y).den.length:Int)==0)=true:=by rw[pR hyd];rfl
 have HS:=Ac (ajG hxd hyd);have HXN:=Ac (lZ x);have HYN:=Ac (lZ y);clear hx0 hy0 hxd hyd;refine zcT ?_;intro HX HY;obtain⟨A,c,B,d,rfl,hn,hd⟩:=ha.open;obtain⟨A',c',B',d',rfl,hn',hd'⟩:=hb.open;clear hn hd hn' hd' ha hb;go_in;go_wp2_with fail
 refine Zi ?_;clear HX HY;intro W rx ry rz hB hz HX HY;refine zaP ?_;intro hz;intro x0 x1 x2 y0 y1 y2;clear rx ry;refine zc3 ?_;rintro e wn ⟨_,rfl,hb,rfl⟩;rw[dx];refine zZ ?_;clear x0 x1 x2 y0 y1 y2 HX HY;intro x0 x1 x2 y0 y1 y2 HX HY;refine zaX ?_;clear rz hz hB hb;intro rz hz hB;go_wp2_with fail
 refine(iU _ _ _ y HY.out).mono ?_;rintro e wn ⟨_,rfl,hb,rfl⟩;rw[dy];refine zZ ?_;clear x0 x1 x2 y0 y1 y2 HX HY;intro x0 x1 x2 y0 y1 y2 HX HY;refine zaX ?_;clear rz hz hB hb;intro rz hz hB;go_wp2_with fail
 obtain⟨_,_,hh,hn,hd⟩:=HX.out;refine Yw ?_;intro HNX;cases hh;clear hn hd;obtain⟨_,_,hh,hn,hd⟩:=HY.out;refine Yd ?_;intro HNY;cases hh;clear hn hd;refine(abj _ _ (dI x) (dI y) _ _ x.num.natAbs y.num.natAbs HNX.out HNY.out EN EN).mono ?_;rintro e wn ⟨_,rfl,hb,neg,t,rfl,hu,hs⟩;rw[HXN.out,HYN.out,<-HS.out.2] at hu hs;have HT:=Ac (hu.mono (G:=(Ext (Old F w.heap.size) (w.heap.size+3))) (λb hb _=>.inr EN));clear hu;have HSG:=Ac (show mkRat (sgI neg (x+y).num.natAbs) 1=x+y by rw[<-hs,<-HS.out.1,Rat.mkRat_self]);clear hs;refine YO ?_;clear x0 x1 x2 y0 y1 y2 HX HY HNX HNY;intro x0 x1 x2 y0 y1 y2 HX HY HNX HNY;refine zaX ?_;clear rz hz hB hb;intro rz hz hB;go_wp2_with fail
 refine(tX _ _ _ _ _ (x+y).num.natAbs 1 [] HT.out (iT _ _ _ _) (.inr ⟨rfl,rfl⟩) aA (Nat.gcd_one_right _) aF).mono ?_;rintro e wn ⟨vm,rfl,hb,hu⟩;rw[HSG.out] at hu;have HM:=Ac hu;obtain⟨Am,cm,Bm,dm,rfl,hn,hd⟩:=hu.open;clear hn hd hu;refine YO ?_;clear x0 x1 x2 y0 y1 y2 HX HY HNX HNY;intro x0 x1 x2 y0 y1 y2 HX HY HNX HNY;replace HT:=Ac (HT.out.below hb);refine zaX ?_;clear rz hz hB hb;intro rz hz hB;clear x0 x1 x2 y0 y1 y2;refine Zk ?_;intro q0 y0 q1 y1 q2 y2;go_wp2
 obtain⟨Wz,hWz,hrz,hwz,hkz⟩:=bG rz (Gj (aB (x+y)).neg) (FQ Am (aB (x+y)).num.length cm) (FQ Bm (aB (x+y)).den.length dm);refine Zh ?_;clear hWz q0 q1 q2 y0 y1 y2;intro t0 t1 t2;refine bodyPost_ret (v:=.agg #[Gj (aB (x+y)).neg,FQ Am (aB (x+y)).num.length cm,FQ Bm (aB (x+y)).den.length dm]) (by simp[results,JZ,go_sem,t0,t1,t2]) rfl ?_;exact Zq
theorem ad8 (w:FW) (F:FI) (va vb:F7) (x y:Rat) (ha:NmV w F va x) (hb:NmV w F vb y) (hlx:rl x<=20000) (hly:rl y<=20000) (hx0:x≠0) (hy0:y≠0) (hw:x.den≠1\/(x.den=1/\y.den≠1)) :
  Calls FY 108 #[va,vb] w (Ret w λv w'=>NmV w' (Ext F w.heap.size) v (x+y)):=by
 refine zcL ?_;intro dx dy lx;have ly:=gy y;have lx2:=gB x;have ly2:=gB y;obtain⟨g,hg⟩:=FH (Gv x.den y.den);obtain⟨l,hl⟩:=FH (x.den / g);obtain⟨r,hr⟩:=FH (y.den / g);obtain⟨t,ht⟩:=FH (x.num*r+y.num*l);obtain⟨f,hf⟩:=FH (Gv t.natAbs g);have hap:=ajD x y hg hl hr ht hf;have hsum:=am8 x y l r;rw[<-ht] at hsum;have hg0:g≠0:=by rw[hg];exact Lu (Nat.gcd_pos_of_pos_left _ x.den_pos)
 have hf0:f≠0:=by rw[hf];exact Lu (Jq _ EN)
 have hlg:(dig g).length<=20000:=Gf (aT (by rw[hg]; exact KD _ y.den_pos)) EN;have hlf:(dig f).length<=20000:=Gf (aT (by rw[hf]; exact KD _ EN)) hlg;have hll:(dig l).length<=20000:=by rw[hl];exact Gf (bY _ _) EN
 have hlr:(dig r).length<=20000:=by rw[hr];exact Gf (bY _ _) EN
 have hlxr:(dig (x.num.natAbs*r)).length<=40000:=Gf (dW _ _) EN;have hlyl:(dig (y.num.natAbs*l)).length<=40000:=Gf (dW _ _) EN;have hlt:(dig t.natAbs).length<=40001:=by
  have h1:t.natAbs<=x.num.natAbs*r+y.num.natAbs*l:=by rw[ht];refine Gf (Int.natAbs_add_le _ _) ?_;rw[JF,JF];exact FV _
  have h2:=aT h1;have h3:=vO (x.num.natAbs*r) (y.num.natAbs*l);omega
 have hlfy:(dig (y.den / f)).length<=20000:=Gf (bY _ _) EN;have hlxy:=aav x y;have hlxd:=gB (x+y);have HAP:=Ac hap;have DJ:=Ac hsum;have HGE:=Ac hg;have HLE:=Ac hl;have HRE:=Ac hr;have HFE:=Ac hf;have hbx:((((aB x).den.length:Int)==0)=false)\/((((aB x).den.length:Int)==0)=true/\(((aB y).den.length:Int)==0)=false):=by
  have key:∀ z:Rat,z.den≠1->(((aB z).den.length:Int)==0)=false:=by intro z hz;rw[qY hz];have:=bg.2 z.den_nz;exact beq_false_of_ne EN
  rcases hw with h | ⟨h,h2⟩
  ·exact .inl (key x h)
  ·exact .inr ⟨by rw[pR h]; rfl,key y h2⟩
 clear hw hx0 hy0 hap hsum hg hl hr ht hf;refine zcT ?_;intro HX HY;obtain⟨A,c,B,d,rfl,hn,hd⟩:=ha.open;obtain⟨A',c',B',d',rfl,hn',hd'⟩:=hb.open;clear hn hd hn' hd' ha hb;go_in;go_wp2_with fail
 refine Zi ?_;clear HX HY;intro W rx ry rz hB hz HX HY;refine zaP ?_;intro hz;intro x0 x1 x2 y0 y1 y2;clear rx ry;refine zc3 ?_;rintro e wn ⟨_,rfl,hb,rfl⟩;rw[dx];refine zZ ?_;clear x0 x1 x2 y0 y1 y2 HX HY;intro x0 x1 x2 y0 y1 y2 HX HY;refine zaX ?_;clear rz hz hB hb;intro rz hz hB;go_wp2_with fail
 refine(iU _ _ _ y HY.out).mono ?_;rintro e wn ⟨_,rfl,hb,rfl⟩;rw[dy];refine zZ ?_;clear x0 x1 x2 y0 y1 y2 HX HY;intro x0 x1 x2 y0 y1 y2 HX HY;refine zaX ?_;clear rz hz hB hb;intro rz hz hB;obtain⟨_,_,hh,hn,hd⟩:=HX.out;refine Yw ?_;intro HNX;cases hh;clear hn hd;obtain⟨_,_,hh,hn,hd⟩:=HY.out;refine Yd ?_;intro HNY;cases hh;clear hn hd;rcases hbx with hb1 | ⟨hb1,hb2⟩
 all_goals
  go_wp2_with fail
  refine Zf ?_;intro hHeld;refine zaA ?_;intro hb;refine YO ?_;clear x0 x1 x2 y0 y1 y2 HX HY HNX HNY;intro x0 x1 x2 y0 y1 y2 HX HY HNX HNY;refine ZE ?_;clear rz hz hB hb;intro rz hz hB;generalize wn.drew=wn at *;refine tkm [0,2] ?_;refine tk2 1 ak rfl λK hK=>?_
  go_simp;refine(mM _ _ _ x HX.out).mono ?_;rintro e wn ⟨vdx,rfl,hb,hu⟩;have HDX:=Ac (hu.mono (G:=(Ext (Old F w.heap.size) (w.heap.size+3))) (λb hb _=>hb.elim .inl λh=>.inr EN));clear hu;refine YO ?_;clear x0 x1 x2 y0 y1 y2 HX HY HNX HNY;intro x0 x1 x2 y0 y1 y2 HX HY HNX HNY;refine ZO ?_;clear rz hz hB hb hHeld hK K;intro rz hz hB hHeld;refine tk2 3 ak rfl λK hK=>?_
  go_simp;refine(mM _ _ _ y HY.out).mono ?_;rintro e wn ⟨vdy,rfl,hb,hu⟩;refine zbB ?_;intro HDY;clear hu;refine YO ?_;clear x0 x1 x2 y0 y1 y2 HX HY HNX HNY;intro x0 x1 x2 y0 y1 y2 HX HY HNX HNY;replace HDX:=Ac (HDX.out.below hb);refine ZO ?_;clear rz hz hB hb hHeld hK K;intro rz hz hB hHeld;refine tkm [4,5] ?_;refine Yf ?_;clear hHeld;go_wp2_with fail
  refine(su _ _ _ _ x.den y.den HDX.out HDY.out EN EN).mono ?_;rintro e wn ⟨vg,rfl,hb,hu⟩;rw[<-HGE.out] at hu;have HG:=Ac (hu.mono (G:=(Ext (Old F w.heap.size) (w.heap.size+3))) (λb hb _=>hb.elim id λh=>.inr EN));clear hu;refine Ze ?_;clear x0 x1 x2 y0 y1 y2 HX HY HNX HNY HDX HDY;intro x0 x1 x2 y0 y1 y2 HX HY HNX HNY HDX HDY;refine zaX ?_;clear rz hz hB hb;intro rz hz hB;go_wp2_with fail
  refine(nG _ _ _ _ x.den g HDX.out HG.out hg0 EN EN).mono ?_;rintro e wn ⟨vl,rfl,hb,hu⟩;rw[<-HLE.out] at hu;have HL:=Ac (hu.mono (G:=(Ext (Old F w.heap.size) (w.heap.size+3))) (λb hb _=>hb.elim id λh=>.inr EN));clear hu;refine Ze ?_;clear x0 x1 x2 y0 y1 y2 HX HY HNX HNY HDX HDY;intro x0 x1 x2 y0 y1 y2 HX HY HNX HNY HDX HDY;replace HG:=Ac (HG.out.below hb);refine zaX ?_;clear rz hz hB hb;intro rz hz hB;go_wp2_with fail
  refine(nG _ _ _ _ y.den g HDY.out HG.out hg0 EN EN).mono ?_;rintro e wn ⟨vr,rfl,hb,hu⟩;rw[<-HRE.out] at hu;have HR:=Ac (hu.mono (G:=(Ext (Old F w.heap.size) (w.heap.size+3))) (λb hb _=>hb.elim id λh=>.inr EN));clear hu;refine Ze ?_;clear x0 x1 x2 y0 y1 y2 HX HY HNX HNY HDX HDY;intro x0 x1 x2 y0 y1 y2 HX HY HNX HNY HDX HDY;replace HG:=Ac (HG.out.below hb);replace HL:=Ac (HL.out.below hb);refine zaX ?_;clear rz hz hB hb;intro rz hz hB;go_wp2_with fail
  refine Zf ?_;intro hHeld;refine zaA ?_;intro hb;refine Ze ?_;clear x0 x1 x2 y0 y1 y2 HX HY HNX HNY HDX HDY;intro x0 x1 x2 y0 y1 y2 HX HY HNX HNY HDX HDY;refine zc8 ?_;clear HG HL HR;intro HG HL HR;refine ZE ?_;clear rz hz hB hb;intro rz hz hB;generalize wn.drew=wn at *;refine tkm [0,1,2,3,4,6,7,8,9,10] ?_;refine tk2 5 ak rfl λK hK=>?_
  go_simp;refine(mG _ _ _ _ x.num.natAbs r HNX.out HR.out EN EN).mono ?_;rintro e wn ⟨vt1,rfl,hb,hu⟩;have HT1:=Ac (hu.mono (G:=(Ext (Old F w.heap.size) (w.heap.size+3))) (λb hb _=>hb.elim id λh=>.inr EN));clear hu;refine Ze ?_;clear x0 x1 x2 y0 y1 y2 HX HY HNX HNY HDX HDY;intro x0 x1 x2 y0 y1 y2 HX HY HNX HNY HDX HDY;refine zc8 ?_;clear HG HL HR;intro HG HL HR;refine ZO ?_;clear rz hz hB hb hHeld hK K;intro rz hz hB hHeld;refine tk2 11 ak rfl λK hK=>?_
  go_simp;refine(mG _ _ _ _ y.num.natAbs l HNY.out HL.out EN EN).mono ?_;rintro e wn ⟨vt2,rfl,hb,hu⟩;have HT2:=Ac (hu.mono (G:=(Ext (Old F w.heap.size) (w.heap.size+3))) (λb hb _=>hb.elim id λh=>.inr EN));clear hu;refine Ze ?_;clear x0 x1 x2 y0 y1 y2 HX HY HNX HNY HDX HDY;intro x0 x1 x2 y0 y1 y2 HX HY HNX HNY HDX HDY;refine zc8 ?_;clear HG HL HR;intro HG HL HR;replace HT1:=Ac (HT1.out.below hb);refine ZO ?_;clear rz hz hB hb hHeld hK K;intro rz hz hB hHeld;refine tk2 12 ak rfl λK hK=>?_
  go_simp;refine(abj _ _ (dI x) (dI y) _ _ (x.num.natAbs*r) (y.num.natAbs*l) HT1.out HT2.out EN EN).mono ?_;rintro e wn ⟨_,rfl,hb,neg,vt,rfl,hu,hs⟩;rw[DJ.out] at hu hs;have HT:=Ac (hu.mono (G:=(Ext (Old F w.heap.size) (w.heap.size+3))) (λb hb _=>.inr EN));have HNE:=Ac hs;clear hs;have hvt:∃ At ct,vt = FQ At (dig t.natAbs).length ct:=by obtain⟨At,ct,h,_⟩:=hu;exact⟨At,ct,h⟩
  obtain⟨At,ct,rfl⟩:=hvt;clear hu;refine Ze ?_;clear x0 x1 x2 y0 y1 y2 HX HY HNX HNY HDX HDY;intro x0 x1 x2 y0 y1 y2 HX HY HNX HNY HDX HDY;refine zc8 ?_;clear HG HL HR;intro HG HL HR;replace HT1:=Ac (HT1.out.below hb);replace HT2:=Ac (HT2.out.below hb);refine ZO ?_;clear rz hz hB hb hHeld hK K;intro rz hz hB hHeld;refine tkm [13,14,15,16,17] ?_;refine Yf ?_;clear hHeld;by_cases ht0:t=0
  ·have hl0:(((dig t.natAbs).length:Int)==0)=true:=by rw[ht0];simp[bD]
   have HZ:=Ac (show x+y=0 by refine(lF _).1 ?_; rw[HAP.out.1,ht0]; simp);clear ht0;refine Zk ?_;intro q0 y0 q1 y1 q2 y2;go_wp2
   refine za8 ?_;clear q0 q1 q2 y0 y1 y2;intro Wz hrz hwz hkz;intro t0 t1 t2;refine bodyPost_ret (v:=.agg #[Gj false,FQ none 0 0,FQ none 0 0]) (by simp[results,JZ,go_sem,t0,t1,t2]) rfl ?_;exact zbY
  ·have hl0:(((dig t.natAbs).length:Int)==0)=false:=by have:=(bg (n:=t.natAbs)).2 EN;exact beq_false_of_ne EN
   have HNG:=Ac (show neg=dI (x+y) by rw[HAP.out.2.2,HNE.out]; exact(xk EN).symm);clear ht0;clear x0 x1 x2 y0 y1 y2;go_wp2_with fail
   refine(su _ _ _ _ t.natAbs g HT.out HG.out EN EN).mono ?_;rintro e wn ⟨vf,rfl,hb,hu⟩;rw[<-HFE.out] at hu;have HF:=Ac (hu.mono (G:=(Ext (Old F w.heap.size) (w.heap.size+3))) (λb hb _=>hb.elim id λh=>.inr EN));clear hu;refine ZA ?_;clear HX HY HNX HNY HDX HDY HG HL HR HT1 HT2 HT;intro HX HY HNX HNY HDX HDY HG HL HR HT1 HT2 HT;refine zaX ?_;clear rz hz hB hb;intro rz hz hB;go_wp2_with fail
   refine(nG _ _ _ _ t.natAbs f HT.out HF.out hf0 EN EN).mono ?_;rintro e wn ⟨vp,rfl,hb,hu⟩;rw[<-HAP.out.1] at hu;have HP:=Ac (hu.mono (G:=(Ext (Old F w.heap.size) (w.heap.size+3))) (λb hb _=>hb.elim id λh=>.inr EN));clear hu;refine ZA ?_;clear HX HY HNX HNY HDX HDY HG HL HR HT1 HT2 HT;intro HX HY HNX HNY HDX HDY HG HL HR HT1 HT2 HT;replace HF:=Ac (HF.out.below hb);refine zaX ?_;clear rz hz hB hb;intro rz hz hB;go_wp2_with fail
   refine(nG _ _ _ _ y.den f HDY.out HF.out hf0 EN EN).mono ?_;rintro e wn ⟨vq,rfl,hb,hu⟩;have HQ:=Ac (hu.mono (G:=(Ext (Old F w.heap.size) (w.heap.size+3))) (λb hb _=>hb.elim id λh=>.inr EN));clear hu;refine ZA ?_;clear HX HY HNX HNY HDX HDY HG HL HR HT1 HT2 HT;intro HX HY HNX HNY HDX HDY HG HL HR HT1 HT2 HT;replace HF:=Ac (HF.out.below hb);replace HP:=Ac (HP.out.below hb);refine zaX ?_;clear rz hz hB hb;intro rz hz hB;go_wp2_with fail
   refine(mG _ _ _ _ l (y.den / f) HL.out HQ.out EN EN).mono ?_;rintro e wn ⟨vd,rfl,hb,hu⟩;rw[<-HAP.out.2.1] at hu;have HD:=Ac (hu.mono (G:=(Ext (Old F w.heap.size) (w.heap.size+3))) (λb hb _=>hb.elim id λh=>.inr EN));clear hu;refine ZA ?_;clear HX HY HNX HNY HDX HDY HG HL HR HT1 HT2 HT;intro HX HY HNX HNY HDX HDY HG HL HR HT1 HT2 HT;replace HF:=Ac (HF.out.below hb);replace HP:=Ac (HP.out.below hb);replace HQ:=Ac (HQ.out.below hb);refine zaX ?_;clear rz hz hB hb;intro rz hz hB;go_wp2_with fail
   refine(tX _ _ _ _ _ (x+y).num.natAbs (x+y).den (dig (x+y).den) HP.out HD.out (.inl rfl) (x+y).den_nz (jQ _) EN).mono ?_;rintro e wn ⟨vm,rfl,hb,hu⟩;rw[HNG.out,yF] at hu;have HM:=Ac hu;obtain⟨Am,cm,Bm,dm,rfl,hn,hd⟩:=hu.open;clear hn hd hu;refine ZA ?_;clear HX HY HNX HNY HDX HDY HG HL HR HT1 HT2 HT;intro HX HY HNX HNY HDX HDY HG HL HR HT1 HT2 HT;replace HF:=Ac (HF.out.below hb);replace HP:=Ac (HP.out.below hb);replace HQ:=Ac (HQ.out.below hb);replace HD:=Ac (HD.out.below hb);refine zaX ?_;clear rz hz hB hb;intro rz hz hB;refine Zk ?_;intro q0 y0 q1 y1 q2 y2;go_wp2
   obtain⟨Wz,hWz,hrz,hwz,hkz⟩:=bG rz (Gj (aB (x+y)).neg) (FQ Am (aB (x+y)).num.length cm) (FQ Bm (aB (x+y)).den.length dm);refine Zh ?_;clear hWz q0 q1 q2 y0 y1 y2;intro t0 t1 t2;refine bodyPost_ret (v:=.agg #[Gj (aB (x+y)).neg,FQ Am (aB (x+y)).num.length cm,FQ Bm (aB (x+y)).den.length dm]) (by simp[results,JZ,go_sem,t0,t1,t2]) rfl ?_;exact Zq
theorem agn (w:FW) (F:FI) (va vb:F7) (x y:Rat) (ha:NmV w F va x) (hb:NmV w F vb y) (hlx:rl x<=20000) (hly:rl y<=20000) :
  Calls FY 108 #[va,vb] w (Ret w λv w'=>NmV w' (Ext F w.heap.size) v (x+y)):=by
 by_cases hx0:x=0
 ·exact an3 w F va vb x y ha hb hlx hly hx0
 by_cases hy0:y=0
 ·exact an4 w F va vb x y ha hb hlx hly hx0 hy0
 by_cases hxd:x.den=1
 ·by_cases hyd:y.den=1
  ·exact ahM w F va vb x y ha hb hlx hly hx0 hy0 hxd hyd
  ·exact ad8 w F va vb x y ha hb hlx hly hx0 hy0 (.inr ⟨hxd,hyd⟩)
 ·exact ad8 w F va vb x y ha hb hlx hly hx0 hy0 (.inl hxd)
def zQ:F7->Option Nat
 | .slice (some a) _ _=>some a.block
 | .pointer (some a)=>some a.block
 | _=>none
def upd (e:Nat->F7) (j:Nat) (v:F7):Nat->F7:=λk=>if k=j then v else e k
theorem agp {e:Nat->F7} {u v:F7} (h:i≠j):upd (upd e i u) j v=upd (upd e j v) i u:=by
 funext k
 unfold upd;split <;> split <;> simp_all
structure Says where
 uses:Nat->List Nat
 F:Nat->List F7->Hold
 cu:List Nat
 G:Nat->List F7->FW->FW->Prop
 mks:List Nat
def Says.R (s:Says) (i:Nat) (e:Nat->F7) (w:FW):Prop:=(s.F i ((i :: s.uses i).map e)).p w
def Says.T (s:Says) (j:Nat) (e:Nat->F7) (w w':FW):Prop:=bif s.cu.contains j then s.G j ((j :: s.uses j).map e) w w' else Below w.heap.size w w'
def Says.Apart (s:Says) (E:List Nat) (e:Nat->F7):Prop:=∀ p∈E,∀ q∈E,p∈s.mks->q∈s.mks->p≠q->∀ b,zQ (e p)=some b->zQ (e q)≠some b
theorem ajd {l:List Nat} {e:Nat->F7} {v:F7} (h:j ∉ l):l.map (upd e j v)=l.map e :=
 Jo λk hk=>L6 (by rintro rfl; exact h hk)
theorem Says.DT (s:Says) {e:Nat->F7} {v:F7} {w:FW} (h:j ∉ i :: s.uses i):s.R i (upd e j v) w↔s.R i e w:=by unfold Says.R; rw[ajd h]
theorem Says.E8 (s:Says) {e:Nat->F7} {v:F7} {w w':FW} (h:j ∉ i :: s.uses i):s.T i (upd e j v) w w'↔s.T i e w w':=by unfold Says.T; rw[ajd h]
section
variable {P:Program} {ops:Array Oper} {Q:Exit->Act->FW->Prop} {S:Hold} {s:Says}
def CV (s:Says) (e:Nat->F7) (w:FW) (i:Nat) (u:F7) (w':FW):Prop:=s.T i (upd e i u) w w'/\s.R i (upd e i u) w'/\(i∈s.mks->∀ b,zQ u=some b->w.heap.size<=b)
def ED (P:Program) (ops:Array Oper) (s:Says) (i:Nat) (e:Nat->F7) (a:Act) (w:FW):Prop:=Step P ops (λ_ _=>True) (CV s e w) i a w
def AY (P:Program) (ops:Array Oper) (Q:Exit->Act->FW->Prop) (S:Hold) (s:Says):List Nat->List Nat->(Nat->F7)->Act->Prop
 | [],E,e,a=>∀ w,S.p w->(∀ i∈E,s.R i e w)->s.Apart E e->Q .normal a w
 | j :: js,E,e,a=>(∀ w,S.p w->(∀ i∈E,dep .any ops j i=true->s.R i e w)->ED P ops s j e a w)/\∀ v,AY P ops Q S s js (j :: E) (upd e j v) (a.put (jg ops j) v)
theorem Step.weak {T:FW->FW->Prop} {R R':Nat->F7->FW->Prop} {w:FW} (h:Step P ops T R i a w) (f:∀ u w',R i u w'->R' i u w'):Step P ops T R' i a w :=
 λo ho K hK=>h o ho K λu w' ht hr=>hK u w' ht (f u w' hr)
theorem CV.upd {e:Nat->F7} {w w':FW} {u v:F7} (hij:i≠j) (h:j ∉ i :: s.uses i):CV s (upd e j v) w i u w'↔CV s e w i u w':=by
 unfold CV;rw[<-agp (e:=e) (u:=u) (v:=v) hij,s.E8 h,s.DT h]
theorem AY.perm:∀ {js E E':List Nat} {e:Nat->F7} {a:Act},(∀ p,p∈E'↔p∈E)->AY P ops Q S s js E e a->AY P ops Q S s js E' e a
 | [],_,_,_,_,h,H=>λw hS hf hA=>H w hS (λp hp=>hf p ((h p).2 hp)) (λp hp q hq=>hA p ((h p).2 hp) q ((h q).2 hq))
 | j :: js,_,_,_,_,h,H=>⟨λw hS hf=>H.1 w hS (λp hp hd=>hf p ((h p).2 hp) hd),λv=>AY.perm (λp=>by simp[h p]) (H.2 v)⟩
def alN (ops:Array Oper):Bool:=(Ir ops.size).all λi=>match ops[i]? with
 | some o=>o.after.all λe=>!Region.binds .any e||decide (e.on < i)
 | none=>true
theorem ahN {ops:Array Oper} (hs:listed.size=ops.size) (hb:alN ops=true) (hr:G7 .any ops listed = []):∀ i,i < ops.size->listed.getD i true=true:=by
 intro i;induction i using Nat.strongRecOn with
 | _ i ih =>
  intro hi;by_cases hl:listed.getD i true=false
  ·exfalso
   have:i∈G7 .any ops listed:=by
    rw[mem_ready];refine⟨hl,ops[i],by simp[hi],λe he hbe=>?_⟩;have h:=List.all_eq_true.1 hb i (List.mem_range.2 hi);rw[show ops[i]? = some ops[i] by simp[hi]] at h;have h1:=Array.all_eq_true'.1 h e he;rw[hbe] at h1;have hlt:e.on < i:=by simpa using h1
    have h2:=ih e.on hlt EN;have h3:e.on < listed.size:=EN;simp[h3] at h2 ⊢;exact h2
   rw[hr] at this;cases this
  ·simpa using hl
def anK (ops:Array Oper) (listed:Array Bool) (js:List Nat) (fuel:Nat):Bool :=
 Jm ops&&alN ops&&oO .any ops js&&decide (js.length<=fuel)&&js.all (λj=>decide (j < ops.size))&&decide (js.Nodup)&&decide (listed.size=ops.size)&&(Ir ops.size).all (λj=>js.contains j == !listed.getD j true)
structure Du (ops:Array Oper) (s:Says) (js E:List Nat):Prop where
 apart:∀ k∈E,k ∉ js
 dep:∀ k∈E,∀ j∈js,dep .any ops k j=false
 uses:∀ k,k∈E\/k∈js->∀ x∈s.uses k,Go.Proofs.YtnmeejofpkhlkaaGreatDoor.dep .any ops k x=true
 there:∀ k∈js,∀ x∈s.uses k,x∈E\/x∈js
theorem Du.cons {j:Nat} {js E:List Nat} (h:Du ops s (j :: js) E) (hok:∀ i∈js,far .any ops j i=true) (hnd:j ∉ js):Du ops s js (j :: E):=by
 refine⟨λk hk hkj=>?_,λk hk i hi=>?_,λk hk=>?_,λk hk x hx=>?_⟩
 ·rcases List.mem_cons.1 hk with rfl | hk
  ·exact hnd hkj
  ·exact h.apart k hk (GI _ hkj)
 ·rcases List.mem_cons.1 hk with rfl | hk
  ·exact ad7 (hok i hi)
  ·exact h.dep k hk i (GI _ hi)
 ·refine h.uses k ?_;rcases hk with hk | hk
  ·rcases List.mem_cons.1 hk with rfl | hk
   ·exact .inr aF
   ·exact .inl hk
  ·exact .inr (GI _ hk)
 ·rcases h.there k (GI _ hk) x hx with h1 | h1
  ·exact .inl (GI _ h1)
  ·rcases List.mem_cons.1 h1 with rfl | h1
   ·exact .inl aF
   ·exact .inr h1
theorem AY.pull (hn:Jm ops=true) {i:Nat}:∀ {js E:List Nat} {e:Nat->F7} {a:Act},(∀ j∈js,j < ops.size)->oO .any ops js=true->js.Nodup->i∈js->(∀ j∈js,dep .any ops i j=false)->Du ops s js E->AY P ops Q S s js E e a ->
  (∀ w,S.p w->(∀ k∈E,dep .any ops i k=true->s.R k e w)->ED P ops s i e a w)/\∀ u,AY P ops Q S s (js.erase i) (i :: E) (upd e i u) (a.put (jg ops i) u)
 | [],_,_,_,_,_,_,hi,_,_,_=>by cases hi
 | j :: js,E,e,a,hlt,hok,hnd,hi,xQ,hD,H=>by
  by_cases hji:j=i
  ·subst hji;rw[LV];exact H
  ·have hi':i∈js:=by
    rcases List.mem_cons.1 hi with h | h
    ·exact absurd h.symm hji
    ·exact h
   simp only[oO,GN,Jc] at hok;refine zcy ?_;intro am6 x hx y hy f1 f2 f3 f3' ex ey;have hji':j ∉ i :: s.uses i:=λh=>by
    rcases List.mem_cons.1 h with h | h
    ·exact hji h
    ·have h1:=hD.uses i (.inr hi) j h;rw[xQ j aF] at h1;cases h1
   have hij':i ∉ j :: s.uses j:=λh=>by
    rcases List.mem_cons.1 h with h | h
    ·exact hji h.symm
    ·have h1:=hD.uses j (.inr aF) i h;rw[ad7 am6] at h1;cases h1
   have hkE:∀ z∈j :: js,∀ k∈E,z ∉ k :: s.uses k:=λz hz k hk h=>by
    rcases List.mem_cons.1 h with h | h
    ·subst h;exact hD.apart _ hk hz
    ·have h1:=hD.uses k (.inl hk) z h;rw[hD.dep k hk z hz] at h1;cases h1
   have IH:=λv=>AY.pull hn (i:=i) (js:=js) (E:=j :: E) (e:=upd e j v) (a:=a.put (jg ops j) v) (λk hk=>hlt k (GI _ hk)) hok.2 (List.nodup_cons.1 hnd).2 hi' (λk hk=>xQ k (GI _ hk)) (hD.cons hok.1 (List.nodup_cons.1 hnd).1) (H.2 v)
   refine⟨λw hS hf=>?_,λu=>?_⟩
   ·have h1:=(IH undef).1 w hS (λk hk hd=>by
     rcases List.mem_cons.1 hk with h | h
     ·subst h;rw[xQ k aF] at hd;cases hd
     ·exact(s.DT (hkE j aF k h)).2 (hf k h hd))
    refine Step.weak (Step.anJ h1 hn (λo ho d hd=>?_)) (λu w' h=>(CV.upd (λh=>hji h.symm) hji').1 h);rw[hy] at ho;cases ho;rw[ex] at hd;exact f3' d hd
   ·rw[List.erase_cons_tail (by simpa using hji)];refine⟨λw hS hf=>?_,λv=>?_⟩
    ·have h1:=H.1 w hS (λk hk hd=>(s.DT (hkE i hi k hk)).1 (hf k (GI _ hk) hd));refine Step.weak (Step.put h1 hn (λo ho d hd=>?_)) (λu w' h=>(CV.upd hji hij').2 h);rw[hx] at ho;cases ho;rw[ey] at hd;exact f1 d hd
    ·have h1:=(IH v).2 u;have e1:(a.put (jg ops i) u).put (jg ops j) v=(a.put (jg ops j) v).put (jg ops i) u:=by
      rw[ex,ey];exact Act.put_comm a u v f2
     rw[e1,agp (λh=>hji h.symm)];exact zdg
theorem adw (hn:Jm ops=true) (hb:alN ops=true) (hM:∀ k∈s.mks,∀ e w,s.R k e w->∀ b,zQ (e k)=some b->b < w.heap.size)
  {js0:List Nat} (hC:∀ j∈s.cu,∀ E e w w',(∀ k∈E,k∈js0)->(∀ k∈s.uses j,k∈E)->j ∉ E->(∀ i∈E,s.R i e w)->s.Apart E e->S.p w->s.G j ((j :: s.uses j).map e) w w'->S.p w'/\∀ i∈E,s.R i e w') :
  ∀ (n:Nat) (fuel:Nat) (js E:List Nat) (e:Nat->F7) (listed:Array Bool) (a:Act) (w:FW),js.length=n->n<=fuel->(∀ j∈js,j < ops.size)->oO .any ops js=true->js.Nodup->(∀ k,k∈E\/k∈js->k∈js0)->Du ops s js E ->
   (∀ j,j < ops.size->(j∈js↔listed.getD j true=false))->listed.size=ops.size->AY P ops Q S s js E e a->S.p w->(∀ i∈E,s.R i e w)->s.Apart E e->wpAnyH P .any ops Q S.p fuel listed a w:=by
 intro n;induction n with
 | zero =>
  intro fuel js E e listed a w hl _ hlt _ _ _ _ hun hsz H hS hf hA;obtain rfl:=List.eq_nil_of_length_eq_zero hl;refine wpAnyH_done ?_ (H w hS hf hA) fuel;cases hr:G7 .any ops listed with
  | nil=>rfl
  | cons i rs =>
   have hi:i∈G7 .any ops listed:=by rw[hr];simp
   obtain⟨h1,o,ho,_⟩:=mem_ready.1 hi;have:=(hun i (Array.getElem?_eq_some_iff.1 ho).1).2 h1;cases this
 | succ n ih =>
  intro fuel js E e listed a w hl hfu hlt hok hnd h0 hD hun hsz H hS hf hA;cases fuel with
  | zero=>omega
  | succ fuel =>
   by_cases hr0:G7 .any ops listed = []
   ·exfalso
    have hall:=ahN hsz hb hr0;cases js with
    | nil=>simp at hl
    | cons j js =>
     have hjl:=hlt j aF;have h3:=(hun j hjl).1 aF;have h2:=hall j hjl;have hjs:j < listed.size:=EN;rw[h2] at h3;cases h3
   refine wpAnyH_all rfl hr0 λi hi=>?_
   obtain⟨h1,o,ho,hall⟩:=mem_ready.1 hi;have hil:=(Array.getElem?_eq_some_iff.1 ho).1;have hij:=(hun i hil).2 h1;have xQ:∀ j∈js,dep .any ops i j=false:=by
    intro j hj;unfold dep;rw[ho];simp only;rw[Bool.eq_false_iff];intro he;obtain⟨x,hem,hb⟩:=Array.any_eq_true'.1 he;simp only[GN,beq_iff_eq] at hb;have h2:=hall x hem hb.1;rw[hb.2] at h2;have h3:=(hun j (hlt j hj)).1 hj;have hjs:j < listed.size:=by rw[hsz];exact hlt j hj
    simp[Gw,hjs] at h2 h3;rw[h2] at h3;cases h3
   obtain⟨p1,p2⟩:=AY.pull hn hlt hok hnd hij xQ hD H;have hiE:i ∉ E:=λh=>hD.apart i h hij
   refine Step.wpOp ho (p1 w hS (λk hk _=>hf k hk)) (λu w' _ hR0=>?_);obtain⟨hT,hR,hF⟩:=hR0;have hf1:∀ k∈E,s.R k (upd e i u) w:=λk hk=>(s.DT λh=>by
    rcases List.mem_cons.1 h with h | h
    ·subst h;exact hiE hk
    ·have h1:=hD.uses k (.inl hk) i h;rw[hD.dep k hk i hij] at h1; cases h1).2 (hf k hk)
   have hne:∀ k∈E,(upd e i u) k=e k:=λk hk=>L6 (by rintro rfl; exact hiE hk)
   have hA1:s.Apart E (upd e i u):=λp hp q hq a1 a2 a3 b=>by rw[hne p hp,hne q hq];exact hA p hp q hq a1 a2 a3 b
   have hnext:S.p w'/\∀ k∈E,s.R k (upd e i u) w':=by
    unfold Says.T at hT;cases hcu:s.cu.contains i with
    | true =>
     rw[hcu,cond_true] at hT;refine hC i (by simpa using hcu) E (upd e i u) w w' (λk hk=>h0 k (.inl hk)) (λk hk=>?_) hiE hf1 hA1 hS hT;rcases hD.there i hij k hk with h | h
     ·exact h
     ·have h1:=hD.uses i (.inr hij) k hk;rw[xQ k h] at h1;cases h1
    | false =>
     rw[hcu,cond_false] at hT;exact⟨S.keep w w' hS hT,λk hk=>Hold.keep _ w w' (hf1 k hk) hT⟩
   have hd:jg ops i=o.dst:=by simp[jg,ho]
   rw[<-hd];refine⟨hnext.1,ih fuel (js.erase i) (i :: E) (upd e i u) _ _ w' (by rw[List.length_erase_of_mem hij,hl]; rfl) EN (λj hj=>hlt j (IC hj)) ?_ (hnd.erase i) (λk hk=>h0 k (hk.elim (λh=>(List.mem_cons.1 h).elim (λh=>.inr (h▸hij)) .inl) λh=>.inr (IC h))) ?_ ?_ (by simp[hsz]) (p2 u) hnext.1 ?_ ?_⟩
   ·clear hl hlt hnd hun H hij xQ p1 p2 hD hiE h0;induction js with
    | nil=>exact hok
    | cons j js ih =>
     simp only[oO,GN,Jc] at hok;by_cases hji:j=i
     ·subst hji;rw[LV];exact hok.2
     ·exact zbH
   ·refine⟨λk hk hkj=>?_,λk hk j hj=>?_,λk hk=>?_,λk hk x hx=>?_⟩
    ·rcases List.mem_cons.1 hk with rfl | hk
     ·exact(hnd.mem_erase_iff.1 hkj).1 rfl
     ·exact hD.apart k hk (IC hkj)
    ·rcases List.mem_cons.1 hk with rfl | hk
     ·exact xQ j (IC hj)
     ·exact hD.dep k hk j (IC hj)
    ·refine hD.uses k ?_;rcases hk with hk | hk
     ·rcases List.mem_cons.1 hk with rfl | hk
      ·exact .inr hij
      ·exact .inl hk
     ·exact .inr (IC hk)
    ·by_cases hxi:x=i
     ·subst hxi;exact .inl aF
     ·rcases hD.there k (IC hk) x hx with h | h
      ·exact .inl (GI _ h)
      ·exact .inr (hnd.mem_erase_iff.2 ⟨hxi,h⟩)
   ·intro j hj;rw[hnd.mem_erase_iff];by_cases hji:j=i
    ·subst hji;simp only[ne_eq,not_true_eq_false,false_and,false_iff];have:j < listed.size:=by rw[hsz];exact hj
     simp[Gw,this]
    ·rw[Go.getD_set_ne true (Ne.symm hji)];simp[hji,hun j hj]
   ·intro k hk;rcases List.mem_cons.1 hk with rfl | hk
    ·exact hR
    ·exact hnext.2 k hk
   ·have hii:(upd e i u) i=u:=L8 rfl;intro p hp q hq g1 g2 hpq b hb;rcases List.mem_cons.1 hp with h | hp'
    ·rcases List.mem_cons.1 hq with h' | hq'
     ·exact absurd (h.trans h'.symm) hpq
     ·intro hc;rw[h,hii] at hb;have e1:=hF (h▸g1) b hb;have e2:=hM _ g2 _ _ (hf1 q hq') b hc;omega
    ·rcases List.mem_cons.1 hq with h' | hq'
     ·intro hc;rw[h',hii] at hc;have e1:=hF (h'▸g2) b hc;have e2:=hM _ g1 _ _ (hf1 p hp') b hb;omega
     ·exact hA1 p hp' q hq' g1 g2 hpq b hb
def useB (ops:Array Oper) (s:Says) (js:List Nat):Bool:=js.all λi=>(s.uses i).all λk=>dep .any ops i k&&js.contains k
theorem ae2 {w:FW} {S':FW->Prop} (S:Hold) (s:Says) (hok:anK ops listed js fuel=true) (hus:useB ops s js=true) (hS:S.p w) (hSS:∀ w,S.p w->S' w)
  (hM:∀ k∈s.mks,∀ e w,s.R k e w->∀ b,zQ (e k)=some b->b < w.heap.size)
  (hC:∀ j∈s.cu,∀ E e w w',(∀ k∈E,k∈js)->(∀ k∈s.uses j,k∈E)->j ∉ E->(∀ i∈E,s.R i e w)->s.Apart E e->S.p w->s.G j ((j :: s.uses j).map e) w w'->S.p w'/\∀ i∈E,s.R i e w')
  (h:AY P ops Q S s js [] (λ_=>undef) a):wpAnyH P .any ops Q S' fuel listed a w:=by
 simp only[anK,GN,Jc,decide_eq_true_eq,List.mem_range,beq_iff_eq] at hok;obtain⟨⟨⟨⟨⟨⟨⟨h1,h2⟩,h3⟩,h4⟩,h5⟩,h6⟩,h7⟩,h8⟩:=hok;simp only[useB,Jc,GN,List.contains_iff_mem] at hus;exact sF hSS (adw h1 h2 hM hC js.length fuel js [] _ listed a w rfl h4 h5 h3 h6 (λk hk=>hk.resolve_left aF)
  ⟨λk hk=>(by cases hk),λk hk=>(by cases hk),λk hk x hx=>(hus k (hk.resolve_left aF) x hx).1,λk hk x hx=>.inr (hus k hk x hx).2⟩
  (λj hj=>by
   have:=h8 j hj;rw[<-List.contains_iff_mem,this];cases listed.getD j true <;> simp) h7 h hS (λp hp=>by cases hp) (λp hp=>by cases hp))
theorem AY.cons {j:Nat} {js E:List Nat} {e:Nat->F7} {a:Act} {o:Oper} (ho:ops[j]? = some o)
  (h1:∀ w,S.p w->(∀ i∈E,dep .any ops j i=true->s.R i e w)->∀ K:Act->FW->Prop,Shut (∀ u w',CV s e w j u w'->K (a.put o.dst u) w')->if Region.wanted o (yielded ops a.tmps)=true then Oper.wp P o a w K (λ_ _ _=>False) else K (a.put o.dst undef) w)
  (h2:∀ v,AY P ops Q S s js (j :: E) (upd e j v) (a.put o.dst v)):AY P ops Q S s (j :: js) E e a:=by
 refine⟨λw hS hf o' ho' K hK=>?_,λv=>?_⟩
 ·rw[ho] at ho';cases ho';exact h1 w hS hf K (λu w' h=>hK u w' trivial h)
 ·have:jg ops j=o.dst:=by simp[jg,ho]
  rw[this];exact h2 v
theorem AY.nil {e:Nat->F7} (h:∀ w,S.p w->(∀ i∈E,s.R i e w)->s.Apart E e->Q .normal a w):AY P ops Q S s [] E e a:=h
theorem ifA {c:Bool} {p q:Prop} (h:c=true) (hp:p):if c=true then p else q:=by rw[L8 h]; exact hp
def Hold.made (B:Nat) (t:TypeId) (n:Nat) (l:List F7) (v:F7):Hold:=⟨λw=>∃ b,v = FQ (some ⟨b,0,none⟩) n n/\B<=b/\Row w b t l,λ_ _ h hb=>let ⟨b,h1,h2,h3⟩:=h; ⟨b,h1,h2,h3.below hb h3.lt⟩⟩
def Hold.tt:Hold:=⟨λ_=>True,λ_ _ _ _=>trivial⟩
def Hold.eq (u v:F7):Hold:=⟨λ_=>v=u,λ_ _ h _=>h⟩
theorem ae3 {l:List F7} {v:F7} {w:FW} (h:(Hold.made B t n l v).p w) (b:Nat) (hb:zQ v=some b):b < w.heap.size:=by
 obtain⟨c,rfl,_,h⟩:=h;cases hb;exact h.lt
theorem yS {x:Nat} {l:List F7} {u v:F7} {w:FW} (hx:x < B) (h:(Hold.made B t n l v).p w):(Hold.made B t n l v).p (w.setCell ⟨x,k,none⟩ u):=by
 obtain⟨c,h1,h2,h3⟩:=h;exact⟨c,h1,h2,h3.other (a:=⟨x,k,none⟩) (show c≠x by omega) _⟩
theorem ahO {s:Says} {e:Nat->F7} (h:s.Apart E e) {c:Nat} (hi:i∈E) (hk:k∈E) (mi:i∈s.mks) (mk':k∈s.mks) (hne:i≠k) (hu:zQ (e i)=some b) (hv:zQ (e k)=some c):b≠c:=by
 rintro rfl;exact h _ hi _ hk mi mk' hne b hu hv
end
def iE (x:Rat):Int:=if 1024 < rl x then 5 else 0
def bV (x:Rat):Raw:=if 1024 < rl x then ⟨false,[],[]⟩ else au x
theorem zS (x:Rat):(aB x).den.length<=(dig x.den).length:=by
 unfold aB;split <;> simp
theorem Ah.zero (w:FW) (F:FI) (A B:Option Addr) (c d:Nat):Ah w F (.agg #[Gj false,FQ A 0 c,FQ B 0 d]) ⟨false,[],[]⟩:=JL rfl (iT _ _ _ _) (iT _ _ _ _)
theorem aj7 (w:FW) (F:FI) (va:F7) (x:Rat) (ha:NmV w F va x) (hl:rl x<=100000) (hov:1024 < rl x) :
  Calls FY 86 #[va] w (Ret w λv w'=>∃ u,v = .tuple #[u,F6 F5 (iE x)]/\Ah w' (λb=>w.heap.size<=b) u (bV x)):=by
 have HO:=Ac (show iE x=5 by unfold iE; rw[L8 hov]);have HR:=Ac (show bV x=⟨false,[],[]⟩ by unfold bV; rw[L8 hov]);have hor:(1024 < (aB x).num.length)\/((aB x).num.length<=1024/\1024 < (aB x).den.length):=by
  rw[oN];by_cases h:1024 < (dig x.num.natAbs).length
  ·exact .inl h
  ·refine .inr ⟨EN,?_⟩;have h2:1024 < (dig x.den).length:=by unfold rl at hov;omega
   rw[qY (by intro e; rw[e,iL] at h2; simp at h2)];exact h2
 clear hov;rcases hor with h1 | ⟨h1,h2⟩
 ·have d1:decide ((1024:Int) < ((aB x).num.length:Int))=true:=aG;have HX:=Ac ha.old;obtain⟨A,c,B,d,rfl,hn,hd⟩:=ha.open;clear hn hd ha;go_in;go_wp2_with fail
  refine ZN ?_;clear HX;intro W rx rz hB hz HX;refine za7 ?_;intro hz x0 x1 x2;clear rx;have t0:=rz.cell (i:=0) rfl;have y0:=rz.frozen 0;have t1:=rz.cell (i:=1) rfl;have y1:=rz.frozen 1;have t2:=rz.cell (i:=2) rfl;have y2:=rz.frozen 2;go_wp2
  refine bodyPost_ret (v:=.tuple #[.agg #[Gj false,FQ none 0 0,FQ none 0 0],F6 F5 5]) (by simp[results,KU,go_sem,t0,t1,t2]) rfl ?_;exact⟨_,rfl,hB,_,by rw[HO.out],by rw[HR.out]; exact Ah.zero _ _ _ _ _ _⟩
 ·have d1:decide ((1024:Int) < ((aB x).num.length:Int))=false:=aG;have d2:decide ((1024:Int) < ((aB x).den.length:Int))=true:=aG;have HX:=Ac ha.old;obtain⟨A,c,B,d,rfl,hn,hd⟩:=ha.open;clear hn hd ha;go_in;go_wp2_with fail
  refine ZN ?_;clear HX;intro W rx rz hB hz HX;refine za7 ?_;intro hz x0 x1 x2;clear rx;have t0:=rz.cell (i:=0) rfl;have y0:=rz.frozen 0;have t1:=rz.cell (i:=1) rfl;have y1:=rz.frozen 1;have t2:=rz.cell (i:=2) rfl;have y2:=rz.frozen 2;go_wp2
  refine bodyPost_ret (v:=.tuple #[.agg #[Gj false,FQ none 0 0,FQ none 0 0],F6 F5 5]) (by simp[results,KU,go_sem,t0,t1,t2]) rfl ?_;exact⟨_,rfl,hB,_,by rw[HO.out],by rw[HR.out]; exact Ah.zero _ _ _ _ _ _⟩
theorem ahP (w:FW) (F:FI) (va:F7) (x:Rat) (ha:NmV w F va x) (hl:rl x<=100000) (hov:rl x<=1024) (hd1:x.den=1) :
  Calls FY 86 #[va] w (Ret w λv w'=>∃ u,v = .tuple #[u,F6 F5 (iE x)]/\Ah w' (λb=>w.heap.size<=b) u (bV x)):=by
 have HO:=Ac (show iE x=0 by unfold iE; rw[L6 EN]);have HR:=Ac (show bV x=au x by unfold bV; rw[L6 EN]);have l1:=gy x;have l2:=gB x;have l3:=zS x;have h1:(aB x).num.length<=1024:=by rw[oN];omega
 refine zdz ?_;intro h2 d1 d2;have h3:(((aB x).den.length:Int)==0)=true:=by rw[pR hd1];rfl
 have HD1:=Ac hd1;clear hd1 l3;have HX:=Ac ha.old;obtain⟨A,c,B,d,rfl,hn,hd⟩:=ha.open;clear hn hd ha;go_in;go_wp2_with fail
 refine ZN ?_;clear HX;intro W rx rz hB hz HX;refine za7 ?_;intro hz x0 x1 x2;clear rx;obtain⟨_,_,hh,hn,hd⟩:=HX.out;have HNX:=Ac (Ae.mono (n:=x.num.natAbs) (G:=Old F w.heap.size) hn (λb hb _=>hb));cases hh;clear hn hd;refine aW (λw'=>w'.cell? ⟨w.heap.size,0,none⟩=some (Gj (aB x).neg)/\w'.cell? ⟨w.heap.size,1,none⟩=some (FQ A (aB x).num.length c)/\w'.cell? ⟨w.heap.size,2,none⟩=some (FQ B (aB x).den.length d)) 7 2 ak rfl ak ?_;refine zau ?_;intro hHeld hb;clear x0 x1 x2;intro x0 x1 x2;replace HX:=Ac (HX.out.below hb);replace HNX:=Ac (HNX.out.below hb);refine ZE ?_;clear rz hz hB hb;intro rz hz hB;generalize W.drew=wn at *;refine tkm [0,1,2,3] ?_;have hB0:=hB;refine og (js:=[4,5,6]) ((Hold.cell (w.heap.size) 0 (Gj (aB x).neg)).and ((Hold.cell (w.heap.size) 1 (FQ A (aB x).num.length c)).and ((Hold.cell (w.heap.size) 2 (FQ B (aB x).den.length d)).and ((Hold.of (Fact.nat (Old F w.heap.size) x.num.natAbs) (FQ A (aB x).num.length c)).and (Hold.below (w.heap.size+2) wn))))) [(4,Fact.nat (λb=>w.heap.size+2<=b) x.num.natAbs),(5,Fact.nat (λb=>w.heap.size+2<=b) x.den),(6,Fact.raw (λb=>w.heap.size+2<=b) (au x))] ak ⟨x0,x1,x2,HNX.out,⟨hz,(F9 _ _).mono (FV _)⟩⟩ (λ_ h=>⟨h.1,h.2.1,h.2.2.1⟩) ?_;refine Flow.cons (o:=_) rfl (λwk hS hf K hK=>?_) (λv4=>?_)
 ·go_simp;refine(yP wk _ _ x.num.natAbs hS.2.2.2.1 EN).mono ?_;rintro e w' ⟨u,rfl,hb,hu⟩;exact hK.out _ _ hb (hu.mono (λb hb _=>Gf hS.2.2.2.2.1 hb))
 refine Zb ?_;refine Flow.cons (o:=_) rfl (λwk hS hf K hK=>?_) (λv5=>?_)
 ·go_simp;refine hK.out _ _ ((F9 _ _).alloc (FV _) _) ?_;exact(aeZ wk x.den HD1.out).mono (λb hb _=>Gf hS.2.2.2.2.1 hb)
 refine Zb ?_;refine Flow.cons (o:=_) rfl (λwk hS hf K hK=>?_) (λv6=>?_)
 ·have f4:=eY (f:=Fact.nat (λb=>w.heap.size+2<=b) x.num.natAbs) (hf (4,v4) aF ak) rfl;have f5:=eY (f:=Fact.nat (λb=>w.heap.size+2<=b) x.den) (hf (5,v5) aF ak) rfl;have g4:=f4;have g5:=f5;obtain⟨A4,c4,rfl,_,_⟩:=g4;obtain⟨A5,c5,rfl,_,_⟩:=g5;go_simp;exact hK.out _ _ (F9 _ _) (JL rfl f4 f5)
 refine Zb ?_;refine Flow.nil (λwE hS hf=>?_);have f6:=eY (f:=Fact.raw (λb=>w.heap.size+2<=b) (au x)) (hf (6,v6) aF) rfl;have hBe:=hS.2.2.2.2.2;obtain⟨A6,c6,B6,d6,hv6,_,_⟩:=Ah.open f6;dsimp only at hv6;subst hv6;have hrz:=rz.of_block (hBe.block _ EN);have hBE:Below w.heap.size w wE:=hB.trans (hBe.mono EN);have HF:=Ac f6;clear hf hS f6 x0 x1 x2 rz;refine zaf ?_;have q0:=hrz.cell (i:=0) rfl;have y0:=hrz.frozen 0;have q1:=hrz.cell (i:=1) rfl;have y1:=hrz.frozen 1;have q2:=hrz.cell (i:=2) rfl;have y2:=hrz.frozen 2;go_wp2
 refine zaf ?_;go_wp2
 refine ZR ?_;go_wp2
 obtain⟨Wz,hWz,hrz,hwz,hkz⟩:=bG hrz (Gj (au x).neg) (FQ A6 (au x).num.length c6) (FQ B6 (au x).den.length d6);refine Zh ?_;clear hWz q0 q1 q2 y0 y1 y2;intro t0 t1 t2;refine bodyPost_ret (v:=.tuple #[.agg #[Gj (au x).neg,FQ A6 (au x).num.length c6,FQ B6 (au x).den.length d6],F6 F5 0]) (by simp[results,KU,go_sem,t0,t1,t2]) rfl ?_;exact⟨_,rfl,hwz _ _ EN hBE,_,by rw[HO.out],by rw[HR.out]; exact HF.out.keep (λb hb _=>Gf (Nat.le_add_right _ 2) hb) (hkz _ (λh=>by omega))⟩
theorem aj8 (w:FW) (F:FI) (va:F7) (x:Rat) (ha:NmV w F va x) (hl:rl x<=100000) (hov:rl x<=1024) (hd1:x.den≠1) :
  Calls FY 86 #[va] w (Ret w λv w'=>∃ u,v = .tuple #[u,F6 F5 (iE x)]/\Ah w' (λb=>w.heap.size<=b) u (bV x)):=by
 have HO:=Ac (show iE x=0 by unfold iE; rw[L6 EN]);have HR:=Ac (show bV x=au x by unfold bV; rw[L6 EN]);have l1:=gy x;have l2:=gB x;have l3:=zS x;have h1:(aB x).num.length<=1024:=by rw[oN];omega
 refine zdz ?_;intro h2 d1 d2;have h3:(((aB x).den.length:Int)==0)=false:=by rw[qY hd1];have:=bg.2 x.den_nz;exact beq_false_of_ne EN
 have HWD:=Ac (qY hd1);clear hd1 l3;have HX:=Ac ha.old;obtain⟨A,c,B,d,rfl,hn,hd⟩:=ha.open;clear hn hd ha;go_in;go_wp2_with fail
 refine ZN ?_;clear HX;intro W rx rz hB hz HX;refine za7 ?_;intro hz x0 x1 x2;clear rx;obtain⟨_,_,hh,hn,hd⟩:=HX.out;have HNX:=Ac (Ae.mono (n:=x.num.natAbs) (G:=Old F w.heap.size) hn (λb hb _=>hb));cases hh;have hd2:Ae W (Old F w.heap.size) (FQ B (aB x).den.length d) x.den:=by unfold Ae;rw[<-HWD.out];exact hd
 have HDX:=Ac hd2;clear hn hd hd2;refine aW (λw'=>w'.cell? ⟨w.heap.size,0,none⟩=some (Gj (aB x).neg)/\w'.cell? ⟨w.heap.size,1,none⟩=some (FQ A (aB x).num.length c)/\w'.cell? ⟨w.heap.size,2,none⟩=some (FQ B (aB x).den.length d)) 9 2 ak rfl ak ?_;refine zau ?_;intro hHeld hb;clear x0 x1 x2;intro x0 x1 x2;replace HX:=Ac (HX.out.below hb);refine zbq ?_;clear HNX HDX;intro HNX HDX;refine ZE ?_;clear rz hz hB hb;intro rz hz hB;generalize W.drew=wn at *;refine tkm [0,1,2,3,5,6] ?_;refine tk2 4 ak rfl λK hK=>?_
 go_simp;refine(yP _ _ _ x.num.natAbs HNX.out EN).mono ?_;rintro e wn ⟨u,rfl,hb,hu⟩;have H4:=Ac (hu.mono (G:=(λb=>w.heap.size+2<=b)) (λb hb _=>by omega));obtain⟨A4,c4,rfl,_,_⟩:=hu;refine ZL ?_;clear x0 x1 x2;intro x0 x1 x2;replace HX:=Ac (HX.out.below hb);refine zbq ?_;clear HNX HDX;intro HNX HDX;refine zaX ?_;clear rz hz hB hb;intro rz hz hB;clear hHeld;refine ZV ?_;clear hK K;intro hHeld;refine tk2 7 ak rfl λK hK=>?_
 go_simp;refine(yP _ _ _ x.den HDX.out EN).mono ?_;rintro e wn ⟨u,rfl,hb,hu⟩;have H7:=Ac (hu.mono (G:=(λb=>w.heap.size+2<=b)) (λb hb _=>by omega));obtain⟨A7,c7,rfl,_,_⟩:=hu;refine ZL ?_;clear x0 x1 x2;intro x0 x1 x2;replace HX:=Ac (HX.out.below hb);refine zbq ?_;clear HNX HDX;intro HNX HDX;replace H4:=Ac (H4.out.below hb);refine zaX ?_;clear rz hz hB hb;intro rz hz hB;clear hHeld;refine ZV ?_;clear hK K;intro hHeld;refine tkm [8] ?_;refine Zx ?_;clear hHeld;clear x0 x1 x2;refine Zk ?_;intro q0 y0 q1 y1 q2 y2;go_wp2
 refine zaf ?_;go_wp2
 refine ZR ?_;go_wp2
 obtain⟨Wz,hWz,hrz,hwz,hkz⟩:=bG rz (Gj (aB x).neg) (FQ A4 (dig x.num.natAbs).length c4) (FQ A7 (dig x.den).length c7);refine Zh ?_;clear hWz q0 q1 q2 y0 y1 y2;intro t0 t1 t2;refine bodyPost_ret (v:=.tuple #[.agg #[Gj (aB x).neg,FQ A4 (dig x.num.natAbs).length c4,FQ A7 (dig x.den).length c7],F6 F5 0]) (by simp[results,KU,go_sem,t0,t1,t2]) rfl ?_;exact⟨_,rfl,hwz _ _ EN hB,_,by rw[HO.out],by rw[HR.out]; exact(JL (r:=au x) rfl H4.out H7.out).keep (λb hb _=>Gf (Nat.le_add_right _ 2) hb) (hkz _ (λh=>by omega))⟩
theorem agq (w:FW) (F:FI) (va:F7) (x:Rat) (ha:NmV w F va x) (hl:rl x<=100000) :
  Calls FY 86 #[va] w (Ret w λv w'=>∃ u,v = .tuple #[u,F6 F5 (iE x)]/\Ah w' (λb=>w.heap.size<=b) u (bV x)):=by
 by_cases hov:1024 < rl x
 ·exact aj7 w F va x ha hl hov
 by_cases hd1:x.den=1
 ·exact ahP w F va x ha hl EN hd1
 ·exact aj8 w F va x ha hl EN hd1
theorem grown_below {w w':FW} (h:Below B w w') (hB:w.heap.size<=B) (r:Option Nat):w.grownBy w' r:=⟨h.os,h.tape,h.output,h.size,λk hk _=>h.block k EN⟩
theorem aje {x:Rat}:iE x=0\/iE x=5:=by
 unfold iE;split
 ·exact .inr rfl
 ·exact .inl rfl
def lW (e0:Int) (x:Rat):Int:=if iE x≠0 then iE x else e0
theorem aj9 (w:FW) (F:FI) (v:F7) (x:Rat) (eb:Nat) (e0:Int) (hv:NmV w F v x) (hl:rl x<=100000) (he:Row w eb 44 [F6 F5 e0]) :
  Calls FY 104 #[v,.pointer (some ⟨eb,0,none⟩)] w λe w'=>∃ u,e = .returned u/\Ah w' (λb=>w.heap.size<=b) u (bV x)/\Row w' eb 44 [F6 F5 (lW e0 x)]/\w.grownBy w' (some eb):=by
 have HX:=Ac hv.old;obtain⟨A,c,B,d,rfl,hn,hd⟩:=hv.open;clear hn hd hv;have hel:=he.lt;obtain⟨oe,hoe⟩:=FH (iE x);have HEA:=Ac (show lW e0 x=if oe≠0 then oe else e0 by unfold lW; rw[hoe]);have HOE:=Ac hoe;have hcs:oe=0\/oe=5:=by rw[hoe];exact aje
 clear hoe;go_in;go_wp2_with fail
 refine ZN ?_;clear HX;intro W rx rz hB hz HX;refine za7 ?_;intro hz x0 x1 x2;replace he:=he.below hB he.lt;clear rx;go_wp2_with fail
 refine(agq W _ _ x HX.out hl).mono ?_;rintro e wn ⟨t,rfl,hb,u,rfl,hu⟩;rw[<-HOE.out];replace rz:=rz.below hb rz.lt;replace he:=he.below hb he.lt;refine Zc ?_;clear hz hB hb;intro hz hB;clear x0 x1 x2 HX;have HU:=Ac (hu.mono (G:=λb=>w.heap.size+2<=b) (λb hb _=>by omega));obtain⟨A1,c1,B1,d1,rfl,iJ⟩:=hu.opened;clear iJ hu;dsimp only;go_upto_region 2 with(fail)
 obtain⟨W2,hW2,rr,hb2,hzz⟩:=aJ wn 42 #[Gj (bV x).neg,FQ A1 (bV x).num.length c1,FQ B1 (bV x).den.length d1];rw[<-hW2];clear hW2;replace HU:=Ac (HU.out.below hb2);replace rz:=rz.below hb2 rz.lt;replace he:=he.below hb2 he.lt;replace hB:=hB.trans (hb2.mono hB.size);have hlz:=rz.lt;have p0:=rr.cell (i:=0) rfl;have p1:=rr.cell (i:=1) rfl;have p2:=rr.cell (i:=2) rfl;have q0:=rz.cell (i:=0) rfl;have f0:=rz.frozen 0;have q1:=rz.cell (i:=1) rfl;have f1:=rz.frozen 1;have q2:=rz.cell (i:=2) rfl;have f2:=rz.frozen 2;have hne:eb≠w.heap.size+1:=EN;have hne2:wn.heap.size≠w.heap.size+1:=EN;have hne3:eb≠wn.heap.size:=by have:=he.lt;omega
 rcases hcs with rfl | rfl
 ·go_wp2
  obtain⟨Wz,hWz,hrw,hwz,hkz⟩:=bG rz (Gj (bV x).neg) (FQ A1 (bV x).num.length c1) (FQ B1 (bV x).den.length d1);rw[<-hWz];have he2:Row Wz eb 44 [F6 F5 e0]:=by rw[hWz];exact((he.other (a:=⟨w.heap.size+1,0,none⟩) hne _).other (a:=⟨w.heap.size+1,1,none⟩) hne _).other (a:=⟨w.heap.size+1,2,none⟩) hne _
  clear hWz q0 q1 q2 f0 f1 f2;have t0:=hrw.cell (i:=0) rfl;have t1:=hrw.cell (i:=1) rfl;have t2:=hrw.cell (i:=2) rfl;refine bodyPost_ret (v:=.agg #[Gj (bV x).neg,FQ A1 (bV x).num.length c1,FQ B1 (bV x).den.length d1]) (by simp[results,Tryz.results104,go_sem,t0,t1,t2]) rfl ?_;exact⟨_,rfl,HU.out.keep (λb hb _=>by omega) (hkz _ EN),by rw[HEA.out]; exact he2,grown_below (hwz _ _ EN hB) EN _⟩
 ·have e0':=he.cell (i:=0) rfl;have e1':=he.frozen 0;go_wp2
  have hse:=he.set 0 (F6 F5 5);have hsz:=rz.other (a:=⟨eb,0,none⟩) (λe=>hne e.symm) (F6 F5 5);have hsu:=HU.out.keep (λb hb _=>hb) (Same.setCell (λb=>w.heap.size+2<=b) W2 (p:=⟨eb,0,none⟩) aG (F6 F5 5));have hgr:=grown_setCell (p:=⟨eb,0,none⟩) (grown_below hB EN (some eb)) (.inl rfl) (F6 F5 5);obtain⟨W3,hW3⟩:=FH (W2.setCell ⟨eb,0,none⟩ (F6 F5 5));rw[<-hW3] at hse hsz hsu hgr ⊢;obtain⟨Wz,hWz,hrw,hwz,hkz⟩:=bG hsz (Gj (bV x).neg) (FQ A1 (bV x).num.length c1) (FQ B1 (bV x).den.length d1);rw[<-hWz];have he2:Row Wz eb 44 [F6 F5 5]:=by rw[hWz];exact((hse.other (a:=⟨w.heap.size+1,0,none⟩) hne _).other (a:=⟨w.heap.size+1,1,none⟩) hne _).other (a:=⟨w.heap.size+1,2,none⟩) hne _
  have hg3:w.grownBy Wz (some eb):=by
   rw[hWz];exact grown_setCell (p:=⟨w.heap.size+1,2,none⟩) (grown_setCell (p:=⟨w.heap.size+1,1,none⟩) (grown_setCell (p:=⟨w.heap.size+1,0,none⟩) hgr (.inr aF) _) (.inr aF) _) (.inr aF) _
  clear hWz q0 q1 q2 f0 f1 f2;have t0:=hrw.cell (i:=0) rfl;have t1:=hrw.cell (i:=1) rfl;have t2:=hrw.cell (i:=2) rfl;refine bodyPost_ret (v:=.agg #[Gj (bV x).neg,FQ A1 (bV x).num.length c1,FQ B1 (bV x).den.length d1]) (by simp[results,Tryz.results104,go_sem,t0,t1,t2]) rfl ?_;exact⟨_,rfl,hsu.keep (λb hb _=>by omega) (hkz _ EN),by rw[HEA.out]; exact he2,hg3⟩
def ahQ (xs:List Rat):Int:=xs.foldl lW 0
theorem akb (xs:List Rat) (x:Rat):ahQ (xs ++ [x])=lW (ahQ xs) x:=by unfold ahQ; rw[List.foldl_append]; rfl
theorem wH {w w':FW} {d:Nat} (h:w.grownBy w' (some d)) {o:Nat} (hb:b < w.heap.size) (hd:b≠d) {v:F7} (hc:w.cell? ⟨b,o,none⟩=some v):w'.cell? ⟨b,o,none⟩=some v:=(uF h b o hb hd).trans hc
theorem agr (w:FW) (F:FI) (v:F7) (xs:List Rat) (eb:Nat) (hv:Bz w F v xs) (hFe:¬ F eb) (hl:xs.length<=100000) (hf:∀ x∈xs,rl x<=100000) (he:Row w eb 44 [F6 F5 0]) :
  Calls FY 103 #[v,.func (.func 104) #[] #[.pointer (some ⟨eb,0,none⟩)]] w λe w'=>∃ u,e = .returned u/\FK w' (λb=>w.heap.size<=b) u (xs.map bV)/\Row w' eb 44 [F6 F5 (ahQ xs)]/\w.grownBy w' (some eb):=by
 obtain⟨A,c,rfl,hc,hN⟩:=hv;rw[FX] at hc hN;have HN:=Ac hN;clear hN;have hcf:=λargs w=>enters' (f:=104) Tryz.func104 ak ak args w
 have HF:=Ac hf;clear hf;have hel:=he.lt;show Calls _ _ #[FQ A (xs.map aB).length c,_] _ _;rw[FX];go_in;go_wp2_with (at_make; refine xH _ rfl _ _ 38 rfl 42 Tryz.underlying38 Tryz.infoRat xs.length rfl rfl EN ?_; intro w1 hb1 hz1 hm1)
 have HM:=Ac (hm1 (λb=>w.heap.size<=b));clear hm1;refine zct ?_;intro bo hbo hbo1 adv hbo3;replace HM:Hid (AB w1 bo 42 (λb=>w.heap.size<=b) (F8 xs.length rv0)):=by rw[hbo];exact HM
 rw[<-hbo];have hg1:=grown_below hb1 (FV _) (some eb);have hner:bo≠eb:=EN;replace he:=he.below hb1 he.lt;clear hz1 hb1 hbo;go_loopw [13] (λi wr=>∃ (k:Nat) (L:List RV),k<=xs.length/\i = F6 F5 (k:Int)/\L.length=k/\L.map RV.r=(xs.take k).map bV/\AB wr bo 42 (λb=>w.heap.size<=b) (L++F8 (xs.length - k) rv0)/\Row wr eb 44 [F6 F5 (ahQ (xs.take k))]/\w.grownBy wr (some eb)/\w1.heap.size<=wr.heap.size) (λi _=>xs.length - (intOf i).toNat)
 case atStart=>exact⟨0,[],EN,rfl,rfl,rfl,HM.out,he,hg1,FV _⟩
 case round =>
  clear HM hg1 he;obtain⟨k,L,hk,rfl,hlen,hmap,hm,he,hgr,hz⟩:=hrel;have HMP:=Ac hmap;have HM:=Ac hm;have HLL:=Ac hlen;clear hmap hm hlen;by_cases hlt:k < xs.length
  ·obtain⟨b,o,rfl,hF,hb,hx⟩:=HN.out EN;obtain⟨x,hx'⟩:=FC hlt;obtain⟨ex0,⟨vn,ex1,hn⟩,⟨vd,ex2,hd⟩⟩:=hx k (aB x) (by rw[Gi,hx']; rfl);have HX:=Ac hx';have hrl:=HF.out x (FT hx');have hsame:Same (λb=>F b) w wr:=(Same.vT hgr).mono λb hb=>λe=>hFe (e▸hb)
   have HR:=Ac (Ah.on (r:=aB x) (JL (r:=aB x) rfl hn hd) hsame);obtain⟨A1',c1',rfl,_,_⟩:=hn;obtain⟨A2',c2',rfl,_,_⟩:=hd;have hbe:b≠eb:=λe=>hFe (e▸hF)
   replace ex0:=wH hgr hb hbe ex0;replace ex1:=wH hgr hb hbe ex1;replace ex2:=wH hgr hb hbe ex2;clear hx hx' hsame;go_wp2_with fail
   obtain⟨W2,hW2,rz,hB2,hzz⟩:=aJ wr 114 #[Gj (aB x).neg,FQ A1' (aB x).num.length c1',FQ A2' (aB x).den.length c2'];rw[<-hW2];have hz2:=hB2.size;replace HR:=Ac (HR.out.below hB2);replace HM:=Ac (HM.out.below hB2);replace he:=he.below hB2 he.lt;replace hgr:=jm hgr (grown_below hB2 (FV _) (some eb));refine zbo ?_;intro x0 x1 x2;clear hB2 hW2 hzz rz ex0 ex1 ex2;go_wp2_with fail
   refine(aj9 W2 _ _ x eb _ HR.out hrl he).mono ?_;rintro e wn ⟨u,rfl,hu,he2,hg2⟩;have hsm:Same (λb=>b≠eb) W2 wn:=Same.vT hg2;replace HM:=Ac (HM.out.on (by exact hg2.block bo EN aG) (hsm.mono λb hb=>by omega));have hgr2:=jm hgr hg2;have hz3:=hg2.size;obtain⟨A1,c1,B1,d1,rfl,iJ⟩:=hu.opened;obtain⟨q,hq⟩:∃ q:RV,q=⟨bV x,FQ A1 (bV x).num.length c1,FQ B1 (bV x).den.length d1⟩:=⟨_,rfl⟩;rw[<-hq] at iJ;have HQ:=Ac (show q.r=bV x by rw[hq]);have hqk:q.fine wn (λc=>w.heap.size<=c/\c≠bo):=iJ.keep (λb hb _=>by omega) (Gh _ _);have HQF:=Ac hqk;have hget:(L++F8 (xs.length - k) rv0)[k]? = some rv0:=by
    rw[Gx (by rw[HLL.out]; omega),HLL.out,Ih,JI,L8 EN]
   refine YB ?_;intro c0 c1 c2 f0 f1 f2;obtain⟨W,hW,hm,hwB,hwS,hwz,hwb⟩:=HM.out.set k q hqk;rw[acC HLL.out hlt] at hm;have HM2:=Ac hm;have heW:Row W eb 44 [F6 F5 (ahQ (xs.take (k+1)))]:=by
    rw[FP HX.out,akb];exact he2.of_block (hwb eb (λe=>hner e.symm))
   have hgW:w.grownBy W (some eb):=by
    rw[hW];exact grown_setCell (p:=⟨bo,k*3+2,none⟩) (grown_setCell (p:=⟨bo,k*3+1,none⟩) (grown_setCell (p:=⟨bo,k*3,none⟩) hgr2 (.inr adv) _) (.inr adv) _) (.inr adv) _
   have hzW:w1.heap.size<=W.heap.size:=EN;rw[hq] at hW;have HW:=Ac hW;clear hu iJ hqk hm hget hq hwB hwS hwz hwb hW x0 x1 x2 hg2 hsm;dsimp only;go_wp2_with fail
   rw[<-HW.out];go_roundw
   case rel=>exact⟨k+1,L ++ [q],EN,by go_num,by rw[Gn,HLL.out]; rfl,aaF HMP.out HX.out HQ.out,HM2.out,heW,hgW,hzW⟩
   case measure=>simp[intOf]; omega
  ·go_wp2
   go_ret;refine zdr ?_;intro hall;have hk2:L.length=xs.length:=by have:=HLL.out;omega
   refine zcH ?_;intro hm;have:=hm.raws (G:=λb=>w.heap.size<=b) (λb hb=>hb) adv (c:=xs.length) EN;rw[HMP.out,hall,hk2] at this;rw[hall] at he;exact⟨_,rfl,this,he,hgr⟩
def kJ (xs:List Rat):Int:=if xs.any (λx=>decide (1024 < rl x)) then 5 else 0
def fitsV (xs:List Rat):List Raw:=if kJ xs≠0 then [] else xs.map au
theorem aaG:∀ (xs:List Rat) (e:Int),(e=0\/e=5)->xs.foldl lW e=if xs.any (λx=>decide (1024 < rl x)) then 5 else e
 | [],e,_=>by simp
 | x :: xs,e,he=>by
  rw[List.foldl_cons,List.any_cons];by_cases h:1024 < rl x
  ·have h1:lW e x=5:=by unfold lW iE; rw[L8 h]; rfl
   rw[h1,aaG xs 5 (.inr rfl),Mc h,Bool.true_or];simp
  ·have h1:lW e x=e:=by unfold lW iE; rw[L6 h]; rfl
   rw[h1,aaG xs e he,L9 h,Bool.false_or]
theorem am9 (xs:List Rat):ahQ xs=kJ xs:=aaG xs 0 (.inl rfl)
theorem ana (xs:List Rat):kJ xs=0\/kJ xs=5:=by
 unfold kJ;split
 ·exact .inr rfl
 ·exact .inl rfl
theorem akc (h:kJ xs=0):∀ x∈xs,rl x<=1024:=by
 unfold kJ at h;split at h
 ·omega
 ·rename_i h1
  intro x hx;have h2:(xs.any λx=>decide (1024 < rl x))=false:=by simpa using h1
  have:=List.any_eq_false.1 h2 x hx;simpa using this
theorem akd (h:kJ xs=0):xs.map bV=fitsV xs:=by
 unfold fitsV;rw[L6 (by simpa using h)];refine Jo λx hx=>?_
 have:=akc h x hx;unfold bV;rw[L6 EN]
theorem zT (w:FW) (F:FI) (v:F7) (xs:List Rat) (hv:Bz w F v xs) (hl:xs.length<=100000) (hf:∀ x∈xs,rl x<=100000) :
  Calls FY 50 #[v] w (Ret w λu w'=>∃ t,u = .tuple #[t,F6 F5 (kJ xs)]/\FK w' (λb=>w.heap.size<=b) t (fitsV xs)):=by
 have HN:=Ac (FK.keep (G:=Old F w.heap.size) hv (λb hb hl=>⟨hb,hl⟩) (Gh _ _));obtain⟨A,c,rfl,hc,_⟩:=hv;rw[FX] at HN;have HF:=Ac hf;clear hf;show Calls _ _ #[FQ A (xs.map aB).length c] _ _;rw[FX];go_in
 go_upto_region 2 with(fail)
 obtain⟨W,hW,re,hB,hz⟩:=aJ w 44 #[F6 F5 0];rw[<-hW];clear hW;replace HN:=Ac (FK.keep HN.out (λ_ h _=>h) (FZ hB _));go_wp2_with fail
 refine(agr W _ _ xs w.heap.size HN.out (λh=>by have:=h.2; omega) hl HF.out re).mono ?_;rintro e wn ⟨u,rfl,hu,he,hg⟩;have hB2:Below w.heap.size w wn:=hB.grown hg EN (λk hk=>by cases hk; exact FV _);have HU:=Ac hu;have e0:=he.cell (i:=0) rfl;rw[am9] at e0;obtain⟨oe,hoe⟩:=FH (kJ xs);rw[<-hoe] at e0;have hcs:oe=0\/oe=5:=by rw[hoe];exact ana xs
 have HO:=Ac hoe;have hWs:=hB.size;clear hu he hg re hB hoe hz;dsimp only;rcases hcs with rfl | rfl
 ·go_wp2
  go_ret2;have h3:=HU.out;rw[akd HO.out.symm] at h3;exact⟨_,rfl,hB2,_,by rw[<-HO.out]; rfl,h3.keep (λb hb _=>by omega) (Gh _ _)⟩
 ·go_wp2_with fail
  go_quiet (fail)
  go_wp2
  go_ret2;refine⟨_,rfl,aI hB2 _,_,by rw[<-HO.out]; rfl,?_⟩;have h3:fitsV xs = []:=by unfold fitsV;rw[L8 (by rw[<-HO.out]; decide)]
  rw[h3];exact FK.nil _ _
theorem adx (w:FW) (F:FI) (v1 v2:F7) (l1 l2:List Nat) (h1:Ag w F v1 l1) (h2:Ag w F v2 l2) (hl1:l1.length < 1000000) (hl2:l2.length < 1000000) :
  Calls FY 57 #[v1,v2] w λe w'=>e = .returned (Gj (decide (l1=l2)))/\∃ n,w'=w.drewN n:=by
 obtain⟨A1,c1,rfl,hc1,r1⟩:=h1;obtain⟨A2,c2,rfl,hc2,r2⟩:=h2;by_cases hl:l1.length=l2.length
 ·have R1:=Ac r1;clear r1;have R2:=Ac r2;clear r2;have HL:=Ac hl;have hb:((l1.length:Int) != (l2.length:Int))=false:=by simp[hl]
  clear hl;go_in;go_wp2
  go_loopw [5] (λi wr=>∃ k:Nat,k<=l1.length/\i = F6 F5 k/\l1.take k=l2.take k/\∃ n,wr=w.drewN n) (λi _=>l1.length - (intOf i).toNat)
  case atStart=>exact⟨0,EN,rfl,aF,0,rfl⟩
  case round =>
   obtain⟨k,hk,rfl,hpre,n,rfl⟩:=hrel;have HP:=Ac hpre;clear hpre;by_cases hlt:k < l1.length
   ·obtain⟨b1,o1,rfl,hb1,_,hcell1⟩:=R1.out EN;have hk2:k < l2.length:=by have:=HL.out;omega
    obtain⟨b2,o2,rfl,hb2,_,hcell2⟩:=R2.out EN;obtain⟨x,hx⟩:=FC hlt;obtain⟨y,hy⟩:=FC hk2;have e1:=hcell1 k x hx;have e2:=hcell2 k y hy;unfold dF at e1 e2;rw[Gp] at e1 e2;clear hcell1 hcell2;have HX:=Ac hx;clear hx;have HY:=Ac hy;clear hy;by_cases he:x=y
    ·subst he;go_wp2
     go_quiet (fail)
     go_wp2
     go_roundw
     case rel=>exact⟨k+1,EN,by go_num,nU HX.out HY.out HP.out,_,rfl⟩
     case measure=>simp[intOf]; omega
    ·have hne:((x:Int) != (y:Int))=true:=aG;have hfin:decide (l1=l2)=false:=by
      exact zdf
     exact zco
   ·go_wp2
    go_ret;have:k=l1.length:=EN;have h3:=HP.out;have h4:=HL.out;refine⟨?_,_,rfl⟩;have h5:l1=l2:=by
     exact zad
    simp[h5]
 ·have hb:((l1.length:Int) != (l2.length:Int))=true:=aG;go_in;go_wp2
  go_ret;refine⟨?_,0,rfl⟩;have:l1≠l2:=by rintro rfl;exact hl rfl
  simp[this]
theorem yh (w:FW) (F:FI) (v1 v2:F7) (l1 l2:List Nat) (h1:Ag w F v1 l1) (h2:Ag w F v2 l2) (hl1:l1.length < 1000000) (hl2:l2.length < 1000000) :
  Calls FY 57 #[v1,v2] w (Ret w λv _=>v = Gj (decide (l1=l2))):=by
 refine(adx w F v1 v2 l1 l2 h1 h2 hl1 hl2).mono ?_;rintro e w' ⟨rfl,n,rfl⟩;exact⟨_,rfl,aI (F9 _ w) _,rfl⟩
end Go.Proofs.YtnmeejofpkhlkaaGreatDoor
