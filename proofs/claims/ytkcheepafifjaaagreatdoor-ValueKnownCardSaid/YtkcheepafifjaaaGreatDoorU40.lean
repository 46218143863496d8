/- The example's game and strategy: what it is worth. -/
import Derived.Test.YtkcheepafifjaaaGreatDoorU39
import Derived.Test.YtkcheepafifjaaaGreatDoorU23
set_option linter.all false
set_option maxRecDepth 100000
set_option maxHeartbeats 12800000
namespace Go.Proofs.YtkcheepafifjaaaGreatDoor
open Lib renaming hid → Ac
open Go.RowKit
def aaR:List (List Raw):=[[⟨false,[1],[2]⟩,⟨false,[1],[2]⟩],[⟨false,[1],[2]⟩,⟨false,[1],[2]⟩],[⟨false,[1],[3]⟩,⟨false,[1],[3]⟩,⟨false,[1],[3]⟩]]
theorem ag4:au (mkRat 1 2)=⟨false,[1],[2]⟩:=by
 have h:=nT false 1 2 (by decide);rw[show Nat.gcd 1 2=1 by decide,Nat.div_one,Nat.div_one,gK,je (n:=2) (by decide) (by decide)] at h;exact h
theorem afL:au (mkRat 1 3)=⟨false,[1],[3]⟩:=by
 have h:=nT false 1 3 (by decide);rw[show Nat.gcd 1 3=1 by decide,Nat.div_one,Nat.div_one,gK,je (n:=3) (by decide) (by decide)] at h;exact h
theorem rQ:pX.map (List.map au)=aaR:=by
 unfold pX aaR;simp only[List.map_cons,List.map_nil,ag4,afL]
theorem uq:bF lN aaR=0:=by decide +kernel
theorem ad9:CO aaR:=by
 intro l hl r hr;unfold aaR at hl;simp only[List.mem_cons,List.not_mem_nil,or_false] at hl;rcases hl with rfl | rfl | rfl <;> (simp only[List.mem_cons,List.not_mem_nil,or_false] at hr; rcases hr with rfl | rfl | rfl <;> decide)
theorem acU:∀ {a b:List (List Rat)},a.map (List.map au)=b.map (List.map au)→a=b
 | [],[],_=>rfl
 | [],_ :: _,h=>by cases h
 | _ :: _,[],h=>by cases h
 | x :: a,y :: b,h=>by
  rw[List.map_cons,List.map_cons,List.cons.injEq] at h;rw[yG h.1,acU h.2]
theorem vF:Fit lN pX:=by
 obtain⟨m,h,hf,_⟩:=agV uq ad9;have e:m=pX:=acU (by rw[← h,rQ]);rw[← e]; exact hf
theorem uw:bT lN pX 0 = [5,-5].map fun x=>mkRat x 6:=by decide +kernel
theorem uy:kM dB lN pX = [12,6,6,3,3,1,1,1].map fun x=>mkRat x 12:=by decide +kernel
theorem vG {xs:List Rat} (h:∀ x∈xs,rl x≤1024):jR xs=0:=by
 unfold jR;rw[if_neg];simp only[List.any_eq_true,not_exists,not_and,decide_eq_true_eq];intro x hx;have:=h x hx; omega
theorem oN {xs:List Rat} (h:∀ x∈xs,rl x≤1024) (hl:xs.length≤1000):Bj (xs.map au):=by
 refine⟨by rw[List.length_map]; omega,fun r hr=>?_⟩;obtain⟨x,hx,rfl⟩:=List.mem_map.1 hr;have:=h x hx;unfold rl at this;show(dig x.num.natAbs).length≤500000∧(dig x.den).length≤500000;omega
theorem aaS:AO (pX.map (List.map au)):=by
 rw[rQ];intro l hl;unfold aaR at hl;simp only[List.mem_cons,List.not_mem_nil,or_false] at hl;rcases hl with rfl | rfl | rfl
 all_goals
  refine⟨by decide,fun r hr=>?_⟩;simp only[List.mem_cons,List.not_mem_nil,or_false] at hr;rcases hr with rfl | rfl | rfl
 all_goals exact⟨by unfold U32; decide,by decide,by decide⟩
theorem xw:Small lN:=⟨by decide,by decide,by decide,by decide,by decide⟩
theorem vH:∀ x∈[5,-5].map (fun x:Int=>mkRat x 6),rl x≤1024:=by
 rw[← uw];intro x hx;have h:=vF.abp (i:=0) (by decide) x hx;have e:lN.nodes.length=8:=rfl;omega
theorem vI:∀ x∈[12,6,6,3,3,1,1,1].map (fun x:Int=>mkRat x 12),rl x≤1024:=by
 rw[← uy];intro x hx;have h:=mG vF iW x hx;have e:lN.nodes.length=8:=rfl;omega
theorem acV (w:World) (F:Ag) (vg vm:Value) (hg:AA w F vg lN) (hm:AP w F vm pX) (hT:AZ w) :
  Calls Tryz.prog 22 #[vg,vm] w (Ret w fun u w'=>∃ t,u = .tuple #[t,.int .i64 0]∧BH w' (Ext F w.heap.size) t ([5,-5].map fun x=>mkRat x 6)):=by
 refine(aaQ w F vg vm lN pX hg xw hm hT (by decide) aaS (by rw[rQ]; exact uq) vF).mono ?_;rintro e w' ⟨u,rfl,hb,t,rfl,ht⟩;rw[uw] at ht;rw[uw,vG vH];refine⟨_,rfl,hb,t,rfl,?_⟩;unfold fitsV at ht;rw[vG vH] at ht;exact ht
theorem acW (w:World) (F:Ag) (vg vm:Value) (hg:AA w F vg lN) (hm:AP w F vm pX) (hT:AZ w) :
  Calls Tryz.prog 11 #[vg,vm] w (Ret w fun u w'=>∃ t,u = .tuple #[t,.int .i64 0]∧BH w' (Ext F w.heap.size) t ([12,6,6,3,3,1,1,1].map fun x=>mkRat x 12)):=by
 refine(afK w F vg vm lN pX hg xw hm hT (by decide) aaS (by rw[rQ]; exact uq) vF).mono ?_;rintro e w' ⟨u,rfl,hb,t,rfl,ht⟩;rw[uy] at ht;rw[uy,vG vI];refine⟨_,rfl,hb,t,rfl,?_⟩;unfold fitsV at ht;rw[vG vI] at ht;exact ht
theorem xE (w:World) (hT:AZ w):Calls Tryz.prog 10 #[] w (Ret w fun v _=>v = .bool true):=by
 have HT:=Ac hT;clear hT;go_enter Tryz.func10,Tryz.ntmps10;have hB:=Below.refl w.heap.size w;go_wp2_with fail
 refine(yE w).mono ?_;rintro e w1 ⟨vg1,rfl,hb,hu⟩;replace HT:=Ac (HT.out.on hb);replace hB:=hB.trans (hb.mono hB.size);have hz1:=hB.size;have G1:=Ac (hu.keep (G:=(fun b=>w.heap.size≤b)) (fun b hb _=>by omega) (Same.refl _ _));clear hu;clear hb;dsimp only;go_wp2_with fail
 refine(acA w1).mono ?_;rintro e w2 ⟨vm2,rfl,hb,hu⟩;replace G1:=Ac (G1.out.on (Below.same' hb _));replace HT:=Ac (HT.out.on hb);replace hB:=hB.trans (hb.mono hB.size);have hz2:=hB.size;have M2:=Ac (Ae.keep (G:=(fun b=>w.heap.size≤b)) hu (fun b hb _=>by omega) (Same.refl _ _));clear hu;clear hb;dsimp only;go_wp2_with fail
 refine(acV w2 (fun b=>w.heap.size≤b) _ _ G1.out M2.out HT.out).mono ?_;rintro e w3 ⟨u,rfl,hb,t3,rfl,hu⟩;replace G1:=Ac (G1.out.on (Below.same' hb _));replace M2:=Ac (Ae.on M2.out (Below.same' hb _));replace HT:=Ac (HT.out.on hb);replace hB:=hB.trans (hb.mono hB.size);have hz3:=hB.size;have R3:=Ac (Aj.keep (G:=(fun b=>w.heap.size≤b)) hu (fun b hb _=>hb.elim id fun h=>by omega) (Same.refl _ _));clear hu G1 M2;clear hb;dsimp only;go_wp2_with fail
 refine(yE w3).mono ?_;rintro e w4 ⟨vg4,rfl,hb,hu⟩;replace R3:=Ac (Aj.on R3.out (Below.same' hb _));replace HT:=Ac (HT.out.on hb);replace hB:=hB.trans (hb.mono hB.size);have hz4:=hB.size;have G4:=Ac (hu.keep (G:=(fun b=>w.heap.size≤b)) (fun b hb _=>by omega) (Same.refl _ _));clear hu;clear hb;dsimp only;go_wp2_with fail
 refine(acA w4).mono ?_;rintro e w5 ⟨vm5,rfl,hb,hu⟩;replace R3:=Ac (Aj.on R3.out (Below.same' hb _));replace G4:=Ac (G4.out.on (Below.same' hb _));replace HT:=Ac (HT.out.on hb);replace hB:=hB.trans (hb.mono hB.size);have hz5:=hB.size;have M5:=Ac (Ae.keep (G:=(fun b=>w.heap.size≤b)) hu (fun b hb _=>by omega) (Same.refl _ _));clear hu;clear hb;dsimp only;go_wp2_with fail
 refine(acW w5 (fun b=>w.heap.size≤b) _ _ G4.out M5.out HT.out).mono ?_;rintro e w6 ⟨u,rfl,hb,t6,rfl,hu⟩;replace R3:=Ac (Aj.on R3.out (Below.same' hb _));replace G4:=Ac (G4.out.on (Below.same' hb _));replace M5:=Ac (Ae.on M5.out (Below.same' hb _));replace HT:=Ac (HT.out.on hb);replace hB:=hB.trans (hb.mono hB.size);have hz6:=hB.size;have R6:=Ac (Aj.keep (G:=(fun b=>w.heap.size≤b)) hu (fun b hb _=>hb.elim id fun h=>by omega) (Same.refl _ _));clear hu G4 M5;clear hb;dsimp only;have rr:=R3.out; have r6:=R6.out;obtain⟨Aa,ca,rfl,_,_⟩:=rr;obtain⟨Ab,cb,rfl,_,_⟩:=r6;go_wp2_with fail
 obtain⟨wa7,hwa,hr,hb,hz'⟩:=aB w6 3 #[.int .i64 5,.int .i64 (-5)];rw[← hwa];have hi:=Row.yT (l:=[5,-5]) (F:=fun _=>True) hr trivial;clear hwa hr hz';replace R3:=Ac (Aj.on R3.out (Below.same' hb _));replace R6:=Ac (Aj.on R6.out (Below.same' hb _));replace hB:=hB.trans (hb.mono hB.size);have hza7:=hB.size;clear hb;refine(lI wa7 _ _ [5,-5] 6 hi (by decide) (by decide) (by decide) (by decide)).mono ?_;rintro e wb7 ⟨v7,rfl,hb,hu⟩;replace R3:=Ac (Aj.on R3.out (Below.same' hb _));replace R6:=Ac (Aj.on R6.out (Below.same' hb _));replace hB:=hB.trans (hb.mono hB.size);have hzb7:=hB.size;have HU7:=Ac (Aj.keep (G:=(fun b=>w.heap.size≤b)) hu (fun b hb _=>by omega) (Same.refl _ _));clear hu hb hi;dsimp only;go_wp2_with fail
 refine(lH wb7 (fun b=>w.heap.size≤b) _ _ _ _ R3.out HU7.out (oN vH (by decide)) (oN vH (by decide))).mono ?_;rintro e wc7 ⟨u,rfl,hb,rfl⟩;rw[decide_eq_true rfl];replace R3:=Ac (Aj.on R3.out (Below.same' hb _));replace R6:=Ac (Aj.on R6.out (Below.same' hb _));replace hB:=hB.trans (hb.mono hB.size);have hzc7:=hB.size;clear hb HU7;dsimp only;go_wp2_with fail
 obtain⟨wa8,hwa,hr,hb,hz'⟩:=aB wc7 3 #[.int .i64 12,.int .i64 6,.int .i64 6,.int .i64 3,.int .i64 3,.int .i64 1,.int .i64 1,.int .i64 1];rw[← hwa];have hi:=Row.yT (l:=[12,6,6,3,3,1,1,1]) (F:=fun _=>True) hr trivial;clear hwa hr hz';replace R3:=Ac (Aj.on R3.out (Below.same' hb _));replace R6:=Ac (Aj.on R6.out (Below.same' hb _));replace hB:=hB.trans (hb.mono hB.size);have hza8:=hB.size;clear hb;refine(lI wa8 _ _ [12,6,6,3,3,1,1,1] 12 hi (by decide) (by decide) (by decide) (by decide)).mono ?_;rintro e wb8 ⟨v8,rfl,hb,hu⟩;replace R3:=Ac (Aj.on R3.out (Below.same' hb _));replace R6:=Ac (Aj.on R6.out (Below.same' hb _));replace hB:=hB.trans (hb.mono hB.size);have hzb8:=hB.size;have HU8:=Ac (Aj.keep (G:=(fun b=>w.heap.size≤b)) hu (fun b hb _=>by omega) (Same.refl _ _));clear hu hb hi;dsimp only;go_wp2_with fail
 refine(lH wb8 (fun b=>w.heap.size≤b) _ _ _ _ R6.out HU8.out (oN vI (by decide)) (oN vI (by decide))).mono ?_;rintro e wc8 ⟨u,rfl,hb,rfl⟩;rw[decide_eq_true rfl];replace R3:=Ac (Aj.on R3.out (Below.same' hb _));replace R6:=Ac (Aj.on R6.out (Below.same' hb _));replace hB:=hB.trans (hb.mono hB.size);have hzc8:=hB.size;clear hb HU8;dsimp only;go_wp2; go_ret
 exact⟨_,rfl,hB,rfl⟩
end Go.Proofs.YtkcheepafifjaaaGreatDoor
