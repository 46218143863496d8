/- parlourkit.OwnRat, OwnVec, OwnLists: copies in new memory. -/
import Derived.Test.YthmklhapjegfdaaGreatDoorP19
import Derived.Test.YthmklhapjegfdaaGreatDoorP21
set_option linter.all false
set_option maxRecDepth 100000
set_option maxHeartbeats 12800000
namespace Go.Proofs.YthmklhapjegfdaaGreatDoor
open Lib renaming hid → Af
open Go.RowKit
theorem Tryz.infoRats:(Tryz.prog.info? 64).map (fun i=>(i.zero,i.size,i.bytes))=some (some (.slice none 0 0),afv.n,24):=ah
open List renaming getElem_toArray → lq1, getElem_cons_zero → lq2, getElem_cons_succ → lq3, setIfInBounds_toArray → lq4, set_cons_zero → lq5, set_cons_succ → lq6
theorem adu (xs ys:List Rat):lX (xs++ys)=if lX xs≠0 then lX xs else lX ys:=by
 unfold lX;rw[List.any_append];cases xs.any (fun x=>decide (1024 < rl x)) <;> simp
theorem ahJ (x:Rat):lX [x]=jW x:=by unfold lX jW; by_cases h:1024 < rl x <;> simp[h]
theorem agr {x:Rat} (h:jW x=0):dY x=aH x:=by
 unfold jW at h;unfold dY;split at h
 ·cases h
 ·rename_i h1; rw[if_neg h1]
theorem ahK {xs:List Rat} {x:Rat} (hx:x∈xs) (h:jW x=5):lX xs=5:=by
 unfold lX;unfold jW at h;have h1:1024 < rl x:=by
  by_cases h1:1024 < rl x
  ·exact h1
  ·rw[if_neg h1] at h;cases h
 rw[if_pos (List.any_eq_true.2 ⟨x,hx,by simpa using h1⟩)]
def qI (m:List (List Rat)):List (List Raw):=if lX m.flatten≠0 then [] else m.map (List.map aH)
theorem ags {m:List (List Rat)} {k:Nat} {l:List Rat} (h:m[k]? = some l):(m.take (k+1)).flatten=(m.take k).flatten++l:=by
 rw[take_snoc h,List.flatten_append];simp
theorem pO (w:World) (F:Ah) (v:Value) (m:List (List Rat)) (hv:Ag w F v (m.map (List.map au))) (hl:m.length≤1000) (hr:∀ l∈m,l.length≤1000) (hf:∀ l∈m,∀ x∈l,rl x≤100000) :
  Calls Tryz.prog 72 #[v] w (Ret w fun u w'=>∃ t,u = .tuple #[t,.int .i64 (lX m.flatten)]∧Ag w' (fun b=>w.heap.size≤b) t (qI m)):=by
 have HV:=Af hv;obtain⟨A,c,rfl,hc,_⟩:=hv;obtain⟨n,hn⟩:=named m.length;have hnn:(m.map (List.map au)).length=n:=by rw[List.length_map,hn]
 rw[hnn] at hc HV ⊢;have HR:=Af hr;have HF:=Af hf;rw[← hn] at hl;have HNL:=Af hn;clear hr hf hn hnn;go_in;go_wp2_with (at_make; refine dV _ rfl _ _ 28 rfl 64 (.slice none 0 0) 24 Tryz.underlying28 Tryz.infoRats rfl n rfl rfl byOmega byOmega ?_; intro w1 hb1 hz1 hm1)
 obtain⟨bo,hbo⟩:=named w.heap.size;rw[← hbo] at hm1 ⊢;have hbo1:bo < w1.heap.size:=byOmega;have hbow:w.heap.size≤bo:=byOmega;have HM1:=Af (show Row w1 bo 64 (jB [] n) by rw[aa9]; exact hm1);have HB1:=Af hb1;clear hm1 hb1 hz1 hbo;go_loopw [16] (fun i wr=>∃ (k:Nat) (vs:List Value),k≤n∧i = .int .i64 (k:Int)∧vs.length=k∧Row wr bo 64 (jB vs n)∧AQ wr (fun b=>w1.heap.size≤b) vs ((m.take k).map (List.map aH))∧lX (m.take k).flatten=0∧Below w.heap.size w wr∧w1.heap.size≤wr.heap.size) (fun i _=>n - (intOf i).toNat)
 case atStart=>exact⟨0,[],Nat.zero_le _,rfl,rfl,HM1.out,AQ.nil _ _,rfl,HB1.out,Nat.le_refl _⟩
 case round =>
  clear HM1 HB1;obtain⟨k,vs,hk,rfl,hvl,hrow,hdone,herr,hB,hz⟩:=hrel;obtain⟨wa,rfl⟩:=named wr;have HD:=Af hdone;have HE:=Af herr;have HVL:=Af hvl;clear hdone herr hvl;by_cases hlt:k < n
  ·obtain⟨row,hrw⟩:=aF (l:=m) (k:=k) (by rw[← HNL.out]; exact hlt);obtain⟨b,o,cc,u,e2,_,hbw,x0,i1⟩:=Ag.at HV.out (k:=k) (l:=row.map au) (by rw[List.getElem?_map,hrw]; rfl);injection e2 with e21 e22 e23
   subst e21;clear e22 e23;have HU:=Af i1;obtain⟨Ar,cr,rfl,_,_⟩:=i1;obtain⟨rn,hrn⟩:=named row.length;have hrn2:(row.map au).length=rn:=by rw[List.length_map,hrn]
   rw[hrn2] at x0 HU;have hmem:=List.mem_of_getElem? hrw;have hrl:rn≤1000:=by rw[hrn];exact HR.out row hmem
   have HRF:=Af (HF.out row hmem);have HRW:=Af hrw;have HRN:=Af hrn;rw[← aQ hB _ _ hbw] at x0;have HRO:=Af (show Row wa bo 64 (yL vs (.slice none 0 0) n) by rw[ac4 (by rw[HVL.out]; exact hlt)]; exact hrow);have HBA:=Af hB;clear hrw hrn hrn2 hmem hrow hB;go_wp2
   go_loopw [23] (fun i wr=>∃ (j:Nat) (L:List RV) (u:Value),j≤rn∧i = .int .i64 (j:Int)∧L.length=j∧L.map RV.r=(row.take j).map aH∧Row wr bo 64 (yL vs u n)∧AL vG wr wa.heap.size 83 (fun b=>wa.heap.size≤b) u L∧lX (row.take j)=0∧AQ wr (fun b=>w1.heap.size≤b∧b < wa.heap.size) vs ((m.take k).map (List.map aH))∧Below w.heap.size w wr∧wa.heap.size≤wr.heap.size) (fun i _=>rn - (intOf i).toNat)
   case atStart=>exact⟨0,[],.slice none 0 0,Nat.zero_le _,rfl,rfl,rfl,HRO.out,AL.nil _ _ _ _ _,rfl,HD.out.keep (fun b hb hl=>⟨hb,hl⟩) (Same.refl _ _),HBA.out,Nat.le_refl _⟩
   case round =>
    clear x0 HRO HBA HD;obtain⟨j,L,u,hj,rfl,hLl,hLm,hrow,hown,herr,hdone,hB,hz2⟩:=hrel;obtain⟨wb,rfl⟩:=named wr;have HD:=Af hdone;have HO:=Af hown;have HLL:=Af hLl;have HLM:=Af hLm;have HER:=Af herr;clear hdone hown hLl hLm herr;by_cases hjt:j < rn
    ·obtain⟨x,hx⟩:=aF (l:=row) (k:=j) (by rw[← HRN.out]; exact hjt);obtain⟨eb,eo,cc,vn,vd,e2,hFe,hew,e0,e1,e2',hfn,hfd⟩:=AB.at HU.out (k:=j) (r:=au x) (by rw[List.getElem?_map,hx]; rfl);injection e2 with e21 e22 e23
     subst e21;clear e22 e23;have HX:=Af (show Ak w F (.agg #[.bool (au x).neg,vn,vd]) (au x) from Ak.make rfl hfn hfd);obtain⟨An,cn,rfl,_,_⟩:=hfn;obtain⟨Ad,cd,rfl,_,_⟩:=hfd;have hold:=aQ hB;rw[← hold _ _ hew] at e0 e1 e2';have hrlx:=HRF.out x (List.mem_of_getElem? hx);have HXJ:=Af hx;clear hx hold;have hBs:=hB.size;go_wp2_with fail
     obtain⟨W2,hW2,rz,hB2,hzz⟩:=aO wb 118 #[.bool (au x).neg,.slice An (au x).num.length cn,.slice Ad (au x).den.length cd];rw[← hW2];replace HX:=Af ((Ak.on HX.out (Below.same' hB F)).below hB2);replace HO:=Af (HO.out.below hB2);replace HD:=Af (HD.out.keep (fun _ h _=>h) (Below.same' hB2 _));replace hrow:=hrow.below hB2 hrow.lt;replace hB:=hB.trans (hB2.mono hB.size);have hz3:=hB2.size;have q0:=rz.cell (i:=0) rfl;have q1:=rz.cell (i:=1) rfl;have q2:=rz.cell (i:=2) rfl;have HUB:=Af (fun b (e:u.ownBlock=some b)=>(HO.out.row.lt b e).2);clear hW2 hB2 hzz rz e0 e1 e2';go_wp2_with fail
     refine(ahB W2 F _ x HX.out hrlx).mono ?_;rintro e w3 ⟨t,rfl,hb,u3,rfl,hu3⟩;replace HO:=Af (HO.out.below hb);replace HD:=Af (HD.out.keep (fun _ h _=>h) (Below.same' hb _));replace hrow:=hrow.below hb hrow.lt;replace hB:=hB.trans (hb.mono hB.size);have hz4:=hb.size;obtain⟨A1,c1,B1,d1,rfl,iQ⟩:=hu3.opened;clear hu3 hb q0 q1 q2 HX;obtain⟨oe,hoe⟩:=named (jW x);have hcs:oe=0∨oe=5:=by rw[hoe];exact aiQ
     rw[← hoe];have HOE:=Af hoe;clear hoe;have HFN:=Af iQ;clear iQ;dsimp only;go_upto_region 9 with(fail)
     obtain⟨W4,hW4,rr,hb4,hzz⟩:=aO w3 83 #[.bool (dY x).neg,.slice A1 (dY x).num.length c1,.slice B1 (dY x).den.length d1];rw[← hW4];replace HO:=Af (HO.out.below hb4);replace HD:=Af (HD.out.keep (fun _ h _=>h) (Below.same' hb4 _));replace HFN:=Af (RV.fine.keep HFN.out (fun _ h _=>h) (Below.same' hb4 _));replace hrow:=hrow.below hb4 hrow.lt;replace hB:=hB.trans (hb4.mono hB.size);have hz5:=hb4.size;have q0:=rr.cell (i:=0) rfl;have q1:=rr.cell (i:=1) rfl;have q2:=rr.cell (i:=2) rfl;clear hW4 hb4 rr;rcases hcs with rfl | rfl
     ·have hcu:=hrow.cell (i:=k) (show(yL vs u n)[k]? = some u by rw[← HVL.out]; exact zU);have hcf:=hrow.frozen k;go_wp2_with fail
      refine aU (fun w'=>w'.cell? ⟨bo,k,none⟩=some u∧w'.cell? ⟨w3.heap.size,0,none⟩=some (.bool (dY x).neg)∧w'.cell? ⟨w3.heap.size,1,none⟩=some (.slice A1 (dY x).num.length c1)∧w'.cell? ⟨w3.heap.size,2,none⟩=some (.slice B1 (dY x).den.length d1)) 10 1 ah rfl ah ?_;have hHeld:(fun w':World=>w'.cell? ⟨bo,k,none⟩=some u∧w'.cell? ⟨w3.heap.size,0,none⟩=some (.bool (dY x).neg)∧w'.cell? ⟨w3.heap.size,1,none⟩=some (.slice A1 (dY x).num.length c1)∧w'.cell? ⟨w3.heap.size,2,none⟩=some (.slice B1 (dY x).den.length d1)) W4.drew:=⟨hcu,q0,q1,q2⟩;refine Zx ?_;have hb:Below W4.heap.size W4 W4.drew:=aK (Below.refl _ W4) 1;obtain⟨wn,hwn⟩:=named W4.drew;rw[← hwn] at hb hHeld ⊢;replace HO:=Af (HO.out.below hb);replace HD:=Af (HD.out.keep (fun _ h _=>h) (Below.same' hb _));replace HFN:=Af (RV.fine.keep HFN.out (fun _ h _=>h) (Below.same' hb _));replace hrow:=hrow.below hb hrow.lt;replace hB:=hB.trans (hb.mono hB.size);have hz6:=hb.size;obtain⟨hcu,q0,q1,q2⟩:=id hHeld;clear hb hwn;refine tkm [0,1,2,3,4,5,6] ?_;refine tk2 7 ah rfl fun K hK=>?_
      go_simp;refine hK.out _ _ ⟨aj hcu ((Below.refl _ _).alloc (Nat.le_refl _) _),aj q0 ((Below.refl _ _).alloc (Nat.le_refl _) _),aj q1 ((Below.refl _ _).alloc (Nat.le_refl _) _),aj q2 ((Below.refl _ _).alloc (Nat.le_refl _) _)⟩ (fun hHeld=>?_);clear hK K;refine Za ?_;refine tk2 8 ah rfl fun K hK=>?_
      refine jS (K:=vG) (F:=fun b=>wa.heap.size≤b) rfl _ _ 64 83 56 _ Tryz.underlying64 Tryz.infoRat rfl ay rfl wa.heap.size (by omega:wa.heap.size≤wn.heap.size) u L rfl ⟨dY x,.slice A1 (dY x).num.length c1,.slice B1 (dY x).den.length d1⟩ _ rfl (by have:=HLL.out; omega) rfl HO.out (RV.fine.keep HFN.out (fun b hb _=>⟨byOmega,fun e=>by have:=HUB.out b e; omega⟩) (Same.refl _ _)) (Below.refl _ _) ?_;intro gg cap w5 hown5 kN yN iw;have yw:Row w5 bo _ _:=hrow.of_block (iw.2 bo (fun e=>by have:=(HO.out.row.lt bo e).1; omega) hrow.lt);have HD5:=Af (HD.out.keep (fun _ h _=>h) (iw.mono fun b hb e=>by have:=(HO.out.row.lt b e).1; omega));have hB5:=hB.trans (kN.mono (show w.heap.size≤wa.heap.size by omega));have aaj:=yw.cell (i:=k) (show(yL vs u n)[k]? = some u by rw[← HVL.out]; exact zU);have ahL:=yw.frozen k;have hblk:=iw.2 w3.heap.size (fun e=>by have:=HUB.out _ e; omega) byOmega;have HO5:=Af hown5;refine hK.out _ _ ⟨aaj,(World.cell?_of_block hblk).trans q0,(World.cell?_of_block hblk).trans q1,(World.cell?_of_block hblk).trans q2⟩ (fun hHeld=>?_);clear hrow hB hcu hcf q0 q1 q2 hown5 hblk iw kN;clear hK K;refine Za ?_;refine tkm [9] ?_;refine ZC ?_;clear hHeld;go_wp2
      refine YK ?_;go_wp2
      go_roundw
      case rel =>
       have hro:dY x=aH x:=agr HOE.out.symm;have hS:∀ (G:Ah),(∀ b,G b→b≠bo)→Same G w5 (w5.setCell ⟨bo,k,none⟩ (.slice (some ⟨gg,0,none⟩) (L.length+1) cap)):=fun G hG=>Same.setCell G w5 (p:=⟨bo,k,none⟩) (fun h=>hG bo h rfl) _
       refine⟨j+1,L ++ [⟨dY x,.slice A1 (dY x).num.length c1,.slice B1 (dY x).den.length d1⟩],.slice (some ⟨gg,0,none⟩) (L.length+1) cap,byOmega,by go_num,by rw[List.length_append,HLL.out]; rfl,?_,?_,HO5.out.same (hS _ fun b hb=>by omega),?_,HD5.out.keep (fun _ h _=>h) (hS _ fun b hb=>by omega),hB5.setCell (p:=⟨bo,k,none⟩) hbow _,aG⟩
       ·rw[List.map_append,HLM.out,take_snoc HXJ.out,List.map_append];show _ ++ [dY x]=_ ++ [aH x];rw[hro]
       ·have:=yw.set k (.slice (some ⟨gg,0,none⟩) (L.length+1) cap);rwa [← HVL.out,ac3,HVL.out] at this
       ·rw[take_snoc HXJ.out,adu,HER.out,ahJ,← HOE.out];rfl
      case measure=>simp[intOf]; omega
     ·have h5:=ahK (xs:=m.flatten) (x:=x) (List.mem_flatten.2 ⟨row,List.mem_of_getElem? HRW.out,List.mem_of_getElem? HXJ.out⟩) HOE.out.symm;have HE5:=Af h5;clear h5;go_wp2
      go_ret2;refine⟨_,rfl,hB,_,by rw[HE5.out]; rfl,?_⟩;unfold qI;rw[if_pos (by rw[HE5.out]; decide)];exact Ag.nil _ _
    ·have hje:j=rn:=byOmega;subst hje;go_wp2
     go_roundw
     case rel =>
      refine⟨k+1,vs ++ [u],byOmega,by go_num,by rw[List.length_append,HVL.out]; rfl,hrow,?_,?_,hB,byOmega⟩
      ·have h1:=HO.out.oq (G:=fun b=>w1.heap.size≤b) (fun b hb=>by omega) (fun b hb=>by omega);rw[HLM.out,List.take_of_length_le (by rw[HRN.out]; exact Nat.le_refl _)] at h1;have h2:=(HD.out.keep (G:=fun b=>w1.heap.size≤b) (fun b hb _=>hb.1) (Same.refl _ _)).snoc h1;rw[take_snoc HRW.out,List.map_append];exact h2
      ·rw[ags HRW.out,adu,HE.out];have h1:=HER.out;rw[List.take_of_length_le (by rw[HRN.out]; exact Nat.le_refl _)] at h1;rw[h1];rfl
     case measure=>simp[intOf]; omega
  ·go_wp2
   go_ret2;have hke:k=n:=byOmega;subst hke;have h1:=HD.out;rw[HNL.out,List.take_of_length_le (Nat.le_refl _)] at h1;have h2:=hrow;rw[um (by rw[HVL.out]; exact Nat.le_refl _)] at h2;refine⟨_,rfl,hB,_,by have:=HE.out; rw[HNL.out,List.take_of_length_le (Nat.le_refl _)] at this; rw[this]; rfl,?_⟩;have h3:=AQ.rows (G:=fun b=>w.heap.size≤b) h1 h2 hbow (fun b hb=>by omega) (c:=k) (by rw[List.length_map,HNL.out]; exact Nat.le_refl _);rw[List.length_map,← HNL.out] at h3;unfold qI;rw[if_neg (by have:=HE.out; rw[HNL.out,List.take_of_length_le (Nat.le_refl _)] at this; simpa using this)];exact h3
end Go.Proofs.YthmklhapjegfdaaGreatDoor
