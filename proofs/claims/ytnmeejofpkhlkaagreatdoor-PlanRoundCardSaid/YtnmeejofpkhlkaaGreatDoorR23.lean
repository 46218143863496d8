/- parlourkit.OwnRat, OwnVec, OwnLists: copies in new memory. -/
import Derived.Test.YtnmeejofpkhlkaaGreatDoorR19
import Derived.Test.YtnmeejofpkhlkaaGreatDoorR21
set_option linter.all false
set_option maxRecDepth 100000
set_option maxHeartbeats 12800000
namespace Go.Proofs.YtnmeejofpkhlkaaGreatDoor
open Lib renaming hid → Ag
open Go.RowKit
theorem Tryz.infoRats:(Tryz.prog.info? 38).map (fun i=>(i.zero,i.size,i.bytes))=some (some (.slice none 0 0),yP.n,24):=ah
open List renaming getElem_toArray → lq1, getElem_cons_zero → lq2, getElem_cons_succ → lq3, setIfInBounds_toArray → lq4, set_cons_zero → lq5, set_cons_succ → lq6
theorem ad8 (xs ys:List Rat):l9 (xs++ys)=if l9 xs≠0 then l9 xs else l9 ys:=by
 unfold l9;rw[List.any_append];cases xs.any (fun x=>decide (1024 < rl x)) <;> simp
theorem aiP (x:Rat):l9 [x]=kN x:=by unfold l9 kN; by_cases h:1024 < rl x <;> simp[h]
theorem ahm {x:Rat} (h:kN x=0):eY x=aG x:=by
 unfold kN at h;unfold eY;split at h
 ·cases h
 ·rename_i h1; rw[if_neg h1]
theorem aiQ {xs:List Rat} {x:Rat} (hx:x∈xs) (h:kN x=5):l9 xs=5:=by
 unfold l9;unfold kN at h;have h1:1024 < rl x:=by
  by_cases h1:1024 < rl x
  ·exact h1
  ·rw[if_neg h1] at h;cases h
 rw[if_pos (List.any_eq_true.2 ⟨x,hx,by simpa using h1⟩)]
def qx (m:List (List Rat)):List (List Raw):=if l9 m.flatten≠0 then [] else m.map (List.map aG)
theorem ahn {m:List (List Rat)} {k:Nat} {l:List Rat} (h:m[k]? = some l):(m.take (k+1)).flatten=(m.take k).flatten++l:=by
 rw[take_snoc h,List.flatten_append];simp
theorem qG (w:World) (F:Foot) (v:Value) (m:List (List Rat)) (hv:RawRowsAt w F v (m.map (List.map au))) (hl:m.length≤1000) (hr:∀ l∈m,l.length≤1000) (hf:∀ l∈m,∀ x∈l,rl x≤100000) :
  Calls Tryz.prog 65 #[v] w (Ret w fun u w'=>∃ t,u = .tuple #[t,.int .i64 (l9 m.flatten)]∧RawRowsAt w' (fun b=>w.heap.size≤b) t (qx m)):=by
 have HV:=Ag hv;obtain⟨A,c,rfl,hc,_⟩:=hv;obtain⟨n,hn⟩:=named m.length;have hnn:(m.map (List.map au)).length=n:=by rw[List.length_map,hn]
 rw[hnn] at hc HV ⊢;have HR:=Ag hr;have HF:=Ag hf;rw[← hn] at hl;have HNL:=Ag hn;clear hr hf hn hnn;go_in;go_wp2_with (at_make; refine dQ _ rfl _ _ 30 rfl 38 (.slice none 0 0) 24 Tryz.underlying30 Tryz.infoRats rfl n rfl rfl byOmega byOmega ?_; intro w1 hb1 hz1 hm1)
 obtain⟨bo,hbo⟩:=named w.heap.size;rw[← hbo] at hm1 ⊢;have hbo1:bo < w1.heap.size:=byOmega;have hbow:w.heap.size≤bo:=byOmega;have HM1:=Ag (show Row w1 bo 38 (restN [] n) by rw[restN_nil]; exact hm1);have HB1:=Ag hb1;clear hm1 hb1 hz1 hbo;go_loopw [16] (fun i wr=>∃ (k:Nat) (vs:List Value),k≤n∧i = .int .i64 (k:Int)∧vs.length=k∧Row wr bo 38 (restN vs n)∧DoneRows wr (fun b=>w1.heap.size≤b) vs ((m.take k).map (List.map aG))∧l9 (m.take k).flatten=0∧Below w.heap.size w wr∧w1.heap.size≤wr.heap.size) (fun i _=>n - (intOf i).toNat)
 case atStart=>exact⟨0,[],Nat.zero_le _,rfl,rfl,HM1.out,DoneRows.nil _ _,rfl,HB1.out,Nat.le_refl _⟩
 case round =>
  clear HM1 HB1;obtain⟨k,vs,hk,rfl,hvl,hrow,hdone,herr,hB,hz⟩:=hrel;obtain⟨wa,rfl⟩:=named wr;have HD:=Ag hdone;have HE:=Ag herr;have HVL:=Ag hvl;clear hdone herr hvl;by_cases hlt:k < n
  ·obtain⟨row,hrw⟩:=getSome (l:=m) (k:=k) (by rw[← HNL.out]; exact hlt);obtain⟨b,o,cc,u,e2,_,hbw,x0,i1⟩:=RawRowsAt.at HV.out (k:=k) (l:=row.map au) (by rw[List.getElem?_map,hrw]; rfl);injection e2 with e21 e22 e23
   subst e21;clear e22 e23;have HU:=Ag i1;obtain⟨Ar,cr,rfl,_,_⟩:=i1;obtain⟨rn,hrn⟩:=named row.length;have hrn2:(row.map au).length=rn:=by rw[List.length_map,hrn]
   rw[hrn2] at x0 HU;have hmem:=List.mem_of_getElem? hrw;have hrl:rn≤1000:=by rw[hrn];exact HR.out row hmem
   have HRF:=Ag (HF.out row hmem);have HRW:=Ag hrw;have HRN:=Ag hrn;rw[← aQ hB _ _ hbw] at x0;have HRO:=Ag (show Row wa bo 38 (nowN vs (.slice none 0 0) n) by rw[nowN_nil (by rw[HVL.out]; exact hlt)]; exact hrow);have HBA:=Ag hB;clear hrw hrn hrn2 hmem hrow hB;go_wp2
   go_loopw [23] (fun i wr=>∃ (j:Nat) (L:List RV) (u:Value),j≤rn∧i = .int .i64 (j:Int)∧L.length=j∧L.map RV.r=(row.take j).map aG∧Row wr bo 38 (nowN vs u n)∧OwnSl ratK wr wa.heap.size 42 (fun b=>wa.heap.size≤b) u L∧l9 (row.take j)=0∧DoneRows wr (fun b=>w1.heap.size≤b∧b < wa.heap.size) vs ((m.take k).map (List.map aG))∧Below w.heap.size w wr∧wa.heap.size≤wr.heap.size) (fun i _=>rn - (intOf i).toNat)
   case atStart=>exact⟨0,[],.slice none 0 0,Nat.zero_le _,rfl,rfl,rfl,HRO.out,OwnSl.nil _ _ _ _ _,rfl,HD.out.keep (fun b hb hl=>⟨hb,hl⟩) (Same.refl _ _),HBA.out,Nat.le_refl _⟩
   case round =>
    clear x0 HRO HBA HD;obtain⟨j,L,u,hj,rfl,hLl,hLm,hrow,hown,herr,hdone,hB,hz2⟩:=hrel;obtain⟨wb,rfl⟩:=named wr;have HD:=Ag hdone;have HO:=Ag hown;have HLL:=Ag hLl;have HLM:=Ag hLm;have HER:=Ag herr;clear hdone hown hLl hLm herr;by_cases hjt:j < rn
    ·obtain⟨x,hx⟩:=getSome (l:=row) (k:=j) (by rw[← HRN.out]; exact hjt);obtain⟨eb,eo,cc,vn,vd,e2,hFe,hew,e0,e1,e2',hfn,hfd⟩:=RawsAt.at HU.out (k:=j) (r:=au x) (by rw[List.getElem?_map,hx]; rfl);injection e2 with e21 e22 e23
     subst e21;clear e22 e23;have HX:=Ag (show Ak w F (.agg #[.bool (au x).neg,vn,vd]) (au x) from Ak.make rfl hfn hfd);obtain⟨An,cn,rfl,_,_⟩:=hfn;obtain⟨Ad,cd,rfl,_,_⟩:=hfd;have hold:=aQ hB;rw[← hold _ _ hew] at e0 e1 e2';have hrlx:=HRF.out x (List.mem_of_getElem? hx);have HXJ:=Ag hx;clear hx hold;have hBs:=hB.size;go_wp2_with fail
     obtain⟨W2,hW2,rz,hB2,hzz⟩:=aO wb 114 #[.bool (au x).neg,.slice An (au x).num.length cn,.slice Ad (au x).den.length cd];rw[← hW2];replace HX:=Ag ((Ak.on HX.out (Below.same' hB F)).below hB2);replace HO:=Ag (HO.out.below hB2);replace HD:=Ag (HD.out.keep (fun _ h _=>h) (Below.same' hB2 _));replace hrow:=hrow.below hB2 hrow.lt;replace hB:=hB.trans (hB2.mono hB.size);have hz3:=hB2.size;have q0:=rz.cell (i:=0) rfl;have q1:=rz.cell (i:=1) rfl;have q2:=rz.cell (i:=2) rfl;have HUB:=Ag (fun b (e:u.ownBlock=some b)=>(HO.out.row.lt b e).2);clear hW2 hB2 hzz rz e0 e1 e2';go_wp2_with fail
     refine(aiB W2 F _ x HX.out hrlx).mono ?_;rintro e w3 ⟨t,rfl,hb,u3,rfl,hu3⟩;replace HO:=Ag (HO.out.below hb);replace HD:=Ag (HD.out.keep (fun _ h _=>h) (Below.same' hb _));replace hrow:=hrow.below hb hrow.lt;replace hB:=hB.trans (hb.mono hB.size);have hz4:=hb.size;obtain⟨A1,c1,B1,d1,rfl,jh⟩:=hu3.opened;clear hu3 hb q0 q1 q2 HX;obtain⟨oe,hoe⟩:=named (kN x);have hcs:oe=0∨oe=5:=by rw[hoe];exact ajS
     rw[← hoe];have HOE:=Ag hoe;clear hoe;have HFN:=Ag jh;clear jh;dsimp only;go_upto_region 9 with(fail)
     obtain⟨W4,hW4,rr,hb4,hzz⟩:=aO w3 42 #[.bool (eY x).neg,.slice A1 (eY x).num.length c1,.slice B1 (eY x).den.length d1];rw[← hW4];replace HO:=Ag (HO.out.below hb4);replace HD:=Ag (HD.out.keep (fun _ h _=>h) (Below.same' hb4 _));replace HFN:=Ag (RV.fine.keep HFN.out (fun _ h _=>h) (Below.same' hb4 _));replace hrow:=hrow.below hb4 hrow.lt;replace hB:=hB.trans (hb4.mono hB.size);have hz5:=hb4.size;have q0:=rr.cell (i:=0) rfl;have q1:=rr.cell (i:=1) rfl;have q2:=rr.cell (i:=2) rfl;clear hW4 hb4 rr;rcases hcs with rfl | rfl
     ·have hcu:=hrow.cell (i:=k) (show(nowN vs u n)[k]? = some u by rw[← HVL.out]; exact nowN_get);have hcf:=hrow.frozen k;go_wp2_with fail
      refine aX (fun w'=>w'.cell? ⟨bo,k,none⟩=some u∧w'.cell? ⟨w3.heap.size,0,none⟩=some (.bool (eY x).neg)∧w'.cell? ⟨w3.heap.size,1,none⟩=some (.slice A1 (eY x).num.length c1)∧w'.cell? ⟨w3.heap.size,2,none⟩=some (.slice B1 (eY x).den.length d1)) 10 1 ah rfl ah ?_;have hHeld:(fun w':World=>w'.cell? ⟨bo,k,none⟩=some u∧w'.cell? ⟨w3.heap.size,0,none⟩=some (.bool (eY x).neg)∧w'.cell? ⟨w3.heap.size,1,none⟩=some (.slice A1 (eY x).num.length c1)∧w'.cell? ⟨w3.heap.size,2,none⟩=some (.slice B1 (eY x).den.length d1)) W4.drew:=⟨hcu,q0,q1,q2⟩;refine Zq ?_;have hb:Below W4.heap.size W4 W4.drew:=aI (Below.refl _ W4) 1;obtain⟨wn,hwn⟩:=named W4.drew;rw[← hwn] at hb hHeld ⊢;replace HO:=Ag (HO.out.below hb);replace HD:=Ag (HD.out.keep (fun _ h _=>h) (Below.same' hb _));replace HFN:=Ag (RV.fine.keep HFN.out (fun _ h _=>h) (Below.same' hb _));replace hrow:=hrow.below hb hrow.lt;replace hB:=hB.trans (hb.mono hB.size);have hz6:=hb.size;obtain⟨hcu,q0,q1,q2⟩:=id hHeld;clear hb hwn;refine tkm [0,1,2,3,4,5,6] ?_;refine tk2 7 ah rfl fun K hK=>?_
      go_simp;refine hK.out _ _ ⟨ak hcu ((Below.refl _ _).alloc (Nat.le_refl _) _),ak q0 ((Below.refl _ _).alloc (Nat.le_refl _) _),ak q1 ((Below.refl _ _).alloc (Nat.le_refl _) _),ak q2 ((Below.refl _ _).alloc (Nat.le_refl _) _)⟩ (fun hHeld=>?_);clear hK K;refine Zb ?_;refine tk2 8 ah rfl fun K hK=>?_
      refine kJ (K:=ratK) (F:=fun b=>wa.heap.size≤b) rfl _ _ 38 42 56 _ Tryz.underlying38 Tryz.infoRat rfl ay rfl wa.heap.size (by omega:wa.heap.size≤wn.heap.size) u L rfl ⟨eY x,.slice A1 (eY x).num.length c1,.slice B1 (eY x).den.length d1⟩ _ rfl (by have:=HLL.out; omega) rfl HO.out (RV.fine.keep HFN.out (fun b hb _=>⟨byOmega,fun e=>by have:=HUB.out b e; omega⟩) (Same.refl _ _)) (Below.refl _ _) ?_;intro gg cap w5 hown5 lK zy iQ;have yU:Row w5 bo _ _:=hrow.of_block (iQ.2 bo (fun e=>by have:=(HO.out.row.lt bo e).1; omega) hrow.lt);have HD5:=Ag (HD.out.keep (fun _ h _=>h) (iQ.mono fun b hb e=>by have:=(HO.out.row.lt b e).1; omega));have hB5:=hB.trans (lK.mono (show w.heap.size≤wa.heap.size by omega));have aaI:=yU.cell (i:=k) (show(nowN vs u n)[k]? = some u by rw[← HVL.out]; exact nowN_get);have aiR:=yU.frozen k;have hblk:=iQ.2 w3.heap.size (fun e=>by have:=HUB.out _ e; omega) byOmega;have HO5:=Ag hown5;refine hK.out _ _ ⟨aaI,(World.cell?_of_block hblk).trans q0,(World.cell?_of_block hblk).trans q1,(World.cell?_of_block hblk).trans q2⟩ (fun hHeld=>?_);clear hrow hB hcu hcf q0 q1 q2 hown5 hblk iQ lK;clear hK K;refine Zb ?_;refine tkm [9] ?_;refine Zw ?_;clear hHeld;go_wp2
      refine YM ?_;go_wp2
      go_roundw
      case rel =>
       have hro:eY x=aG x:=ahm HOE.out.symm;have hS:∀ (G:Foot),(∀ b,G b→b≠bo)→Same G w5 (w5.setCell ⟨bo,k,none⟩ (.slice (some ⟨gg,0,none⟩) (L.length+1) cap)):=fun G hG=>Same.setCell G w5 (p:=⟨bo,k,none⟩) (fun h=>hG bo h rfl) _
       refine⟨j+1,L ++ [⟨eY x,.slice A1 (eY x).num.length c1,.slice B1 (eY x).den.length d1⟩],.slice (some ⟨gg,0,none⟩) (L.length+1) cap,byOmega,by go_num,by rw[List.length_append,HLL.out]; rfl,?_,?_,HO5.out.same (hS _ fun b hb=>by omega),?_,HD5.out.keep (fun _ h _=>h) (hS _ fun b hb=>by omega),hB5.setCell (p:=⟨bo,k,none⟩) hbow _,aF⟩
       ·rw[List.map_append,HLM.out,take_snoc HXJ.out,List.map_append];show _ ++ [eY x]=_ ++ [aG x];rw[hro]
       ·have:=yU.set k (.slice (some ⟨gg,0,none⟩) (L.length+1) cap);rwa [← HVL.out,nowN_set,HVL.out] at this
       ·rw[take_snoc HXJ.out,ad8,HER.out,aiP,← HOE.out];rfl
      case measure=>simp[intOf]; omega
     ·have h5:=aiQ (xs:=m.flatten) (x:=x) (List.mem_flatten.2 ⟨row,List.mem_of_getElem? HRW.out,List.mem_of_getElem? HXJ.out⟩) HOE.out.symm;have HE5:=Ag h5;clear h5;go_wp2
      go_ret2;refine⟨_,rfl,hB,_,by rw[HE5.out]; rfl,?_⟩;unfold qx;rw[if_pos (by rw[HE5.out]; decide)];exact RawRowsAt.nil _ _
    ·have hje:j=rn:=byOmega;subst hje;go_wp2
     go_roundw
     case rel =>
      refine⟨k+1,vs ++ [u],byOmega,by go_num,by rw[List.length_append,HVL.out]; rfl,hrow,?_,?_,hB,byOmega⟩
      ·have h1:=HO.out.raws (G:=fun b=>w1.heap.size≤b) (fun b hb=>by omega) (fun b hb=>by omega);rw[HLM.out,List.take_of_length_le (by rw[HRN.out]; exact Nat.le_refl _)] at h1;have h2:=(HD.out.keep (G:=fun b=>w1.heap.size≤b) (fun b hb _=>hb.1) (Same.refl _ _)).snoc h1;rw[take_snoc HRW.out,List.map_append];exact h2
      ·rw[ahn HRW.out,ad8,HE.out];have h1:=HER.out;rw[List.take_of_length_le (by rw[HRN.out]; exact Nat.le_refl _)] at h1;rw[h1];rfl
     case measure=>simp[intOf]; omega
  ·go_wp2
   go_ret2;have hke:k=n:=byOmega;subst hke;have h1:=HD.out;rw[HNL.out,List.take_of_length_le (Nat.le_refl _)] at h1;have h2:=hrow;rw[restN_full (by rw[HVL.out]; exact Nat.le_refl _)] at h2;refine⟨_,rfl,hB,_,by have:=HE.out; rw[HNL.out,List.take_of_length_le (Nat.le_refl _)] at this; rw[this]; rfl,?_⟩;have h3:=DoneRows.rows (G:=fun b=>w.heap.size≤b) h1 h2 hbow (fun b hb=>by omega) (c:=k) (by rw[List.length_map,HNL.out]; exact Nat.le_refl _);rw[List.length_map,← HNL.out] at h3;unfold qx;rw[if_neg (by have:=HE.out; rw[HNL.out,List.take_of_length_le (Nat.le_refl _)] at this; simpa using this)];exact h3
end Go.Proofs.YtnmeejofpkhlkaaGreatDoor
