/- parlourkit.StrategyOf: the strategy that numbers select. -/
import Derived.Test.YtkcheepafifjaaaGreatDoorF37
import Derived.Test.YtkcheepafifjaaaGreatDoorF43
set_option linter.all false
set_option maxRecDepth 100000
set_option maxHeartbeats 12800000
namespace Go.Proofs.YtkcheepafifjaaaGreatDoor
open Lib renaming hid → Ac
open Go.RowKit
theorem Tryz.infoRowsK:(Tryz.prog.info? 30).map (fun i=>(i.zero,i.size,i.bytes))=some (some (.slice none 0 0),afy.n,24):=by kernel_rfl
def jr (L:List Int) (a n k:Nat):List Int:=(dX L a k).1++List.replicate (n - k) 0
theorem acW (L:List Int) (a:Nat) {n k:Nat} (hk:k < n):(jr L a n k).set k (dP L (dX L a k).2 4)=jr L a n (k+1):=by
 unfold jr;have hl:=jS L a k;rw[List.set_append_right _ _ (by omega),hl,Nat.sub_self,show n - k=(n - (k+1))+1 by omega,List.replicate_succ,List.set_cons_zero];rw[show dX L a (k+1)=((dX L a k).1 ++ [dP L (dX L a k).2 4],dh L (dX L a k).2) from rfl];simp
theorem aa8 (L:List Int) (a n:Nat):jr L a n n=(dX L a n).1:=by unfold jr; simp
theorem acX (L:List Int) (a:Nat) {n k:Nat} (hk:k≤n):(jr L a n k).length=n:=by unfold jr; simp[jS]; omega
theorem aaQ (w:World) (F:Ag) (db:Nat) (A:Option Addr) (c:Nat) (L:List Int) (a0:Nat) (vg:Value) (g:Gm) (hr:Row w db 63 [.slice A L.length c,.int .i64 (a0:Int)]) (hL:AA w F (.slice A L.length c) L) (hF:¬ F db) (hl:L.length≤9223372036854775807)
  (hg:AX w F vg g) (hI:∀ i∈g.infos,1≤i.actions∧i.actions≤10) (hn:g.infos.length≤1000) :
  Calls Tryz.prog 35 #[.pointer (some ⟨db,0,none⟩),vg] w fun e w'=>∃ u,e = .returned u∧Az w' (fun b=>w.heap.size≤b) u ((acK L a0 g).map (List.map ay))∧Wrote (fun b=>b=db) w w':=by
 have HI:=Ac hI;have HL:=Ac (hL.keep (G:=fun b=>F b∧b < w.heap.size) (fun b hb hl=>⟨hb,hl⟩) (Same.refl _ _));have hF1:¬ (F db∧db < w.heap.size):=fun e=>hF e.1
 obtain⟨vn,vi,rfl,⟨An,cn,rfl,hcn,_⟩,qm⟩:=hg;have HIN:=Ac (Bv.keep qm (G:=fun b=>F b∧b < w.heap.size) (fun b hb hl=>⟨hb,hl⟩) (Same.refl _ _));obtain⟨Ai,ci,rfl,hci,_⟩:=qm;have HR:=Ac hr;have hdl:=hr.lt;have HDL:=Ac hdl;clear hL hI hr;go_enter Tryz.func35,Tryz.ntmps35;go_upto_region 1 with(fail)
 obtain⟨W,hW,rx,hB,hz'⟩:=aH w 25 #[.int .i64 g.au,.slice An g.nodes.length cn,.slice Ai g.infos.length ci];rw[← hW];have hz:W.heap.size=w.heap.size+1:=hz'.symm;have HR1:=Ac (HR.out.below hB HR.out.lt);have HW1:=Ac (Below.wrote hB (fun b=>b=db));have RX:=Ac rx;clear hW rx hB hz';go_wp2
 go_loopw [5,6] (fun u i wr=>∃ (k:Nat) (LL:List (Value×List Raw)),k≤g.infos.length∧i = .int .i64 (k:Int)∧Hid (LL.length=k∧LL.map Prod.snd=(gJ L a0 g.infos k).1.map (List.map ay))∧AB afy wr (w.heap.size+1) 30 (fun b=>w.heap.size≤b) u LL∧Row wr db 63 [.slice A L.length c,.int .i64 ((gJ L a0 g.infos k).2:Int)]∧Hid (Wrote (fun b=>b=db) w wr)∧Row wr w.heap.size 25 [.int .i64 g.au,.slice An g.nodes.length cn,.slice Ai g.infos.length ci]∧w.heap.size+1≤wr.heap.size) (fun _ i _=>g.infos.length - (intOf i).toNat)
 case atStart=>exact⟨0,[],by omega,rfl,Ac ⟨rfl,rfl⟩,AB.nil _ _ _ _ _,HR1.out,HW1,RX.out,by omega⟩
 case round =>
  clear RX HW1 HR1;obtain⟨k,LL,hk,rfl,HLL,hown,hdr,HW,rx,hz1⟩:=hrel;obtain⟨w0,hw0⟩:∃ w0:World,w0=wr:=⟨_,rfl⟩;have HO:=Ac hown; have HD:=Ac hdr;have x2:=rx.cell (i:=2) rfl;have RX:=Ac rx;clear hown hdr rx;by_cases hlt:k < g.infos.length
  ·have t0:decide (k < g.infos.length)=true:=decide_eq_true hlt;obtain⟨inf,hik⟩:=aB hlt;have hia:=HI.out inf (List.mem_of_getElem? hik);obtain⟨n,hn1⟩:∃ n:Nat,inf.actions=(n:Int):=⟨inf.actions.toNat,by omega⟩;obtain⟨Ai',ci',he,_,hcell⟩:=HIN.out.on (HW.out.same fun b hb e=>hF (e▸hb.1));simp only[Value.slice.injEq] at he;obtain⟨rfl,_,rfl⟩:=he;obtain⟨bi,oi,rfl,_,_,hcell⟩:=hcell (by omega);have e1:=(hcell k inf hik).c1;rw[hn1] at e1;have HIK:=Ac hik; have HN1:=Ac hn1;have hnb:1≤n∧n≤10:=by omega
   clear hcell hik hn1 hia;go_wp2_with (at_make; refine gq _ rfl _ _ 57 rfl 3 (.int .i64 0) 8 Tryz.underlying57 Tryz.infoInt rfl n rfl rfl (by omega) (by omega) ?_; intro w1 hb1 hz2 hrow1)
   obtain⟨lb,hlb⟩:∃ lb,lb=wr.heap.size:=⟨_,rfl⟩;rw[← hlb] at hrow1 hz2 ⊢;have hdlb:db≠lb:=by have:=HW.out.size; omega
   have HO0:=Ac (HO.out.widen (G:=fun b=>w.heap.size≤b∧b < lb) (fun b hb hl=>⟨hb,by omega⟩)); have HOL:=Ac (show ∀ b,u5.ownBlock=some b→w.heap.size+1≤b∧b < lb from fun b e=>by have:=HO.out.row.lt b e; omega);have HO1:=Ac (HO0.out.below hb1); have HD1:=Ac (HD.out.below hb1 HD.out.lt); have HW1:=Ac (HW.out.trans (Below.wrote hb1 _)); have RX1:=Ac (RX.out.below hb1 RX.out.lt);have Cc:=Ac (show Row w1 lb 3 ((jr L (gJ L a0 g.infos k).2 n 0).map (Value.int .i64)) by unfold jr dX; simpa using hrow1);obtain⟨at0,aed⟩:∃ at0,at0=(gJ L a0 g.infos k).2:=⟨_,rfl⟩;rw[← aed] at HD1 Cc;have HSK:=Ac (show gJ L a0 g.infos (k+1)=((gJ L a0 g.infos k).1 ++ [eY (dX L at0 n).1],(dX L at0 n).2) by
    show((gJ L a0 g.infos k).1 ++ [eY (dX L (gJ L a0 g.infos k).2 (g.infos.getD k default).actions.toNat).1],(dX L (gJ L a0 g.infos k).2 (g.infos.getD k default).actions.toNat).2)=_;rw[List.getD_eq_getElem?_getD,HIK.out,Option.getD_some,HN1.out,Int.toNat_natCast,← aed])
   have hlbg:w.heap.size+1≤lb∧lb < w1.heap.size:=by omega
   have hlbw:∀ b,b < wr.heap.size→b < lb:=fun b h=>by omega
   have HLBW:=Ac hlbw;clear hlbw hlb hz2 hz aed hb1 hrow1 HO HD HW RX x2 e1 hw0;go_loopw [8] (fun i wr=>∃ j:Nat,j≤n∧i = .int .i64 (j:Int)∧Row wr lb 3 ((jr L at0 n j).map (Value.int .i64))∧Row wr db 63 [.slice A L.length c,.int .i64 ((dX L at0 j).2:Int)]∧Hid (Wrote (fun b=>b=db∨b=lb) w1 wr)∧w1.heap.size≤wr.heap.size) (fun i _=>n - (intOf i).toNat)
   case atStart=>exact⟨0,by omega,rfl,Cc.out,HD1.out,Ac (Wrote.refl _ _),Nat.le_refl _⟩
   case round =>
    clear Cc;obtain⟨j,hj,rfl,hrow,hdr,HWJ,hz3⟩:=hrel;have Cc:=Ac hrow;by_cases hjt:j < n
    ·have t1:decide ((j:Int) < (n:Int))=true:=decide_eq_true (by omega);have hjl:=acX L at0 hj;have HJS:=Ac (acW L at0 hjt);have HNX:=Ac (show(dX L at0 (j+1)).2=dh L (dX L at0 j).2 from rfl);obtain⟨aj,haj⟩:∃ aj,aj=(dX L at0 j).2:=⟨_,rfl⟩;rw[← haj] at HJS HNX hdr;clear hrow haj;have HLJ:=Ac (HL.out.on ((HW1.out.same fun b hb e=>hF (e▸hb.1)).trans (HWJ.out.same fun b hb e=>e.elim (fun e=>hF (e▸hb.1)) fun e=>by have:=hb.2; omega)));have HDR:=Ac hdr;clear hdr;go_wp2_with (go_at_call 65; (with_reducible refine(next_any wr _ db A c L aj 4 HDR.out HLJ.out hF1 (by decide) (by decide) hl).mono ?_); rintro e w2 ⟨rfl,hr2,hw2⟩; have HR2:=Ac hr2; have Dh:=Ac (Cc.out.wrote hw2 (fun e=>hdlb e.symm)); have HWJ2:=Ac (HWJ.out.step hw2 fun i _ e=>.inl e); have hz4:=Nat.le_trans hz3 hw2.size; clear hr2 hw2; have ff:=Dh.out.frozen j; obtain⟨vq,y0⟩:∃ v,w2.cell? ⟨lb,j,none⟩=some v:=⟨_,Dh.out.cell (i:=j) (v:=.int .i64 ((jr L at0 n j).getD j 0)) (by rw[List.getElem?_map,List.getD_eq_getElem?_getD,List.getElem?_eq_getElem (by omega)]; rfl)⟩)
     obtain⟨w3,hw3⟩:∃ w3,w3=w2.setCell ⟨lb,j,none⟩ (.int .i64 (dP L aj 4)):=⟨_,rfl⟩;rw[← hw3];have HR3:=Ac (HR2.out.wrote (K:=fun b=>b=lb) (hw3▸Wrote.setCell (K:=fun b=>b=lb) (p:=⟨lb,j,none⟩) (Wrote.refl _ _) (.inl rfl) _) (fun e=>hdlb e));have Ez:=Ac (show Row w3 lb 3 ((jr L at0 n (j+1)).map (Value.int .i64)) by rw[hw3,← HJS.out,List.map_set]; exact Dh.out.set j _);have HWJ3:=Ac (show Wrote (fun b=>b=db∨b=lb) w1 w3 from hw3▸HWJ2.out.setCell (p:=⟨lb,j,none⟩) (.inl (.inr rfl)) _);have hz5:w1.heap.size≤w3.heap.size:=HWJ3.out.size;clear hw3 ff y0 Dh HWJ2 HR2 Cc HDR HLJ HWJ;go_roundw
     case rel=>exact⟨j+1,by omega,by go_num,Ez.out,by rw[HNX.out]; exact HR3.out,HWJ3,hz5⟩
     case measure=>simp[intOf]; omega
    ·have hje:j=n:=by omega
     subst hje;have t1:decide ((j:Int) < (j:Int))=false:=decide_eq_false (by omega);clear hrow;obtain⟨rl,hrl⟩:∃ rl,rl=(dX L at0 j).1:=⟨_,rfl⟩;have hrll:rl.length=j:=by rw[hrl]; exact jS L at0 j
     have HRL:=Ac (show ∀ x∈rl,0≤x∧x≤1000 from fun x hx=>by rw[hrl] at hx; have:=vN L at0 j x hx; omega);have HIT:=Ac (show AA wr (fun b=>b=lb) (.slice (some ⟨lb,0,none⟩) rl.length j) rl from by
      have h:=Cc.out;rw[aa8,← hrl] at h;have h2:=h.nM (F:=fun b=>b=lb) rfl;rw[hrll] at h2 ⊢;exact h2)
     have HRH:=Ac hrl;rw[hrll] at HIT;have HO2:=Ac ((HO1.out.wrote HWJ.out fun b hb e=>by
      have h1:w.heap.size≤b∧b < lb:=hb.elim id fun e=>by have:=HOL.out b e; omega
      rcases e with e | e <;> omega).widen (G:=fun b=>w.heap.size≤b) fun b hb _=>hb.1)
     have HDR:=Ac hdr;have HWT:=Ac (HW1.out.step HWJ.out fun i hi e=>e.elim id fun e=>by omega);have RX2:=Ac (RX1.out.wrote HWJ.out fun e=>by rcases e with e | e <;> omega);have hllb:LL.length≤1000000:=by rw[HLL.out.1]; omega
     clear hdr hrl Cc HO1 HO0 HWJ HW1 RX1 HD1;go_wp2_with (first | (go_at_call 67; (with_reducible refine(acM wr _ _ rl HIT.out (by omega) HRL.out).mono ?_); rintro e w4 ⟨u,rfl,hb4,hu⟩; have hu':=hu; obtain⟨Aw,cw,rfl,_⟩:=hu; rw[List.length_map] at hu' ⊢; have HU:=Ac hu'; clear hu'; have HO4:=Ac (HO2.out.below hb4); have HD4:=Ac (HDR.out.below hb4 HDR.out.lt); have HW4:=Ac (HWT.out.trans (Below.wrote hb4 _)); have RX4:=Ac (RX2.out.below hb4 RX2.out.lt); have hz6:=Nat.le_trans hz3 hb4.size; have hz7:wr.heap.size≤w4.heap.size:=hb4.size; clear hb4) | (at_builtin; go_loud (refine jV (K:=afy) (F:=fun b=>w.heap.size≤b) (w:=w4) (W:=w4) rfl _ _ 27 30 24 _ Tryz.underlying27 Tryz.infoRowsK rfl (by decide) rfl (w.heap.size+1) (by omega) u5 LL rfl (.slice Aw (eY rl).length cw,(eY rl).map ay) _ rfl hllb rfl HO4.out (Ah.keep HU.out (fun b hb _=>⟨by omega,fun e=>by have:=HOL.out b e; omega⟩) (Same.refl _ _)) ?_; intro g2 cap2 wq hown hwq hat hlt5; have HO5:=Ac hown; have HD5:=Ac (HD4.out.wrote hwq fun e=>by have:=HOL.out _ e; have:=HDL.out; omega); have HW5:=Ac (HW4.out.step hwq fun i hi e=>by have:=HOL.out _ e; omega); have RX5:=Ac (RX4.out.wrote hwq fun e=>by have:=HOL.out _ e; omega); have hz8:=Nat.le_trans hz6 hwq.size; clear hown hwq hat hlt5)))
     go_roundw
     case rel=>exact⟨k+1,LL ++ [(.slice Aw (eY rl).length cw,(eY rl).map ay)],by omega,by go_num,Ac ⟨by rw[List.length_append,HLL.out.1]; rfl,by rw[HSK.out,List.map_append,HLL.out.2,List.map_append,HRH.out]; rfl⟩,HO5.out,by rw[HSK.out]; exact HD5.out,HW5,RX5.out,by omega⟩
     case measure=>simp[intOf]; omega
  ·have hke:k=g.infos.length:=by omega
   subst hke;have t0:decide (g.infos.length < g.infos.length)=false:=decide_eq_false (by omega);go_wp2
   go_ret;have h:=HO.out.rows (G:=fun b=>w.heap.size≤b) (fun b hb=>hb) (fun b hb=>by omega);rw[HLL.out.2] at h;exact⟨_,rfl,h,HW.out⟩
end Go.Proofs.YtkcheepafifjaaaGreatDoor
