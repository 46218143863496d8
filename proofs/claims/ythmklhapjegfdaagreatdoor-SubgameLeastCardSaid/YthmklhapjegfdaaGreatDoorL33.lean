/- recall.walked and recall.Form -/
import Derived.Test.YthmklhapjegfdaaGreatDoorL32
import Derived.Test.YthmklhapjegfdaaGreatDoorL19
import Derived.Deep.CutRange
import Derived.Test.YthmklhapjegfdaaGreatDoorL08
import Derived.Deep.LoopGhost
set_option linter.all false
set_option maxRecDepth 100000
set_option maxHeartbeats 12800000
namespace Go.Proofs.YthmklhapjegfdaaGreatDoor
open Lib renaming hid → Aa
open List renaming getElem_toArray → lq1, getElem_cons_zero → lq2, getElem_cons_succ → lq3, setIfInBounds_toArray → lq4, set_cons_zero → lq5, set_cons_succ → lq6
open Go.RowKit
def walkT (g:Gm):Int×Tri:=bM g.nodes (g.nodes.length+1) 0 (-1) 0 ⟨List.replicate g.nodes.length 0,List.replicate g.nodes.length 0,List.replicate g.nodes.length 0⟩
def o7 (g:Gm):Int :=
 if jR g then 2 else if bV g.aj g.infos.length g.nodes≠0 then bV g.aj g.infos.length g.nodes
 else if (walkT g).1≠g.nodes.length then 9 else if 40 < maxL (walkT g).2.d then 5 else gY g
def DN (g:Gm) (B:Nat) (v:Value) (w':World):Prop:=∃ vp,v = .tuple #[vp,.int .i64 (o7 g)] ∧
 (o7 g=0→∃ p bp bd bl A c Ai ci,vp = .pointer (some ⟨p,0,none⟩)∧Bc w' p bp bd bl g.aj A g.nodes.length c Ai g.infos.length ci (walkT g).2∧B≤p∧B≤bp∧B≤bd∧B≤bl)
theorem ku {P:Program} (w:World) {o:Oper} {a:Act} {K:Act→World→Prop} {Q:Exit→Act→World→Prop} (l c:Operand) (t:TypeId) (hop:o.op=Op.makeSlice t l c)
  (e:TypeId) (z:Value) (bytes:Nat) (ht:P.underlying t=some (.slice e)) (hinfo:(P.info? e).map (fun i=>(i.zero,i.size,i.bytes))=some (some z,1,bytes)) (hz1:z.cells = #[z])
  (n:Nat) (hl:a.eval l = .int .i64 (n:Int)) (hc:a.eval c = .int .i64 (n:Int)) (hn:n≤1000000) (hb:bytes≤1000)
  (hK:∀ w1,Below w.heap.size w w1→w1.heap.size=w.heap.size+1→Row w1 w.heap.size e (List.replicate n z)→K (a.put o.dst (.slice (some ⟨w.heap.size,0,none⟩) n n)) w1) :
  Oper.wp P o a w K Q:=by
 have hbytes:bytes*n≤281474976710656:=by
  have:bytes*n≤1000*1000000:=Nat.mul_le_mul hb hn;omega
 have hrun:=run_make_row' (P:=P) t e z bytes ht hinfo hz1 .i64 .i64 n hbytes (by omega) w;unfold Oper.wp;simp[execOp,hop,hl,hc,hrun,Result.andThen];have hbel:Below w.heap.size w (w.alloc (.cells (madeCells #[z] n) e)):=(Below.refl _ _).alloc (Nat.le_refl _) _;exact hK _ hbel (by simp) (Row.made w z n e)
def acF (w:World) (B x:Nat) (p:Int) (vn vi:Value):Hold :=
 ⟨fun w'=>B≤w'.heap.size∧Below x w w'∧Row w' x 25 [.int .i64 p,vn,vi]∧∃ a b c,Row w' (x+1) 209 [.int .i64 p,vn,vi,a,b,c],
  fun _ _ ⟨h1,h2,h3,a,b,c,h4⟩ hb=>⟨Nat.le_trans h1 hb.size,h2.trans (hb.mono (Nat.le_of_lt h3.lt)),h3.below hb h3.lt,a,b,c,h4.below hb h4.lt⟩⟩
def rG (x:Nat) (p:Int) (vn vi u:Value):Hold:=⟨fun w'=>∃ b c,Row w' x 209 [.int .i64 p,vn,vi,u,b,c],fun _ _ ⟨b,c,h4⟩ hb=>⟨b,c,h4.below hb h4.lt⟩⟩
def rH (x:Nat) (p:Int) (vn vi u v:Value):Hold:=⟨fun w'=>∃ c,Row w' x 209 [.int .i64 p,vn,vi,u,v,c],fun _ _ ⟨c,h4⟩ hb=>⟨c,h4.below hb h4.lt⟩⟩
def vU (x:Nat) (p:Int) (vn vi u v z:Value):Hold:=⟨fun w'=>Row w' x 209 [.int .i64 p,vn,vi,u,v,z],fun _ _ h4 hb=>h4.below hb h4.lt⟩
def dL (B x n:Nat) (p:Int) (vn vi:Value):Says where
 uses i:=match i with | 17=>[6] | 20=>[6,10] | 23=>[6,10,14] | _=>[]
 F i l:=match i with
  | 6 | 10 | 14=>Hold.made B 3 n (List.replicate n (.int .i64 0)) (l.getD 0 undef)
  | 15 | 18 | 21=>Hold.eq (.pointer (some ⟨x,0,none⟩)) (l.getD 0 undef)
  | 16=>Hold.eq (.pointer (some ⟨x,3,none⟩)) (l.getD 0 undef)
  | 19=>Hold.eq (.pointer (some ⟨x,4,none⟩)) (l.getD 0 undef)
  | 22=>Hold.eq (.pointer (some ⟨x,5,none⟩)) (l.getD 0 undef)
  | 17=>rG x p vn vi (l.getD 1 undef)
  | 20=>rH x p vn vi (l.getD 1 undef) (l.getD 2 undef)
  | 23=>vU x p vn vi (l.getD 1 undef) (l.getD 2 undef) (l.getD 3 undef)
  | _=>Hold.tt
 cu:=[17,20,23]
 G j l w w':=match j with
  | 17=>w'=w.setCell ⟨x,3,none⟩ (l.getD 1 undef)
  | 20=>w'=w.setCell ⟨x,4,none⟩ (l.getD 2 undef)
  | 23=>w'=w.setCell ⟨x,5,none⟩ (l.getD 3 undef)
  | _=>False
 mks:=[6,10,14]
theorem aeZ (B x n:Nat) (p:Int) (vn vi:Value):∀ k∈(dL B x n p vn vi).mks,∀ e w,(dL B x n p vn vi).R k e w→∀ b,lU (e k)=some b→b < w.heap.size:=by
 intro k hk e w h;simp only[dL,List.mem_cons,List.not_mem_nil,or_false] at hk;rcases hk with rfl | rfl | rfl
 ·exact oG (show(Hold.made B 3 n (List.replicate n (.int .i64 0)) (e 6)).p w from h)
 ·exact oG (show(Hold.made B 3 n (List.replicate n (.int .i64 0)) (e 10)).p w from h)
 ·exact oG (show(Hold.made B 3 n (List.replicate n (.int .i64 0)) (e 14)).p w from h)
theorem abh {B x n:Nat} {p:Int} {vn vi:Value} {w0:World} (j:Nat) (hj:j∈(dL B (x+1) n p vn vi).cu) {E:List Nat} {e:Nat→Value} {w w':World} (hE:∀ k∈E,k∈[6,10,14,15,16,17,18,19,20,21,22,23]) (hnE:j ∉ E)
  (hf:∀ i∈E,(dL B (x+1) n p vn vi).R i e w) (hS:(acF w0 B x p vn vi).p w) (hx:x+1 < B) (hG:(dL B (x+1) n p vn vi).G j ((j :: (dL B (x+1) n p vn vi).uses j).map e) w w') :
  (acF w0 B x p vn vi).p w'∧∀ i∈E,(dL B (x+1) n p vn vi).R i e w':=by
 obtain⟨s1,s2,s3,a,b,c,s4⟩:=hS;obtain⟨k,u,hk,rfl,hs4,h17,h20,h23⟩:∃ k u,k=3+(j - 17) / 3∧w'=w.setCell ⟨x+1,k,none⟩ u∧(∃ a b c,Row (w.setCell ⟨x+1,k,none⟩ u) (x+1) 209 [.int .i64 p,vn,vi,a,b,c]) ∧
   (17∈E→(rG (x+1) p vn vi (e 6)).p (w.setCell ⟨x+1,k,none⟩ u))∧(20∈E→(rH (x+1) p vn vi (e 6) (e 10)).p (w.setCell ⟨x+1,k,none⟩ u))∧(23∈E→(vU (x+1) p vn vi (e 6) (e 10) (e 14)).p (w.setCell ⟨x+1,k,none⟩ u)):=by
  have f17:17∈E→(rG (x+1) p vn vi (e 6)).p w:=hf 17;have f20:20∈E→(rH (x+1) p vn vi (e 6) (e 10)).p w:=hf 20;have f23:23∈E→(vU (x+1) p vn vi (e 6) (e 10) (e 14)).p w:=hf 23;simp only[dL,List.mem_cons,List.not_mem_nil,or_false] at hj;rcases hj with rfl | rfl | rfl
  ·exact⟨3,e 6,rfl,hG,⟨_,_,_,s4.set 3 _⟩,fun h=>absurd h hnE,fun h=>let ⟨c,h⟩:=f20 h; ⟨c,h.set 3 _⟩,fun h=>(f23 h).set 3 _⟩
  ·exact⟨4,e 10,rfl,hG,⟨_,_,_,s4.set 4 _⟩,fun h=>let ⟨b,c,h⟩:=f17 h; ⟨_,_,h.set 4 _⟩,fun h=>absurd h hnE,fun h=>(f23 h).set 4 _⟩
  ·exact⟨5,e 14,rfl,hG,⟨_,_,_,s4.set 5 _⟩,fun h=>let ⟨b,c,h⟩:=f17 h; ⟨_,_,h.set 5 _⟩,fun h=>let ⟨c,h⟩:=f20 h; ⟨_,h.set 5 _⟩,fun h=>absurd h hnE⟩
 refine⟨⟨by simpa using s1,s2.setCell (p:=⟨x+1,k,none⟩) (Nat.le_succ x) _,s3.other (a:=⟨x+1,k,none⟩) (show x≠x+1 by omega) _,hs4⟩,fun i hi=>?_⟩;have hi':=hE i hi;simp only[List.mem_cons,List.not_mem_nil,or_false] at hi';rcases hi' with rfl | rfl | rfl | rfl | rfl | rfl | rfl | rfl | rfl | rfl | rfl | rfl
 ·exact uI hx (show(Hold.made B 3 n (List.replicate n (.int .i64 0)) (e 6)).p w from hf 6 hi)
 ·exact uI hx (show(Hold.made B 3 n (List.replicate n (.int .i64 0)) (e 10)).p w from hf 10 hi)
 ·exact uI hx (show(Hold.made B 3 n (List.replicate n (.int .i64 0)) (e 14)).p w from hf 14 hi)
 ·exact hf 15 hi
 ·exact hf 16 hi
 ·exact h17 hi
 ·exact hf 18 hi
 ·exact hf 19 hi
 ·exact h20 hi
 ·exact hf 21 hi
 ·exact hf 22 hi
 ·exact h23 hi
theorem ae0 (w:World) (F:Ac) (u:Value) (g:Gm) (hg:Az w F u g) (hsm:Small g) :
  Calls Tryz.prog 129 #[u] w (Ret w (DN g w.heap.size)):=by
 have HG:=Aa hg;obtain⟨vn,vi,rfl,⟨A,c,rfl,hc,hN⟩,⟨Ai,ci,rfl,hci,hI⟩⟩:=hg;have HN:=Aa hN; have HI:=Aa hI; clear hN hI;have hn:=hsm.nodes;have hni:=hsm.infos;have HS:=Aa hsm; clear hsm;by_cases q0:g.aj < 1
 ·have HF:=Aa (show o7 g=2 by unfold o7; rw[if_pos (by unfold jR; omega)]);go_enter Tryz.func129,Tryz.ntmps129;go_wp2
  go_ret2;exact⟨_,rfl,(Below.refl _ _).alloc (Nat.le_refl _) _,.pointer none,by rw[HF.out]; rfl,by rw[HF.out]; intro h; simp at h⟩
 have d0:decide (g.aj < 1)=false:=decide_eq_false (by omega);by_cases q1:4 < g.aj
 ·have HF:=Aa (show o7 g=2 by unfold o7; rw[if_pos (by unfold jR; omega)]);go_enter Tryz.func129,Tryz.ntmps129;go_wp2
  go_ret2;exact⟨_,rfl,(Below.refl _ _).alloc (Nat.le_refl _) _,.pointer none,by rw[HF.out]; rfl,by rw[HF.out]; intro h; simp at h⟩
 have d1:decide ((4:Int) < g.aj)=false:=decide_eq_false (by omega);by_cases q2:g.nodes.length < 1
 ·have HF:=Aa (show o7 g=2 by unfold o7; rw[if_pos (by unfold jR; omega)]);go_enter Tryz.func129,Tryz.ntmps129;go_wp2
  go_ret2;exact⟨_,rfl,(Below.refl _ _).alloc (Nat.le_refl _) _,.pointer none,by rw[HF.out]; rfl,by rw[HF.out]; intro h; simp at h⟩
 have d2:decide ((g.nodes.length:Int) < 1)=false:=decide_eq_false (by omega);have d3:decide ((2000:Int) < (g.nodes.length:Int))=false:=decide_eq_false (by omega);have d4:decide ((200:Int) < (g.infos.length:Int))=false:=decide_eq_false (by omega);have HE:=Aa (show o7 g=if bV g.aj g.infos.length g.nodes≠0 then bV g.aj g.infos.length g.nodes
   else if (walkT g).1≠g.nodes.length then 9 else if 40 < maxL (walkT g).2.d then 5 else gY g by unfold o7; rw[if_neg (by unfold jR; omega)])
 obtain⟨b,o,rfl,hbF,hb,hcell⟩:=HN.out (by omega);have HC:=Aa hcell; clear hcell;go_enter Tryz.func129,Tryz.ntmps129;go_wp2_with fail
 go_loopw [42] (fun i wr=>∃ k:Nat,k≤g.nodes.length∧i = .int .i64 k∧Row wr w.heap.size 25 [.int .i64 g.aj,.slice (some ⟨b,o,none⟩) g.nodes.length c,.slice Ai g.infos.length ci]∧Row wr (w.heap.size+1) 209 [.int .i64 g.aj,.slice (some ⟨b,o,none⟩) g.nodes.length c,.slice Ai g.infos.length ci,.slice none 0 0,.slice none 0 0,.slice none 0 0]∧Below w.heap.size w wr∧bV g.aj g.infos.length g.nodes=bV g.aj g.infos.length (g.nodes.drop k)) (fun i _=>g.nodes.length - (intOf i).toNat)
 case atStart =>
  refine⟨0,by omega,rfl,(Row.new w _ _).alloc _,?_,?_,rfl⟩
  ·have:=Row.new (w.alloc (.cells #[.int .i64 g.aj,.slice (some ⟨b,o,none⟩) g.nodes.length c,.slice Ai g.infos.length ci] 25)) 209 #[.int .i64 g.aj,.slice (some ⟨b,o,none⟩) g.nodes.length c,.slice Ai g.infos.length ci,.slice none 0 0,.slice none 0 0,.slice none 0 0];simpa using this
  ·exact dh _ _ _ 0
 case round =>
  obtain⟨k,hk,rfl,hbx,hwk,hbel,hval⟩:=hrel;have HV:=Aa hval; clear hval;by_cases hlt:k < g.nodes.length
  ·obtain⟨x,hx⟩:=au hlt;obtain⟨e0,e1,e2,⟨v3,e3,i3⟩,⟨v4,e4,i4⟩,⟨v5,e5,i5⟩⟩:=HC.out k x hx;obtain⟨A3,c3,rfl,hc3,h3⟩:=i3;obtain⟨A4,c4,rfl,hc4,h4⟩:=i4;obtain⟨A5,c5,rfl,hc5,h5⟩:=i5;have V:=Aa (show Bf w F _ x from⟨_,_,_,rfl,⟨A3,c3,rfl,hc3,h3⟩,⟨A4,c4,rfl,hc4,h4⟩,⟨A5,c5,rfl,hc5,h5⟩⟩);clear h3 h4 h5;have M:=List.mem_of_getElem? hx;have HL:=Aa (show x.next.length < 1000000∧x.weights.length < 1000000∧x.pay.length < 1000000 from⟨by have:=HS.out.next x M; omega,by have:=HS.out.weights x M; omega,by have:=HS.out.pay x M; omega⟩);clear M;have HV2:=Aa (HV.out.trans (abd hx)); clear hx;have hold:=aA hbel;have hwl:=hwk.lt;go_wp2_with fail
   obtain⟨W,hW,_,hWb,hWz⟩:=aH wr 61 #[.int .i64 x.kind,.int .i64 x.ak,.int .i64 x.info,.slice A3 x.next.length c3,.slice A4 x.weights.length c4,.slice A5 x.pay.length c5];rw[← hW];clear hW;have dS:=hbx.below hWb hbx.lt;have agG:=hwk.below hWb hwk.lt;have tK:=hbel.trans (hWb.mono hbel.size);clear hbx hwk hbel hold;refine(agD _ F (w.heap.size+1) _ g.aj g.infos.length x ⟨agG.cell rfl,_,_,agG.cell rfl⟩ (V.out.on (Below.same' tK F)) HL.out (by omega) (by omega) agG.lt).mono ?_;rintro e w1 ⟨_,rfl,hb1,rfl⟩;have hbx2:=dS.below hb1 dS.lt;have hwk2:=agG.below hb1 agG.lt;have dR:=tK.trans (hb1.mono tK.size);clear dS agG tK hb1 hWb hWz;dsimp only;generalize dK g.aj g.infos.length x=er at *;by_cases he:er=0
   ·subst he;go_wp2
    go_roundw
    case rel=>exact⟨k+1,by omega,by go_num,hbx2,hwk2,dR,by rw[HV2.out]; simp⟩
    case measure=>simp[intOf]; omega
   ·have hd:(er != 0)=true:=by simp[he]
    have HF:=Aa (show o7 g=er by rw[HE.out,HV2.out]; simp[he]);have HNZ:=Aa he;clear he;go_wp2
    go_ret2;exact⟨_,rfl,dR,.pointer none,by rw[HF.out]; rfl,by rw[HF.out]; intro h; exact absurd h HNZ.out⟩
  ·have HE2:=Aa (show o7 g=if (walkT g).1≠g.nodes.length then 9 else if 40 < maxL (walkT g).2.d then 5 else gY g by
    rw[HE.out,HV.out,List.drop_eq_nil_of_le (by omega)]; simp[bV])
   have HIN:=Aa (qw (g:=g) (by rw[HV.out,List.drop_eq_nil_of_le (by omega)]; rfl));have hbl:=hbx.lt;have hwl:=hwk.lt;go_upto_region 11 with fail
   go_cut [] from 53 to 73 (fun wx=>∃ bp bd bl,Bc wx (w.heap.size+1) bp bd bl g.aj (some ⟨b,o,none⟩) g.nodes.length c Ai g.infos.length ci ⟨List.replicate g.nodes.length 0,List.replicate g.nodes.length 0,List.replicate g.nodes.length 0⟩∧Row wx w.heap.size 25 [.int .i64 g.aj,.slice (some ⟨b,o,none⟩) g.nodes.length c,.slice Ai g.infos.length ci]∧Below w.heap.size w wx∧w.heap.size+1 < bp∧w.heap.size+1 < bd∧w.heap.size+1 < bl∧bp≠bd∧bp≠bl∧bd≠bl)
   case first =>
    refine wp_region_held_drew (S:=fun w'=>w'.cell? ⟨w.heap.size,1,none⟩=some (.slice (some ⟨b,o,none⟩) g.nodes.length c)) (by kernel_rfl) (hbx.cell rfl) (fun hHeld=>?_);refine tk0 [0,1,2,3,4,5,7,8,9,11,12,13] ?_;iterate 12 (refine tk (v:=?_) rfl (by kernel_rfl) (by kernel_rfl) (by kernel_rfl) (fun _ _ _ h=>h) (Or.inl ⟨by rfl,?_⟩) hHeld ?_;rotate_left;(focus intro wx hSx;(try dsimp only at hSx);go_split_ands;go_simp;try with_reducible rfl);try simp only[Act.put,lq1,lq2,lq3,lq4,lq5,lq6])
    refine tk1 ?_;obtain⟨w0,hw0⟩:∃ W,W=wr.drew:=⟨_,rfl⟩;have hbx0:Row w0 _ _ _:=hw0▸hbx.drew;have hwk0:Row w0 _ _ _:=hw0▸hwk.drew;have hB0:Below w.heap.size w w0:=hw0▸hbel.drew;rw[← hw0] at hHeld ⊢;clear hw0 hbx hwk hbel hwl hbl;have hz0:=hwk0.lt;refine qh (js:=[6,10,14,15,16,17,18,19,20,21,22,23]) (acF w w0.heap.size w.heap.size g.aj (.slice (some ⟨b,o,none⟩) g.nodes.length c) (.slice Ai g.infos.length ci)) (dL w0.heap.size (w.heap.size+1) g.nodes.length g.aj (.slice (some ⟨b,o,none⟩) g.nodes.length c) (.slice Ai g.infos.length ci)) (by kernel_rfl) (by kernel_rfl) ⟨Nat.le_refl _,hB0,hbx0,_,_,_,hwk0⟩ (fun _ h=>h.2.2.1.cell rfl) (aeZ _ _ _ _ _ _) (fun j hj E e _ w' hE hu hn hf hA hS hG=>abh j hj hE hn hf hS hz0 hG) ?_;refine AA.cons (o:=_) rfl (fun wk hS hf K hK=>?_) (fun v6=>?_)
    ·refine ifA rfl ?_;refine ku _ _ _ 26 rfl 3 (.int .i64 0) 8 Tryz.underlying26 Tryz.infoInt rfl g.nodes.length rfl rfl (by omega) (by omega) ?_;intro W1 hb hz hr;exact hK.out _ _ ⟨hb,⟨_,rfl,hS.1,hr⟩,fun _ b hb=>by cases hb; exact Nat.le_refl _⟩
    try simp only[Act.put,lq1,lq2,lq3,lq4,lq5,lq6]
    refine AA.cons (o:=_) rfl (fun wk hS hf K hK=>?_) (fun v10=>?_)
    ·refine ifA rfl ?_;refine ku _ _ _ 26 rfl 3 (.int .i64 0) 8 Tryz.underlying26 Tryz.infoInt rfl g.nodes.length rfl rfl (by omega) (by omega) ?_;intro W1 hb hz hr;exact hK.out _ _ ⟨hb,⟨_,rfl,hS.1,hr⟩,fun _ b hb=>by cases hb; exact Nat.le_refl _⟩
    try simp only[Act.put,lq1,lq2,lq3,lq4,lq5,lq6]
    refine AA.cons (o:=_) rfl (fun wk hS hf K hK=>?_) (fun v14=>?_)
    ·refine ifA rfl ?_;refine ku _ _ _ 26 rfl 3 (.int .i64 0) 8 Tryz.underlying26 Tryz.infoInt rfl g.nodes.length rfl rfl (by omega) (by omega) ?_;intro W1 hb hz hr;exact hK.out _ _ ⟨hb,⟨_,rfl,hS.1,hr⟩,fun _ b hb=>by cases hb; exact Nat.le_refl _⟩
    try simp only[Act.put,lq1,lq2,lq3,lq4,lq5,lq6]
    refine AA.cons (o:=_) rfl (fun wk hS hf K hK=>?_) (fun v15=>?_)
    ·go_simp;exact hK.out _ _ ⟨Below.refl _ _,rfl,fun h=>(by simp[dL] at h)⟩
    try simp only[Act.put,lq1,lq2,lq3,lq4,lq5,lq6]
    refine AA.cons (o:=_) rfl (fun wk hS hf K hK=>?_) (fun v16=>?_)
    ·have f15:Hold.p (Hold.eq (.pointer (some ⟨w.heap.size+1,0,none⟩)) v15) wk:=hf 15 (by simp) (by kernel_rfl);obtain rfl:v15=_:=f15;go_simp;exact hK.out _ _ ⟨Below.refl _ _,rfl,fun h=>(by simp[dL] at h)⟩
    try simp only[Act.put,lq1,lq2,lq3,lq4,lq5,lq6]
    refine AA.cons (o:=_) rfl (fun wk hS hf K hK=>?_) (fun v17=>?_)
    ·have f16:Hold.p (Hold.eq (.pointer (some ⟨w.heap.size+1,3,none⟩)) v16) wk:=hf 16 (by simp) (by kernel_rfl);have f6:Hold.p (Hold.made w0.heap.size 3 g.nodes.length (List.replicate g.nodes.length (.int .i64 0)) v6) wk:=hf 6 (by simp) (by kernel_rfl);obtain rfl:v16=_:=f16;obtain⟨b6,rfl,g6,r6⟩:=f6;obtain⟨_,_,_,x,y,z,hr⟩:=hS;have yy:=hr.cell (i:=3) rfl;have ff:=hr.frozen 3;go_simp;exact hK.out undef (wk.setCell ⟨w.heap.size+1,3,none⟩ (.slice (some ⟨b6,0,none⟩) g.nodes.length g.nodes.length)) ⟨rfl,⟨_,_,hr.set 3 _⟩,fun h=>(by simp[dL] at h)⟩
    try simp only[Act.put,lq1,lq2,lq3,lq4,lq5,lq6]
    refine AA.cons (o:=_) rfl (fun wk hS hf K hK=>?_) (fun v18=>?_)
    ·go_simp;exact hK.out _ _ ⟨Below.refl _ _,rfl,fun h=>(by simp[dL] at h)⟩
    try simp only[Act.put,lq1,lq2,lq3,lq4,lq5,lq6]
    refine AA.cons (o:=_) rfl (fun wk hS hf K hK=>?_) (fun v19=>?_)
    ·have f18:Hold.p (Hold.eq (.pointer (some ⟨w.heap.size+1,0,none⟩)) v18) wk:=hf 18 (by simp) (by kernel_rfl);obtain rfl:v18=_:=f18;go_simp;exact hK.out _ _ ⟨Below.refl _ _,rfl,fun h=>(by simp[dL] at h)⟩
    try simp only[Act.put,lq1,lq2,lq3,lq4,lq5,lq6]
    refine AA.cons (o:=_) rfl (fun wk hS hf K hK=>?_) (fun v20=>?_)
    ·have f19:Hold.p (Hold.eq (.pointer (some ⟨w.heap.size+1,4,none⟩)) v19) wk:=hf 19 (by simp) (by kernel_rfl);have f10:Hold.p (Hold.made w0.heap.size 3 g.nodes.length (List.replicate g.nodes.length (.int .i64 0)) v10) wk:=hf 10 (by simp) (by kernel_rfl);have f17:Hold.p (rG (w.heap.size+1) g.aj (.slice (some ⟨b,o,none⟩) g.nodes.length c) (.slice Ai g.infos.length ci) v6) wk:=hf 17 (by simp) (by kernel_rfl);obtain rfl:v19=_:=f19;obtain⟨b10,rfl,g10,r10⟩:=f10;obtain⟨y,z,hr⟩:=f17;have yy:=hr.cell (i:=4) rfl;have ff:=hr.frozen 4;go_simp;exact hK.out undef (wk.setCell ⟨w.heap.size+1,4,none⟩ (.slice (some ⟨b10,0,none⟩) g.nodes.length g.nodes.length)) ⟨rfl,⟨_,hr.set 4 _⟩,fun h=>(by simp[dL] at h)⟩
    try simp only[Act.put,lq1,lq2,lq3,lq4,lq5,lq6]
    refine AA.cons (o:=_) rfl (fun wk hS hf K hK=>?_) (fun v21=>?_)
    ·go_simp;exact hK.out _ _ ⟨Below.refl _ _,rfl,fun h=>(by simp[dL] at h)⟩
    try simp only[Act.put,lq1,lq2,lq3,lq4,lq5,lq6]
    refine AA.cons (o:=_) rfl (fun wk hS hf K hK=>?_) (fun v22=>?_)
    ·have f21:Hold.p (Hold.eq (.pointer (some ⟨w.heap.size+1,0,none⟩)) v21) wk:=hf 21 (by simp) (by kernel_rfl);obtain rfl:v21=_:=f21;go_simp;exact hK.out _ _ ⟨Below.refl _ _,rfl,fun h=>(by simp[dL] at h)⟩
    try simp only[Act.put,lq1,lq2,lq3,lq4,lq5,lq6]
    refine AA.cons (o:=_) rfl (fun wk hS hf K hK=>?_) (fun v23=>?_)
    ·have f22:Hold.p (Hold.eq (.pointer (some ⟨w.heap.size+1,5,none⟩)) v22) wk:=hf 22 (by simp) (by kernel_rfl);have f14:Hold.p (Hold.made w0.heap.size 3 g.nodes.length (List.replicate g.nodes.length (.int .i64 0)) v14) wk:=hf 14 (by simp) (by kernel_rfl);have f20:Hold.p (rH (w.heap.size+1) g.aj (.slice (some ⟨b,o,none⟩) g.nodes.length c) (.slice Ai g.infos.length ci) v6 v10) wk:=hf 20 (by simp) (by kernel_rfl);obtain rfl:v22=_:=f22;obtain⟨b14,rfl,g14,r14⟩:=f14;obtain⟨z,hr⟩:=f20;have yy:=hr.cell (i:=5) rfl;have ff:=hr.frozen 5;go_simp;exact hK.out undef (wk.setCell ⟨w.heap.size+1,5,none⟩ (.slice (some ⟨b14,0,none⟩) g.nodes.length g.nodes.length)) ⟨rfl,hr.set 5 _,fun h=>(by simp[dL] at h)⟩
    try simp only[Act.put,lq1,lq2,lq3,lq4,lq5,lq6]
    refine AA.nil (fun wE hS hf hA=>?_);have f6:Hold.p (Hold.made w0.heap.size 3 g.nodes.length (List.replicate g.nodes.length (.int .i64 0)) v6) wE:=hf 6 (by simp);have f10:Hold.p (Hold.made w0.heap.size 3 g.nodes.length (List.replicate g.nodes.length (.int .i64 0)) v10) wE:=hf 10 (by simp);have f14:Hold.p (Hold.made w0.heap.size 3 g.nodes.length (List.replicate g.nodes.length (.int .i64 0)) v14) wE:=hf 14 (by simp);have f17:Hold.p (rG (w.heap.size+1) g.aj (.slice (some ⟨b,o,none⟩) g.nodes.length c) (.slice Ai g.infos.length ci) v6) wE:=hf 17 (by simp);have f20:Hold.p (rH (w.heap.size+1) g.aj (.slice (some ⟨b,o,none⟩) g.nodes.length c) (.slice Ai g.infos.length ci) v6 v10) wE:=hf 20 (by simp);have f23:Hold.p (vU (w.heap.size+1) g.aj (.slice (some ⟨b,o,none⟩) g.nodes.length c) (.slice Ai g.infos.length ci) v6 v10 v14) wE:=hf 23 (by simp);obtain⟨b6,rfl,g6,r6⟩:=f6; obtain⟨b10,rfl,g10,r10⟩:=f10; obtain⟨b14,rfl,g14,r14⟩:=f14;have rw6:Row wE (w.heap.size+1) _ _:=f23;have akr:=jo hA (i:=6) (k:=10) (by simp) (by simp) (by simp[dL]) (by simp[dL]) (by decide) rfl rfl;have aks:=jo hA (i:=6) (k:=14) (by simp) (by simp) (by simp[dL]) (by simp[dL]) (by decide) rfl rfl;have ajS:=jo hA (i:=10) (k:=14) (by simp) (by simp) (by simp[dL]) (by simp[dL]) (by decide) rfl rfl;obtain⟨hzE,hBE,adH,_⟩:=hS;have HR:=Aa (show Bc wE (w.heap.size+1) b6 b10 b14 g.aj (some ⟨b,o,none⟩) g.nodes.length c Ai g.infos.length ci ⟨List.replicate g.nodes.length 0,List.replicate g.nodes.length 0,List.replicate g.nodes.length 0⟩ from⟨rw6,by simpa [cO] using r6,by simpa [cO] using r10,by simpa [cO] using r14⟩);have HBX:=Aa (And.intro adH hBE);clear hHeld hbx0 hwk0 hB0 hf hA adH hBE r6 r10 r14 rw6 f17 f20 f23;go_wp2_with fail
    go_meet
    exact⟨b6,b10,b14,HR.out,HBX.out.1,HBX.out.2,by omega,by omega,by omega,akr,aks,ajS⟩
   case rest =>
    obtain⟨bp,bd,bl,hwa,nM,jy,z1,z2,z3,z4,z5,z6⟩:=hcut;clear hbx hwk hbel;have hbl':=nM.lt;have x1:=nM.cell (i:=1) rfl;have HNO:=Aa (show AB w F (.slice (some ⟨b,o,none⟩) g.nodes.length c) g.nodes from⟨_,_,rfl,hc,HN.out⟩);have HIO:=Aa (show AX w F (.slice Ai g.infos.length ci) g.infos from⟨_,_,rfl,hci,HI.out⟩);have HWA:=Aa hwa; clear hwa;have HG':=Aa (show ∀ k,(F k∧k < w.heap.size)→k≠bp∧k≠bd∧k≠bl from fun k hk=>by omega);go_wp2_with fail
    refine(agE g HS.out (w.heap.size+1) bp bd bl b o c Ai ci ⟨by omega,by omega,by omega,z4,z5,z6⟩ hc (fun k=>F k∧k < w.heap.size) HG'.out (g.nodes.length+1) 0 (-1) 0 _ wc _ ⟨some ⟨b,o,none⟩,by simp,fun _=>by simp⟩ ⟨by simp,by simp,by simp⟩ (fun _=>HNO.out.keep (fun k hk hl=>⟨hk,hl⟩) (Below.same' jy F)) HWA.out (by omega) (by omega) (by omega) (by omega)).mono ?_;rintro e w2 ⟨vr,rfl,hrest,ajT,hwr2⟩;have ajU:=oJ g.nodes (g.nodes.length+1) 0 (-1) 0 ⟨List.replicate g.nodes.length 0,List.replicate g.nodes.length 0,List.replicate g.nodes.length 0⟩;have hlen:=mY (N:=g.nodes.length) g.nodes (g.nodes.length+1) 0 (-1) 0 ⟨List.replicate g.nodes.length 0,List.replicate g.nodes.length 0,List.replicate g.nodes.length 0⟩ ⟨by simp,by simp,by simp⟩;have hT:walkT g=bM g.nodes (g.nodes.length+1) 0 (-1) 0 ⟨List.replicate g.nodes.length 0,List.replicate g.nodes.length 0,List.replicate g.nodes.length 0⟩:=rfl;rw[← hT] at hrest ajT ajU hlen ⊢;clear hT;have hB2:Below w.heap.size w w2:=Wrote.below jy hwr2 (fun k hk=>by omega) jy.size;have hbx2:=nM.wrote hwr2 (by omega);clear jy hwr2 nM x1 HWA;obtain⟨T,hTT⟩:∃ T,T=walkT g:=⟨_,rfl⟩;have HT:=Aa (show Bc w2 (w.heap.size+1) bp bd bl g.aj (some ⟨b,o,none⟩) g.nodes.length c Ai g.infos.length ci (walkT g).2 from ajT);clear ajT;have HLN:=Aa hlen; clear hlen;rw[← hTT] at hrest ajU HE2 ⊢;have HTT:=Aa hTT; clear hTT;obtain⟨rn,td⟩:=T;dsimp only at hrest ajU HE2 ⊢;by_cases hng:rn < 0
    ·have HF:=Aa (show o7 g=9 by rw[HE2.out,if_pos (by omega)]);have hdn:decide (0≤rn)=false:=decide_eq_false (by omega);clear hrest;go_wp2
     go_ret2;exact⟨_,rfl,hB2,.pointer none,by rw[HF.out]; rfl,by rw[HF.out]; intro h; simp at h⟩
    ·obtain⟨q,rfl⟩:=Int.eq_ofNat_of_zero_le (show 0≤rn by omega);obtain⟨A',rfl,hA'⟩:=hrest (by omega);simp only[Int.toNat_natCast] at hA' ⊢;have hdn:decide (0≤(q:Int))=true:=decide_eq_true (by omega);by_cases hqn:q=g.nodes.length
     ·subst hqn;have HF:=Aa (show o7 g=if 40 < maxL td.d then 5 else gY g by rw[HE2.out,if_neg (by simp)]);have hz:g.nodes.length - g.nodes.length=0:=by omega
      rw[hz];have ht2:td=(walkT g).2:=by rw[← HTT.out]
      have x4:=HT.out.head.cell (i:=4) rfl;clear hA' hz;go_wp2_with fail
      have hdl:td.d.length=g.nodes.length:=by rw[ht2]; exact HLN.out.d
      have HID:=Aa (show Ae w2 (fun k=>k=bd) (.slice (some ⟨bd,0,none⟩) g.nodes.length g.nodes.length) td.d by
       have:=Row.ints (F:=fun k=>k=bd) (show Row w2 bd 3 (td.d.map (Value.int .i64)) by rw[ht2]; exact HT.out.rd) rfl (c:=g.nodes.length) (by omega);rwa [hdl] at this)
      have HT2:=Aa ht2; clear ht2;refine(aiF w2 (fun k=>k=bd) _ td.d HID.out (by omega) (by omega)).mono ?_;rintro e w3 ⟨rfl,rfl⟩;dsimp only;generalize maxL td.d=mx at *;by_cases hmx:40 < mx
      ·have HF2:=Aa (show o7 g=5 by rw[HF.out,if_pos hmx]);go_wp2
       go_ret2;exact⟨_,rfl,hB2,.pointer none,by rw[HF2.out]; rfl,by rw[HF2.out]; intro h; simp at h⟩
      ·have HF2:=Aa (show o7 g=gY g by rw[HF.out,if_neg hmx]);have hdm:decide (40 < mx)=false:=decide_eq_false hmx;clear hmx;go_wp2_with fail
       refine(agF w3 F (w.heap.size+1) g _ _ _ _ (HT.out.head.cell rfl) (HT.out.head.cell rfl) HT.out.head.lt (HNO.out.on (Below.same' hB2 F)) (HIO.out.on (Below.same' hB2 F)) HS.out HIN.out (by omega)).mono ?_;rintro e w4 ⟨_,rfl,hb4,rfl⟩;dsimp only;go_wp2
       go_ret2;refine⟨_,rfl,hB2.trans (hb4.mono hB2.size),.pointer (some ⟨w.heap.size+1,0,none⟩),by rw[HF2.out]; rfl,fun _=>?_⟩;have h:=HT.out;exact⟨w.heap.size+1,bp,bd,bl,_,_,_,_,rfl,⟨h.head.below hb4 h.head.lt,h.rp.below hb4 h.rp.lt,h.rd.below hb4 h.rd.lt,h.rl.below hb4 h.rl.lt⟩,by omega,by omega,by omega,by omega⟩
     ·have HF:=Aa (show o7 g=9 by rw[HE2.out,if_pos (by omega)]);have hdg:(0:Int) < ((g.nodes.length - q:Nat):Int):=by omega
      clear hqn;go_wp2
      go_ret2;exact⟨_,rfl,hB2,.pointer none,by rw[HF.out]; rfl,by rw[HF.out]; intro h; simp at h⟩
theorem abM (w:World) (F:Ac) (u:Value) (g:Gm) (hg:Az w F u g) (hsm:Small g) :
  Calls Tryz.prog 70 #[u] w (Ret w fun v _=>v = .int .i64 (o7 g)):=by
 have HG:=Aa hg;obtain⟨vn,vi,rfl,⟨A,c,rfl,hc,hN⟩,⟨Ai,ci,rfl,hci,hI⟩⟩:=hg;clear hN hI;have HS:=Aa hsm; clear hsm;go_enter Tryz.func70,Tryz.ntmps70;go_wp2_with fail
 refine(ae0 _ F _ g (HG.out.on (Same.alloc _ _ _)) HS.out).mono ?_;rintro e w1 ⟨v,rfl,hb1,vp,rfl,hv⟩;clear hv;have hB:Below w.heap.size w w1:=((Below.refl w.heap.size w).alloc (Nat.le_refl _) _).trans (hb1.mono (by simp));dsimp only;go_wp2
 go_ret;exact⟨_,rfl,hB,rfl⟩
def mv (nodes:List Nd) (s i:Nat):Bool:=match nodes[i]? with | some n=>decide (n.kind=2)&&decide (n.info.toNat=s) | none=>false
def bH (nodes:List Nd) (s k:Nat):List Int:=((List.range k).filter (mv nodes s)).map fun i:Nat=>(i:Int)
theorem aaw (nodes:List Nd) (s k:Nat):bH nodes s (k+1)=bH nodes s k++(if mv nodes s k then [(k:Int)] else []):=by
 unfold bH;rw[List.range_succ,List.filter_append,List.map_append];cases h:mv nodes s k <;> simp[h]
theorem ae1 (nodes:List Nd) (ni:Nat) (hin:∀ n∈nodes,n.kind=2→0≤n.info∧n.info < (ni:Int)) (k:Nat):∀ s,s < ni→(dM nodes ni k)[s]? = some (bH nodes s k):=by
 induction k with
 | zero=>intro s hs; simp[dM,bH,hs]
 | succ k ih =>
  intro s hs;rw[aaw];cases hn:nodes[k]? with
  | none =>
   have:mv nodes s k=false:=by simp[mv,hn]
   rw[this]; simp only[dM,hn]; rw[ih s hs]; simp
  | some n =>
   by_cases hk:n.kind=2
   ·have hb:=hin n (List.mem_of_getElem? hn) hk;have hlt:n.info.toNat < ni:=by omega
    rw[xQ hn hk (ih _ hlt)];by_cases he:n.info.toNat=s
    ·subst he;have:mv nodes n.info.toNat k=true:=by simp[mv,hn,hk]
     rw[this,List.getElem?_set_self (by rw[bF]; exact hlt)]; simp
    ·have:mv nodes s k=false:=by simp[mv,hn,he]
     rw[this,List.getElem?_set_ne he,ih s hs]; simp
   ·have:mv nodes s k=false:=by simp[mv,hn,hk]
    rw[xR hn hk,this,ih s hs]; simp
theorem fB {g:Gm} (hin:AZ g) {s:Nat} (hs:s < g.infos.length):(aN g)[s]? = some (bH g.nodes s g.nodes.length):=ae1 g.nodes g.infos.length hin _ s hs
theorem gZ {nodes:List Nd} {s k:Nat} {x:Int}:x∈bH nodes s k↔∃ i:Nat,x=i∧i < k∧mv nodes s i=true:=by
 unfold bH;simp only[List.mem_map,List.mem_filter,List.mem_range];constructor
 ·rintro⟨i,⟨h1,h2⟩,rfl⟩; exact⟨i,rfl,h1,h2⟩
 ·rintro⟨i,rfl,h1,h2⟩; exact⟨i,⟨h1,h2⟩,rfl⟩
theorem adI (nodes:List Nd) (ni:Nat) (hin:∀ n∈nodes,n.kind=2→0≤n.info∧n.info < (ni:Int)) (m:Nat):∀ k,k+m=nodes.length→∀ s,s < ni →
  (gK (nodes.drop k) k (List.replicate ni 0))[s]? = some (match (List.range' k m).find? (mv nodes s) with | some i=>(i:Int)+1 | none=>0):=by
 induction m with
 | zero =>
  intro k hk s hs;rw[List.drop_eq_nil_of_le (by omega)];simp[gK,hs]
 | succ m ih =>
  intro k hk s hs;obtain⟨n,hn⟩:=au (l:=nodes) (k:=k) (by omega);rw[vT hn];have hr:List.range' k (m+1)=k :: List.range' (k+1) m:=by rw[List.range'_succ]
  rw[hr,List.find?_cons];by_cases hkd:n.kind=2
  ·have hb:=hin n (List.mem_of_getElem? hn) hkd;rw[if_pos hkd];by_cases he:n.info.toNat=s
   ·subst he;have:mv nodes n.info.toNat k=true:=by simp[mv,hn,hkd]
    rw[this,List.getElem?_set_self (by rw[iK]; simp; omega)]
   ·have:mv nodes s k=false:=by simp[mv,hn,he]
    rw[this,List.getElem?_set_ne he];exact ih (k+1) (by omega) s hs
  ·have:mv nodes s k=false:=by simp[mv,hn,hkd]
   rw[if_neg hkd,this];exact ih (k+1) (by omega) s hs
theorem jI {g:Gm} (hin:AZ g) {s:Nat} (hs:s < g.infos.length):(dW g)[s]? = some (match bH g.nodes s g.nodes.length with | []=>0 | x :: _=>x+1):=by
 have h:=adI g.nodes g.infos.length hin g.nodes.length 0 (by omega) s hs;unfold dW;rw[List.drop_zero] at h;rw[h];congr 1
 unfold bH;rw[← List.range_eq_range',← List.head?_filter];cases (List.range g.nodes.length).filter (mv g.nodes s) <;> simp
theorem yR (g:Gm):(dW g).length=g.infos.length:=by unfold dW; rw[iK]; simp
theorem ae2 {g:Gm} (hin:AZ g):gY g=oH g:=by
 unfold gY oH;have hl:(aN g).length=g.infos.length:=bF _ _ _;have hfl:=yR g;have h1:(dW g).contains 0=mF (aN g):=by
  rw[Bool.eq_iff_iff];unfold mF;rw[List.any_eq_true,List.contains_iff_exists_mem_beq];constructor
  ·rintro⟨x,hx,h0⟩;obtain⟨s,hs⟩:=List.getElem?_of_mem hx;have hlt:s < g.infos.length:=by rw[← hfl]; exact aB hs
   have:=jI hin hlt;rw[hs] at this;refine⟨_,List.mem_of_getElem? (fB hin hlt),?_⟩;have hx0:x=0:=by simpa using (beq_iff_eq.1 h0).symm
   subst hx0;cases hm:bH g.nodes s g.nodes.length with
   | nil=>rfl
   | cons y l =>
    exfalso
    rw[hm] at this;have hy:y∈bH g.nodes s g.nodes.length:=by rw[hm]; simp
    obtain⟨i,rfl,_⟩:=gZ.1 hy;simp at this;omega
  ·rintro⟨l,hl',h0⟩;obtain⟨s,hs⟩:=List.getElem?_of_mem hl';have hlt:s < g.infos.length:=by rw[← hl]; exact aB hs
   have h2:=fB hin hlt;rw[hs] at h2;cases h2
   have h3:=jI hin hlt;have hnil:bH g.nodes s g.nodes.length = []:=List.eq_nil_of_length_eq_zero (by simpa using h0);rw[hnil] at h3;exact⟨0,List.mem_of_getElem? h3,by simp⟩
 rw[h1];split
 ·rfl
 ·cases hn:mF (aN g) with
  | true=>rfl
  | false =>
   have hne:∀ s,s < g.infos.length→∃ x l,bH g.nodes s g.nodes.length=x :: l:=by
    intro s hs;have:=List.any_eq_false.1 hn _ (List.mem_of_getElem? (fB hin hs));cases hm:bH g.nodes s g.nodes.length with
    | nil=>rw[hm] at this; simp at this
    | cons x l=>exact⟨x,l,rfl⟩
   have h2:eY (dW g) = !kZ (aN g) g.infos.length:=by
    rw[Bool.eq_iff_iff,adF,Bool.not_eq_true',kZ,List.any_eq_false];constructor
    ·intro h i hi;rw[List.mem_range'_1] at hi;obtain⟨x,l,hx⟩:=hne (i - 1) (by omega);obtain⟨y,l',hy⟩:=hne i (by omega);have f1:=jI hin (s:=i - 1) (by omega);have f2:=jI hin (s:=i) (by omega);rw[hx] at f1; rw[hy] at f2;have:=h (i - 1) _ _ f1 (by rw[show i - 1+1=i by omega]; exact f2);have s1:=fB hin (s:=i - 1) (by omega);have s2:=fB hin (s:=i) (by omega);rw[hx] at s1; rw[hy] at s2;simp[qo,List.getD_eq_getElem?_getD,s1,s2];simp at this;exact this
    ·intro h k x y hx hy;have hk1:k+1 < g.infos.length:=by rw[← hfl]; exact aB hy
     have:=h (k+1) (by rw[List.mem_range'_1]; omega);obtain⟨x',l,hx'⟩:=hne k (by omega);obtain⟨y',l',hy'⟩:=hne (k+1) (by omega);have f1:=jI hin (s:=k) (by omega);have f2:=jI hin (s:=k+1) (by omega);rw[hx'] at f1; rw[hy'] at f2;have s1:=fB hin (s:=k) (by omega);have s2:=fB hin (s:=k+1) (by omega);rw[hx'] at s1; rw[hy'] at s2;rw[hx] at f1; rw[hy] at f2;cases f1; cases f2
     simp[qo,List.getD_eq_getElem?_getD,s1,s2] at this;simpa using this
   rw[h2];cases kZ (aN g) g.infos.length <;> rfl
structure Deep (a:Nat) (r:Int) (d d':List Int) (deep deep':Int):Prop where
 out:∀ i:Nat,i < a∨r≤(i:Int)→d'[i]? = d[i]?
 le:deep≤deep'
 below:∀ (i:Nat) x,a≤i→(i:Int) < r→d'[i]? = some x→x≤deep'
 hit:deep'=deep∨∃ (i:Nat),a≤i∧(i:Int) < r∧d'[i]? = some deep'
theorem Deep.refl (a:Nat) (d:List Int) (deep:Int):Deep a a d d deep deep:=⟨fun _ _=>rfl,by omega,fun i x h1 h2=>by omega,.inl rfl⟩
theorem Deep.trans {a m:Nat} {r:Int} {d d' d'':List Int} {x y z:Int} (ham:a≤m) (hmr:(m:Int)≤r) (h:Deep a m d d' x y) (k:Deep m r d' d'' y z):Deep a r d d'' x z:=by
 refine⟨fun i hi=>?_,Int.le_trans h.le k.le,fun i v h1 h2 hv=>?_,?_⟩
 ·rw[k.out i (by omega),h.out i (by omega)]
 ·by_cases hm:i < m
  ·rw[k.out i (.inl hm)] at hv;exact Int.le_trans (h.below i v h1 (by omega) hv) k.le
  ·exact k.below i v (by omega) h2 hv
 ·rcases k.hit with e | ⟨i,h1,h2,h3⟩
  ·rcases h.hit with e' | ⟨i,h1,h2,h3⟩
   ·left; omega
   ·right; exact⟨i,h1,by omega,by rw[k.out i (.inl (by omega)),h3,e]⟩
  ·right; exact⟨i,by omega,h2,h3⟩
theorem abN {N:Nat} {rec:Nat→Tri→Int×Tri} {rec':Nat→Int→Int×Int} (hlen:∀ a t,Tri.Len N t→Tri.Len N (rec a t).2)
  (hb:∀ a t,(rec a t).1 = -1∨((a:Int) < (rec a t).1∧(rec a t).1≤N)) (hs:∀ a t d,(rec a t).1=(rec' a d).1)
  (hrec:∀ a t deep,a < N→Tri.Len N t→0≤(rec a t).1→Deep a (rec a t).1 t.d (rec a t).2.d deep (rec' a deep).2) :
  ∀ (cs:List Int) (x:Nat) (t:Tri) (deep:Int),x≤N→Tri.Len N t→0≤(eP rec cs x t).1→(x:Int)≤(eP rec cs x t).1∧Deep x (eP rec cs x t).1 t.d (eP rec cs x t).2.d deep (dA rec' cs x deep).2
 | [],x,t,deep,_,_,_=>⟨by simp[eP],by simpa [eP,dA] using Deep.refl x t.d deep⟩
 | c :: cs,x,t,deep,hx,ht,h=>by
  unfold eP at h ⊢;unfold dA;by_cases hc:c=x
  ·subst hc;simp only[ne_eq,not_true_eq_false,↓reduceIte,Int.toNat_natCast] at h ⊢;rw[← hs x t deep];by_cases hng:(rec x t).1 < 0
   ·rw[if_pos hng] at h; simp at h
   ·rw[if_neg hng] at h ⊢;rw[if_neg hng];rcases hb x t with hb1 | hb1
    ·omega
    ·have hr:=hrec x t deep (by omega) ht (by omega);obtain⟨m,hm⟩:=Int.eq_ofNat_of_zero_le (show 0≤(rec x t).1 by omega);rw[hm] at h hr ⊢;rw[hm] at hb1;have ih:=abN hlen hb hs hrec cs m (rec x t).2 (rec' x deep).2 (by omega) (hlen x t ht) h;exact⟨by omega,hr.trans (by omega) ih.1 ih.2⟩
  ·rw[if_pos hc] at h; simp at h
theorem wV (nodes:List Nd):∀ (f a:Nat) (par dep:Int) (t:Tri) (deep:Int),Tri.Len nodes.length t→0≤(bM nodes f a par dep t).1 →
  Deep a (bM nodes f a par dep t).1 t.d (bM nodes f a par dep t).2.d deep (eX nodes f a dep deep).2
 | 0,_,_,_,_,_,_,h=>by simp[bM] at h
 | f+1,a,par,dep,t,deep,ht,h=>by
  unfold bM at h ⊢;unfold eX;cases hn:nodes[a]? with
  | none=>rw[hn] at h; simp at h
  | some n =>
   rw[hn] at h;simp only at h ⊢;have ha:=aB hn;have hk:=abN (N:=nodes.length) (rec:=fun a' t=>bM nodes f a' a (dep+1) t) (rec':=fun a' d=>eX nodes f a' (dep+1) d)
    (fun a' t h=>mY nodes f a' a (dep+1) t h) (fun a' t=>oJ nodes f a' a (dep+1) t) (fun a' t d=>sO nodes f a' a (dep+1) t d)
    (fun a' t d _ ht h=>wV nodes f a' a (dep+1) t d ht h) n.next (a+1) ⟨t.p.set a par,t.d.set a dep,t.l⟩ (max deep dep) (by omega) ⟨by simp[ht.p],by simp[ht.d],ht.l⟩
   simp only[Int.natCast_add,Int.cast_ofNat_Int] at hk;by_cases hng:(eP (fun a' t=>bM nodes f a' a (dep+1) t) n.next ((a:Int)+1) ⟨t.p.set a par,t.d.set a dep,t.l⟩).1 < 0
   ·rw[if_pos hng] at h; omega
   ·rw[if_neg hng] at h ⊢;obtain⟨h1,h2⟩:=hk (by omega);have h0:Deep a ((a+1:Nat):Int) t.d (t.d.set a dep) deep (max deep dep):=by
     refine⟨fun i hi=>List.getElem?_set_ne (by omega),by omega,fun i x h1 h2 hx=>?_,?_⟩
     ·have:i=a:=by omega
      subst this;rw[List.getElem?_set_self (by rw[ht.d]; exact ha)] at hx;cases hx; omega
     ·by_cases hd:dep≤deep
      ·left; omega
      ·right; exact⟨a,by omega,by omega,by rw[List.getElem?_set_self (by rw[ht.d]; exact ha)]; congr 1; omega⟩
    exact h0.trans (by omega) (by simpa using h1) (by simpa using h2)
theorem ae3 (l:List Int) (a:Int):a≤l.foldl max a∧∀ x∈l,x≤l.foldl max a:=by
 induction l generalizing a with
 | nil=>simp
 | cons y l ih =>
  obtain⟨h1,h2⟩:=ih (max a y);simp only[List.foldl_cons];refine⟨by omega,fun x hx=>?_⟩;rcases List.mem_cons.1 hx with rfl | hx
  ·omega
  ·exact h2 x hx
theorem adJ (l:List Int) (a:Int):l.foldl max a=a∨l.foldl max a∈l:=by
 induction l generalizing a with
 | nil=>simp
 | cons y l ih =>
  simp only[List.foldl_cons];rcases ih (max a y) with h | h
  ·rw[h];by_cases hay:y≤a
   ·left; omega
   ·right; rw[show max a y=y by omega]; simp
  ·right; exact List.mem_cons_of_mem _ h
theorem agH {l:List Int} {m:Int} (hm:m∈l) (hb:∀ x∈l,x≤m):maxL l=m:=by
 cases l with
 | nil=>cases hm
 | cons y l =>
  unfold maxL;have h1:=ae3 l y;have h2:=adJ l y;have h3:m≤l.foldl max y:=by
   rcases List.mem_cons.1 hm with rfl | h
   ·exact h1.1
   ·exact h1.2 m h
  have h4:l.foldl max y≤m:=by
   rcases h2 with h | h
   ·rw[h]; exact hb y (by simp)
   ·exact hb _ (List.mem_cons_of_mem _ h)
  show l.foldl max y=m;omega
theorem afU (g:Gm):o7 g=bg g:=by
 unfold o7 bg;have hw:(walkT g).1=(eX g.nodes (g.nodes.length+1) 0 0 0).1:=sO _ _ _ _ _ _ _;split
 ·rfl
 ·rename_i hsz
  split
  ·rfl
  ·rename_i hne
   rw[hw];split
   ·rfl
   ·rename_i hN
    have hin:AZ g:=qw (by simpa using hne);have hp:0 < g.nodes.length:=by unfold jR at hsz; omega
    have hd:=wV g.nodes (g.nodes.length+1) 0 (-1) 0 ⟨List.replicate g.nodes.length 0,List.replicate g.nodes.length 0,List.replicate g.nodes.length 0⟩ (-1) ⟨by simp,by simp,by simp⟩;have hd0:=wV g.nodes (g.nodes.length+1) 0 (-1) 0 ⟨List.replicate g.nodes.length 0,List.replicate g.nodes.length 0,List.replicate g.nodes.length 0⟩ 0 ⟨by simp,by simp,by simp⟩;have hee:eX g.nodes (g.nodes.length+1) 0 0 (-1)=eX g.nodes (g.nodes.length+1) 0 0 0:=by
     obtain⟨n0,hn0⟩:=au hp;unfold eX; rw[hn0]; rfl
    rw[hee] at hd;have hlen:=mY (N:=g.nodes.length) g.nodes (g.nodes.length+1) 0 (-1) 0 ⟨List.replicate g.nodes.length 0,List.replicate g.nodes.length 0,List.replicate g.nodes.length 0⟩ ⟨by simp,by simp,by simp⟩;have hT:walkT g=bM g.nodes (g.nodes.length+1) 0 (-1) 0 ⟨List.replicate g.nodes.length 0,List.replicate g.nodes.length 0,List.replicate g.nodes.length 0⟩:=rfl;rw[← hT] at hd hd0 hlen;have hN':(walkT g).1=(g.nodes.length:Int):=by rw[hw]; simpa using hN
    rw[hN'] at hd hd0;have hd:=hd (by omega);have hle:=(hd0 (by omega)).le;clear hd0;have hmax:maxL (walkT g).2.d=(eX g.nodes (g.nodes.length+1) 0 0 0).2:=by
     generalize (eX g.nodes (g.nodes.length+1) 0 0 0).2=mx at hd hle;have hb:∀ x∈(walkT g).2.d,x≤mx:=by
      intro x hx;obtain⟨i,hi⟩:=List.getElem?_of_mem hx;exact hd.below i x (by omega) (by have:=aB hi; rw[hlen.d] at this; omega) hi
     rcases hd.hit with e | ⟨i,_,_,hi⟩
     ·omega
     ·exact agH (List.mem_of_getElem? hi) hb
    rw[hmax,ae2 hin]
def Bg (w:World) (F:Ac) (v:Value) (g:Gm) (par last:List Int) (sets:List (List Int)):Prop :=
 ∃ vn vi vp vl vs,v = .agg #[.int .i64 g.aj,vn,vi,vp,vl,vs]∧AB w F vn g.nodes∧AX w F vi g.infos∧Ae w F vp par∧Ae w F vl last∧AY w F vs sets
theorem Bg.keep {w w':World} {F G:Ac} {v:Value} {g:Gm} {par last:List Int} {sets:List (List Int)} (h:Bg w F v g par last sets) (hFG:∀ b,F b→b < w.heap.size→G b) (hs:Same F w w'):Bg w' G v g par last sets:=by
 obtain⟨vn,vi,vp,vl,vs,rfl,h1,h2,h3,h4,h5⟩:=h;exact⟨vn,vi,vp,vl,vs,rfl,h1.keep hFG hs,h2.keep hFG hs,h3.keep hFG hs,h4.keep hFG hs,h5.keep hFG hs⟩
theorem Bg.on {w w':World} {F:Ac} {v:Value} {g:Gm} {par last:List Int} {sets:List (List Int)} (h:Bg w F v g par last sets) (hs:Same F w w'):Bg w' F v g par last sets:=h.keep (fun _ h _=>h) hs
def dD (i:Nat) (cs:List Int) (s:List Int×List Int):List Int×List Int:=cs.foldl (fun s c=>(s.1.set c.toNat i,s.2.set i (s.2.getD c.toNat 0))) s
def o8 (nodes:List Nd) (i:Nat) (s:List Int×List Int):List Int×List Int:=match nodes[i]? with
 | some n=>dD i n.next (s.1,s.2.set i i)
 | none=>s
def fD (nodes:List Nd):Nat→List Int×List Int
 | 0=>((List.replicate nodes.length 0).set 0 (-1),List.replicate nodes.length 0)
 | m+1=>o8 nodes (nodes.length - 1 - m) (fD nodes m)
def aF (nodes:List Nd):List Int×List Int:=fD nodes nodes.length
theorem abj {l:List Int} {i:Nat} {s:List Int×List Int} {k:Nat} {c:Int} (h:l[k]? = some c):dD i (l.take (k+1)) s=((dD i (l.take k) s).1.set c.toNat i,(dD i (l.take k) s).2.set i ((dD i (l.take k) s).2.getD c.toNat 0)):=by
 rw[take_snoc h]; simp[dD,List.foldl_append]
theorem vV {N:Nat} (i:Nat) (l:List Int) (s:List Int×List Int) (h1:s.1.length=N) (h2:s.2.length=N):(dD i l s).1.length=N∧(dD i l s).2.length=N:=by
 unfold dD;induction l generalizing s with
 | nil=>exact⟨h1,h2⟩
 | cons c l ih=>simp only[List.foldl_cons]; exact ih _ (by simp[h1]) (by simp[h2])
theorem dO (nodes:List Nd) (m:Nat):(fD nodes m).1.length=nodes.length∧(fD nodes m).2.length=nodes.length:=by
 induction m with
 | zero=>simp[fD]
 | succ m ih =>
  unfold fD o8;split
  ·exact vV _ _ _ ih.1 (by simp[ih.2])
  ·exact ih
def noView:Value:=.agg #[.int .i64 0,.slice none 0 0,.slice none 0 0,.slice none 0 0,.slice none 0 0,.slice none 0 0]
def Ea (F:Ac) (g:Gm) (B:Nat) (v:Value) (w':World):Prop:=∃ vv,v = .tuple #[vv,.int .i64 (bg g)] ∧
 (bg g≠0→vv=noView)∧(bg g=0→Bg w' (fun b=>F b∨B≤b) vv g (aF g.nodes).1 (aF g.nodes).2 (aN g))
theorem aax {w:World} {b:Nat} {t:TypeId} {a0 a1 a2 a3 a4 a5:Value} (h:Row w b t [a0,a1,a2,a3,a4,a5]) (v0 v1 v2 v3 v4 v5:Value):∃ W,W=((((((w.setCell ⟨b,0,none⟩ v0).setCell ⟨b,1,none⟩ v1).setCell ⟨b,2,none⟩ v2).setCell ⟨b,3,none⟩ v3).setCell ⟨b,4,none⟩ v4).setCell ⟨b,5,none⟩ v5) ∧
  Row W b t [v0,v1,v2,v3,v4,v5]∧Wrote (fun k=>k=b) w W:=by
 refine⟨_,rfl,?_,?_⟩
 ·exact(((((h.set 0 v0).set 1 v1).set 2 v2).set 3 v3).set 4 v4).set 5 v5
 ·have h0:Wrote (fun k=>k=b) w w:=Wrote.refl _ _;exact(((((h0.setCell (p:=⟨b,0,none⟩) (.inl rfl) v0).setCell (p:=⟨b,1,none⟩) (.inl rfl) v1).setCell (p:=⟨b,2,none⟩) (.inl rfl) v2).setCell (p:=⟨b,3,none⟩) (.inl rfl) v3).setCell (p:=⟨b,4,none⟩) (.inl rfl) v4).setCell (p:=⟨b,5,none⟩) (.inl rfl) v5
structure AL (w:World) (g:Gm) (A:Option Addr) (c:Nat) (Ai:Option Addr) (ci:Nat) (bv bp bl bs:Nat) (s:List Int×List Int) (vs:List Value) (wr:World):Prop where
 box:Row wr w.heap.size 25 [.int .i64 g.aj,.slice A g.nodes.length c,.slice Ai g.infos.length ci]
 res:Row wr (w.heap.size+1) 98 [.int .i64 0,.slice none 0 0,.slice none 0 0,.slice none 0 0,.slice none 0 0,.slice none 0 0]
 view:Row wr bv 98 [.int .i64 g.aj,.slice A g.nodes.length c,.slice Ai g.infos.length ci,.slice (some ⟨bp,0,none⟩) g.nodes.length g.nodes.length,.slice (some ⟨bl,0,none⟩) g.nodes.length g.nodes.length,.slice (some ⟨bs,0,none⟩) g.infos.length g.infos.length]
 rp:Row wr bp 3 (cO s.1)
 rl:Row wr bl 3 (cO s.2)
 rs:Row wr bs 26 vs
 bel:Below w.heap.size w wr
structure ApartL (B bv bp bl bs:Nat):Prop where
 v:B+1 < bv
 p:B+1 < bp
 l:B+1 < bl
 s:B+1 < bs
 vp:bv≠bp
 vl:bv≠bl
 vs:bv≠bs
 pl:bp≠bl
 ps:bp≠bs
 ls:bl≠bs
section
variable {w:World} {g:Gm} {A:Option Addr} {c:Nat} {Ai:Option Addr} {ci:Nat} {bv bp bl bs:Nat} {s:List Int×List Int} {vs:List Value} {wr wr':World}
theorem AL.below (h:AL w g A c Ai ci bv bp bl bs s vs wr) (k:Below wr.heap.size wr wr'):AL w g A c Ai ci bv bp bl bs s vs wr' :=
 ⟨h.box.below k h.box.lt,h.res.below k h.res.lt,h.view.below k h.view.lt,h.rp.below k h.rp.lt,h.rl.below k h.rl.lt,h.rs.below k h.rs.lt,h.bel.trans (k.mono h.bel.size)⟩
theorem AL.alloc (h:AL w g A c Ai ci bv bp bl bs s vs wr) (o:Obj):AL w g A c Ai ci bv bp bl bs s vs (wr.alloc o):=h.below ((Below.refl _ _).alloc (Nat.le_refl _) _)
theorem AL.drew (h:AL w g A c Ai ci bv bp bl bs s vs wr):AL w g A c Ai ci bv bp bl bs s vs wr.drew:=⟨h.box,h.res,h.view,h.rp,h.rl,h.rs,h.bel.drew⟩
theorem AL.setP (h:AL w g A c Ai ci bv bp bl bs s vs wr) (ap:ApartL w.heap.size bv bp bl bs) (i:Nat) (x:Int):AL w g A c Ai ci bv bp bl bs (s.1.set i x,s.2) vs (wr.setCell ⟨bp,i,none⟩ (.int .i64 x)) :=
 ⟨h.box.other (by have:=ap.p; simp; omega) _,h.res.other (by have:=ap.p; simp; omega) _,h.view.other ap.vp _,by simpa [cO,List.map_set] using h.rp.set i (.int .i64 x),h.rl.other ap.pl.symm _,h.rs.other ap.ps.symm _,h.bel.setCell (by have:=ap.p; simp; omega) _⟩
theorem AL.setL (h:AL w g A c Ai ci bv bp bl bs s vs wr) (ap:ApartL w.heap.size bv bp bl bs) (i:Nat) (x:Int):AL w g A c Ai ci bv bp bl bs (s.1,s.2.set i x) vs (wr.setCell ⟨bl,i,none⟩ (.int .i64 x)) :=
 ⟨h.box.other (by have:=ap.l; simp; omega) _,h.res.other (by have:=ap.l; simp; omega) _,h.view.other ap.vl _,h.rp.other ap.pl _,by simpa [cO,List.map_set] using h.rl.set i (.int .i64 x),h.rs.other ap.ls.symm _,h.bel.setCell (by have:=ap.l; simp; omega) _⟩
theorem AL.setS (h:AL w g A c Ai ci bv bp bl bs s vs wr) (ap:ApartL w.heap.size bv bp bl bs) (i:Nat) (x:Value):AL w g A c Ai ci bv bp bl bs s (vs.set i x) (wr.setCell ⟨bs,i,none⟩ x) :=
 ⟨h.box.other (by have:=ap.s; simp; omega) _,h.res.other (by have:=ap.s; simp; omega) _,h.view.other ap.vs _,h.rp.other ap.ps _,h.rl.other ap.ls _,h.rs.set i x,h.bel.setCell (by have:=ap.s; simp; omega) _⟩
theorem AL.blocks (h:AL w g A c Ai ci bv bp bl bs s vs wr) (k:∀ b,b < wr.heap.size→b=w.heap.size∨b=w.heap.size+1∨b=bv∨b=bp∨b=bl∨b=bs→wr'.heap[b]? = wr.heap[b]?) (hb:Below w.heap.size w wr'):AL w g A c Ai ci bv bp bl bs s vs wr' :=
 ⟨h.box.of_block (k _ h.box.lt (by simp)),h.res.of_block (k _ h.res.lt (by simp)),h.view.of_block (k _ h.view.lt (by simp)),h.rp.of_block (k _ h.rp.lt (by simp)),h.rl.of_block (k _ h.rl.lt (by simp)),h.rs.of_block (k _ h.rs.lt (by simp)),hb⟩
end
def kP (B n m:Nat) (p:Int) (vn vi:Value):Says where
 uses i:=match i with | 13=>[4,8,12] | _=>[]
 F i l:=match i with
  | 4=>Hold.made B 3 n (List.replicate n (.int .i64 0)) (l.getD 0 undef)
  | 8=>Hold.made B 3 n (List.replicate n (.int .i64 0)) (l.getD 0 undef)
  | 12=>Hold.made B 26 m (List.replicate m (.slice none 0 0)) (l.getD 0 undef)
  | 13=>Hold.eq (.agg #[.int .i64 p,vn,vi,l.getD 1 undef,l.getD 2 undef,l.getD 3 undef]) (l.getD 0 undef)
  | 14=>Hold.aiQ B 98 [.int .i64 0,.slice none 0 0,.slice none 0 0,.slice none 0 0,.slice none 0 0,.slice none 0 0] (l.getD 0 undef)
  | _=>Hold.tt
 cu:=[]
 G _ _ _ _:=False
 mks:=[4,8,12,14]
theorem ahU (B n m:Nat) (p:Int) (vn vi:Value):∀ k∈(kP B n m p vn vi).mks,∀ e w,(kP B n m p vn vi).R k e w→∀ b,lU (e k)=some b→b < w.heap.size:=by
 intro k hk e w h;simp only[kP,List.mem_cons,List.not_mem_nil,or_false] at hk;rcases hk with rfl | rfl | rfl | rfl
 ·exact oG (show(Hold.made B 3 n (List.replicate n (.int .i64 0)) (e 4)).p w from h)
 ·exact oG (show(Hold.made B 3 n (List.replicate n (.int .i64 0)) (e 8)).p w from h)
 ·exact oG (show(Hold.made B 26 m (List.replicate m (.slice none 0 0)) (e 12)).p w from h)
 ·exact aiR (show(Hold.aiQ B 98 [.int .i64 0,.slice none 0 0,.slice none 0 0,.slice none 0 0,.slice none 0 0,.slice none 0 0] (e 14)).p w from h)
theorem vW (w:World) (F:Ac) (u:Value) (g:Gm) (hg:Az w F u g) (hsm:Small g) :
  Calls Tryz.prog 83 #[u] w (Ret w (Ea F g w.heap.size)):=by
 have HG:=Aa hg;obtain⟨vn,vi,rfl,⟨A,c,rfl,hc,hN⟩,⟨Ai,ci,rfl,hci,hI⟩⟩:=hg;have HN:=Aa hN; have HI:=Aa hI; clear hN hI;have hn:=hsm.nodes;have hni:=hsm.infos;have HS:=Aa hsm; clear hsm;go_enter Tryz.func83,Tryz.ntmps83;go_wp2_with fail
 refine(abM _ F _ g ((HG.out.on (Same.alloc _ _ _)).on (Same.alloc _ _ _)) HS.out).mono ?_;rintro e w1 ⟨_,rfl,hb1,rfl⟩;rw[afU];have hbx:=((Row.new w 25 #[.int .i64 g.aj,.slice A g.nodes.length c,.slice Ai g.infos.length ci]).alloc (.cells #[.int .i64 0,.slice none 0 0,.slice none 0 0,.slice none 0 0,.slice none 0 0,.slice none 0 0] 98)).below hb1 (by simp; omega);have hrs:Row w1 (w.heap.size+1) 98 [.int .i64 0,.slice none 0 0,.slice none 0 0,.slice none 0 0,.slice none 0 0,.slice none 0 0]:=by
  have:=(Row.new (w.alloc (.cells #[.int .i64 g.aj,.slice A g.nodes.length c,.slice Ai g.infos.length ci] 25)) 98 #[.int .i64 0,.slice none 0 0,.slice none 0 0,.slice none 0 0,.slice none 0 0,.slice none 0 0]).below hb1 (by simp);simpa using this
 have hB:Below w.heap.size w w1:=(dh w _ _ 0).trans (hb1.mono (by simp; omega));clear hb1;have HGD:=Aa (fun h:bg g=0=>dZ h);generalize hfe:bg g=er at *;have HFE:=Aa hfe; clear hfe;dsimp only;by_cases he:er=0
 ·have hgd:=HGD.out he;have HK:=Aa hgd.uM;have HIN:=Aa hgd.infos;have hp:=hgd.pos;subst he;clear hgd HGD;obtain⟨b,o,rfl,hbF,hb,hcell⟩:=HN.out hp;have HC:=Aa hcell; clear hcell;go_upto_region 4 with fail
  go_cut [5] from 17 to 30 (fun v5 wx=>∃ bv bp bl bs,v5 = .pointer (some ⟨bv,0,none⟩)∧AL w g (some ⟨b,o,none⟩) c Ai ci bv bp bl bs (List.replicate g.nodes.length 0,List.replicate g.nodes.length 0) (List.replicate g.infos.length (.slice none 0 0)) wx∧ApartL w.heap.size bv bp bl bs)
  case first =>
   refine bK (fun w'=>w'.cell? ⟨w.heap.size,0,none⟩=some (.int .i64 g.aj)∧w'.cell? ⟨w.heap.size,1,none⟩=some (.slice (some ⟨b,o,none⟩) g.nodes.length c)∧w'.cell? ⟨w.heap.size,2,none⟩=some (.slice Ai g.infos.length ci)) 15 1 (by kernel_rfl) rfl (by kernel_rfl) ?_;have hHeld:(fun w':World=>w'.cell? ⟨w.heap.size,0,none⟩=some (.int .i64 g.aj)∧w'.cell? ⟨w.heap.size,1,none⟩=some (.slice (some ⟨b,o,none⟩) g.nodes.length c)∧w'.cell? ⟨w.heap.size,2,none⟩=some (.slice Ai g.infos.length ci)) w1.drew:=⟨hbx.cell rfl,hbx.cell rfl,hbx.cell rfl⟩;simp only[List.take_succ_cons,List.take_zero];refine tk0 [0,1,2,3,5,6,7,9,10,11] ?_;iterate 10 (refine tk (v:=?_) rfl (by kernel_rfl) (by kernel_rfl) (by kernel_rfl) (fun _ _ _ h=>h) (Or.inl ⟨by rfl,?_⟩) hHeld ?_;rotate_left;(focus intro wx hSx;(try dsimp only at hSx);go_split_ands;go_simp;try with_reducible rfl);try simp only[Act.put,lq1,lq2,lq3,lq4,lq5,lq6])
   refine tk1 ?_;obtain⟨w0,hw0⟩:∃ W,W=w1.drew:=⟨_,rfl⟩;have hbx0:Row w0 _ _ _:=hw0▸hbx.drew;have ai0:Row w0 _ _ _:=hw0▸hrs.drew;have hB0:Below w.heap.size w w0:=hw0▸hB.drew;rw[← hw0] at hHeld ⊢;clear hw0 hbx hrs hB;have hz0:=ai0.lt;refine qh (js:=[4,8,12,13,14]) ((Hold.cell (w.heap.size) 0 (.int .i64 g.aj)).and ((Hold.cell (w.heap.size) 1 (.slice (some ⟨b,o,none⟩) g.nodes.length c)).and ((Hold.cell (w.heap.size) 2 (.slice Ai g.infos.length ci)).and (Hold.below w0.heap.size w0)))) (kP w0.heap.size g.nodes.length g.infos.length g.aj (.slice (some ⟨b,o,none⟩) g.nodes.length c) (.slice Ai g.infos.length ci)) (by kernel_rfl) (by kernel_rfl) ⟨hHeld.1,hHeld.2.1,hHeld.2.2,Nat.le_refl _,Below.refl _ _⟩ (fun _ h=>⟨h.1,h.2.1,h.2.2.1⟩) (ahU _ _ _ _ _ _) (fun j hj=>by simp[kP] at hj) ?_;refine AA.cons (o:=_) rfl (fun wk hS hf K hK=>?_) (fun v4=>?_)
   ·refine ifA rfl ?_;refine ku _ _ _ 26 rfl 3 (.int .i64 0) 8 Tryz.underlying26 Tryz.infoInt rfl g.nodes.length rfl rfl (by omega) (by omega) ?_;intro W1 hb hz hr;exact hK.out _ _ ⟨hb,⟨_,rfl,hS.2.2.2.1,hr⟩,fun _ b hb=>by cases hb; exact Nat.le_refl _⟩
   try simp only[Act.put,lq1,lq2,lq3,lq4,lq5,lq6]
   refine AA.cons (o:=_) rfl (fun wk hS hf K hK=>?_) (fun v8=>?_)
   ·refine ifA rfl ?_;refine ku _ _ _ 26 rfl 3 (.int .i64 0) 8 Tryz.underlying26 Tryz.infoInt rfl g.nodes.length rfl rfl (by omega) (by omega) ?_;intro W1 hb hz hr;exact hK.out _ _ ⟨hb,⟨_,rfl,hS.2.2.2.1,hr⟩,fun _ b hb=>by cases hb; exact Nat.le_refl _⟩
   try simp only[Act.put,lq1,lq2,lq3,lq4,lq5,lq6]
   refine AA.cons (o:=_) rfl (fun wk hS hf K hK=>?_) (fun v12=>?_)
   ·refine ifA rfl ?_;refine ku _ _ _ 96 rfl 26 (.slice none 0 0) 24 Tryz.underlying96 Tryz.infoInts rfl g.infos.length rfl rfl (by omega) (by omega) ?_;intro W1 hb hz hr;exact hK.out _ _ ⟨hb,⟨_,rfl,hS.2.2.2.1,hr⟩,fun _ b hb=>by cases hb; exact Nat.le_refl _⟩
   try simp only[Act.put,lq1,lq2,lq3,lq4,lq5,lq6]
   refine AA.cons (o:=_) rfl (fun wk hS hf K hK=>?_) (fun v13=>?_)
   ·have f4:Hold.p (Hold.made w0.heap.size 3 g.nodes.length (List.replicate g.nodes.length (.int .i64 0)) v4) wk:=hf 4 (by simp) (by kernel_rfl);have f8:Hold.p (Hold.made w0.heap.size 3 g.nodes.length (List.replicate g.nodes.length (.int .i64 0)) v8) wk:=hf 8 (by simp) (by kernel_rfl);have f12:Hold.p (Hold.made w0.heap.size 26 g.infos.length (List.replicate g.infos.length (.slice none 0 0)) v12) wk:=hf 12 (by simp) (by kernel_rfl);obtain⟨b4,rfl,g4,r4⟩:=f4; obtain⟨b8,rfl,g8,r8⟩:=f8; obtain⟨b12,rfl,g12,r12⟩:=f12;go_simp;exact hK.out _ _ ⟨Below.refl _ _,rfl,fun h=>(by simp[kP] at h)⟩
   try simp only[Act.put,lq1,lq2,lq3,lq4,lq5,lq6]
   refine AA.cons (o:=_) rfl (fun wk hS hf K hK=>?_) (fun v14=>?_)
   ·go_simp;obtain⟨W1,hw,hr,hb,hz⟩:=aH wk 98 #[.int .i64 0,.slice none 0 0,.slice none 0 0,.slice none 0 0,.slice none 0 0,.slice none 0 0];rw[← hw];exact hK.out _ _ ⟨hb,⟨_,rfl,hS.2.2.2.1,hr⟩,fun _ b hb=>by cases hb; exact Nat.le_refl _⟩
   try simp only[Act.put,lq1,lq2,lq3,lq4,lq5,lq6]
   refine AA.nil (fun wE hS hf hA=>?_);have f4:Hold.p (Hold.made w0.heap.size 3 g.nodes.length (List.replicate g.nodes.length (.int .i64 0)) v4) wE:=hf 4 (by simp);have f8:Hold.p (Hold.made w0.heap.size 3 g.nodes.length (List.replicate g.nodes.length (.int .i64 0)) v8) wE:=hf 8 (by simp);have f12:Hold.p (Hold.made w0.heap.size 26 g.infos.length (List.replicate g.infos.length (.slice none 0 0)) v12) wE:=hf 12 (by simp);have f13:Hold.p (Hold.eq (.agg #[.int .i64 g.aj,.slice (some ⟨b,o,none⟩) g.nodes.length c,.slice Ai g.infos.length ci,v4,v8,v12]) v13) wE:=hf 13 (by simp);have f14:Hold.p (Hold.aiQ w0.heap.size 98 [.int .i64 0,.slice none 0 0,.slice none 0 0,.slice none 0 0,.slice none 0 0,.slice none 0 0] v14) wE:=hf 14 (by simp);obtain⟨b4,rfl,g4,r4⟩:=f4; obtain⟨b8,rfl,g8,r8⟩:=f8; obtain⟨b12,rfl,g12,r12⟩:=f12; obtain⟨b14,rfl,g14,r14⟩:=f14;obtain rfl:v13=(.agg #[.int .i64 g.aj,.slice (some ⟨b,o,none⟩) g.nodes.length c,.slice Ai g.infos.length ci,_,_,_]):=f13;have ajV:=jo hA (i:=4) (k:=8) (by simp) (by simp) (by simp[kP]) (by simp[kP]) (by decide) rfl rfl;have akt:=jo hA (i:=4) (k:=12) (by simp) (by simp) (by simp[kP]) (by simp[kP]) (by decide) rfl rfl;have aku:=jo hA (i:=4) (k:=14) (by simp) (by simp) (by simp[kP]) (by simp[kP]) (by decide) rfl rfl;have akv:=jo hA (i:=8) (k:=12) (by simp) (by simp) (by simp[kP]) (by simp[kP]) (by decide) rfl rfl;have akw:=jo hA (i:=8) (k:=14) (by simp) (by simp) (by simp[kP]) (by simp[kP]) (by decide) rfl rfl;have ajW:=jo hA (i:=12) (k:=14) (by simp) (by simp) (by simp[kP]) (by simp[kP]) (by decide) rfl rfl;have hV:=hS.2.2.2;have adH:=hbx0.below hV.2 hbx0.lt;have hrsE:=ai0.below hV.2 ai0.lt;have hBE:=hB0.trans (hV.2.mono hB0.size);have hzE:=hV.1;clear hS hV hHeld hbx0 ai0 hB0 hf hA;have r20:=r14.cell (i:=0) rfl; have f20:=r14.frozen 0;have r21:=r14.cell (i:=1) rfl; have f21:=r14.frozen 1;have r22:=r14.cell (i:=2) rfl; have f22:=r14.frozen 2;have r23:=r14.cell (i:=3) rfl; have f23:=r14.frozen 3;have r24:=r14.cell (i:=4) rfl; have f24:=r14.frozen 4;have r25:=r14.cell (i:=5) rfl; have f25:=r14.frozen 5;obtain⟨W,hW,hrw,hww⟩:=aax r14 (.int .i64 g.aj) (.slice (some ⟨b,o,none⟩) g.nodes.length c) (.slice Ai g.infos.length ci) (.slice (some ⟨b4,0,none⟩) g.nodes.length g.nodes.length) (.slice (some ⟨b8,0,none⟩) g.nodes.length g.nodes.length) (.slice (some ⟨b12,0,none⟩) g.infos.length g.infos.length);have HR:=Aa (show AL w g (some ⟨b,o,none⟩) c Ai ci b14 b4 b8 b12 (List.replicate g.nodes.length 0,List.replicate g.nodes.length 0) (List.replicate g.infos.length (.slice none 0 0)) W from⟨adH.wrote hww (by omega),hrsE.wrote hww (by omega),hrw,by simpa [cO] using r4.wrote hww (by omega),by simpa [cO] using r8.wrote hww (by omega),r12.wrote hww (by omega),Wrote.below hBE hww (fun k hk=>by omega) hBE.size⟩);clear r4 r8 r12 r14 adH hrsE hBE hrw hww;show wpList _ _ _ _ _ _;go_wp2_with fail
   rw[← hW];clear hW r20 f20 r21 f21 r22 f22 r23 f23 r24 f24 r25 f25;show Exit.then _ _ .normal _ _;go_wp2_with fail
   go_meet
   exact⟨b14,b4,b8,b12,rfl,HR.out,⟨by omega,by omega,by omega,by omega,Ne.symm aku,Ne.symm akw,Ne.symm ajW,ajV,akt,akv⟩⟩
  case rest =>
   obtain⟨bv,bp,bl,bs,rfl,hst,hap⟩:=hcut;clear hbx hrs hB;have y3:=hst.view.cell (i:=3) rfl;have ep0:=hst.rp.cell (i:=0) (v:=.int .i64 0) (by simp[cO,hp]);have fp0:=hst.rp.frozen 0;have x1:=hst.box.cell (i:=1) rfl;have zp:w.heap.size≠bp:=by have:=hap.p; omega
   have hsub:((g.nodes.length:Int) - 1)=((g.nodes.length - 1:Nat):Int):=by omega
   have HST:=Aa hst; clear hst;go_wp2
   go_loopw [6] (fun i wr=>∃ k:Nat,k≤g.nodes.length∧i = .int .i64 ((k:Int) - 1)∧AL w g (some ⟨b,o,none⟩) c Ai ci bv bp bl bs (fD g.nodes (g.nodes.length - k)) (List.replicate g.infos.length (.slice none 0 0)) wr) (fun i _=>(intOf i+1).toNat)
   case atStart =>
    refine⟨g.nodes.length,by omega,by rw[← hsub],?_⟩;rw[Nat.sub_self];exact HST.out.setP hap 0 (-1)
   case round =>
    clear y3 ep0 fp0 x1 HST;obtain⟨k,hk,rfl,hst⟩:=hrel;have HST:=Aa hst; clear hst;have y3:=HST.out.view.cell (i:=3) rfl;have y4:=HST.out.view.cell (i:=4) rfl;have x1:=HST.out.box.cell (i:=1) rfl;have hlen:=dO g.nodes (g.nodes.length - k);by_cases hlt:0 < k
    ·obtain⟨q,rfl⟩:∃ q,k=q+1:=⟨k - 1,by omega⟩;have i1:(((q+1:Nat):Int) - 1)=(q:Int):=by omega
     rw[i1];clear i1;obtain⟨n,hn'⟩:=au (l:=g.nodes) (k:=q) (by omega);obtain⟨v3,e3,A3,c3,rfl,hc3,i3⟩:=(HC.out q n hn').c3;have hl3:=HS.out.next n (List.mem_of_getElem? hn');have HN3:=Aa i3; clear i3;have hqn:q < g.nodes.length:=by omega
     have HTO:=Aa (show fD g.nodes (g.nodes.length - q)=dD q n.next ((fD g.nodes (g.nodes.length - (q+1))).1,(fD g.nodes (g.nodes.length - (q+1))).2.set q q) by
      rw[show g.nodes.length - q=(g.nodes.length - (q+1))+1 by omega,fD,o8,show g.nodes.length - 1 - (g.nodes.length - (q+1))=q by omega,hn'])
     have HX:=Aa hn'; clear hn';generalize fD g.nodes (g.nodes.length - (q+1))=s0 at *;obtain⟨hlp,hll⟩:=hlen;obtain⟨y,hy⟩:=au (l:=s0.2) (k:=q) (by omega);have el:=HST.out.rl.cell (i:=q) (v:=.int .i64 y) (by simp[cO,hy]);have fl:=HST.out.rl.frozen q;have e3':wr.cell? ⟨b,o+q*6+3,none⟩=some (.slice A3 n.next.length c3):=by rw[aA HST.out.bel b _ hb]; exact e3
     have zl:w.heap.size≠bl:=by have:=hap.l; omega
     have zlb:b≠bl:=by have:=hap.l; omega
     clear hy e3;go_wp2
     go_loopw [8,54] (fun _ i wi=>∃ j:Nat,j≤n.next.length∧i = .int .i64 j∧AL w g (some ⟨b,o,none⟩) c Ai ci bv bp bl bs (dD q (n.next.take j) (s0.1,s0.2.set q q)) (List.replicate g.infos.length (.slice none 0 0)) wi) (fun _ i _=>n.next.length - (intOf i).toNat)
     case atStart=>exact⟨0,by omega,rfl,by simpa [dD] using HST.out.setL hap q q⟩
     case round =>
      clear y3 y4 x1 el fl e3' HST;obtain⟨j,hj,rfl,hst⟩:=hrel;have hlk:=vV q (n.next.take j) (s0.1,s0.2.set q q) (N:=g.nodes.length) hlp (by simpa using hll);have HST:=Aa hst; clear hst;have y3:=HST.out.view.cell (i:=3) rfl;have y4:=HST.out.view.cell (i:=4) rfl;by_cases hjt:j < n.next.length
      ·obtain⟨ch,hch⟩:=au hjt;obtain⟨b3,o3,rfl,hb3,hb3B,hx3⟩:=HN3.out (by omega);have ec:=hx3 j ch hch;unfold iH at ec;rw[Nat.mul_one] at ec;rw[← aA HST.out.bel b3 _ hb3B] at ec;obtain⟨aiE,hch1⟩:=HK.out n (List.mem_of_getElem? HX.out) ch (List.mem_of_getElem? hch);have HSN:=Aa (abj (i:=q) (s:=(s0.1,s0.2.set q q)) hch);clear hch hx3;generalize dD q (n.next.take j) (s0.1,s0.2.set q q)=s at *;obtain⟨hkp,hkl⟩:=hlk;obtain⟨yp,hyp⟩:=au (l:=s.1) (k:=ch.toNat) (by omega);have ep:=HST.out.rp.cell (i:=ch.toNat) (v:=.int .i64 yp) (by simp[cO,hyp]);have fp:=HST.out.rp.frozen ch.toNat;clear hyp;have zvp:bv≠bp:=hap.vp;go_wp2
       have hst2:=HST.out.setP hap ch.toNat q;obtain⟨W,hW⟩:∃ W:World,W=wr.setCell ⟨bp,ch.toNat,none⟩ (.int .i64 q):=⟨_,rfl⟩;rw[← hW] at hst2 ⊢;clear hW y3 y4 ep fp ec;have Dn:=Aa hst2; clear hst2 HST;have y4:=Dn.out.view.cell (i:=4) rfl;obtain⟨yl,hyl⟩:=au (l:=s.2) (k:=ch.toNat) (by omega);obtain⟨yq,hyq⟩:=au (l:=s.2) (k:=q) (by omega);have el:=Dn.out.rl.cell (i:=ch.toNat) (v:=.int .i64 yl) (by simp[cO,hyl]);have eq':=Dn.out.rl.cell (i:=q) (v:=.int .i64 yq) (by simp[cO,hyq]);have fl:=Dn.out.rl.frozen q;have HGD:=Aa (show s.2.getD ch.toNat 0=yl by simp[List.getD_eq_getElem?_getD,hyl]);clear hyl hyq;refine ahl (fun w'=>w'.cell? ⟨bv,4,none⟩=some (.slice (some ⟨bl,0,none⟩) g.nodes.length g.nodes.length)∧w'.cell? ⟨bl,ch.toNat,none⟩=some (.int .i64 yl)) 9 (by kernel_rfl) rfl (by kernel_rfl) (by kernel_rfl) ⟨y4,el⟩ ?_;have hHeld:(fun w':World=>w'.cell? ⟨bv,4,none⟩=some (.slice (some ⟨bl,0,none⟩) g.nodes.length g.nodes.length)∧w'.cell? ⟨bl,ch.toNat,none⟩=some (.int .i64 yl)) W.drew:=⟨y4,el⟩;simp only[List.take_succ_cons,List.take_zero];refine tk0 [0,1,2,3,4,5,6,7,8] ?_;iterate 9 (refine tk (v:=?_) rfl (by kernel_rfl) (by kernel_rfl) (by kernel_rfl) (fun _ _ _ h=>h) (Or.inl ⟨by rfl,?_⟩) hHeld ?_;rotate_left;(focus intro wx hSx;(try dsimp only at hSx);go_split_ands;go_simp;try with_reducible rfl);try simp only[Act.put,lq1,lq2,lq3,lq4,lq5,lq6])
       refine tk1 ?_;refine wpAnyH_done (by kernel_rfl) ?_ _;clear hHeld;show wpList _ _ _ _ _ _;go_wp2
       go_roundw
       case rel =>
        refine⟨j+1,by omega,by go_num,?_⟩;rw[HSN.out,HGD.out];exact(Dn.out.setL hap q yl).drew
       case measure=>simp[intOf] <;> omega
      ·go_wp2
       go_roundw
       case rel=>exact⟨q,by omega,rfl,by rw[HTO.out]; rw[List.take_of_length_le (by omega)] at HST; exact HST.out⟩
       case measure=>simp[intOf] <;> omega
    ·obtain rfl:k=0:=by omega
     have hfs:fD g.nodes (g.nodes.length - 0)=aF g.nodes:=rfl;rw[hfs] at HST;clear hfs y3 y4;go_wp2
     go_loopw [9,10,76] (fun _ _ i wi=>∃ (k:Nat) (vs:List Value),k≤g.nodes.length∧i = .int .i64 k∧AL w g (some ⟨b,o,none⟩) c Ai ci bv bp bl bs (aF g.nodes) vs wi∧OwnRows wi (max (max bv bp) (max bl bs)+1) 3 vs (dM g.nodes g.infos.length k)) (fun _ _ i _=>g.nodes.length - (intOf i).toNat)
     case atStart=>exact⟨0,_,by omega,rfl,HST.out,OwnRows.start _ _ _ _⟩
     case round =>
      clear x1 HST;obtain⟨k,vs,hk,rfl,hst,hown⟩:=hrel;have HST:=Aa hst; clear hst;have hm1:bv < max (max bv bp) (max bl bs)+1∧bp < max (max bv bp) (max bl bs)+1∧bl < max (max bv bp) (max bl bs)+1∧bs < max (max bv bp) (max bl bs)+1:=by omega
      have hm2:max (max bv bp) (max bl bs)+1≤wr.heap.size:=by
       have h1:=HST.out.view.lt;have h2:=HST.out.rp.lt;have h3:=HST.out.rl.lt;have h4:=HST.out.rs.lt;omega
      generalize max (max bv bp) (max bl bs)+1=M at *;obtain⟨m1,m2,m3,m4⟩:=hm1;have a1:=hap.v;have a2:=hap.s;have a3:=hap.vs;have x1:=HST.out.box.cell (i:=1) rfl;by_cases hlt2:k < g.nodes.length
      ·obtain⟨n,hn'⟩:=au hlt2;obtain⟨e0,e1,e2,⟨v3,e3,A3,c3,rfl,hc3,i3⟩,⟨v4,e4,A4,c4,rfl,hc4,i4⟩,⟨v5,e5,A5,c5,rfl,hc5,i5⟩⟩:=HC.out k n hn';clear i3 i4 i5;have HX:=Aa hn'; clear hn';have hold:=aA HST.out.bel;by_cases hkd:n.kind=2
       ·obtain⟨hin0,hin1⟩:=HIN.out n (List.mem_of_getElem? HX.out) hkd;have hd:(n.kind==2)=true:=by simp[hkd]
        have HKD:=Aa hkd; clear hkd;obtain⟨l,hl⟩:=au (l:=dM g.nodes g.infos.length k) (k:=n.info.toNat) (by rw[bF]; omega);obtain⟨v,hv⟩:=au (l:=vs) (k:=n.info.toNat) (by rw[hown.len,bF]; omega);have hll:=zK l (List.mem_of_getElem? hl);have HO:=Aa (hown.own _ v l hv hl);have HL:=Aa hl; clear hl;have HV:=Aa hv; clear hv;go_wp2
        obtain⟨W,hW⟩:∃ W:World,W=wr.alloc (.cells #[.int .i64 n.kind,.int .i64 n.ak,.int .i64 n.info,.slice A3 n.next.length c3,.slice A4 n.weights.length c4,.slice A5 n.pay.length c5] 61):=⟨_,rfl⟩;rw[← hW];have cx:W.cell? ⟨wr.heap.size,2,none⟩=some (.int .i64 n.info):=by rw[hW]; simp
        have HWS:=Aa (show AL w g (some ⟨b,o,none⟩) c Ai ci bv bp bl bs (aF g.nodes) vs W by rw[hW]; exact HST.out.alloc _);have HWO:=Aa (show OwnRows W M 3 vs (dM g.nodes g.infos.length k) by rw[hW]; exact hown.alloc _);have hWlt:wr.heap.size < W.heap.size:=by rw[hW]; simp
        clear hW hown x1 hold e0 e1 e2 e3 e4 e5 HST;have rv:=HWS.out.rs.cell HV.out;have fv:=HWS.out.rs.frozen n.info.toNat;have y5:=HWS.out.view.cell (i:=5) rfl;have HOW:=Aa (HWO.out.own _ v l HV.out HL.out);refine ahm (fun w'=>w'.cell? ⟨wr.heap.size,2,none⟩=some (.int .i64 n.info)∧w'.cell? ⟨bv,5,none⟩=some (.slice (some ⟨bs,0,none⟩) g.infos.length g.infos.length)∧w'.cell? ⟨bs,n.info.toNat,none⟩=some v) 13 (by kernel_rfl) rfl rfl (by kernel_rfl) (by kernel_rfl) (by kernel_rfl) (by kernel_rfl) ⟨cx,y5,rv⟩ ?_;have hHeld:(fun w':World=>w'.cell? ⟨wr.heap.size,2,none⟩=some (.int .i64 n.info)∧w'.cell? ⟨bv,5,none⟩=some (.slice (some ⟨bs,0,none⟩) g.infos.length g.infos.length)∧w'.cell? ⟨bs,n.info.toNat,none⟩=some v) W.drew:=⟨cx,y5,rv⟩;simp only[List.take_succ_cons,List.take_zero];refine tk0 [0,1,2,3,4,5,6,7,8,9,10] ?_;iterate 11 (refine tk (v:=?_) rfl (by kernel_rfl) (by kernel_rfl) (by kernel_rfl) (fun _ _ _ h=>h) (Or.inl ⟨by rfl,?_⟩) hHeld ?_;rotate_left;(focus intro wx hSx;(try dsimp only at hSx);go_split_ands;go_simp;try with_reducible rfl);try simp only[Act.put,lq1,lq2,lq3,lq4,lq5,lq6])
        refine tk1 ?_;refine tk2 11 (by kernel_rfl) rfl fun K hK=>?_
        go_simp;refine hK.out _ _ ⟨by rw[World.cell?_drew,World.cell?_alloc_lt _ _ _ (by simp; omega)]; exact cx,by rw[World.cell?_drew,World.cell?_alloc_lt _ _ _ (by simp; omega)]; exact y5,by rw[World.cell?_drew,World.cell?_alloc_lt _ _ _ (by simp; omega)]; exact rv⟩ (fun hHeld=>?_);clear hK K;try simp only[Act.put,lq1,lq2,lq3,lq4,lq5,lq6]
        refine tk2 12 (by kernel_rfl) rfl fun K hK=>?_
        refine ab8 (by rfl) _ _ (by rfl) M v l (by rfl) (HOW.out.alloc _) W.heap.size k (by rfl) (heap_alloc_new W _) (by omega) (by simp; omega) ?_;intro gg cap w2 hown1 hgrow hat hlt1;have hnb:∀ b,v.ownBlock=some b→M≤b:=fun b hb=>(HOW.out.lt b hb).1
        have hHG:∀ b,b < M→w2.heap[b]? = W.heap[b]?:=fun b hb=>by
         rw[hgrow.block b (by simp; omega) (fun e=>by have:=hnb b e.symm; omega)];exact Below.heap_alloc W _ b (by omega)
        have k4:Below w.heap.size w w2:=((HWS.out.bel.alloc (by omega) _).drew).grown hgrow (by simp; omega) (fun k hk=>by have:=hnb k hk; omega);have k1:AL w g (some ⟨b,o,none⟩) c Ai ci bv bp bl bs (aF g.nodes) vs w2:=HWS.out.blocks (fun b _ hb=>hHG b (by omega)) k4;have k3:=((HWO.out.alloc (.cells #[.int .i64 (k:Int)] 3)).drew).put HV.out hown1 hgrow rfl hat;have rv1:=k1.rs.cell HV.out;have fv1:=k1.rs.frozen n.info.toNat;have y51:=k1.view.cell (i:=5) rfl;have KK:=Aa (And.intro k1 k3);refine hK.out _ _ ⟨?_,y51,rv1⟩ (fun hHeld=>?_)
        ·rw[hgrow.cell_far _ (by simp; omega) (fun e=>by have:=(HO.out.lt _ e.symm).2; simp at this),World.cell?_drew,World.cell?_alloc_lt _ _ _ (by simp; omega)]; exact cx
        clear hK K k1 k3 k4 hHG hgrow hown1 hat cx rv fv;try simp only[Act.put,List.setIfInBounds_toArray,List.set_cons_zero,List.set_cons_succ]
        refine wpAnyH_done (by kernel_rfl) ?_ _;show wpList _ _ _ _ _ _;go_wp2
        show wpList _ _ _ _ _ _;go_wp2
        go_roundw
        case rel =>
         obtain⟨k1,k3⟩:=KK.out;(repeat apply Exists.intro)
         refine⟨⟨k+1,_,by omega,by go_num,k1.setS hap _ _,?_⟩,rfl⟩;rw[xQ HX.out HKD.out HL.out];exact k3.setCell (by simp; omega) _
        case measure=>simp[intOf] <;> omega
       ·have hd:(n.kind==2)=false:=by simp[hkd]
        have HKD:=Aa hkd; clear hkd;go_wp2
        go_roundw
        case rel =>
         refine⟨k+1,vs,by omega,by go_num,HST.out.alloc _,?_⟩;rw[xR HX.out HKD.out];exact hown.alloc _
        case measure=>simp[intOf] <;> omega
      ·have hke:k=g.nodes.length:=by omega
       subst hke;have y0:=HST.out.view.cell (i:=0) rfl;have r0:=HST.out.res.cell (i:=0) rfl;have f0:=HST.out.res.frozen 0;have y1:=HST.out.view.cell (i:=1) rfl;have r1:=HST.out.res.cell (i:=1) rfl;have f1:=HST.out.res.frozen 1;have y2:=HST.out.view.cell (i:=2) rfl;have r2:=HST.out.res.cell (i:=2) rfl;have f2:=HST.out.res.frozen 2;have y3:=HST.out.view.cell (i:=3) rfl;have r3:=HST.out.res.cell (i:=3) rfl;have f3:=HST.out.res.frozen 3;have y4:=HST.out.view.cell (i:=4) rfl;have r4:=HST.out.res.cell (i:=4) rfl;have f4:=HST.out.res.frozen 4;have y5:=HST.out.view.cell (i:=5) rfl;have r5:=HST.out.res.cell (i:=5) rfl;have f5:=HST.out.res.frozen 5;go_wp2
       obtain⟨W,hW,hrw,hww⟩:=aax HST.out.res (.int .i64 g.aj) (.slice (some ⟨b,o,none⟩) g.nodes.length c) (.slice Ai g.infos.length ci) (.slice (some ⟨bp,0,none⟩) g.nodes.length g.nodes.length) (.slice (some ⟨bl,0,none⟩) g.nodes.length g.nodes.length) (.slice (some ⟨bs,0,none⟩) g.infos.length g.infos.length);rw[← hW];clear hW;clear r0 f0 y0;have r0:=hrw.cell (i:=0) rfl;clear r1 f1 y1;have r1:=hrw.cell (i:=1) rfl;clear r2 f2 y2;have r2:=hrw.cell (i:=2) rfl;clear r3 f3 y3;have r3:=hrw.cell (i:=3) rfl;clear r4 f4 y4;have r4:=hrw.cell (i:=4) rfl;clear r5 f5 y5;have r5:=hrw.cell (i:=5) rfl;refine bodyPost_ret (v:=.tuple #[.agg #[.int .i64 g.aj,.slice (some ⟨b,o,none⟩) g.nodes.length c,.slice Ai g.infos.length ci,.slice (some ⟨bp,0,none⟩) g.nodes.length g.nodes.length,.slice (some ⟨bl,0,none⟩) g.nodes.length g.nodes.length,.slice (some ⟨bs,0,none⟩) g.infos.length g.infos.length],.int .i64 0]) ?_ rfl ?_
       ·simp[results,Tryz.results83,go_sem,r0,r1,r2,r3,r4,r5]
       ·have hst:=HST.out;have hbz:=hst.bel.size;have hap2:=hap.p;have hap3:=hap.l;have hlk:=dO g.nodes g.nodes.length;refine⟨_,rfl,Wrote.below hst.bel hww (fun k hk=>by omega) hbz,_,by rw[HFE.out],fun h=>absurd HFE.out h,fun _=>⟨_,_,_,_,_,rfl,?_,?_,?_,?_,?_⟩⟩
        ·have h1:AB w F (.slice (some ⟨b,o,none⟩) g.nodes.length c) g.nodes:=⟨_,_,rfl,hc,HN.out⟩;have hB:Below w.heap.size w W:=Wrote.below hst.bel hww (fun k hk=>by omega) hbz;exact h1.keep (fun b hb _=>.inl hb) (Below.same' hB F)
        ·have h1:AX w F (.slice Ai g.infos.length ci) g.infos:=⟨_,_,rfl,hci,HI.out⟩;have hB:Below w.heap.size w W:=Wrote.below hst.bel hww (fun k hk=>by omega) hbz;exact h1.keep (fun b hb _=>.inl hb) (Below.same' hB F)
        ·have h1:=Row.ints (F:=fun b=>F b∨w.heap.size≤b) (hst.rp.wrote hww (by omega)) (.inr (by omega)) (c:=g.nodes.length) (by unfold aF; omega);rwa [show(aF g.nodes).1.length=g.nodes.length from hlk.1] at h1
        ·have h1:=Row.ints (F:=fun b=>F b∨w.heap.size≤b) (hst.rl.wrote hww (by omega)) (.inr (by omega)) (c:=g.nodes.length) (by unfold aF; omega);rwa [show(aF g.nodes).2.length=g.nodes.length from hlk.2] at h1
        ·have h1:=OwnRows.rows (F:=fun b=>w.heap.size+1 < b) hown hst.rs (by omega) (fun k hk=>by omega) (c:=g.infos.length) (by rw[bF]; omega);rw[bF] at h1;exact h1.keep (fun b hb _=>.inr (by omega)) (hww.same (fun b hb=>by omega))
 ·have hd:(er != 0)=true:=by simp[he]
  have HNZ:=Aa he; clear he;have r0:=hrs.cell (i:=0) rfl;have f0:=hrs.frozen 0;have r1:=hrs.cell (i:=1) rfl;have f1:=hrs.frozen 1;have r2:=hrs.cell (i:=2) rfl;have f2:=hrs.frozen 2;have r3:=hrs.cell (i:=3) rfl;have f3:=hrs.frozen 3;have r4:=hrs.cell (i:=4) rfl;have f4:=hrs.frozen 4;have r5:=hrs.cell (i:=5) rfl;have f5:=hrs.frozen 5;go_wp2
  obtain⟨W,hW,hrw,hww⟩:=aax hrs (.int .i64 0) (.slice none 0 0) (.slice none 0 0) (.slice none 0 0) (.slice none 0 0) (.slice none 0 0);rw[← hW];clear hW;clear r0 f0;have r0:=hrw.cell (i:=0) rfl;clear r1 f1;have r1:=hrw.cell (i:=1) rfl;clear r2 f2;have r2:=hrw.cell (i:=2) rfl;clear r3 f3;have r3:=hrw.cell (i:=3) rfl;clear r4 f4;have r4:=hrw.cell (i:=4) rfl;clear r5 f5;have r5:=hrw.cell (i:=5) rfl;refine bodyPost_ret (v:=.tuple #[noView,.int .i64 er]) ?_ rfl ?_
  ·simp[results,Tryz.results83,go_sem,r0,r1,r2,r3,r4,r5,noView]
  ·exact⟨_,rfl,Wrote.below hB hww (fun k hk=>by omega) hB.size,noView,by rw[HFE.out],fun _=>rfl,fun h=>absurd (HFE.out▸h) HNZ.out⟩
def hasB (N:Nat) (r:Int):Bool:=decide (0≤r)&&decide (r < (N:Int))
theorem acG (w:World) (F:Ac) (u:Value) (r:Int) (g:Gm) (par last:List Int) (sets:List (List Int)) (hv:Bg w F u g par last sets) :
  Calls Tryz.prog 85 #[u,.int .i64 r] w (Ret w fun v _=>v = .bool (hasB g.nodes.length r)):=by
 obtain⟨vn,vi,vp,vl,vs,rfl,⟨A,c,rfl,hc,hN⟩,_⟩:=hv;clear hN;by_cases q0:0≤r
 ·by_cases q1:r < (g.nodes.length:Int)
  ·have HF:=Aa (show hasB g.nodes.length r=true by simp[hasB,q0,q1]);go_enter Tryz.func85,Tryz.ntmps85;go_wp2
   go_ret;exact⟨_,rfl,(Below.refl _ _).alloc (Nat.le_refl _) _,by rw[HF.out]; rfl⟩
  ·have HF:=Aa (show hasB g.nodes.length r=false by simp[hasB,q1]);have d1:decide (r < (g.nodes.length:Int))=false:=decide_eq_false q1;go_enter Tryz.func85,Tryz.ntmps85;go_wp2
   go_ret;exact⟨_,rfl,(Below.refl _ _).alloc (Nat.le_refl _) _,by rw[HF.out]; rfl⟩
 ·have HF:=Aa (show hasB g.nodes.length r=false by simp[hasB,q0]);have d0:decide (0≤r)=false:=decide_eq_false q0;go_enter Tryz.func85,Tryz.ntmps85;go_wp2
  go_ret;exact⟨_,rfl,(Below.refl _ _).alloc (Nat.le_refl _) _,by rw[HF.out]; rfl⟩
def kL (last roots:List Int) (i:Nat):Bool:=decide (roots.getD i 0≤last.getD (roots.getD (i - 1) 0).toNat 0)
def iD (last roots:List Int) (m:Nat):Bool:=(List.range' 1 (m - 1)).any (kL last roots)
theorem yS (last roots:List Int) (m:Nat) (h:1≤m):iD last roots (m+1)=(iD last roots m||kL last roots m):=by
 unfold iD;have:m+1 - 1=(m - 1)+1:=by omega
 rw[this,List.range'_concat,List.any_append];simp
 rw[show 1+(m - 1)=m by omega]
theorem abk {last roots:List Int} {m k:Nat} (h:1≤m) (hm:m < k) (hb:kL last roots m=true):iD last roots k=true:=by
 unfold iD;rw[List.any_eq_true];exact⟨m,by rw[List.mem_range'_1]; omega,hb⟩
def lq (N:Nat) (last roots:List Int):Int:=if roots = [] then 3 else if jP N roots then 2 else if iD last roots roots.length then 9 else 0
theorem abl (w:World) (F:Ac) (u vr:Value) (g:Gm) (par last:List Int) (sets:List (List Int)) (roots:List Int) (hv:Bg w F u g par last sets) (hr:Ae w F vr roots) (hl:roots.length≤1000) (hN:g.nodes.length≤1000) (hll:last.length=g.nodes.length) :
  Calls Tryz.prog 123 #[u,vr] w (Ret w fun v _=>v = .int .i64 (lq g.nodes.length last roots)):=by
 have HVW:=Aa hv;obtain⟨vn,vi,vp,vl,vs,rfl,⟨A,c,rfl,hc,hN'⟩,⟨Ai,ci,rfl,hci,hI⟩,⟨Ap,cp,rfl,hcp,hP⟩,⟨Al,cl,rfl,hcl,hL⟩,⟨As,cs,rfl,hcs,hS⟩⟩:=hv;clear hN' hI hP hS;have HL:=Aa hL; clear hL;have HLL:=Aa hll; clear hll;obtain⟨Ar,cr,rfl,hcr,hRr⟩:=hr;have HR:=Aa hRr; clear hRr;by_cases hnil:roots = []
 ·subst hnil;go_enter Tryz.func123,Tryz.ntmps123;go_wp2
  go_ret;exact⟨_,rfl,(Below.refl _ _).alloc (Nat.le_refl _) _,rfl⟩
 have hpos:0 < roots.length:=List.length_pos_iff.2 hnil;have hd0:((roots.length:Int)==0)=false:=by simp; omega
 have Eo:=Aa hnil; clear hnil;obtain⟨br,or,rfl,hbrF,hbr,hxr⟩:=HR.out hpos;have HX:=Aa hxr; clear hxr HR;go_enter Tryz.func123,Tryz.ntmps123;go_wp2
 obtain⟨W,hW,hbx,hWb,hWz⟩:=aH w 98 #[.int .i64 g.aj,.slice A g.nodes.length c,.slice Ai g.infos.length ci,.slice Ap par.length cp,.slice Al last.length cl,.slice As sets.length cs];rw[← hW];clear hW hWz;go_loopw [6,14] (fun _ i wr=>∃ k:Nat,k≤roots.length∧i = .int .i64 k∧jP g.nodes.length (roots.take k)=false∧Below W.heap.size W wr) (fun _ i _=>roots.length - (intOf i).toNat)
 case atStart=>exact⟨0,by omega,rfl,rfl,Below.refl _ _⟩
 case round =>
  obtain⟨k,hk,rfl,hpre,hbel⟩:=hrel;have HP:=Aa hpre; clear hpre;have nM:=hbx.below hbel hbx.lt;have x0:=nM.cell (i:=0) rfl;have x1:=nM.cell (i:=1) rfl;have x2:=nM.cell (i:=2) rfl;have x3:=nM.cell (i:=3) rfl;have x4:=nM.cell (i:=4) rfl;have x5:=nM.cell (i:=5) rfl;by_cases hlt:k < roots.length
  ·obtain⟨r,hr⟩:=au hlt;have er:=HX.out k r hr;unfold iH at er;rw[Nat.mul_one,← aA hWb _ _ hbr,← aA hbel _ _ (by have:=hWb.size; omega)] at er;have HXX:=Aa hr; clear hr;go_wp2_with fail
   refine(acG _ F _ r g par last sets ((HVW.out.on (Below.same' hWb F)).on (Below.same' hbel F))).mono ?_;rintro e w1 ⟨_,rfl,hb1,rfl⟩;dsimp only;have HHB:=Aa (show hasB g.nodes.length r=(decide (0≤r)&&decide (r < (g.nodes.length:Int))) from rfl);generalize hasB g.nodes.length r=hb at *;have tK:=hbel.trans (hb1.mono hbel.size);clear er x0 x1 x2 x3 x4 x5;cases hb
   ·have HF:=Aa (show lq g.nodes.length last roots=2 by
     have:jP g.nodes.length roots=true:=List.any_eq_true.2 ⟨r,List.mem_of_getElem? HXX.out,by
      have:=HHB.out; simp at this ⊢; omega⟩
     unfold lq; rw[if_neg Eo.out,if_pos this])
    go_wp2
    go_ret;exact⟨_,rfl,hWb.trans (tK.mono hWb.size),by rw[HF.out]; rfl⟩
   ·go_wp2
    go_roundw
    case rel=>exact⟨k+1,by omega,by go_num,vJ HXX.out HP.out (by have:=HHB.out; simp at this ⊢; omega),tK⟩
    case measure=>simp[intOf] <;> omega
  ·have HRB:=Aa (show jP g.nodes.length roots=false by
    have:=HP.out; rw[List.take_of_length_le (by omega)] at this; exact this)
   go_wp2
   go_loopw [7,8,25] (fun _ _ i wr'=>∃ k n:Nat,k≤roots.length∧i = .int .i64 k∧iD last roots k=false∧wr'=wr.drewN n) (fun _ _ i _=>roots.length - (intOf i).toNat)
   case atStart=>exact⟨0,0,by omega,rfl,rfl,rfl⟩
   case round =>
    obtain⟨m,n,hm,rfl,hpre,rfl⟩:=hrel;have HPM:=Aa hpre; clear hpre;by_cases hmt:m < roots.length
    ·obtain⟨r,hr⟩:=au hmt;have er:=HX.out m r hr;unfold iH at er;rw[Nat.mul_one,← aA hWb _ _ hbr,← aA hbel _ _ (by have:=hWb.size; omega)] at er;by_cases hm0:0 < m
     ·obtain⟨p,hp⟩:=au (l:=roots) (k:=m - 1) (by omega);have ep:=HX.out (m - 1) p hp;unfold iH at ep;rw[Nat.mul_one,← aA hWb _ _ hbr,← aA hbel _ _ (by have:=hWb.size; omega)] at ep;obtain⟨hp0,hp1⟩:=kJ HRB.out p (List.mem_of_getElem? hp);have hll:=HLL.out;obtain⟨bl,ol,rfl,_,hbl,hxl⟩:=HL.out (by omega);obtain⟨y,hy⟩:=au (l:=last) (k:=p.toNat) (by omega);have el:=hxl p.toNat y hy;unfold iH at el;rw[Nat.mul_one,← aA hWb _ _ hbl,← aA hbel _ _ (by have:=hWb.size; omega)] at el;have HLB:=Aa (show kL last roots m=decide (r≤y) by unfold kL; simp[List.getD_eq_getElem?_getD,hr,hp,hy]);have hp2:p < (last.length:Int):=by omega
      clear hr hp hxl hy hll;have hdm:decide ((0:Int) < (m:Int))=true:=decide_eq_true (by omega);have hm1:m - 1 < roots.length:=by omega
      have hms:IntKind.i64.wrap ((m:Int) - 1)=((m - 1:Nat):Int):=by rw[IntWalk.i64_in _ (by omega)]; omega
      by_cases hle:r≤y
      ·have HF:=Aa (show lq g.nodes.length last roots=9 by
        unfold lq; rw[if_neg Eo.out,HRB.out,abk (m:=m) (by omega) hmt (by rw[HLB.out]; simp[hle])]; rfl)
       have hdl:decide (r≤y)=true:=decide_eq_true hle;go_wp2
       go_quiet (fail)
       go_wp2
       go_ret;exact⟨_,rfl,aG (aG (hWb.trans (hbel.mono hWb.size)) _) _,by rw[HF.out]; rfl⟩
      ·have HB:=Aa (show iD last roots (m+1)=false by rw[yS _ _ _ (by omega),HPM.out,HLB.out]; simp; omega);have hdl:decide (r≤y)=false:=decide_eq_false hle;go_wp2
       go_quiet (fail)
       go_wp2
       go_roundw
       case rel=>exact⟨m+1,n+nq,by omega,by go_num,HB.out,rfl⟩
       case measure=>simp[intOf] <;> omega
     ·obtain rfl:m=0:=by omega
      clear hr;rw[Nat.add_zero] at er;have hdm:decide ((0:Int) < 0)=false:=rfl;have hdm':decide ((0:Int) < ((0:Nat):Int))=false:=rfl;simp only[Int.natCast_zero,Int.cast_ofNat_Int];go_wp2
      go_quiet (fail)
      go_wp2
      go_roundw
      case rel=>exact⟨1,n+nq,by omega,by go_num,rfl,rfl⟩
      case measure=>simp[intOf] <;> omega
    ·have HF:=Aa (show lq g.nodes.length last roots=0 by
      have h1:=HPM.out;rw[show m=roots.length by omega] at h1;unfold lq; rw[if_neg Eo.out,HRB.out,h1]; rfl)
     go_wp2
     go_ret;exact⟨_,rfl,aG (hWb.trans (hbel.mono hWb.size)) _,by rw[HF.out]; rfl⟩
def aZ (g:Gm) (roots:List Int):Int:=if bg g≠0 then bg g else lq g.nodes.length (aF g.nodes).2 roots
def Eb (F:Ac) (g:Gm) (roots:List Int) (B:Nat) (v:Value) (w':World):Prop:=∃ vv,v = .tuple #[vv,.int .i64 (aZ g roots)] ∧
 (∃ p A1 n1 c1 A2 n2 c2 A3 n3 c3 A4 n4 c4 A5 n5 c5,vv = .agg #[.int .i64 p,.slice A1 n1 c1,.slice A2 n2 c2,.slice A3 n3 c3,.slice A4 n4 c4,.slice A5 n5 c5])∧(aZ g roots=0→Bg w' (fun b=>F b∨B≤b) vv g (aF g.nodes).1 (aF g.nodes).2 (aN g))
theorem open_any (w:World) (F:Ac) (u vr:Value) (g:Gm) (roots:List Int) (hg:Az w F u g) (hr:Ae w F vr roots) (hsm:Small g) (hl:roots.length≤1000) :
  Calls Tryz.prog 63 #[u,vr] w (Ret w (Eb F g roots w.heap.size)):=by
 have HG:=Aa (hg.keep (G:=fun b=>F b∧b < w.heap.size) (fun b hb hl=>⟨hb,hl⟩) (Same.refl _ _));obtain⟨vn,vi,rfl,⟨A,c,rfl,hc,hN⟩,⟨Ai,ci,rfl,hci,hI⟩⟩:=hg;clear hN hI;have HR:=Aa (hr.keep (G:=fun b=>F b∧b < w.heap.size) (fun b hb hl=>⟨hb,hl⟩) (Same.refl _ _)); clear hr;have hn:=hsm.nodes;have HS:=Aa hsm; clear hsm;go_enter Tryz.func63,Tryz.ntmps63;go_wp2_with fail
 refine(vW _ (fun b=>F b∧b < w.heap.size) _ g ((HG.out.on (Same.alloc _ _ _)).on (Same.alloc _ _ _)) HS.out).mono ?_;rintro e w1 ⟨_,rfl,hb1,vv,rfl,hv1,hv2⟩;have hrs:Row w1 (w.heap.size+1) 98 [.int .i64 0,.slice none 0 0,.slice none 0 0,.slice none 0 0,.slice none 0 0,.slice none 0 0]:=by
  have:=(Row.new (w.alloc (.cells #[.int .i64 g.aj,.slice A g.nodes.length c,.slice Ai g.infos.length ci] 25)) 98 #[.int .i64 0,.slice none 0 0,.slice none 0 0,.slice none 0 0,.slice none 0 0,.slice none 0 0]).below hb1 (by simp);simpa using this
 have hB:Below w.heap.size w w1:=(dh w _ _ 0).trans (hb1.mono (by simp; omega));simp only[World.size_alloc] at hv2;clear hb1;have HV1:=Aa hv1; have HV2:=Aa hv2; clear hv1 hv2;have HOE:=Aa (show aZ g roots=if bg g≠0 then bg g else lq g.nodes.length (aF g.nodes).2 roots from rfl);generalize bg g=er at *;dsimp only;by_cases he:er=0
 ·have HVV:=Aa (HV2.out he);have HO:=Aa (show aZ g roots=lq g.nodes.length (aF g.nodes).2 roots by rw[HOE.out,if_neg (by simpa using he)]);subst he;clear HV1 HV2 HOE;have HVX:=Aa HVV.out;obtain⟨vn',vi',vp,vl,vs,rfl,⟨An,cn,rfl,hcn,hN'⟩,⟨Ax,cx,rfl,hcx,hI'⟩,⟨Ap,cp,rfl,hcp,hP'⟩,⟨Al,cl,rfl,hcl,hL'⟩,⟨As,cs,rfl,hcs,hS'⟩⟩:=HVV.out;clear hN' hI' hP' hL' hS' HVV;go_wp2_with fail
  obtain⟨W,hW,hbv,hWb,hWz⟩:=aH w1 98 #[.int .i64 g.aj,.slice An g.nodes.length cn,.slice Ax g.infos.length cx,.slice Ap (aF g.nodes).1.length cp,.slice Al (aF g.nodes).2.length cl,.slice As (aN g).length cs];rw[← hW];clear hW hWz;have hrs1:=hrs.below hWb hrs.lt;have hB1:Below w.heap.size w W:=hB.trans (hWb.mono hB.size);have hlt1:=hrs.lt;have x0:=hbv.cell (i:=0) rfl;have x1:=hbv.cell (i:=1) rfl;have x2:=hbv.cell (i:=2) rfl;have x3:=hbv.cell (i:=3) rfl;have x4:=hbv.cell (i:=4) rfl;have x5:=hbv.cell (i:=5) rfl;refine wp_region_held_drew (S:=fun w'=>w'.cell? ⟨w1.heap.size,0,none⟩=some (.int .i64 g.aj)∧w'.cell? ⟨w1.heap.size,1,none⟩=some (.slice An g.nodes.length cn)∧w'.cell? ⟨w1.heap.size,2,none⟩=some (.slice Ax g.infos.length cx)∧w'.cell? ⟨w1.heap.size,3,none⟩=some (.slice Ap (aF g.nodes).1.length cp)∧w'.cell? ⟨w1.heap.size,4,none⟩=some (.slice Al (aF g.nodes).2.length cl)∧w'.cell? ⟨w1.heap.size,5,none⟩=some (.slice As (aN g).length cs)) (by kernel_rfl) ⟨x0,x1,x2,x3,x4,x5⟩ (fun hHeld=>?_);refine tk0 [0,1,2] ?_;iterate 3 (refine tk (v:=?_) rfl (by kernel_rfl) (by kernel_rfl) (by kernel_rfl) (fun _ _ _ h=>h) (Or.inl ⟨by rfl,?_⟩) hHeld ?_;rotate_left;(focus intro wx hSx;(try dsimp only at hSx);go_split_ands;go_simp;try with_reducible rfl);try simp only[Act.put,lq1,lq2,lq3,lq4,lq5,lq6])
  refine tk1 ?_;refine tk2 3 (by kernel_rfl) rfl fun K hK=>?_
  go_simp;refine(abl _ (fun b=>F b∧b < w.heap.size∨w.heap.size+1+1≤b) _ _ g (aF g.nodes).1 (aF g.nodes).2 (aN g) roots ((HVX.out.on (Below.same' hWb _)).on (Same.drewN _ _ 1)) ((HR.out.on (Below.same' hB1 _)).keep (fun b hb _=>.inl hb) (Same.drewN _ _ 1)) hl (by omega) (dO _ _).2).mono ?_;rintro e w2 ⟨_,rfl,hb2,rfl⟩;have hb2':Below W.heap.size W w2:=(aG (Below.refl W.heap.size W) 1).trans hb2;clear hb2;have ae4:=hbv.below hb2' hbv.lt;have wW:=hrs1.below hb2' hrs1.lt;have hB2:Below w.heap.size w w2:=hB1.trans (hb2'.mono hB1.size);dsimp only;refine hK.out _ _ ⟨ae4.cell rfl,ae4.cell rfl,ae4.cell rfl,ae4.cell rfl,ae4.cell rfl,ae4.cell rfl⟩ (fun hHeld=>?_);clear hK K;try simp only[Act.put,lq1,lq2,lq3,lq4,lq5,lq6]
  have r0:=wW.cell (i:=0) rfl;have f0:=wW.frozen 0;have r1:=wW.cell (i:=1) rfl;have f1:=wW.frozen 1;have r2:=wW.cell (i:=2) rfl;have f2:=wW.frozen 2;have r3:=wW.cell (i:=3) rfl;have f3:=wW.frozen 3;have r4:=wW.cell (i:=4) rfl;have f4:=wW.frozen 4;have r5:=wW.cell (i:=5) rfl;have f5:=wW.frozen 5;refine tk2 4 (by kernel_rfl) rfl fun K hK=>?_
  go_simp;obtain⟨W3,hW3,hrw,hww⟩:=aax wW (.int .i64 g.aj) (.slice An g.nodes.length cn) (.slice Ax g.infos.length cx) (.slice Ap (aF g.nodes).1.length cp) (.slice Al (aF g.nodes).2.length cl) (.slice As (aN g).length cs);rw[← hW3];clear hW3;have agI:=ae4.wrote hww (by omega);refine hK.out _ _ ⟨agI.cell rfl,agI.cell rfl,agI.cell rfl,agI.cell rfl,agI.cell rfl,agI.cell rfl⟩ (fun hHeld=>?_);clear hK K;try simp only[Act.put,lq1,lq2,lq3,lq4,lq5,lq6]
  refine tk0 [5] ?_;(refine tk (v:=?_) rfl (by kernel_rfl) (by kernel_rfl) (by kernel_rfl) (fun _ _ _ h=>h) (Or.inl ⟨by rfl,?_⟩) hHeld ?_;rotate_left;(focus intro wx hSx;(try dsimp only at hSx);go_split_ands;go_simp;try with_reducible rfl);try simp only[Act.put,lq1,lq2,lq3,lq4,lq5,lq6])
  refine tk1 ?_;clear r0 f0;have r0:=hrw.cell (i:=0) rfl;clear r1 f1;have r1:=hrw.cell (i:=1) rfl;clear r2 f2;have r2:=hrw.cell (i:=2) rfl;clear r3 f3;have r3:=hrw.cell (i:=3) rfl;clear r4 f4;have r4:=hrw.cell (i:=4) rfl;clear r5 f5;have r5:=hrw.cell (i:=5) rfl;refine wpAnyH_done (by kernel_rfl) ?_ _;clear hHeld;go_wp2
  refine bodyPost_ret (v:=.tuple #[.agg #[.int .i64 g.aj,.slice An g.nodes.length cn,.slice Ax g.infos.length cx,.slice Ap (aF g.nodes).1.length cp,.slice Al (aF g.nodes).2.length cl,.slice As (aN g).length cs],.int .i64 (lq g.nodes.length (aF g.nodes).2 roots)]) ?_ rfl ?_
  ·simp[results,Tryz.results63,go_sem,r0,r1,r2,r3,r4,r5]
  ·refine⟨_,rfl,Wrote.below hB2 hww (fun k hk=>by omega) hB2.size,_,by rw[HO.out],⟨_,_,_,_,_,_,_,_,_,_,_,_,_,_,_,_,rfl⟩,fun _=>?_⟩;exact Bg.keep (F:=fun b=>F b∧b < w.heap.size∨w.heap.size+1+1≤b) ((HVX.out.on (Below.same' hWb _)).on (Below.same' hb2' _)) (fun b hb _=>hb.imp And.left (by omega)) (hww.same (fun b hb=>by omega))
 ·have hd:(er != 0)=true:=by simp[he]
  have HO:=Aa (show aZ g roots=er by rw[HOE.out,if_pos he]);obtain rfl:=HV1.out he;have HNZ:=Aa he; clear he;unfold noView;have r0:=hrs.cell (i:=0) rfl;have f0:=hrs.frozen 0;have r1:=hrs.cell (i:=1) rfl;have f1:=hrs.frozen 1;have r2:=hrs.cell (i:=2) rfl;have f2:=hrs.frozen 2;have r3:=hrs.cell (i:=3) rfl;have f3:=hrs.frozen 3;have r4:=hrs.cell (i:=4) rfl;have f4:=hrs.frozen 4;have r5:=hrs.cell (i:=5) rfl;have f5:=hrs.frozen 5;have hlt1:=hrs.lt;go_wp2
  obtain⟨W,hW,hrw,hww⟩:=aax hrs (.int .i64 0) (.slice none 0 0) (.slice none 0 0) (.slice none 0 0) (.slice none 0 0) (.slice none 0 0);rw[← hW];clear hW;clear r0 f0;have r0:=(hrw.alloc (.cells #[.int .i64 0,.slice none 0 0,.slice none 0 0,.slice none 0 0,.slice none 0 0,.slice none 0 0] 98)).cell (i:=0) rfl;clear r1 f1;have r1:=(hrw.alloc (.cells #[.int .i64 0,.slice none 0 0,.slice none 0 0,.slice none 0 0,.slice none 0 0,.slice none 0 0] 98)).cell (i:=1) rfl;clear r2 f2;have r2:=(hrw.alloc (.cells #[.int .i64 0,.slice none 0 0,.slice none 0 0,.slice none 0 0,.slice none 0 0,.slice none 0 0] 98)).cell (i:=2) rfl;clear r3 f3;have r3:=(hrw.alloc (.cells #[.int .i64 0,.slice none 0 0,.slice none 0 0,.slice none 0 0,.slice none 0 0,.slice none 0 0] 98)).cell (i:=3) rfl;clear r4 f4;have r4:=(hrw.alloc (.cells #[.int .i64 0,.slice none 0 0,.slice none 0 0,.slice none 0 0,.slice none 0 0,.slice none 0 0] 98)).cell (i:=4) rfl;clear r5 f5;have r5:=(hrw.alloc (.cells #[.int .i64 0,.slice none 0 0,.slice none 0 0,.slice none 0 0,.slice none 0 0,.slice none 0 0] 98)).cell (i:=5) rfl;have hBW:Below w.heap.size w W:=Wrote.below hB hww (fun k hk=>by omega) hB.size;refine bodyPost_ret (v:=.tuple #[noView,.int .i64 er]) ?_ rfl ?_
  ·simp[results,Tryz.results63,go_sem,r0,r1,r2,r3,r4,r5,noView]
  ·exact⟨_,rfl,hBW.alloc hBW.size _,noView,by rw[HO.out],⟨_,_,_,_,_,_,_,_,_,_,_,_,_,_,_,_,rfl⟩,fun h=>absurd (HO.out▸h) HNZ.out⟩
def rJ (l:List Bool) (a:Nat):Nat→List Bool
 | 0=>l
 | j+1=>(rJ l a j).set (a+j) true
theorem mG (l:List Bool) (a j:Nat):(rJ l a j).length=l.length:=by
 induction j with
 | zero=>rfl
 | succ j ih=>simp[rJ,ih]
def lK (last:List Int) (l:List Bool) (r:Int):List Bool:=rJ l r.toNat (last.getD r.toNat 0+1 - r).toNat
def insL (N:Nat) (last roots:List Int):List Bool:=roots.foldl (lK last) (List.replicate N false)
theorem agJ {N:Nat} {last roots:List Int} {k:Nat} {r:Int} (h:roots[k]? = some r):insL N last (roots.take (k+1))=lK last (insL N last (roots.take k)) r:=by
 rw[take_snoc h]; simp[insL,List.foldl_append]
theorem fU (N:Nat) (last roots:List Int):(insL N last roots).length=N:=by
 unfold insL;suffices ∀ l:List Bool,(roots.foldl (lK last) l).length=l.length by simpa using this (List.replicate N false)
 induction roots with
 | nil=>intro l; rfl
 | cons r l ih=>intro m; simp only[List.foldl_cons]; rw[ih]; simp[lK,mG]
def eU (l:List Bool):List Value:=l.map Value.bool
theorem uP (w:World) (F:Ac) (u vr:Value) (g:Gm) (par last:List Int) (sets:List (List Int)) (roots:List Int) (hv:Bg w F u g par last sets) (hr:Ae w F vr roots) (hl:roots.length≤1000) (hN:g.nodes.length≤1000) (hll:last.length=g.nodes.length)
  (hin:∀ r∈roots,0≤r∧r < (g.nodes.length:Int)) (hla:∀ x∈last,x < (g.nodes.length:Int)) :
  Calls Tryz.prog 65 #[u,vr] w (Ret w fun v w'=>AO w' (fun b=>w.heap.size≤b) v (insL g.nodes.length last roots)):=by
 obtain⟨vn,vi,vp,vl,vs,rfl,⟨A,c,rfl,hc,hN'⟩,⟨Ai,ci,rfl,hci,hI⟩,⟨Ap,cp,rfl,hcp,hP⟩,⟨Al,cl,rfl,hcl,hL⟩,⟨As,cs,rfl,hcs,hS⟩⟩:=hv;clear hN' hI hP hS;have HL:=Aa hL; clear hL;have HLL:=Aa hll; clear hll;have HIN:=Aa hin; clear hin;have HLA:=Aa hla; clear hla;obtain⟨Ar,cr,rfl,hcr,hRr⟩:=hr;have HR:=Aa hRr; clear hRr;go_enter Tryz.func65,Tryz.ntmps65;go_wp2_with (at_make; refine fG _ rfl _ _ 70 rfl 4 (.bool false) 1 Tryz.underlying70 Tryz.infoBool rfl g.nodes.length rfl rfl (by omega) (by omega) ?_; intro w1 hb1 hz1 hrow1)
 simp only[World.size_alloc] at hb1 hz1 hrow1;have hbx:=(Row.new w 98 #[.int .i64 g.aj,.slice A g.nodes.length c,.slice Ai g.infos.length ci,.slice Ap par.length cp,.slice Al last.length cl,.slice As sets.length cs]).below hb1 (by simp);have hB:Below w.heap.size w w1:=((Below.refl w.heap.size w).alloc (Nat.le_refl _) _).trans (hb1.mono (by omega));clear hb1;have HZ:=Aa hz1; clear hz1;go_loopw [7,8,16] (fun _ _ i wr=>∃ k:Nat,k≤roots.length∧i = .int .i64 k∧Row wr w.heap.size 98 [.int .i64 g.aj,.slice A g.nodes.length c,.slice Ai g.infos.length ci,.slice Ap par.length cp,.slice Al last.length cl,.slice As sets.length cs]∧Row wr (w.heap.size+1) 4 (eU (insL g.nodes.length last (roots.take k)))∧Below w.heap.size w wr) (fun _ _ i _=>roots.length - (intOf i).toNat)
 case atStart=>exact⟨0,by omega,rfl,hbx,by simpa [eU,insL] using hrow1,hB⟩
 case round =>
  clear hbx hB hrow1 HZ;obtain⟨k,hk,rfl,hbx,hrow,hbel⟩:=hrel;by_cases hlt:k < roots.length
  ·obtain⟨b,o,rfl,_,hb,hx⟩:=HR.out (by omega);obtain⟨r,hr⟩:=au hlt;have er:=hx k r hr;unfold iH at er;rw[Nat.mul_one,← aA hbel _ _ hb] at er;obtain⟨hr0,hr1⟩:=HIN.out r (List.mem_of_getElem? hr);obtain⟨q,rfl⟩:=Int.eq_ofNat_of_zero_le hr0;have hll:=HLL.out;obtain⟨bl,ol,rfl,_,hbl,hxl⟩:=HL.out (by omega);obtain⟨y,hy⟩:=au (l:=last) (k:=q) (by omega);have el:=hxl q y hy;unfold iH at el;rw[Nat.mul_one] at el;have hyN:=HLA.out y (List.mem_of_getElem? hy);have hqL:q < last.length:=by omega
   have HSN:=Aa (show insL g.nodes.length last (roots.take (k+1))=rJ (insL g.nodes.length last (roots.take k)) q (y+1 - q).toNat by
    rw[agJ hr]; unfold lK; simp[List.getD_eq_getElem?_getD,hy])
   have hil:=fU g.nodes.length last (roots.take k);clear hr hx hy hxl hll;generalize insL g.nodes.length last (roots.take k)=l0 at *;have HIL:=Aa hil; clear hil;go_wp2
   go_loopw [8] (fun i wr=>∃ j:Nat,(q:Int)+j≤max (y+1) q∧i = .int .i64 ((q+j:Nat):Int)∧Row wr w.heap.size 98 [.int .i64 g.aj,.slice A g.nodes.length c,.slice Ai g.infos.length ci,.slice Ap par.length cp,.slice (some ⟨bl,ol,none⟩) last.length cl,.slice As sets.length cs]∧Row wr (w.heap.size+1) 4 (eU (rJ l0 q j))∧Below w.heap.size w wr) (fun i _=>(y+1 - intOf i).toNat)
   case atStart=>exact⟨0,by omega,rfl,hbx,hrow,hbel⟩
   case round =>
    clear hbx hrow hbel er;obtain⟨j,hj,rfl,hbx,hrow,hbel⟩:=hrel;have x4:=hbx.cell (i:=4) rfl;have el':=el;rw[← aA hbel _ _ hbl] at el';have hlt2:=hrow.lt;by_cases hjy:((q+j:Nat):Int)≤y
    ·have hfl:(rJ l0 q j).length=g.nodes.length:=by rw[mG,HIL.out]
     obtain⟨z,hz⟩:=au (l:=rJ l0 q j) (k:=q+j) (by omega);have ec:=hrow.cell (i:=q+j) (v:=.bool z) (by simp[eU,hz]);have fc:=hrow.frozen (q+j);have hqj:q+j < g.nodes.length:=by omega
     clear hz hfl;have hdy:decide (((q+j:Nat):Int)≤y)=true:=decide_eq_true hjy;go_wp2
     go_roundw
     case rel =>
      refine⟨j+1,by omega,by go_num,hbx.other (by simp) _,?_,hbel.setCell (by simp) _⟩;have:=hrow.set (q+j) (.bool true);simpa [eU,rJ,List.map_set] using this
     case measure=>simp[intOf] <;> omega
    ·have hdy:decide (((q+j:Nat):Int)≤y)=false:=decide_eq_false hjy;have HJ:=Aa (show(y+1 - q).toNat=j by omega);go_wp2
     go_roundw
     case rel=>exact⟨k+1,by omega,by go_num,hbx,by rw[HSN.out,HJ.out]; exact hrow,hbel⟩
     case measure=>simp[intOf] <;> omega
  ·go_wp2
   go_ret;rw[List.take_of_length_le (by omega)] at hrow;have h1:=Row.bools (F:=fun b=>w.heap.size≤b) hrow (by omega) (c:=g.nodes.length) (by rw[fU]; omega);rw[fU] at h1;exact⟨_,rfl,hbel,h1⟩
def AV (w:World) (fid:FuncId) (caps:Array Value) (X:Int→Prop) (p:Int→Bool):Prop :=
 (∀ (args:Array Value) (w':World),(callFunc fid args).run Tryz.prog w' = .ok (.enter fid args) w') ∧
 ∀ (w':World) (x:Int),Below w.heap.size w w'→X x→Calls Tryz.prog fid (#[.int .i64 x]++caps) w' fun e w''=>e = .returned (.bool (p x))∧∃ m,w''=w'.drewN m
theorem AV.at {w w':World} {fid:FuncId} {caps:Array Value} {X:Int→Prop} {p:Int→Bool} (h:AV w fid caps X p) (hb:Below w.heap.size w w') {l:List Int} (hl:∀ x∈l,X x):CV w' fid caps l p :=
 ⟨h.1,fun n x hx=>(h.2 (w'.drewN n) x (aG hb n) (hl x hx)).mono fun e w'' ⟨he,m,hm⟩=>⟨he,n+m,by rw[hm,World.drewN_drewN]⟩⟩
theorem AV.later {w w':World} {fid:FuncId} {caps:Array Value} {X:Int→Prop} {p:Int→Bool} (h:AV w fid caps X p) (hb:Below w.heap.size w w'):AV w' fid caps X p :=
 ⟨h.1,fun w'' x hb' hx=>h.2 w'' x (hb.trans (hb'.mono hb.size)) hx⟩
def jW (p:Int→Bool) (sets:List (List Int)) (k:Nat):List Int:=((sets.take k).zipIdx.filter fun q=>q.1.any p).map fun q=>(q.2:Int)
theorem adK {p:Int→Bool} {sets:List (List Int)} {k:Nat} {l:List Int} (h:sets[k]? = some l):jW p sets (k+1)=jW p sets k++(if l.any p then [(k:Int)] else []):=by
 unfold jW;rw[yB h,List.filter_append,List.map_append];cases h:l.any p <;> simp[h]
theorem oP (p:Int→Bool) (sets:List (List Int)) (k:Nat):(jW p sets k).length≤k:=by
 unfold jW;rw[List.length_map];refine Nat.le_trans (List.length_filter_le _ _) ?_;simp; omega
def nN (p:Int→Bool) (sets:List (List Int)):List Int:=jW p sets sets.length
theorem aay (w:World) (F:Ac) (u:Value) (g:Gm) (par last:List Int) (sets:List (List Int)) (fid:FuncId) (caps:Array Value) (X:Int→Prop) (p:Int→Bool) (hv:Bg w F u g par last sets) (hl:sets.length≤1000) (hll:∀ l∈sets,l.length≤1000) (hX:∀ l∈sets,∀ x∈l,X x)
  (ha:AV w fid caps X p) :
  Calls Tryz.prog 81 #[u,.func (.func fid) #[] caps] w (Ret w fun v w'=>Ae w' (fun b=>w.heap.size≤b) v (nN p sets)):=by
 obtain⟨vn,vi,vp,vl,vs,rfl,⟨A,c,rfl,hc,hN'⟩,⟨Ai,ci,rfl,hci,hI⟩,⟨Ap,cp,rfl,hcp,hP⟩,⟨Al,cl,rfl,hcl,hL⟩,⟨As,cs,rfl,hcs,hS⟩⟩:=hv;clear hN' hI hP hL;have HS:=Aa hS; clear hS;have HLL:=Aa hll; clear hll;have HX:=Aa hX; clear hX;have HA:=Aa ha; clear ha;go_enter Tryz.func81,Tryz.ntmps81;go_wp2
 obtain⟨W,hW,hbx,hWb,hWz⟩:=aH w 98 #[.int .i64 g.aj,.slice A g.nodes.length c,.slice Ai g.infos.length ci,.slice Ap par.length cp,.slice Al last.length cl,.slice As sets.length cs];rw[← hW];clear hW hWz hbx;go_loopw [5,6,7,11] (fun vo _ _ i wr=>∃ k:Nat,k≤sets.length∧i = .int .i64 k∧wr.ownsRow W.heap.size 3 1 vo (jW p sets k).length ((jW p sets k).map (Value.int .i64))∧Below W.heap.size W wr) (fun _ _ _ i _=>sets.length - (intOf i).toNat)
 case atStart=>exact⟨0,by omega,rfl,World.ownsRow_nil _ _ _ _,Below.refl _ _⟩
 case round =>
  obtain⟨k,hk,rfl,hown,hbel⟩:=hrel;have HO:=Aa hown; clear hown;have hlen:=oP p sets k;by_cases hlt:k < sets.length
  ·obtain⟨b,o,rfl,hbF,hb,hx⟩:=HS.out (by omega);obtain⟨l,hl'⟩:=au hlt;obtain⟨vl',ev,hvl⟩:=hx k l hl';rw[Nat.mul_one,← aA hWb _ _ hb,← aA hbel _ _ (by have:=hWb.size; omega)] at ev;have HST:=Aa (adK (p:=p) hl');have hll:=HLL.out l (List.mem_of_getElem? hl');have HVL:=Aa ((hvl.on (Below.same' hWb F)).on (Below.same' hbel F));have HAA:=Aa (HA.out.at (hWb.trans (hbel.mono hWb.size)) (HX.out l (List.mem_of_getElem? hl')));clear hl' hx hvl;go_wp2_with fail
   refine(oQ _ F _ l fid caps p HVL.out (by omega) HAA.out).mono ?_;rintro e w2 ⟨rfl,n,hw2⟩;have HO2:=Aa (show w2.ownsRow W.heap.size 3 1 u5 (jW p sets k).length ((jW p sets k).map (Value.int .i64)) by rw[hw2]; exact HO.out);have dR:Below W.heap.size W w2:=by rw[hw2]; exact aG hbel n
   clear ev hw2 HO hbel;generalize l.any p=r at *;dsimp only;cases r
   ·go_wp2
    go_roundw
    case rel=>exact⟨k+1,by omega,by go_num,by rw[HST.out]; simpa using HO2.out,dR⟩
    case measure=>simp[intOf] <;> omega
   ·go_wp2_with (at_builtin; refine jZ rfl _ _ rfl W.heap.size _ (jW p sets k) rfl (HO2.out.alloc _) w2.heap.size k rfl (heap_alloc_new _ _) (by omega) (by have:=dR.size; simp; omega) ?_; intro gg cap w3 hown3 hgrow hat hlt3; have qM:Below W.heap.size W w3:=(dR.alloc dR.size _).grown hgrow (by have:=dR.size; simp; omega) (fun k hk=>(HO2.out.lt k hk).1); have HO3:=Aa hown3; clear hown3 hgrow hat hlt3)
    go_roundw
    case rel=>exact⟨k+1,by omega,by go_num,by rw[HST.out]; simpa using HO3.out,qM⟩
    case measure=>simp[intOf] <;> omega
  ·go_wp2
   go_ret;have hke:k=sets.length:=by omega
   subst hke;have hz:=hWb.size;exact⟨_,rfl,hWb.trans (hbel.mono hz),Own.ints (by unfold nN; simpa [Own] using HO.out) (fun b hb=>by have:=(HO.out.lt b hb).1; omega)⟩
def jh (inn:List Bool) (x:Int):Bool:=inn.getD x.toNat false
theorem adL (w:World) (F:Ac) (bc:Nat) (vb:Value) (inn:List Bool) (x:Int) (hc:w.cell? ⟨bc,0,none⟩=some vb) (hv:AO w F vb inn) (hx:0≤x∧x < (inn.length:Int)) :
  Calls Tryz.prog 124 (#[.int .i64 x] ++ #[.pointer (some ⟨bc,0,none⟩)]) w fun e w'=>e = .returned (.bool (jh inn x))∧∃ m,w'=w.drewN m:=by
 obtain⟨A,c,rfl,hcc,hr⟩:=hv;obtain⟨q,rfl⟩:=Int.eq_ofNat_of_zero_le hx.1;obtain⟨b,o,rfl,_,hb,hxx⟩:=hr (by omega);obtain⟨y,hy⟩:=au (l:=inn) (k:=q) (by omega);have ey:=hxx q y hy;unfold tC at ey;rw[Nat.mul_one] at ey;have hq:q < inn.length:=by omega
 have HF:=Aa (show jh inn (q:Int)=y by unfold jh; simp[List.getD_eq_getElem?_getD,hy]);clear hr hxx hy hx;show Calls Tryz.prog _ #[.int .i64 q,.pointer (some ⟨bc,0,none⟩)] w _;go_enter Tryz.func124,Tryz.ntmps124;go_wp2
 go_ret;exact⟨by rw[HF.out]; rfl,0,rfl⟩
theorem yT (w:World) (F:Ac) (bc:Nat) (vb:Value) (inn:List Bool) (hc:w.cell? ⟨bc,0,none⟩=some vb) (hb:bc < w.heap.size) (hv:AO w F vb inn):AV w 124 #[.pointer (some ⟨bc,0,none⟩)] (fun x=>0≤x∧x < (inn.length:Int)) (jh inn) :=
 ⟨enters Tryz.func124 (by decide +kernel) (by decide +kernel),fun w' x hb' hx=>adL w' F bc vb inn x (by rw[aA hb' bc 0 hb]; exact hc) (hv.on (Below.same' hb' F)) hx⟩
theorem adM (w:World) (F:Ac) (bc:Nat) (vb:Value) (inn:List Bool) (x:Int) (hc:w.cell? ⟨bc,0,none⟩=some vb) (hv:AO w F vb inn) (hx:0≤x∧x < (inn.length:Int)) :
  Calls Tryz.prog 82 (#[.int .i64 x] ++ #[.pointer (some ⟨bc,0,none⟩)]) w fun e w'=>e = .returned (.bool (jh inn x))∧∃ m,w'=w.drewN m:=by
 obtain⟨A,c,rfl,hcc,hr⟩:=hv;obtain⟨q,rfl⟩:=Int.eq_ofNat_of_zero_le hx.1;obtain⟨b,o,rfl,_,hb,hxx⟩:=hr (by omega);obtain⟨y,hy⟩:=au (l:=inn) (k:=q) (by omega);have ey:=hxx q y hy;unfold tC at ey;rw[Nat.mul_one] at ey;have hq:q < inn.length:=by omega
 have HF:=Aa (show jh inn (q:Int)=y by unfold jh; simp[List.getD_eq_getElem?_getD,hy]);clear hr hxx hy hx;show Calls Tryz.prog _ #[.int .i64 q,.pointer (some ⟨bc,0,none⟩)] w _;go_enter Tryz.func82,Tryz.ntmps82;go_wp2
 go_ret;exact⟨by rw[HF.out]; rfl,0,rfl⟩
theorem yU (w:World) (F:Ac) (bc:Nat) (vb:Value) (inn:List Bool) (hc:w.cell? ⟨bc,0,none⟩=some vb) (hb:bc < w.heap.size) (hv:AO w F vb inn):AV w 82 #[.pointer (some ⟨bc,0,none⟩)] (fun x=>0≤x∧x < (inn.length:Int)) (jh inn) :=
 ⟨enters Tryz.func82 (by decide +kernel) (by decide +kernel),fun w' x hb' hx=>adM w' F bc vb inn x (by rw[aA hb' bc 0 hb]; exact hc) (hv.on (Below.same' hb' F)) hx⟩
def aaz (inn:List Bool) (sets:List (List Int)) (s:Int):Bool:=(sets.getD s.toNat []).all (jh inn)
def jF (inn:List Bool) (sets:List (List Int)):Bool:=(nN (jh inn) sets).all (aaz inn sets)
theorem vX {α:Type} {l:List α} {p:α→Bool} {k:Nat} {x:α} (h:l[k]? = some x) (hn:(l.take k).all p=true) (hx:p x=true):(l.take (k+1)).all p=true:=by
 rw[take_snoc h,List.all_append]; simp[hn,hx]
theorem all_false {α:Type} {l:List α} {p:α→Bool} {x:α} (h:x∈l) (hx:p x=false):l.all p=false:=by
 rw[List.all_eq_false]; exact⟨x,h,by simp[hx]⟩
theorem adN {p:Int→Bool} {sets:List (List Int)}:∀ s∈nN p sets,0≤s∧s < (sets.length:Int):=by
 intro s hs;unfold nN jW at hs;rw[List.mem_map] at hs;obtain⟨q,hq,rfl⟩:=hs;rw[List.mem_filter] at hq;have:=List.mem_zipIdx hq.1;simp at this;omega
theorem rM (w:World) (F:Ac) (u vr:Value) (g:Gm) (par last:List Int) (sets:List (List Int)) (roots:List Int) (hv:Bg w F u g par last sets) (hr:Ae w F vr roots) (hl:roots.length≤1000) (hN:g.nodes.length≤1000) (hll:last.length=g.nodes.length)
  (hin:∀ r∈roots,0≤r∧r < (g.nodes.length:Int)) (hla:∀ x∈last,x < (g.nodes.length:Int)) (hs:sets.length≤1000) (hsl:∀ l∈sets,l.length≤1000) (hsx:∀ l∈sets,∀ x∈l,0≤x∧x < (g.nodes.length:Int)) :
  Calls Tryz.prog 64 #[u,vr] w (Ret w fun v _=>v = .bool (jF (insL g.nodes.length last roots) sets)):=by
 have HV:=Aa hv;obtain⟨vn,vi,vp,vl,vs,rfl,⟨A,c,rfl,hc,hN'⟩,⟨Ai,ci,rfl,hci,hI⟩,⟨Ap,cp,rfl,hcp,hP⟩,⟨Al,cl,rfl,hcl,hL⟩,⟨As,cs,rfl,hcs,hS⟩⟩:=hv;clear hN' hI hP hL;have HS:=Aa hS; clear hS;have HR:=Aa hr; clear hr;have HLL:=Aa hll; clear hll;have HIN:=Aa hin; clear hin;have HLA:=Aa hla; clear hla;have HSL:=Aa hsl; clear hsl;have HSX:=Aa hsx; clear hsx;have hmf:∀ (fn:Fn) (first cap:Array Value) (w:World),(Instr.makeFunc fn first cap).run Tryz.prog w = .ok (.func fn first cap) w:=fun _ _ _ _=>rfl
 go_enter Tryz.func64,Tryz.ntmps64;go_wp2_with fail
 obtain⟨W,hW,hbx,hWb,hWz⟩:=aH w 98 #[.int .i64 g.aj,.slice A g.nodes.length c,.slice Ai g.infos.length ci,.slice Ap par.length cp,.slice Al last.length cl,.slice As sets.length cs];rw[← hW];clear hW hWz;refine(uP _ F _ _ g par last sets roots (HV.out.on (Below.same' hWb F)) (HR.out.on (Below.same' hWb F)) hl hN HLL.out HIN.out HLA.out).mono ?_;rintro e w1 ⟨vb,rfl,hb1,hvb⟩;have dS:=hbx.below hb1 hbx.lt;have hB1:Below w.heap.size w w1:=hWb.trans (hb1.mono hWb.size);have hil:=fU g.nodes.length last roots;generalize hinn:insL g.nodes.length last roots=inn at *;have Ec:=Aa hinn; clear hinn;have HIL:=Aa hil; clear hil hbx hWb hb1;obtain⟨Ab,cb,rfl,hcb,hBb⟩:=hvb;have HVB:=Aa (show AO w1 (fun b=>W.heap.size≤b) (.slice Ab inn.length cb) inn from⟨_,_,rfl,hcb,hBb⟩);have HBB:=Aa hBb; clear hBb;have x0:=dS.cell (i:=0) rfl;have x1:=dS.cell (i:=1) rfl;have x2:=dS.cell (i:=2) rfl;have x3:=dS.cell (i:=3) rfl;have x4:=dS.cell (i:=4) rfl;have x5:=dS.cell (i:=5) rfl;have hlt1:=dS.lt;dsimp only;go_wp2_with fail
 obtain⟨W2,hW2,hbc,mJ,ae5⟩:=aH w1 70 #[.slice Ab inn.length cb];rw[← hW2];clear hW2 ae5 x0 x1 x2 x3 x4 x5;have hB2:Below w.heap.size w W2:=hB1.trans (mJ.mono hB1.size);refine(aay _ F _ g par last sets _ _ (fun x=>0≤x∧x < (inn.length:Int)) (jh inn) (HV.out.on (Below.same' hB2 F)) hs HSL.out (fun l hl x hx=>by have:=HSX.out l hl x hx; have:=HIL.out; omega) (yT W2 _ _ _ inn (hbc.cell rfl) hbc.lt (HVB.out.on (Below.same' mJ _)))).mono ?_;rintro e w3 ⟨vo,rfl,hb3,hvo⟩;have HCL:=Aa (show jF inn sets=(nN (jh inn) sets).all (aaz inn sets) from rfl);have HSI:=Aa (adN (p:=jh inn) (sets:=sets));have hlen:(nN (jh inn) sets).length≤1000:=by unfold nN; have:=oP (jh inn) sets sets.length; omega
 generalize nN (jh inn) sets=so at *;have uK:=(dS.below mJ dS.lt).below hb3 (by have:=mJ.size; omega);have hbc3:=hbc.below hb3 hbc.lt;have hB3:Below w.heap.size w w3:=hB2.trans (hb3.mono hB2.size);have hB13:Below w1.heap.size w1 w3:=mJ.trans (hb3.mono mJ.size);clear dS hbc hB2 hb3 mJ;obtain⟨Ao,co,rfl,hco,hOo⟩:=hvo;have HOO:=Aa hOo; clear hOo;have x5:=uK.cell (i:=5) rfl;have c5:=hbc3.cell (i:=0) rfl;dsimp only;go_wp2
 go_loop [7,9,17,27] (fun _ _ i _=>∃ k:Nat,k≤so.length∧i = .int .i64 k∧(so.take k).all (aaz inn sets)=true) (fun _ _ i _=>so.length - (intOf i).toNat)
 case atStart=>exact⟨0,by omega,rfl,rfl⟩
 case round =>
  obtain⟨k,hk,rfl,hpre⟩:=hrel;have HP:=Aa hpre; clear hpre;by_cases hlt:k < so.length
  ·obtain⟨bo,oo,rfl,_,hbo,hxo⟩:=HOO.out (by omega);obtain⟨s,hs'⟩:=au hlt;have es:=hxo k s hs';unfold iH at es;rw[Nat.mul_one] at es;obtain⟨hs0,hs1⟩:=HSI.out s (List.mem_of_getElem? hs');obtain⟨q,rfl⟩:=Int.eq_ofNat_of_zero_le hs0;have hqs:q < sets.length:=by omega
   obtain⟨bs,os,rfl,_,hbs,hxs⟩:=HS.out (by omega);obtain⟨l,hl'⟩:=au hqs;obtain⟨vl',el,Av,cv,rfl,hcv,hAv⟩:=hxs q l hl';rw[Nat.mul_one,← aA hB3 _ _ hbs] at el;have hl1:=HSL.out l (List.mem_of_getElem? hl');have HLX:=Aa (HSX.out l (List.mem_of_getElem? hl'));have HAA:=Aa (show aaz inn sets (q:Int)=l.all (jh inn) by unfold aaz; simp[List.getD_eq_getElem?_getD,hl']);have HSS:=Aa hs';have HAV:=Aa hAv;clear hs' hxo hxs hl' hAv;go_wp2
   go_loop [9,27] (fun _ i=>∃ j:Nat,j≤l.length∧i = .int .i64 j∧(l.take j).all (jh inn)=true) (fun _ i=>l.length - (intOf i).toNat)
   case atStart=>exact⟨0,by omega,rfl,rfl⟩
   case round =>
    obtain⟨j,hj,rfl,hpre⟩:=hrel;have HPJ:=Aa hpre; clear hpre;by_cases hjt:j < l.length
    ·obtain⟨bv,ov,rfl,_,hbv,hxv⟩:=HAV.out (by omega);obtain⟨x,hx⟩:=au hjt;have ex:=hxv j x hx;unfold iH at ex;rw[Nat.mul_one,← aA hB3 _ _ hbv] at ex;obtain⟨hx0,hx1⟩:=HLX.out x (List.mem_of_getElem? hx);obtain⟨z,rfl⟩:=Int.eq_ofNat_of_zero_le hx0;have hzi:z < inn.length:=by have:=HIL.out; omega
     obtain⟨bb,ob,rfl,_,hbb,hxb⟩:=HBB.out (by omega);obtain⟨y,hy⟩:=au hzi;have eb:=hxb z y hy;unfold tC at eb;rw[Nat.mul_one,← aA hB13 _ _ hbb] at eb;have HY:=Aa (show jh inn (z:Int)=y by unfold jh; simp[List.getD_eq_getElem?_getD,hy]);have HXJ:=Aa hx;clear hx hxv hxb hy;cases y
     ·have HF:=Aa (show jF inn sets=false by
       rw[HCL.out]; exact all_false (List.mem_of_getElem? HSS.out) (by rw[HAA.out]; exact all_false (List.mem_of_getElem? HXJ.out) HY.out))
      go_wp2
      go_ret;exact⟨_,rfl,hB3,by rw[Ec.out,HF.out]; rfl⟩
     ·go_wp2
      go_round
      case rel=>exact⟨j+1,by omega,by go_num,vX HXJ.out HPJ.out HY.out⟩
      case measure=>simp[intOf] <;> omega
    ·go_wp2
     go_round
     case rel=>exact⟨k+1,by omega,by go_num,vX HSS.out HP.out (by rw[HAA.out]; have:=HPJ.out; rwa [List.take_of_length_le (by omega)] at this)⟩
     case measure=>simp[intOf] <;> omega
  ·have HF:=Aa (show jF inn sets=true by rw[HCL.out]; have:=HP.out; rwa [List.take_of_length_le (by omega)] at this);go_wp2
   go_ret;exact⟨_,rfl,hB3,by rw[Ec.out,HF.out]; rfl⟩
structure DZ (g:Gm):Prop where
 last:∀ x∈(aF g.nodes).2,x < (g.nodes.length:Int)
def Cm (g:Gm):Prop:=bg g=0→DZ g
theorem bU {g:Gm} (hsm:Small g):(aN g).length≤1000∧∀ l∈aN g,l.length≤1000:=by
 refine⟨by unfold aN; rw[bF]; have:=hsm.infos; omega,fun l hl=>?_⟩;have:=zK l hl;have:=hsm.nodes;omega
def fE (g:Gm) (roots:List Int):Bool:=decide (aZ g roots=0)&&jF (insL g.nodes.length (aF g.nodes).2 roots) (aN g)
theorem qA {g:Gm} {roots:List Int} (h:aZ g roots=0):bg g=0∧∀ r∈roots,0≤r∧r < (g.nodes.length:Int):=by
 unfold aZ at h;split at h
 ·rename_i h1; exact absurd h h1
 ·rename_i h1
  refine⟨by simpa using h1,?_⟩;unfold lq at h;split at h
  ·omega
  ·split at h
   ·omega
   ·rename_i h2; exact kJ (by simpa using h2)
theorem nO (w:World) (F:Ac) (u vr:Value) (g:Gm) (roots:List Int) (hg:Az w F u g) (hr:Ae w F vr roots) (hsm:Small g) (hl:roots.length≤1000) (iQ:Cm g) :
  Calls Tryz.prog 40 #[u,vr] w (Ret w fun v _=>v = .tuple #[.bool (fE g roots),.int .i64 (aZ g roots)]):=by
 have HG:=Aa hg;obtain⟨vn,vi,rfl,⟨A,c,rfl,hc,hN⟩,⟨Ai,ci,rfl,hci,hI⟩⟩:=hg;clear hN hI;have HR:=Aa hr; clear hr;have hn:=hsm.nodes;have HS:=Aa hsm; clear hsm;have HFI:=Aa iQ; clear iQ;go_enter Tryz.func40,Tryz.ntmps40;go_wp2_with fail
 refine(open_any _ F _ _ g roots (HG.out.on (Same.alloc _ _ _)) (HR.out.on (Same.alloc _ _ _)) HS.out hl).mono ?_;rintro e w1 ⟨_,rfl,hb1,vv,rfl,⟨p0,A1,n1,c1,A2,n2,c2,A3,n3,c3,A4,n4,c4,A5,n5,c5,rfl⟩,hv2⟩;have hB:Below w.heap.size w w1:=((Below.refl w.heap.size w).alloc (Nat.le_refl _) _).trans (hb1.mono (by simp));simp only[World.size_alloc] at hv2;clear hb1;have HV2:=Aa hv2; clear hv2;have HCO:=Aa (show fE g roots=(decide (aZ g roots=0)&&jF (insL g.nodes.length (aF g.nodes).2 roots) (aN g)) from rfl);have HOI:=Aa (fun h:aZ g roots=0=>qA h);generalize hoe:aZ g roots=er at *;have HOE:=Aa hoe; clear hoe;dsimp only;by_cases he:er=0
 ·obtain⟨hf0,hin⟩:=HOI.out he;have iQ:=HFI.out hf0;have HIN:=Aa hin;have HII:=Aa (dZ hf0).infos;have HFL:=Aa iQ.last;have HVX:=Aa (HV2.out he);have HE:=Aa (show decide (er=0)=true by simp[he]);subst he;clear hin hf0 iQ;go_wp2_with fail
  obtain⟨W,hW,hbx,hWb,hWz⟩:=aH w1 98 #[.int .i64 p0,.slice A1 n1 c1,.slice A2 n2 c2,.slice A3 n3 c3,.slice A4 n4 c4,.slice A5 n5 c5];rw[← hW];clear hW hWz hbx;refine(rM _ (fun b=>F b∨w.heap.size+1≤b) _ _ g (aF g.nodes).1 (aF g.nodes).2 (aN g) roots (HVX.out.on (Below.same' hWb _)) ((HR.out.on (Below.same' (hB.trans (hWb.mono hB.size)) F)).keep (fun b hb _=>.inl hb) (Same.refl _ _)) hl (by omega) (dO _ _).2 HIN.out HFL.out (bU HS.out).1 (bU HS.out).2 (fun l hl x hx=>lg (Nat.le_refl _) l hl x hx)).mono ?_;rintro e w2 ⟨_,rfl,hb2,rfl⟩;dsimp only;go_wp2
  go_ret2;have hB1:=hB.trans (hWb.mono hB.size);exact⟨_,rfl,hB1.trans (hb2.mono hB1.size),by rw[HCO.out,HOE.out]; simp⟩
 ·have hd:(er != 0)=true:=by simp[he]
  have HF:=Aa (show decide (er=0)=false by simp[he]);clear he;go_wp2
  go_ret2;exact⟨_,rfl,hB.alloc hB.size _,by rw[HCO.out,HOE.out,HF.out]; rfl⟩
def fV (g:Gm) (roots:List Int):List Int:=if aZ g roots=0 then aaq (insL g.nodes.length (aF g.nodes).2 roots) else []
def aaA (g:Gm) (roots:List Int):List Int:=if aZ g roots=0 then nN (jh (insL g.nodes.length (aF g.nodes).2 roots)) (aN g) else []
theorem rO (w:World) (F:Ac) (u vr:Value) (g:Gm) (roots:List Int) (hg:Az w F u g) (hr:Ae w F vr roots) (hsm:Small g) (hl:roots.length≤1000) (iQ:Cm g) :
  Calls Tryz.prog 34 #[u,vr] w (Ret w (D8 w.heap.size (aZ g roots) (fV g roots) (aaA g roots))):=by
 have HG:=Aa hg;obtain⟨vn,vi,rfl,⟨A,c,rfl,hc,hN⟩,⟨Ai,ci,rfl,hci,hI⟩⟩:=hg;clear hN hI;have HR:=Aa hr; clear hr;have hn:=hsm.nodes;have HS:=Aa hsm; clear hsm;have HFI:=Aa iQ; clear iQ;have hmf:∀ (fn:Fn) (first cap:Array Value) (w:World),(Instr.makeFunc fn first cap).run Tryz.prog w = .ok (.func fn first cap) w:=fun _ _ _ _=>rfl
 go_enter Tryz.func34,Tryz.ntmps34;go_wp2_with fail
 refine(open_any _ F _ _ g roots (HG.out.on (Same.alloc _ _ _)) (HR.out.on (Same.alloc _ _ _)) HS.out hl).mono ?_;rintro e w1 ⟨_,rfl,hb1,vv,rfl,⟨p0,A1,n1,c1,A2,n2,c2,A3,n3,c3,A4,n4,c4,A5,n5,c5,rfl⟩,hv2⟩;have hB:Below w.heap.size w w1:=((Below.refl w.heap.size w).alloc (Nat.le_refl _) _).trans (hb1.mono (by simp));simp only[World.size_alloc] at hv2;clear hb1;have HV2:=Aa hv2; clear hv2;have HI1:=Aa (show fV g roots=if aZ g roots=0 then aaq (insL g.nodes.length (aF g.nodes).2 roots) else [] from rfl);have HI2:=Aa (show aaA g roots=if aZ g roots=0 then nN (jh (insL g.nodes.length (aF g.nodes).2 roots)) (aN g) else [] from rfl);have HOI:=Aa (fun h:aZ g roots=0=>qA h);generalize hoe:aZ g roots=er at *;have HOE:=Aa hoe; clear hoe;dsimp only;by_cases he:er=0
 ·obtain⟨hf0,hin⟩:=HOI.out he;have iQ:=HFI.out hf0;have HIN:=Aa hin;have HII:=Aa (dZ hf0).infos;have HFL:=Aa iQ.last;have HVX:=Aa (HV2.out he);have HE:=Aa he;subst he;clear hin hf0 iQ;go_wp2_with fail
  obtain⟨W,hW,hbx,hWb,hWz⟩:=aH w1 98 #[.int .i64 p0,.slice A1 n1 c1,.slice A2 n2 c2,.slice A3 n3 c3,.slice A4 n4 c4,.slice A5 n5 c5];rw[← hW];clear hW hWz;have hB1:=hB.trans (hWb.mono hB.size);refine(uP _ (fun b=>F b∨w.heap.size+1≤b) _ _ g (aF g.nodes).1 (aF g.nodes).2 (aN g) roots (HVX.out.on (Below.same' hWb _)) ((HR.out.on (Below.same' hB1 F)).keep (fun b hb _=>.inl hb) (Same.refl _ _)) hl (by omega) (dO _ _).2 HIN.out HFL.out).mono ?_;rintro e w2 ⟨vb,rfl,hb2,hvb⟩;have hbx2:=hbx.below hb2 hbx.lt;have hB2:=hB1.trans (hb2.mono hB1.size);have HW2:=Aa (hWb.trans (hb2.mono hWb.size));have hlt2:=hbx2.lt;have hil:=fU g.nodes.length (aF g.nodes).2 roots;have HM:=Aa (show aaq (insL g.nodes.length (aF g.nodes).2 roots)=kK (insL g.nodes.length (aF g.nodes).2 roots) (insL g.nodes.length (aF g.nodes).2 roots).length from rfl);generalize insL g.nodes.length (aF g.nodes).2 roots=inn at *;have hil2:inn.length≤100:=by omega
  have HIL:=Aa hil; clear hil hbx hb2 hWb hB1 hB;obtain⟨Ab,cb,rfl,hcb,hBb⟩:=hvb;have HVB:=Aa (show AO w2 (fun b=>W.heap.size≤b) (.slice Ab inn.length cb) inn from⟨_,_,rfl,hcb,hBb⟩);have HBB:=Aa hBb; clear hBb;dsimp only;go_wp2
  obtain⟨W2,hW2,hbc,mJ,ae5⟩:=aH w2 70 #[.slice Ab inn.length cb];rw[← hW2];clear hW2 ae5;have uK:=hbx2.below mJ hbx2.lt;have hB3:=hB2.trans (mJ.mono hB2.size);have hlt3:=hbc.lt;clear hbx2;go_loopw [4,9,10,25] (fun vo _ _ i wr=>∃ k:Nat,k≤inn.length∧i = .int .i64 k∧wr.ownsRow W2.heap.size 3 1 vo (kK inn k).length ((kK inn k).map (Value.int .i64))∧Below W2.heap.size W2 wr) (fun _ _ _ i _=>inn.length - (intOf i).toNat)
  case atStart=>exact⟨0,by omega,rfl,World.ownsRow_nil _ _ _ _,Below.refl _ _⟩
  case round =>
   obtain⟨k,hk,rfl,hown,hbel⟩:=hrel;have HO:=Aa hown; clear hown;have hlen:=rE inn k;by_cases hlt:k < inn.length
   ·obtain⟨bu,ou,rfl,_,hbu,hxu⟩:=HBB.out (by omega);obtain⟨y,hy⟩:=au hlt;have ey:=hxu k y hy;unfold tC at ey;rw[Nat.mul_one,← aA mJ _ _ hbu,← aA hbel _ _ (by omega)] at ey;have HST:=Aa (acz hy);clear hy hxu;cases y
    ·go_wp2
     go_roundw
     case rel=>exact⟨k+1,by omega,by go_num,by rw[HST.out]; simpa using HO.out,hbel⟩
     case measure=>simp[intOf] <;> omega
    ·go_wp2_with (at_builtin; refine jZ rfl _ _ rfl W2.heap.size _ (kK inn k) rfl (HO.out.alloc _) wr.heap.size k rfl (heap_alloc_new _ _) (by omega) (by have:=hbel.size; simp; omega) ?_; intro gg cap w3 hown3 hgrow hat hlt3; have qM:Below W2.heap.size W2 w3:=(hbel.alloc hbel.size _).grown hgrow (by have:=hbel.size; simp; omega) (fun k hk=>(HO.out.lt k hk).1); have HO3:=Aa hown3; clear hown3 hgrow hat hlt3)
     go_roundw
     case rel=>exact⟨k+1,by omega,by go_num,by rw[HST.out]; simpa using HO3.out,qM⟩
     case measure=>simp[intOf] <;> omega
   ·have adE:=uK.below hbel uK.lt;have hbc4:=hbc.below hbel hbc.lt;have x0:=adE.cell (i:=0) rfl;have x1:=adE.cell (i:=1) rfl;have x2:=adE.cell (i:=2) rfl;have x3:=adE.cell (i:=3) rfl;have x4:=adE.cell (i:=4) rfl;have x5:=adE.cell (i:=5) rfl;have hB4:=hB3.trans (hbel.mono hB3.size);have h24:Below w2.heap.size w2 wr:=mJ.trans (hbel.mono mJ.size);have h14:Below w1.heap.size w1 wr:=HW2.out.trans (h24.mono HW2.out.size);go_wp2_with fail
    refine(aay _ (fun b=>F b∨w.heap.size+1≤b) _ g (aF g.nodes).1 (aF g.nodes).2 (aN g) _ _ (fun x=>0≤x∧x < (inn.length:Int)) (jh inn) (HVX.out.on (Below.same' h14 _)) (bU HS.out).1 (bU HS.out).2 (fun l hl x hx=>by have:=lg (Nat.le_refl _) l hl x hx; have:=HIL.out; omega) (yU wr _ _ _ inn (hbc4.cell rfl) hbc4.lt (HVB.out.on (Below.same' h24 _)))).mono ?_;rintro e w5 ⟨vo,rfl,hb5,hvo⟩;clear x0 x1 x2 x3 x4 x5;dsimp only;go_wp2
    go_ret3;have hke:k=inn.length:=by omega
    subst hke;have z3:=hB3.size;have z4:=hB4.size;have z5:=hbel.size;refine⟨_,rfl,hB4.trans (hb5.mono z4),u4,vo,by first | rfl | (rw[HOE.out]; rfl),?_,?_⟩
    ·rw[HI1.out,if_pos (by first | rfl | trivial),HM.out];exact(Own.ints (F:=fun b=>w.heap.size≤b) (by simpa [Own] using HO.out) (fun b hb=>by have:=(HO.out.lt b hb).1; omega)).on (Below.same' hb5 _)
    ·rw[HI2.out,if_pos (by first | rfl | trivial)];exact hvo.keep (fun b hb _=>by omega) (Same.refl _ _)
 ·have hd:(er != 0)=true:=by simp[he]
  have HNZ:=Aa he;clear he;go_wp2
  go_ret3;refine⟨_,rfl,hB.alloc hB.size _,.slice none 0 0,.slice none 0 0,by first | rfl | (rw[HOE.out]; rfl),?_,?_⟩
  ·rw[HI1.out,if_neg HNZ.out]; exact nK _ _
  ·rw[HI2.out,if_neg HNZ.out]; exact nK _ _
theorem Span.last {nodes:List Nd} {cs:List Int} {a b:Nat} (h:Span nodes cs a b):∀ c,cs.getLast? = some c→∃ k:Nat,c=k∧a≤k∧Span nodes [(k:Int)] k b:=by
 induction h with
 | nil a=>intro c hc; simp at hc
 | @cons a m b n cs hn h1 h2 ih1 ih2 =>
  intro c hc;cases cs with
  | nil =>
   simp at hc;cases h2
   exact⟨a,hc.symm,Nat.le_refl _,.cons hn h1 (.nil _)⟩
  | cons d ds =>
   rw[List.getLast?_cons_cons] at hc;obtain⟨k,h3,h4,h5⟩:=ih2 c hc;have:=h1.le;exact⟨k,h3,by omega,h5⟩
theorem Span.open {nodes:List Nd} {i e:Nat} {n:Nd} (h:Span nodes [(i:Int)] i e) (hn:nodes[i]? = some n):Span nodes n.next (i+1) e:=by
 generalize hl:[(i:Int)]=l at h;cases h with
 | nil=>cases hl
 | cons hn' h1 h2 =>
  injection hl with e1 e2
  subst e2;cases h2
  rw[hn] at hn'; cases hn';exact h1
theorem aaB (q:Nat) (cs:List Int) (s:List Int×List Int) {i:Nat} (h:i≠q):(dD q cs s).2[i]? = s.2[i]?:=by
 unfold dD;induction cs generalizing s with
 | nil=>rfl
 | cons c cs ih=>simp only[List.foldl_cons]; rw[ih]; exact List.getElem?_set_ne (by omega)
theorem adO (q:Nat) (cs:List Int) (s:List Int×List Int) (hq:q < s.2.length) (hc:∀ c∈cs,c.toNat≠q∧c.toNat < s.2.length):(dD q cs s).2[q]? = match cs.getLast? with | none=>s.2[q]? | some c=>s.2[c.toNat]?:=by
 unfold dD;induction cs generalizing s with
 | nil=>rfl
 | cons c cs ih =>
  simp only[List.foldl_cons];have hc0:=hc c (by simp);rw[ih _ (by simpa using hq) (fun d hd=>by simpa using hc d (List.mem_cons_of_mem _ hd))];cases cs with
  | nil =>
   show(s.2.set q (s.2.getD c.toNat 0))[q]? = s.2[c.toNat]?;rw[List.getElem?_set_self hq];simp[List.getD_eq_getElem?_getD,hc0.2]
  | cons d ds =>
   rw[List.getLast?_cons_cons];cases hl:(d :: ds).getLast? with
   | none=>simp at hl
   | some x =>
    have hx:=hc x (List.mem_cons_of_mem _ (List.mem_of_getLast? hl));show(s.2.set q _)[x.toNat]? = s.2[x.toNat]?;exact List.getElem?_set_ne (by omega)
theorem adP {g:Gm} (hg:Good g) (m:Nat):m≤g.nodes.length→∀ i,g.nodes.length - m≤i→i < g.nodes.length→∃ e,Span g.nodes [(i:Int)] i e∧i < e∧e≤g.nodes.length∧(fD g.nodes m).2[i]? = some ((e:Int) - 1):=by
 induction m with
 | zero=>intro _ i h1 h2; omega
 | succ m ih =>
  intro hm i h1 h2;have ih:=ih (by omega);have hlen:=dO g.nodes m;obtain⟨n,hn⟩:=au (l:=g.nodes) (k:=g.nodes.length - 1 - m) (by omega);have hst:fD g.nodes (m+1)=dD (g.nodes.length - 1 - m) n.next ((fD g.nodes m).1,(fD g.nodes m).2.set (g.nodes.length - 1 - m) ((g.nodes.length - 1 - m:Nat):Int)):=by
   rw[fD,o8,hn]
  rw[hst];by_cases hi:i=g.nodes.length - 1 - m
  ·rw[← hi] at hn ⊢;obtain⟨e,hs,he1,he2⟩:=hg.span.sub i (by omega) (by omega);refine⟨e,hs,he1,he2,?_⟩;have ho:=hs.open hn;rw[adO _ _ _ (by simp[hlen.2]; omega) (fun c hc=>by have:=ho.mem c hc; simp[hlen.2]; omega)];cases hl:n.next.getLast? with
   | none =>
    have:n.next = []:=by simpa using hl
    rw[this] at ho;cases ho
    simp[hlen.2,h2]
   | some c =>
    obtain⟨k,rfl,hk,hsk⟩:=ho.last c hl;obtain⟨e',hs',he1',he2',hv⟩:=ih k (by omega) (by have:=ho.mem _ (List.mem_of_getLast? hl); omega);have:=hsk.unique hs';subst this;show(List.set _ i _)[(k:Int).toNat]? = _;rw[List.getElem?_set_ne (by simp; omega)];simpa using hv
  ·obtain⟨e,h3,h4,h5,h6⟩:=ih i (by omega) h2;refine⟨e,h3,h4,h5,?_⟩;rw[aaB _ _ _ hi];show(List.set _ _ _)[i]? = _;rw[List.getElem?_set_ne (by omega)];exact h6
theorem pq {g:Gm} (hg:Good g) {i:Nat} (h:i < g.nodes.length):∃ e,Span g.nodes [(i:Int)] i e∧i < e∧e≤g.nodes.length∧(aF g.nodes).2[i]? = some ((e:Int) - 1):=adP hg _ (Nat.le_refl _) i (by omega) h
theorem fine {g:Gm}:Cm g:=fun h=>⟨fun x hx=>by
 obtain⟨i,hi⟩:=List.getElem?_of_mem hx;have hlt:=aB hi;have hl:(aF g.nodes).2.length=g.nodes.length:=(dO _ _).2;obtain⟨e,_,_,h3,h4⟩:=pq (dZ h) (i:=i) (by omega);rw[hi] at h4; cases h4; omega⟩
def In (nodes:List Nd) (roots:List Int) (j:Nat):Prop:=∃ r:Nat,(r:Int)∈roots∧∃ e,Span nodes [(r:Int)] r e∧r≤j∧j < e
theorem jT {g:Gm} (hg:Good g) {roots:List Int} {j:Nat} (hj:j < g.nodes.length) (h:(j:Int)∈roots):In g.nodes roots j:=by
 obtain⟨e,h1,h2,_⟩:=hg.span.sub j (by omega) hj;exact⟨j,h,e,h1,Nat.le_refl _,h2⟩
theorem mM {g:Gm} (hg:Good g) {roots:List Int} {j p:Nat} {n:Nd} (hj:j < g.nodes.length) (hp:g.nodes[p]? = some n) (hc:(j:Int)∈n.next):In g.nodes roots j↔(j:Int)∈roots∨In g.nodes roots p:=by
 constructor
 ·rintro⟨r,hr,e,hs,h1,h2⟩;by_cases hrj:r=j
  ·subst hrj; exact .inl hr
  ·right
   rcases hs.parent j h1 h2 with h3 | ⟨p',n',h3,h4,h5,h6⟩
   ·simp at h3; omega
   ·have hp':p'=p:=hg.span.once.2 _ p' p n' n (by omega) (by omega) (by omega) (aB hp) h5 hp h6 hc;subst hp';exact⟨r,hr,e,hs,h3,by omega⟩
 ·rintro(h | ⟨r,hr,e,hs,h1,h2⟩)
  ·exact jT hg hj h
  ·have:=hs.kids p n h1 h2 hp _ hc;exact⟨r,hr,e,hs,by omega,by omega⟩
theorem sQ {roots:List Int} {l:List Bool} {j:Nat} (hj:j < l.length) (hr:∀ r∈roots,0≤r):(dV roots l)[j]? = if (j:Int)∈roots then some true else l[j]?:=by
 unfold dV;induction roots generalizing l with
 | nil=>simp
 | cons c rs ih =>
  simp only[List.foldl_cons];rw[ih (by simpa using hj) (fun d hd=>hr d (List.mem_cons_of_mem _ hd))];have hc:=hr c (by simp);by_cases h1:(j:Int)∈rs
  ·rw[if_pos h1,if_pos (List.mem_cons_of_mem _ h1)]
  ·rw[if_neg h1];by_cases h2:(j:Int)=c
   ·rw[if_pos (by rw[h2]; simp),List.getElem?_set,if_pos (by omega),if_pos (by omega)]
   ·rw[if_neg (by simp[h1,h2]),List.getElem?_set_ne (by omega)]
theorem ai1 {g:Gm} (hg:Good g) {roots:List Int} (hr:∀ r∈roots,0≤r) (m:Nat):1≤m→m≤g.nodes.length →
  (∀ j,j < m→∃ b,(ab7 (aW g.nodes) (dV roots (List.replicate g.nodes.length false)) m)[j]? = some b∧(b=true↔In g.nodes roots j)) ∧
  ∀ j,m≤j→(ab7 (aW g.nodes) (dV roots (List.replicate g.nodes.length false)) m)[j]? = (dV roots (List.replicate g.nodes.length false))[j]?:=by
 induction m with
 | zero=>intro h; omega
 | succ m ih =>
  intro _ hm;by_cases h1:1≤m
  ·obtain⟨ih1,ih2⟩:=ih h1 (by omega);rw[af7 _ _ _ h1];generalize ab7 (aW g.nodes) (dV roots (List.replicate g.nodes.length false)) m=s at *;have hlen:m < s.length:=by
    have:=ih2 m (Nat.le_refl _);rw[sQ (by simp; omega) hr] at this;split at this
    ·exact aB this
    ·rw[List.getElem?_replicate,if_pos (by omega)] at this; exact aB this
   obtain⟨p,n,hp1,hp2,hp3⟩:=jD hg h1 (j:=m) (by omega);have hpar:=lV hg (by omega) hp2 hp3;unfold ab6;constructor
   ·intro j hj;by_cases hjm:j=m
    ·subst hjm;rw[List.getElem?_set_self hlen];refine⟨_,rfl,?_⟩;rw[mM hg (by omega) hp2 hp3];obtain⟨b,hb1,hb2⟩:=ih1 p hp1;have hmk:=ih2 j (Nat.le_refl _);rw[sQ (by simp; omega) hr] at hmk;simp only[List.getD_eq_getElem?_getD,hpar,Option.getD_some,Int.toNat_natCast,hb1,Bool.or_eq_true,hb2];rw[hmk];by_cases hin:(j:Int)∈roots
     ·simp[hin]
     ·rw[if_neg hin,List.getElem?_replicate,if_pos (by omega)]; simp[hin]
    ·rw[List.getElem?_set_ne (by omega)];exact ih1 j (by omega)
   ·intro j hj;rw[List.getElem?_set_ne (by omega)];exact ih2 j (by omega)
  ·obtain rfl:m=0:=by omega
   refine⟨fun j hj=>?_,fun j hj=>?_⟩
   ·obtain rfl:j=0:=by omega
    show ∃ b,(dV roots (List.replicate g.nodes.length false))[0]? = some b∧_;rw[sQ (by simpa using hg.pos) hr];by_cases hin:((0:Nat):Int)∈roots
    ·exact⟨true,by rw[if_pos hin],by simp; exact jT hg hg.pos hin⟩
    ·refine⟨false,by rw[if_neg hin,List.getElem?_replicate,if_pos hg.pos],?_⟩;simp
     rintro⟨r,h1,e,h2,h3,h4⟩;obtain rfl:r=0:=by omega
     exact hin h1
   ·rfl
theorem wX {g:Gm} (hg:Good g) {roots:List Int} (hr:∀ r∈roots,0≤r) {j:Nat} (hj:j < g.nodes.length):∃ b,(fK g.nodes roots)[j]? = some b∧(b=true↔In g.nodes roots j) :=
 (ai1 hg hr g.nodes.length hg.pos (Nat.le_refl _)).1 j hj
theorem agK (l:List Bool) (a k j:Nat) (hj:j < l.length):(rJ l a k)[j]? = if a≤j∧j < a+k then some true else l[j]?:=by
 induction k with
 | zero=>rw[if_neg (by omega)]; rfl
 | succ k ih =>
  unfold rJ;rw[List.getElem?_set];by_cases h:a+k=j
  ·rw[if_pos h,if_pos (by rw[mG]; omega),if_pos (by omega)]
  ·rw[if_neg h,ih];by_cases h2:a≤j∧j < a+k
   ·rw[if_pos h2,if_pos (by omega)]
   ·rw[if_neg h2,if_neg (by omega)]
theorem uQ {g:Gm} (hg:Good g):∀ (roots:List Int) (l:List Bool),(∀ r∈roots,0≤r∧r < (g.nodes.length:Int))→l.length=g.nodes.length→∀ j,j < g.nodes.length→∀ b,l[j]? = some b →
  ∃ b',(roots.foldl (lK (aF g.nodes).2) l)[j]? = some b'∧(b'=true↔b=true∨In g.nodes roots j)
 | [],l,_,_,j,_,b,hb=>⟨b,hb,by simp[In]⟩
 | r :: rs,l,hr,hl,j,hj,b,hb=>by
  simp only[List.foldl_cons];have hr0:=hr r (by simp);obtain⟨q,rfl⟩:=Int.eq_ofNat_of_zero_le hr0.1;obtain⟨e,hs,he1,he2,hv⟩:=pq hg (i:=q) (by omega);have hst:(lK (aF g.nodes).2 l (q:Int))[j]? = if q≤j∧j < e then some true else some b:=by
   unfold lK;rw[agK _ _ _ _ (by omega)];simp only[Int.toNat_natCast,List.getD_eq_getElem?_getD,hv,Option.getD_some];rw[show((e:Int) - 1+1 - (q:Int)).toNat=e - q by omega,hb];by_cases h:q≤j∧j < e
   ·rw[if_pos h,if_pos (by omega)]
   ·rw[if_neg h,if_neg (by omega)]
  have hlen:(lK (aF g.nodes).2 l (q:Int)).length=g.nodes.length:=by unfold lK; rw[mG,hl]
  have hcons:In g.nodes ((q:Int) :: rs) j↔(q≤j∧j < e)∨In g.nodes rs j:=by
   constructor
   ·rintro⟨r,h1,e',h2,h3,h4⟩;rcases List.mem_cons.1 h1 with h1 | h1
    ·have:r=q:=by omega
     subst this;have:=h2.unique hs;subst this;exact .inl ⟨h3,h4⟩
    ·exact .inr ⟨r,h1,e',h2,h3,h4⟩
   ·rintro(⟨h1,h2⟩ | ⟨r,h1,h2⟩)
    ·exact⟨q,by simp,e,hs,h1,h2⟩
    ·exact⟨r,List.mem_cons_of_mem _ h1,h2⟩
  by_cases h:q≤j∧j < e
  ·rw[if_pos h] at hst;obtain⟨b',h1,h2⟩:=uQ hg rs _ (fun r hr'=>hr r (List.mem_cons_of_mem _ hr')) hlen j hj true hst;exact⟨b',h1,by rw[h2,hcons]; simp[h]⟩
  ·rw[if_neg h] at hst;obtain⟨b',h1,h2⟩:=uQ hg rs _ (fun r hr'=>hr r (List.mem_cons_of_mem _ hr')) hlen j hj b hst;exact⟨b',h1,by rw[h2,hcons]; simp[h]⟩
theorem acH {g:Gm} (hg:Good g) {roots:List Int} (hr:∀ r∈roots,0≤r∧r < (g.nodes.length:Int)) {j:Nat} (hj:j < g.nodes.length):∃ b,(insL g.nodes.length (aF g.nodes).2 roots)[j]? = some b∧(b=true↔In g.nodes roots j):=by
 obtain⟨b,h1,h2⟩:=uQ hg roots (List.replicate g.nodes.length false) hr (by simp) j hj false (by simp[hj]);exact⟨b,h1,by rw[h2]; simp⟩
theorem agL {g:Gm} (hg:Good g) {roots:List Int} (hr:∀ r∈roots,0≤r∧r < (g.nodes.length:Int)):insL g.nodes.length (aF g.nodes).2 roots=fK g.nodes roots:=by
 apply List.ext_getElem?
 intro j;by_cases hj:j < g.nodes.length
 ·obtain⟨b,h1,h2⟩:=acH hg hr hj;obtain⟨b',h3,h4⟩:=wX hg (fun r h=>(hr r h).1) hj;rw[h1,h3];congr 1
  rw[Bool.eq_iff_iff,h2,h4]
 ·rw[List.getElem?_eq_none (by rw[fU]; omega),List.getElem?_eq_none (by rw[fQ]; omega)]
theorem adQ {g:Gm} (hg:Good g) {roots:List Int} (hr:∀ r∈roots,0≤r∧r < (g.nodes.length:Int)):iD (aF g.nodes).2 roots roots.length=nJ g.nodes roots roots.length:=by
 have get:∀ i,i < roots.length→∃ (q e:Nat),roots[i]? = some (q:Int)∧q < g.nodes.length∧Span g.nodes [(q:Int)] q e∧q < e∧(aF g.nodes).2[q]? = some ((e:Int) - 1):=by
  intro i hi;obtain⟨r,hr'⟩:=au hi;have h0:=hr r (List.mem_of_getElem? hr');obtain⟨q,rfl⟩:=Int.eq_ofNat_of_zero_le h0.1;obtain⟨e,h1,h2,h3,h4⟩:=pq hg (i:=q) (by omega);exact⟨q,e,hr',by omega,h1,h2,h4⟩
 have under:∀ i q,i < roots.length→q < g.nodes.length→∃ b,(fK g.nodes (roots.take i)).getD q false=b∧(b=true↔In g.nodes (roots.take i) q):=by
  intro i q hi hq;obtain⟨b,h1,h2⟩:=wX hg (roots:=roots.take i) (fun r h=>(hr r (List.mem_of_mem_take h)).1) hq;exact⟨b,by simp[List.getD_eq_getElem?_getD,h1],h2⟩
 rw[Bool.eq_iff_iff];unfold iD nJ;rw[List.any_eq_true,List.any_eq_true];constructor
 ·rintro⟨i,hi,hb⟩;refine⟨i,hi,?_⟩;rw[List.mem_range'_1] at hi;obtain⟨q,e,h1,h2,h3,h4,h5⟩:=get i (by omega);obtain⟨p,f,k1,k2,k3,k4,k5⟩:=get (i - 1) (by omega);unfold kL at hb;simp only[List.getD_eq_getElem?_getD,h1,k1,Option.getD_some,Int.toNat_natCast,k5,decide_eq_true_eq] at hb;unfold qx;simp only[List.getD_eq_getElem?_getD,h1,k1,Option.getD_some,Int.toNat_natCast,Bool.or_eq_true,decide_eq_true_eq];by_cases hle:q≤p
  ·left; omega
  ·right
   obtain⟨b,hb1,hb2⟩:=under i q (by omega) h2;rw[← List.getD_eq_getElem?_getD,hb1,hb2];exact⟨p,List.mem_of_getElem? (i:=i - 1) (by rw[List.getElem?_take]; rw[if_pos (by omega)]; exact k1),f,k3,by omega,by omega⟩
 ·rintro⟨i,hi,hb⟩;rw[List.mem_range'_1] at hi;apply Classical.byContradiction
  intro hno;have hall:∀ k,1≤k→k < roots.length→kL (aF g.nodes).2 roots k=false:=by
   intro k h1 h2;cases h:kL (aF g.nodes).2 roots k with
   | false=>rfl
   | true=>exact absurd ⟨k,by rw[List.mem_range'_1]; omega,h⟩ hno
  have mono:∀ d j,1≤d→j+d < roots.length→∀ (q e q':Nat),roots[j]? = some (q:Int)→Span g.nodes [(q:Int)] q e→roots[j+d]? = some (q':Int)→e≤q':=by
   intro d;induction d with
   | zero=>intro j h; omega
   | succ d ih =>
    intro j _ hj q e q' hq hs hq';obtain⟨p,f,k1,k2,k3,k4,k5⟩:=get (j+d) (by omega);have hb:=hall (j+(d+1)) (by omega) (by omega);unfold kL at hb;rw[show j+(d+1) - 1=j+d by omega] at hb;simp only[List.getD_eq_getElem?_getD,hq',k1,Option.getD_some,Int.toNat_natCast,k5,decide_eq_false_iff_not] at hb;by_cases hd:1≤d
    ·have:=ih j hd (by omega) q e p hq hs k1;omega
    ·obtain rfl:d=0:=by omega
     rw[Nat.add_zero,hq] at k1;have:q=p:=by injection k1; omega
     subst this;have:=hs.unique k3;omega
  obtain⟨q,e,h1,h2,h3,h4,h5⟩:=get i (by omega);obtain⟨p,f,k1,k2,k3,k4,k5⟩:=get (i - 1) (by omega);have hpq:=mono 1 (i - 1) (by omega) (by omega) p f q k1 k3 (by rw[show i - 1+1=i by omega]; exact h1);unfold qx at hb;simp only[List.getD_eq_getElem?_getD,h1,k1,Option.getD_some,Int.toNat_natCast,Bool.or_eq_true,decide_eq_true_eq] at hb;rcases hb with hb | hb
  ·omega
  ·obtain⟨b,hb1,hb2⟩:=under i q (by omega) h2;rw[← List.getD_eq_getElem?_getD,hb1,hb2] at hb;obtain⟨r,hr',e',hs',m1,m2⟩:=hb;obtain⟨j,hj⟩:=List.getElem?_of_mem hr';rw[List.getElem?_take] at hj;split at hj
   ·rename_i hji
    have:=mono (i - j) j (by omega) (by omega) r e' q hj hs' (by rw[show j+(i - j)=i by omega]; exact h1);omega
   ·cases hj
theorem uS (g:Gm) (roots:List Int):aZ g roots=qy g roots:=by
 unfold aZ qy;split
 ·rfl
 ·rename_i h
  have hg:=dZ (g:=g) (by simpa using h);unfold lq uO;split
  ·rfl
  ·cases hb:jP g.nodes.length roots with
   | true=>rfl
   | false=>rw[adQ hg (kJ hb)]
theorem pz (inn:List Bool) (l:List Int):decide (0 < uN inn l)=l.any (jh inn):=by
 rw[Bool.eq_iff_iff];unfold uN;simp only[decide_eq_true_eq,List.countP_pos_iff,List.any_eq_true];rfl
theorem rP (inn:List Bool) (l:List Int):decide (uN inn l=l.length)=l.all (jh inn):=by
 rw[Bool.eq_iff_iff];unfold uN;simp only[decide_eq_true_eq,List.countP_eq_length,List.all_eq_true];rfl
theorem agM (inn:List Bool) (sets:List (List Int)) (k:Nat):jW (jh inn) sets k=aap inn sets k:=by
 unfold jW aap;congr 1
 apply List.filter_congr
 intro q _;exact(pz inn q.1).symm
theorem wY {p:Int→Bool} {sets:List (List Int)} {s:Int}:s∈nN p sets↔∃ (q:Nat) (l:List Int),s=q∧sets[q]? = some l∧l.any p=true:=by
 unfold nN jW;rw[List.take_length];simp only[List.mem_map,List.mem_filter,List.mem_zipIdx_iff_getElem?];constructor
 ·rintro⟨⟨l,q⟩,⟨h1,h2⟩,rfl⟩; exact⟨q,l,rfl,h1,h2⟩
 ·rintro⟨q,l,rfl,h1,h2⟩; exact⟨(l,q),⟨h1,h2⟩,rfl⟩
theorem ae6 (inn:List Bool) (sets:List (List Int)):jF inn sets=sK inn sets sets.length:=by
 rw[Bool.eq_iff_iff];unfold jF sK;rw[List.take_length,List.all_eq_true,List.all_eq_true];constructor
 ·intro h l hl;obtain⟨q,hq⟩:=List.getElem?_of_mem hl;rw[pz,rP];cases ha:l.any (jh inn) with
  | false=>rfl
  | true =>
   have:=h q (wY.2 ⟨q,l,rfl,hq,ha⟩);unfold aaz at this;simpa [List.getD_eq_getElem?_getD,hq] using this
 ·intro h s hs;obtain⟨q,l,rfl,hq,ha⟩:=wY.1 hs;have:=h l (List.mem_of_getElem? hq);rw[pz,rP,ha] at this;unfold aaz;simpa [List.getD_eq_getElem?_getD,hq] using this
theorem wZ (g:Gm) (roots:List Int):fE g roots=oW g roots:=by
 unfold fE oW;rw[uS];by_cases h:qy g roots=0
 ·obtain⟨hg,hrt⟩:=aeR h;rw[agL hg (ahN hrt),ae6];unfold jS;rw[show(aN g).length=g.infos.length from bF _ _ _]
 ·simp[h]
theorem oL {g:Gm} (h:bg g=0):bV g.aj g.infos.length g.nodes=0∧oH g=0:=by
 unfold bg at h;split at h
 ·omega
 ·split at h
  ·rename_i h2; exact absurd h h2
  ·rename_i h2
   split at h
   ·omega
   ·split at h
    ·omega
    ·exact⟨by simpa using h2,h⟩
theorem aaC {g:Gm} (h:bg g=0):∀ i∈g.infos,i.actions≤10:=by
 intro inf hin;obtain⟨s,hs⟩:=List.getElem?_of_mem hin;have hsl:s < g.infos.length:=aB hs;obtain⟨h2,h5⟩:=oL h;unfold oH at h5;split at h5
 ·omega
 rename_i ht
 split at h5
 ·omega
 rename_i hn
 have hm:=fB (dZ h).infos hsl;have hne:(bH g.nodes s g.nodes.length).length≠0:=fun e=>by
  apply hn
  unfold mF;exact List.any_eq_true.2 ⟨_,List.mem_of_getElem? hm,decide_eq_true e⟩
 obtain⟨x,hx⟩:=List.exists_mem_of_length_pos (Nat.pos_of_ne_zero hne);obtain⟨k,rfl,hk,hmv⟩:=gZ.1 hx;unfold mv at hmv;split at hmv
 ·rename_i n hnk
  simp only[Bool.and_eq_true,decide_eq_true_eq] at hmv;have hmem:=List.mem_of_getElem? hnk;have e1:=iC h2 n hmem;unfold dK at e1;rw[if_neg (by omega),if_pos hmv.1] at e1;unfold fM at e1;split at e1
  ·omega
  ·rename_i h3
   have e2:fA g.infos n=false:=by
    cases hb:fA g.infos n with
    | false=>rfl
    | true=>exact absurd (List.any_eq_true.2 ⟨n,hmem,hb⟩) ht
   unfold fA at e2;rw[decide_eq_true hmv.1,Bool.true_and,Bool.or_eq_false_iff,hmv.2,List.getD_eq_getElem?_getD,hs] at e2;have e3:=of_decide_eq_false e2.2;simp only[Option.getD_some] at e3;omega
 ·cases hmv
theorem ahV {w:World} {b:Nat} {t:TypeId} {a0 a1 a2:Value} (h:Row w b t [a0,a1,a2]) (v0 v1 v2:Value):∃ W,W=(((w.setCell ⟨b,0,none⟩ v0).setCell ⟨b,1,none⟩ v1).setCell ⟨b,2,none⟩ v2) ∧
  Row W b t [v0,v1,v2]∧Wrote (fun k=>k=b) w W:=by
 refine⟨_,rfl,((h.set 0 v0).set 1 v1).set 2 v2,?_⟩;have h0:Wrote (fun k=>k=b) w w:=Wrote.refl _ _;exact((h0.setCell (p:=⟨b,0,none⟩) (.inl rfl) v0).setCell (p:=⟨b,1,none⟩) (.inl rfl) v1).setCell (p:=⟨b,2,none⟩) (.inl rfl) v2
theorem Below.wrote {w w':World} (h:Below w.heap.size w w') (K:Ac):Wrote K w w':=⟨h.os,h.tape,h.output,h.size,fun i hi _=>h.block i hi⟩
theorem Tryz.infoNode:(Tryz.prog.info? 61).map (fun i=>(i.zero,i.size,i.bytes))=some (some (.agg #[.int .i64 0,.int .i64 0,.int .i64 0,.slice none 0 0,.slice none 0 0,.slice none 0 0]),6,96):=by kernel_rfl
theorem ahW (L:List NV):(L.flatMap NV.cells).length=L.length*6:=by
 induction L with
 | nil=>rfl
 | cons q L ih=>rw[List.flatMap_cons,List.length_append,ih]; simp[NV.cells]; omega
theorem aaD {w:World} {base:Nat} {t:TypeId} {v:Value} {L:List NV} (h:w.ownsRow base t 6 v L.length (L.flatMap NV.cells)) {F:Ac} (hF:∀ b,v.ownBlock=some b→F b) (hL:∀ q∈L,q.fine w F):AB w F v (L.map NV.n):=by
 rcases h.2 with⟨rfl,h0⟩ | ⟨g,cap,cur,rfl,hb,hg,hnc,_,hsz,htake⟩
 ·have:L = []:=List.eq_nil_of_length_eq_zero h0;subst this;exact⟨none,0,rfl,Nat.le_refl _,fun h=>absurd h (by simp)⟩
 ·refine Lies.nodes ⟨(Array.getElem?_eq_some_iff.1 hg).1,fun i u hi=>?_⟩ (hF g rfl) hL hnc;rw[← htake,List.getElem?_take] at hi;split at hi
  ·simp[World.cell?,hg]; simpa using hi
  ·cases hi
def oM (par:List Int) (m:List Bool):Nat→Int→Bool
 | 0,_=>false
 | f+1,p=>if p < 0 then false else m.getD p.toNat false||oM par m f (par.getD p.toNat 0)
def jq (par:List Int) (m:List Bool) (p:Int):Bool:=oM par m (p+1).toNat p
theorem ae7 {N:Nat} {par:List Int} {m:List Bool} (hl:par.length=N) (hf:Falls N par):∀ (f:Nat) (p:Int),p < (N:Int)→(p+1).toNat≤f→oM par m f p=jq par m p:=by
 intro f;induction f using Nat.strongRecOn with
 | _ f ih =>
  intro p hp hfp;unfold jq;by_cases h0:p < 0
  ·cases f <;> cases hq:(p+1).toNat <;> simp[oM,h0]
  ·obtain⟨q,rfl⟩:=Int.eq_ofNat_of_zero_le (show 0≤p by omega);obtain⟨f',rfl⟩:∃ f',f=f'+1:=⟨f - 1,by omega⟩;have e:((q:Int)+1).toNat=q+1:=by omega
   rw[e];unfold oM;rw[if_neg h0,if_neg h0];obtain⟨x,hx⟩:=au (l:=par) (k:=q) (by omega);have hq:=hf q x (by omega) hx;have hg:par.getD (q:Int).toNat 0=x:=by simp[List.getD_eq_getElem?_getD,hx]
   rw[hg];congr 1
   rw[ih f' (by omega) x (by omega) (by omega),ih q (by omega) x (by omega) (by omega)]
theorem qB {N:Nat} {par:List Int} {m:List Bool} (hl:par.length=N) (hf:Falls N par) {q:Nat} {x:Int} (hq:q < N) (hx:par[q]? = some x):jq par m (q:Int)=(m.getD q false||jq par m x):=by
 have hq':=hf q x hq hx;have e:((q:Int)+1).toNat=q+1:=by omega
 have h1:jq par m (q:Int)=oM par m (q+1) q:=by unfold jq; rw[e]
 have hg:par.getD (q:Int).toNat 0=x:=by simp[List.getD_eq_getElem?_getD,hx]
 rw[h1,oM,if_neg (by omega),hg,Int.toNat_natCast,ae7 hl hf q x (by omega) (by omega)]
theorem uT {par:List Int} {m:List Bool} {p:Int} (h:p < 0):jq par m p=false:=by
 unfold jq; cases (p+1).toNat <;> simp[oM,h]
def pF (par:List Int) (m:List Bool) (i:Nat):Bool:=m.getD i false && !jq par m (par.getD i 0)
def gq (par:List Int) (m:List Bool) (k:Nat):List Int:=((List.range k).filter (pF par m)).map fun i:Nat=>(i:Int)
theorem adR (par:List Int) (m:List Bool) (k:Nat):gq par m (k+1)=gq par m k++(if pF par m k then [(k:Int)] else []):=by
 unfold gq;rw[List.range_succ,List.filter_append,List.map_append];cases h:pF par m k <;> simp[h]
theorem uf (par:List Int) (m:List Bool) (k:Nat):(gq par m k).length≤k:=by
 unfold gq;rw[List.length_map];refine Nat.le_trans (List.length_filter_le _ _) ?_;simp
end Go.Proofs.YthmklhapjegfdaaGreatDoor
