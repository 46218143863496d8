/- parlourref11.SetsOf: the nodes of each information set. -/
import Derived.Test.YtkcheepafifjaaaGreatDoorU24
import Derived.Test.YtkcheepafifjaaaGreatDoorU03
import Derived.Test.YtkcheepafifjaaaGreatDoorU04
set_option linter.all false
set_option maxRecDepth 100000
set_option maxHeartbeats 12800000
namespace Go.Proofs.YtkcheepafifjaaaGreatDoor
open Lib renaming hid → Ac
open List renaming getElem_toArray → lq1, getElem_cons_zero → lq2, getElem_cons_succ → lq3, setIfInBounds_toArray → lq4, set_cons_zero → lq5, set_cons_succ → lq6
open Go.RowKit
theorem adE (w:World) (F:Ag) (u:Value) (g:Gm) (hg:AA w F u g) (hsm:Small g) (hin:BF g) :
  Calls Tryz.prog 111 #[u] w (Ret w fun v w'=>BK w' (fun b=>w.heap.size≤b) v (mM g)):=by
 obtain⟨vn,vi,rfl,⟨A,c,rfl,hc,hN⟩,⟨Ai,ci,rfl,hci,hI⟩⟩:=hg;have HN:=Ac hN; clear hN hI;have hn:=hsm.nodes;have hni:=hsm.infos;have HIN:=Ac hin; clear hin;go_enter Tryz.func111,Tryz.ntmps111;go_wp2_with (at_make; refine fB _ rfl _ _ 112 rfl 57 (.slice none 0 0) 24 Tryz.underlying112 Tryz.infoInts rfl g.infos.length rfl rfl (by omega) (by omega) ?_; intro w1 hb1 hz1 hrow1)
 simp only[World.size_alloc] at hb1 hz1 hrow1;go_loopw [4] (fun i wr=>∃ (k:Nat) (vs:List Value),k≤g.nodes.length∧i = .int .i64 k∧Row wr w.heap.size 25 [.int .i64 g.ak,.slice A g.nodes.length c,.slice Ai g.infos.length ci]∧Row wr (w.heap.size+1) 57 vs∧OwnRows wr (w.heap.size+2) 3 vs (fC g.nodes g.infos.length k)∧Below w.heap.size w wr) (fun i _=>g.nodes.length - (intOf i).toNat)
 case atStart =>
  refine⟨0,_,by omega,rfl,?_,hrow1,?_,?_⟩
  ·exact(Row.new w _ _).below hb1 (by simp)
  ·exact OwnRows.start _ _ _ _
  ·exact((Below.refl w.heap.size w).alloc (Nat.le_refl _) _).trans (hb1.mono (by omega))
 case round =>
  obtain⟨k,vs,hk,rfl,hr,hrow,hown,hbel⟩:=hrel;have x1:=hr.cell (i:=1) rfl;by_cases hlt:k < g.nodes.length
  ·obtain⟨b,o,rfl,_,hb,hcell⟩:=HN.out (by omega);obtain⟨n,hn'⟩:=ay hlt;obtain⟨e0,e1,e2,⟨v3,e3,A3,c3,rfl,hc3,i3⟩,⟨v4,e4,A4,c4,rfl,hc4,i4⟩,⟨v5,e5,A5,c5,rfl,hc5,i5⟩⟩:=hcell k n hn';clear i3 i4 i5 hcell;have HX:=Ac hn'; clear hn';have hold:=aI hbel;have hlr:=hrow.lt;by_cases hkd:n.kind=2
   ·obtain⟨hin0,hin1⟩:=HIN.out n (List.mem_of_getElem? HX.out) hkd;have hd:(n.kind==2)=true:=by simp[hkd]
    have HKD:=Ac hkd; clear hkd;obtain⟨l,hl⟩:=ay (l:=fC g.nodes g.infos.length k) (k:=n.info.toNat) (by rw[fP]; omega);obtain⟨v,hv⟩:=ay (l:=vs) (k:=n.info.toNat) (by rw[hown.len,fP]; omega);have rv:=hrow.cell hv;have fv:=hrow.frozen n.info.toNat;have ho:=hown.own _ v l hv hl;have hll:=yD l (List.mem_of_getElem? hl);have HO:=Ac ho; clear ho;have HL:=Ac hl; clear hl;have HV:=Ac hv; clear hv;go_wp2
    obtain⟨W,hW⟩:∃ W:World,W=wr.alloc (.cells #[.int .i64 n.kind,.int .i64 n.aH,.int .i64 n.info,.slice A3 n.next.length c3,.slice A4 n.weights.length c4,.slice A5 n.pay.length c5] 67):=⟨_,rfl⟩;rw[← hW];have cx:W.cell? ⟨wr.heap.size,2,none⟩=some (.int .i64 n.info):=by rw[hW]; simp
    have hWz:W.heap.size=wr.heap.size+1:=by rw[hW]; simp
    have hWo:OwnRows W (w.heap.size+2) 3 vs (fC g.nodes g.infos.length k):=by rw[hW]; exact hown.alloc _
    have hWr:Row W w.heap.size 25 [.int .i64 g.ak,.slice (some ⟨b,o,none⟩) g.nodes.length c,.slice Ai g.infos.length ci]:=by rw[hW]; exact hr.alloc _
    have hWw:Row W (w.heap.size+1) 57 vs:=by rw[hW]; exact hrow.alloc _
    have hWb:Below w.heap.size w W:=by rw[hW]; exact hbel.alloc hbel.size _
    have rv:=hWw.cell HV.out;have fv:=hWw.frozen n.info.toNat;have HOW:=Ac (hWo.own _ v l HV.out HL.out);have hWlt:wr.heap.size < W.heap.size:=by omega
    have HHW:=Ac hWz; have hWle:w.heap.size+2 < W.heap.size:=by omega
    clear hW hWz hr hrow hown hbel x1 hold e0 e1 e2 e3 e4 e5 hlr;have HWR:=Ac (And.intro hWr (And.intro hWw (And.intro hWo hWb))); clear hWr hWw hWo hWb;refine agf (fun w'=>w'.cell? ⟨wr.heap.size,2,none⟩=some (.int .i64 n.info)∧w'.cell? ⟨w.heap.size+1,n.info.toNat,none⟩=some v) 11 (by kernel_rfl) rfl rfl (by kernel_rfl) (by kernel_rfl) (by kernel_rfl) (by kernel_rfl) ⟨cx,rv⟩ ?_;have hHeld:(fun w':World=>w'.cell? ⟨wr.heap.size,2,none⟩=some (.int .i64 n.info)∧w'.cell? ⟨w.heap.size+1,n.info.toNat,none⟩=some v) W.drew:=⟨cx,rv⟩;simp only[List.take_succ_cons,List.take_zero];refine tk0 [0,1,2,3,4,5,6,7,8] ?_;iterate 9 (refine tk (v:=?_) rfl (by kernel_rfl) (by kernel_rfl) (by kernel_rfl) (fun _ _ _ h=>h) (Or.inl ⟨by rfl,?_⟩) hHeld ?_;rotate_left;(focus intro wx hSx;(try dsimp only at hSx);go_split_ands;go_simp;try with_reducible rfl);try simp only[Act.put,lq1,lq2,lq3,lq4,lq5,lq6])
    refine tk1 ?_;refine tk2 9 (by kernel_rfl) rfl fun K hK=>?_
    go_simp;refine hK.out _ _ ⟨by rw[World.cell?_drew,World.cell?_alloc_lt _ _ _ (by simp; omega)]; exact cx,by rw[World.cell?_drew,World.cell?_alloc_lt _ _ _ (by simp; omega)]; exact rv⟩ (fun hHeld=>?_);clear hK K;try simp only[Act.put,List.setIfInBounds_toArray,List.set_cons_zero,List.set_cons_succ]
    refine tk2 10 (by kernel_rfl) rfl fun K hK=>?_
    refine aa1 (by rfl) _ _ (by rfl) (w.heap.size+2) v l (by rfl) (HOW.out.alloc _) W.heap.size k (by rfl) (heap_alloc_new W _) (by omega) (by simp; omega) ?_;intro gg cap w1 hown1 hgrow hat hlt1;have hnb:∀ b,v.ownBlock=some b→w.heap.size+2≤b:=fun b hb=>(HOW.out.lt b hb).1
    have hHG:∀ b,b < w.heap.size+2→w1.heap[b]? = W.heap[b]?:=fun b hb=>by
     rw[hgrow.block b (by simp; omega) (fun e=>by have:=hnb b e.symm; omega)];exact Below.heap_alloc W _ b (by omega)
    obtain⟨hWr,hWw,hWo,hWb⟩:=HWR.out;have k1:Row w1 w.heap.size _ _:=hWr.of_block (hHG _ (by omega));have k2:Row w1 (w.heap.size+1) _ _:=hWw.of_block (hHG _ (by omega));have k3:=((hWo.alloc _).drew).put HV.out hown1 hgrow rfl hat;have k4:Below w.heap.size w w1:=((hWb.alloc (by omega) _).drew).grown hgrow (by simp; omega) (fun k hk=>by have:=hnb k hk; omega);have rv1:=k2.cell HV.out;have fv1:=k2.frozen n.info.toNat;have KK:=Ac (And.intro k1 (And.intro k2 (And.intro k3 k4)));refine hK.out _ _ ⟨?_,rv1⟩ (fun hHeld=>?_)
    ·rw[hgrow.cell_far _ (by simp; omega) (fun e=>by have:=(HO.out.lt _ e.symm).2; simp at this),World.cell?_drew,World.cell?_alloc_lt _ _ _ (by simp; omega)]; exact cx
    clear hK K k1 k2 k3 k4 hWr hWw hWo hWb hHG hgrow hown1 hat cx rv fv;try simp only[Act.put,List.setIfInBounds_toArray,List.set_cons_zero,List.set_cons_succ]
    refine wpAnyH_done (by kernel_rfl) ?_ _;show wpList _ _ _ _ _ _;go_wp2
    show wpList _ _ _ _ _ _;go_wp2
    go_roundw
    case rel =>
     obtain⟨k1,k2,k3,k4⟩:=KK.out;refine⟨k+1,_,by omega,by go_num,k1.other (by simp) _,k2.set _ _,?_,k4.setCell (by simp) _⟩;rw[wL HX.out HKD.out HL.out];exact k3.setCell (by simp) _
    case measure=>simp[intOf]; omega
   ·have hd:(n.kind==2)=false:=by simp[hkd]
    have HKD:=Ac hkd; clear hkd;go_wp2
    go_roundw
    case rel =>
     refine⟨k+1,vs,by omega,by go_num,by repeat (first | exact hr | refine Row.alloc ?_ _ | refine Row.other ?_ (by have:=hr.lt; simp; omega) _),by repeat (first | exact hrow | refine Row.alloc ?_ _ | refine Row.other ?_ (by simp; omega) _),?_,by repeat (first | exact hbel | refine Below.alloc ?_ hbel.size _ | refine Below.setCell ?_ hbel.size _)⟩;rw[wM HX.out HKD.out];repeat (first | exact hown | refine OwnRows.alloc ?_ _)
    case measure=>simp[intOf]; omega
  ·go_wp2
   go_ret;refine⟨_,rfl,hbel,?_⟩;have hke:k=g.nodes.length:=by omega
   subst hke;have h1:(mM g).length=g.infos.length:=fP _ _ _;have:=OwnRows.rows (F:=fun b=>w.heap.size≤b) hown hrow (by omega) (fun _ _=>by omega) (c:=g.infos.length) (by rw[fP]; omega);rw[fP] at this;exact this
def iL (g:Gm):Prop:=g.ak < 1∨4 < g.ak∨g.nodes.length < 1∨2000 < g.nodes.length∨200 < g.infos.length
instance (g:Gm):Decidable (iL g):=by unfold iL; infer_instance
def cZ (ak:Int) (ni:Nat):List Nd→Int
 | []=>0
 | x :: l=>if aN ak ni x≠0 then aN ak ni x else cZ ak ni l
def dF (infos:List Inf) (x:Nd):Bool:=decide (x.kind=2)&&(decide ((infos.getD x.info.toNat default).aH≠x.aH)||decide ((infos.getD x.info.toNat default).actions≠(x.next.length:Int)))
def pR (g:Gm):Bool:=g.nodes.any (dF g.infos)
def lY (sets:List (List Int)):Bool:=sets.any fun l=>decide (l.length=0)
def jQ (sets:List (List Int)) (i:Nat):Bool:=decide ((sets.getD i []).getD 0 0 < (sets.getD (i - 1) []).getD 0 0)
def fA (sets:List (List Int)) (m:Nat):Bool:=(List.range' 1 (m - 1)).any (jQ sets)
def kH (g:Gm):Int:=if pR g then 10 else if lY (mM g) then 18 else if fA (mM g) g.infos.length then 9 else 0
def dP (g:Gm):Int :=
 if iL g then 2 else if cZ g.ak g.infos.length g.nodes≠0 then cZ g.ak g.infos.length g.nodes
 else if (bI g.nodes (g.nodes.length+1) 0 0 0).1≠g.nodes.length then 9 else if 40 < (bI g.nodes (g.nodes.length+1) 0 0 0).2 then 5 else kH g
theorem sK {ak:Int} {ni:Nat} {l:List Nd} {k:Nat} {x:Nd} (h:l[k]? = some x):cZ ak ni (l.drop k)=if aN ak ni x≠0 then aN ak ni x else cZ ak ni (l.drop (k+1)):=by
 have hl:=aG h;rw[List.drop_eq_getElem_cons hl];have:l[k]=x:=by simpa [hl] using h
 rw[this]; rfl
theorem iC {ak:Int} {ni:Nat}:∀ {l:List Nd},cZ ak ni l=0→∀ x∈l,aN ak ni x=0
 | [],_,_,h=>by cases h
 | y :: l,h,x,hx=>by
  unfold cZ at h;split at h
  ·rename_i h1; exact absurd h h1
  ·rename_i h1
   rcases List.mem_cons.1 hx with rfl | hx
   ·simpa using h1
   ·exact iC h x hx
theorem nC {g:Gm} (h:cZ g.ak g.infos.length g.nodes=0):BF g:=by
 intro x hx hk;have:=iC h x hx;unfold aN dK at this;rw[if_neg (by omega),if_pos hk] at this;split at this
 ·omega
 ·split at this
  ·omega
  ·omega
theorem xJ (sets:List (List Int)) (m:Nat) (h:1≤m):fA sets (m+1)=(fA sets m||jQ sets m):=by
 unfold fA;have:m+1 - 1=(m - 1)+1:=by omega
 rw[this,List.range'_concat,List.any_append];simp
 rw[show 1+(m - 1)=m by omega]
theorem aac {sets:List (List Int)} {m k:Nat} (h:1≤m) (hm:m < k) (hb:jQ sets m=true):fA sets k=true:=by
 unfold fA;rw[List.any_eq_true];exact⟨m,by rw[List.mem_range'_1]; omega,hb⟩
theorem afe (w:World) (F:Ag) (u:Value) (g:Gm) (hg:AA w F u g) (hsm:Small g) :
  Calls Tryz.prog 91 #[u] w (Ret w fun v _=>v = .int .i64 (dP g)):=by
 have HG:=Ac hg;obtain⟨vn,vi,rfl,⟨A,c,rfl,hc,hN⟩,⟨Ai,ci,rfl,hci,hI⟩⟩:=hg;have HN:=Ac hN; have HI:=Ac hI; clear hN hI;have hn:=hsm.nodes;have hni:=hsm.infos;have HS:=Ac hsm; clear hsm;by_cases q0:g.ak < 1
 ·have HF:=Ac (show dP g=2 by unfold dP; rw[if_pos (by unfold iL; omega)]);go_enter Tryz.func91,Tryz.ntmps91;go_wp2
  go_ret;exact⟨_,rfl,(Below.refl _ _).alloc (Nat.le_refl _) _,by rw[HF.out]; rfl⟩
 have d0:decide (g.ak < 1)=false:=decide_eq_false (by omega);by_cases q1:4 < g.ak
 ·have HF:=Ac (show dP g=2 by unfold dP; rw[if_pos (by unfold iL; omega)]);go_enter Tryz.func91,Tryz.ntmps91;go_wp2
  go_ret;exact⟨_,rfl,(Below.refl _ _).alloc (Nat.le_refl _) _,by rw[HF.out]; rfl⟩
 have d1:decide ((4:Int) < g.ak)=false:=decide_eq_false (by omega);by_cases q2:g.nodes.length < 1
 ·have HF:=Ac (show dP g=2 by unfold dP; rw[if_pos (by unfold iL; omega)]);go_enter Tryz.func91,Tryz.ntmps91;go_wp2
  go_ret;exact⟨_,rfl,(Below.refl _ _).alloc (Nat.le_refl _) _,by rw[HF.out]; rfl⟩
 have d2:decide ((g.nodes.length:Int) < 1)=false:=decide_eq_false (by omega);have HV:=Ac (show dP g=if cZ g.ak g.infos.length g.nodes≠0 then cZ g.ak g.infos.length g.nodes
   else if (bI g.nodes (g.nodes.length+1) 0 0 0).1≠g.nodes.length then 9 else if 40 < (bI g.nodes (g.nodes.length+1) 0 0 0).2 then 5 else kH g by
  unfold dP; rw[if_neg (by unfold iL; omega)])
 obtain⟨b,o,rfl,hbF,hb,hcell⟩:=HN.out (by omega);have HC:=Ac hcell; clear hcell;go_enter Tryz.func91,Tryz.ntmps91;go_wp2
 go_loopw [3] (fun i wr=>∃ k:Nat,k≤g.nodes.length∧i = .int .i64 k∧Row wr w.heap.size 25 [.int .i64 g.ak,.slice (some ⟨b,o,none⟩) g.nodes.length c,.slice Ai g.infos.length ci]∧Below w.heap.size w wr∧cZ g.ak g.infos.length g.nodes=cZ g.ak g.infos.length (g.nodes.drop k)) (fun i _=>g.nodes.length - (intOf i).toNat)
 case atStart=>exact⟨0,by omega,rfl,Row.new w _ _,(Below.refl _ _).alloc (Nat.le_refl _) _,rfl⟩
 case round =>
  obtain⟨k,hk,rfl,hbx,hbel,hval⟩:=hrel;have HV1:=Ac hval; clear hval;have x0:=hbx.cell (i:=0) rfl;have x1:=hbx.cell (i:=1) rfl;have x2:=hbx.cell (i:=2) rfl;have hold:=aI hbel;by_cases hlt:k < g.nodes.length
  ·obtain⟨x,hx⟩:=ay hlt;obtain⟨e0,e1,e2,⟨v3,e3,i3⟩,⟨v4,e4,i4⟩,⟨v5,e5,i5⟩⟩:=HC.out k x hx;have V:=Ac (show AX w F _ x from⟨v3,v4,v5,rfl,i3,i4,i5⟩);clear i3 i4 i5;have M:=List.mem_of_getElem? hx;have L:x.next.length < 1000000∧x.weights.length < 1000000∧x.pay.length < 1000000:=⟨by have:=HS.out.next x M; omega,by have:=HS.out.weights x M; omega,by have:=HS.out.pay x M; omega⟩;have HL:=Ac L; clear L M;have HV2:=Ac (HV1.out.trans (sK hx)); clear hx;have hbw:b < wr.heap.size:=by have:=hbel.size; omega
   have hBw:w.heap.size < wr.heap.size:=hbx.lt;go_wp2
   refine wp_region_held_drew (S:=fun w'=>∀ b o,b < wr.heap.size→w'.cell? ⟨b,o,none⟩=wr.cell? ⟨b,o,none⟩) (by kernel_rfl) (fun _ _ _=>rfl) (fun hHeld=>?_);refine tk0 [0,1,2,3,4,5] ?_;iterate 6 (refine tk (v:=?_) rfl (by kernel_rfl) (by kernel_rfl) (by kernel_rfl) (fun _ _ _ h=>h) (Or.inl ⟨by rfl,?_⟩) hHeld ?_;rotate_left;(focus intro wx hSx;(try dsimp only at hSx);go_split_ands;go_simp;try with_reducible rfl);try simp only[Act.put,lq1,lq2,lq3,lq4,lq5,lq6])
   refine tk1 ?_;refine tk2 6 (by kernel_rfl) rfl fun K hK=>?_
   go_simp;refine(af9 _ F _ _ g x (HG.out.on (Below.same' hbel.drew F)) (V.out.on (Below.same' hbel.drew F)) HL.out (by omega)).mono ?_;rintro e w1 ⟨_,rfl,hb1,rfl⟩;have hb1':Below wr.heap.size wr w1:=(Below.refl _ _).drew.trans hb1;dsimp only;refine hK.out _ _ (aI hb1') (fun hHeld=>?_);clear hK K;try simp only[Act.put,lq1,lq2,lq3,lq4,lq5,lq6]
   refine tk0 [7] ?_;(refine tk (v:=?_) rfl (by kernel_rfl) (by kernel_rfl) (by kernel_rfl) (fun _ _ _ h=>h) (Or.inl ⟨by rfl,?_⟩) hHeld ?_;rotate_left;(focus intro wx hSx;(try dsimp only at hSx);go_split_ands;go_simp;try with_reducible rfl);try simp only[Act.put,lq1,lq2,lq3,lq4,lq5,lq6])
   refine tk1 ?_;refine wpAnyH_done (by kernel_rfl) ?_ _;generalize aN g.ak g.infos.length x=er at *;by_cases he:er=0
   ·subst he;go_wp2
    go_roundw
    case rel =>
     refine⟨k+1,by omega,by go_num,hbx.below hb1' hbx.lt,hbel.trans (hb1'.mono hbel.size),?_⟩;rw[HV2.out]; simp
    case measure=>simp[intOf]; omega
   ·have hd:(er != 0)=true:=by simp[he]
    have HF:=Ac (show dP g=er by rw[HV.out,HV2.out]; simp[he]);clear he;go_wp2
    go_ret;exact⟨_,rfl,hbel.trans (hb1'.mono hbel.size),by rw[HF.out]; rfl⟩
  ·have HNE:=Ac (show cZ g.ak g.infos.length g.nodes=0 by
    rw[HV1.out,List.drop_eq_nil_of_le (by omega)]; rfl)
   go_wp2
   obtain⟨W,hW⟩:∃ W:World,W=wr.alloc (.cells #[.int .i64 0] 3):=⟨_,rfl⟩;rw[← hW];have hbd:Row W wr.heap.size 3 [.int .i64 0]:=by rw[hW]; exact Row.new wr _ _
   have hbx2:=hbx.alloc (.cells #[.int .i64 0] 3);rw[← hW] at hbx2;have hWb:Below w.heap.size w W:=by rw[hW]; exact hbel.alloc hbel.size _
   have hBw:w.heap.size < wr.heap.size:=hbx.lt;clear hW hbx x0 x1 x2 hold hbel;have hGW:AA W (fun b=>b≠wr.heap.size) _ g:=HG.out.keep (fun b _ hl=>by omega) (Below.same' hWb F);have HGW:=Ac hGW; clear hGW;have x0:=hbx2.cell (i:=0) rfl;have x1:=hbx2.cell (i:=1) rfl;have x2:=hbx2.cell (i:=2) rfl;refine wp_region_held_drew (S:=fun w'=>w'.cell? ⟨w.heap.size,0,none⟩=some (.int .i64 g.ak)∧w'.cell? ⟨w.heap.size,1,none⟩=some (.slice (some ⟨b,o,none⟩) g.nodes.length c)∧w'.cell? ⟨w.heap.size,2,none⟩=some (.slice Ai g.infos.length ci)) (by kernel_rfl) ⟨x0,x1,x2⟩ (fun hHeld=>?_);refine tk0 [0,2,3,4] ?_;iterate 4 (refine tk (v:=?_) rfl (by kernel_rfl) (by kernel_rfl) (by kernel_rfl) (fun _ _ _ h=>h) (Or.inl ⟨by rfl,?_⟩) hHeld ?_;rotate_left;(focus intro wx hSx;(try dsimp only at hSx);go_split_ands;go_simp;try with_reducible rfl);try simp only[Act.put,lq1,lq2,lq3,lq4,lq5,lq6])
   refine tk1 ?_;refine tk2 1 (by kernel_rfl) rfl fun K hK=>?_
   go_simp;refine(aeN g HS.out (g.nodes.length+1) 0 0 0 W.drew wr.heap.size _ (HGW.out.on (Same.drewN _ W 1)) hbd.drew (by omega) (by omega) (by omega) (by omega) (by omega)).mono ?_;rintro e w1 ⟨rfl,hrw,hgr⟩;have dL:Row w1 w.heap.size _ _:=hbx2.drew.of_block (hgr.block _ (by have:=hbx2.lt; simpa using this) (by simp; omega));have hb1:Below w.heap.size w w1:=hWb.drew.grown hgr (by have:=hWb.size; simpa using this) (fun k hk=>by simp at hk; omega);dsimp only;refine hK.out _ _ ⟨dL.cell rfl,dL.cell rfl,dL.cell rfl⟩ (fun hHeld=>?_);clear hK K;try simp only[Act.put,lq1,lq2,lq3,lq4,lq5,lq6]
   refine tk0 [5] ?_;(refine tk (v:=?_) rfl (by kernel_rfl) (by kernel_rfl) (by kernel_rfl) (fun _ _ _ h=>h) (Or.inl ⟨by rfl,?_⟩) hHeld ?_;rotate_left;(focus intro wx hSx;(try dsimp only at hSx);go_split_ands;go_simp;try with_reducible rfl);try simp only[Act.put,lq1,lq2,lq3,lq4,lq5,lq6])
   refine tk1 ?_;refine wpAnyH_done (by kernel_rfl) ?_ _;have hdd:=oZ g.nodes 1000 (g.nodes.length+1) 0 0 0 (by omega) (by omega) (by omega);have HV2:=Ac (HV.out.trans (by rw[HNE.out]; simp only[ne_eq,not_true_eq_false,↓reduceIte]):dP g=if (bI g.nodes (g.nodes.length+1) 0 0 0).1≠g.nodes.length then 9 else if 40 < (bI g.nodes (g.nodes.length+1) 0 0 0).2 then 5 else kH g);generalize bI g.nodes (g.nodes.length+1) 0 0 0=rr at *;obtain⟨rn,rd⟩:=rr;dsimp only at hrw hdd HV2;clear hbd hbx2 x0 x1 x2 hWb hgr hHeld HGW;by_cases he:rn=(g.nodes.length:Int)
   case neg =>
    have hd:(rn != (g.nodes.length:Int))=true:=by simp[he]
    have HF:=Ac (show dP g=9 by rw[HV2.out,if_pos he]);clear he;go_wp2
    go_ret;exact⟨_,rfl,hb1,by rw[HF.out]; rfl⟩
   have hd:(rn != (g.nodes.length:Int))=false:=by simp[he]
   have HRN:=Ac he; clear he;have y0:=hrw.cell (i:=0) rfl;by_cases h40:40 < rd
   ·have HF:=Ac (show dP g=5 by rw[HV2.out,if_neg (by simpa using HRN.out),if_pos h40]);go_wp2
    go_ret;exact⟨_,rfl,hb1,by rw[HF.out]; rfl⟩
   have HV3:=Ac (show dP g=kH g by rw[HV2.out,if_neg (by simpa using HRN.out),if_neg h40]);have x1:=dL.cell (i:=1) rfl;go_wp2
   clear hrw y0 x1 hdd;go_loopw [6] (fun i wi=>∃ k:Nat,k≤g.nodes.length∧i = .int .i64 k∧(g.nodes.take k).any (dF g.infos)=false∧Row wi w.heap.size 25 [.int .i64 g.ak,.slice (some ⟨b,o,none⟩) g.nodes.length c,.slice Ai g.infos.length ci]∧Below w.heap.size w wi) (fun i _=>g.nodes.length - (intOf i).toNat)
   case atStart=>exact⟨0,by omega,rfl,rfl,dL,hb1⟩
   case round =>
    clear dL hb1;obtain⟨k2,hk2,rfl,hpre,hbx,hbel⟩:=hrel;have HP:=Ac hpre; clear hpre;have x0:=hbx.cell (i:=0) rfl;have x1:=hbx.cell (i:=1) rfl;have x2:=hbx.cell (i:=2) rfl;have hold:=aI hbel;have hBw:w.heap.size < wr.heap.size:=hbx.lt;by_cases hlt2:k2 < g.nodes.length
    ·obtain⟨x,hx⟩:=ay hlt2;obtain⟨e0,e1,e2,⟨v3,e3,A3,c3,rfl,hc3,i3⟩,⟨v4,e4,A4,c4,rfl,hc4,i4⟩,⟨v5,e5,A5,c5,rfl,hc5,i5⟩⟩:=HC.out k2 x hx;clear i3 i4 i5;have hl3:=HS.out.next x (List.mem_of_getElem? hx);have HX:=Ac hx;have BAD:=Ac (show dF g.infos x=true→dP g=10 by
      intro h;have:pR g=true:=List.any_eq_true.2 ⟨x,List.mem_of_getElem? HX.out,h⟩;rw[HV3.out]; unfold kH; rw[this]; rfl)
     have HII:=Ac (nC HNE.out x (List.mem_of_getElem? hx));clear hx;by_cases hkd:x.kind=2
     ·obtain⟨hin0,hin1⟩:=HII.out hkd;have hd2:(x.kind==2)=true:=by simp[hkd]
      obtain⟨bi,oi,rfl,_,hbi,hxi⟩:=HI.out (by omega);obtain⟨inf,pJ⟩:=ay (l:=g.infos) (k:=x.info.toNat) (by omega);obtain⟨c0,c1⟩:=hxi _ inf pJ;have HT:=Ac (show dF g.infos x=(decide (inf.aH≠x.aH)||decide (inf.actions≠(x.next.length:Int))) by
       unfold dF; simp[hkd,List.getD_eq_getElem?_getD,pJ])
      have hbiw:bi < wr.heap.size:=by have:=hbel.size; omega
      clear pJ hxi hkd;by_cases p1:inf.aH=x.aH
      ·have f1:(inf.aH != x.aH)=false:=neF p1;by_cases p2:inf.actions=(x.next.length:Int)
       ·have f2:(inf.actions != (x.next.length:Int))=false:=neF p2;have HF:=Ac (show dF g.infos x=false by rw[HT.out]; simp[p1,p2]);clear p1 p2;go_wp2
        go_quiet (fail)
        go_wp2
        go_roundw
        case rel=>exact⟨k2+1,by omega,by go_num,iO HX.out HP.out HF.out,(hbx.alloc _).dN _,aC (hbel.alloc hbel.size _) _⟩
        case measure=>simp[intOf]; omega
       ·have f2:(inf.actions != (x.next.length:Int))=true:=neT p2;have HF:=Ac (BAD.out (by rw[HT.out]; simp[p2]));clear p1 p2;go_wp2
        go_quiet (fail)
        go_wp2
        go_ret;exact⟨_,rfl,aC (hbel.alloc hbel.size _) _,by rw[HF.out]; rfl⟩
      ·have f1:(inf.aH != x.aH)=true:=neT p1;have HF:=Ac (BAD.out (by rw[HT.out]; simp[p1]));clear p1;go_wp2
       go_quiet (fail)
       go_wp2
       go_ret;exact⟨_,rfl,aC (hbel.alloc hbel.size _) _,by rw[HF.out]; rfl⟩
     ·have hd2:(x.kind==2)=false:=by simp[hkd]
      have HF:=Ac (show dF g.infos x=false by unfold dF; simp[hkd]);clear hkd;go_wp2
      go_quiet (fail)
      go_wp2
      go_roundw
      case rel=>exact⟨k2+1,by omega,by go_num,iO HX.out HP.out HF.out,(hbx.alloc _).dN _,aC (hbel.alloc hbel.size _) _⟩
      case measure=>simp[intOf]; omega
    ·have HTB:=Ac (show pR g=false by
      have:=HP.out; rw[List.take_of_length_le (by omega)] at this; exact this)
     go_wp2_with fail
     refine(adE _ F _ g (HG.out.on (Below.same' hbel F)) HS.out (nC HNE.out)).mono ?_;rintro e w2 ⟨vss,rfl,hb2,hse⟩;have hB2:Below w.heap.size w w2:=hbel.trans (hb2.mono hbel.size);have HV4:=Ac (show dP g=if lY (mM g) then 18 else if fA (mM g) g.infos.length then 9 else 0 by
      rw[HV3.out]; unfold kH; rw[HTB.out]; rfl)
     have hsl:(mM g).length=g.infos.length:=fP _ _ _;have hsle:∀ l∈mM g,l.length≤g.nodes.length:=yD;generalize mM g=sets at *;obtain⟨As,cs,rfl,hcs,hS⟩:=hse;have HSE:=Ac hS; clear hS;have HSLE:=Ac hsle; clear hsle;have HSL:=Ac hsl; have hsl0:sets.length≤100:=by omega
     clear hsl hbx x0 x1 x2 hold hbel hb2;dsimp only;go_wp2
     go_loop [9] (fun i=>∃ k:Nat,k≤sets.length∧i = .int .i64 k∧lY (sets.take k)=false) (fun i=>sets.length - (intOf i).toNat)
     case atStart=>exact⟨0,by omega,rfl,rfl⟩
     case round =>
      obtain⟨k3,hk3,rfl,hpre⟩:=hrel;have HP3:=Ac hpre; clear hpre;by_cases hlt3:k3 < sets.length
      ·obtain⟨bs,os,rfl,_,hbs,hxs⟩:=HSE.out (by omega);obtain⟨l,hl⟩:=ay hlt3;obtain⟨vl,el,Al,cl,rfl,hcl,hLl⟩:=hxs k3 l hl;rw[Nat.mul_one] at el;have HX:=Ac hl;have hll:=HSLE.out l (List.mem_of_getElem? hl);clear hl hxs hLl;by_cases hz:l.length=0
       ·have hd:((l.length:Int)==0)=true:=eqT (by omega);have HF:=Ac (show dP g=18 by
         have:lY sets=true:=List.any_eq_true.2 ⟨l,List.mem_of_getElem? HX.out,by simp; exact List.eq_nil_of_length_eq_zero hz⟩;rw[HV4.out,this]; rfl)
        clear hz;go_wp2
        go_ret;exact⟨_,rfl,hB2,by rw[HF.out]; rfl⟩
       ·have hd:((l.length:Int)==0)=false:=eqF (by omega);go_wp2
        go_round
        case rel=>exact⟨k3+1,by omega,by go_num,iO HX.out HP3.out (by simp; intro h; rw[h] at hz; simp at hz)⟩
        case measure=>simp[intOf]; omega
      ·have HNB:=Ac (show lY sets=false by
        have:=HP3.out; rw[List.take_of_length_le (by omega)] at this; exact this)
       have HNZ:=Ac (show ∀ l∈sets,0 < l.length by
        intro l hl;have:=List.any_eq_false.1 HNB.out l hl;simp at this;exact List.length_pos_iff.2 this)
       go_wp2
       go_loopw [10] (fun i wi=>∃ m n:Nat,1≤m∧(m≤sets.length∨m=1)∧i = .int .i64 m∧fA sets m=false∧wi=w2.drewN n) (fun i _=>sets.length - (intOf i).toNat)
       case atStart=>exact⟨1,0,by omega,.inr rfl,rfl,rfl,rfl⟩
       case round =>
        obtain⟨m,nd,hm1,hm,rfl,hpre,rfl⟩:=hrel;have HPM:=Ac hpre; clear hpre;by_cases hmt:m < sets.length
        ·obtain⟨bs,os,rfl,_,hbs,hxs⟩:=HSE.out (by omega);obtain⟨l,hl⟩:=ay hmt;obtain⟨vl,el,Al,cl,rfl,hcl,hLl⟩:=hxs m l hl;obtain⟨l',hl'⟩:=ay (l:=sets) (k:=m - 1) (by omega);obtain⟨vl',el',Al',cl',rfl,hcl',hLl'⟩:=hxs (m - 1) l' hl';have p0:=HNZ.out l (List.mem_of_getElem? hl);have p1:=HNZ.out l' (List.mem_of_getElem? hl');obtain⟨bl,ol,rfl,_,hbl,hxl⟩:=hLl p0;obtain⟨bl',ol',rfl,_,aff,hxl'⟩:=hLl' p1;obtain⟨x,hx⟩:=ay p0;obtain⟨y,hy⟩:=ay p1;have ex:=hxl 0 x hx;have ey:=hxl' 0 y hy;unfold jv at ex ey;simp only[Nat.zero_mul,Nat.add_zero] at ex ey;rw[Nat.mul_one] at el el';have HAT:=Ac (show jQ sets m=decide (x < y) by
          unfold jQ; simp[List.getD_eq_getElem?_getD,hl,hl',hx,hy])
         clear hl hl' hx hy hxl hxl' hLl hLl' hxs;have hmd:m - 1 < sets.length:=by omega
         by_cases q:x < y
         ·have HF:=Ac (show dP g=9 by
           rw[HV4.out,HNB.out];have:=aac hm1 hmt (by rw[HAT.out]; simp[q]);rw[← HSL.out,this]; rfl)
          go_wp2
          have hw1:IntKind.i64.wrap ((m:Int) - 1)=((m - 1:Nat):Int):=by rw[IntWalk.i64_in _ (by omega)]; omega
          go_quiet (fail)
          go_wp2
          go_ret;exact⟨_,rfl,aC (aC hB2 _) _,by rw[HF.out]; rfl⟩
         ·have hq:decide (x < y)=false:=decide_eq_false q;go_wp2
          have hw1:IntKind.i64.wrap ((m:Int) - 1)=((m - 1:Nat):Int):=by rw[IntWalk.i64_in _ (by omega)]; omega
          go_quiet (fail)
          clear hw1;go_wp2
          go_roundw
          case rel=>exact⟨m+1,nd+nq,by omega,.inl (by omega),by go_num,by rw[xJ _ _ hm1,HPM.out,HAT.out,hq]; rfl,rfl⟩
          case measure=>simp[intOf]; omega
        ·go_wp2
         go_ret;refine⟨_,rfl,aC hB2 _,?_⟩;have:dP g=0:=by
          rw[HV4.out,HNB.out];have h1:=HPM.out;have h2:=HSL.out;rcases hm with hm | hm
          ·have:m=sets.length:=by omega
           rw[← h2,← this,h1]; rfl
          ·subst hm;have:fA sets g.infos.length=false:=by
            unfold fA; rw[show g.infos.length - 1=0 by omega]; rfl
           rw[this]; rfl
         rw[this]; rfl
inductive Span (nodes:List Nd):List Int→Nat→Nat→Prop
 | nil (a:Nat):Span nodes [] a a
 | cons {a m b:Nat} {n:Nd} {cs:List Int}:nodes[a]? = some n→Span nodes n.next (a+1) m→Span nodes cs m b→Span nodes ((a:Int) :: cs) a b
theorem Span.le {nodes:List Nd} {cs:List Int} {a b:Nat} (h:Span nodes cs a b):a≤b:=by
 induction h with
 | nil a=>exact Nat.le_refl _
 | cons _ _ _ ih1 ih2=>omega
theorem Span.bound {nodes:List Nd} {cs:List Int} {a b:Nat} (h:Span nodes cs a b) (ha:a≤nodes.length):b≤nodes.length:=by
 induction h with
 | nil a=>exact ha
 | cons hn _ _ ih1 ih2=>exact ih2 (ih1 (aG hn))
theorem Span.mem {nodes:List Nd} {cs:List Int} {a b:Nat} (h:Span nodes cs a b):∀ c∈cs,(a:Int)≤c∧c < b:=by
 induction h with
 | nil a=>intro c hc; cases hc
 | cons hn h1 h2 ih1 ih2 =>
  intro c hc;have l1:=h1.le;have l2:=h2.le;rcases List.mem_cons.1 hc with rfl | hc
  ·omega
  ·have:=ih2 c hc; omega
theorem Span.kids {nodes:List Nd} {cs:List Int} {a b:Nat} (h:Span nodes cs a b):∀ p n,a≤p→p < b→nodes[p]? = some n→∀ c∈n.next,(p:Int) < c∧c < b:=by
 induction h with
 | nil a=>intro p n h1 h2; omega
 | @cons a m b n cs hn h1 h2 ih1 ih2 =>
  intro p n' ha hb hp c hc;have l1:=h1.le;have l2:=h2.le;by_cases e:p=a
  ·subst e;rw[hn] at hp; cases hp;have:=h1.mem c hc;omega
  ·by_cases hm:p < m
   ·have:=ih1 p n' (by omega) hm hp c hc; omega
   ·exact ih2 p n' (by omega) hb hp c hc
theorem Span.parent {nodes:List Nd} {cs:List Int} {a b:Nat} (h:Span nodes cs a b):∀ j:Nat,a≤j→j < b→(j:Int)∈cs∨∃ p n,a≤p∧p < j∧nodes[p]? = some n∧(j:Int)∈n.next:=by
 induction h with
 | nil a=>intro j h1 h2; omega
 | @cons a m b n cs hn h1 h2 ih1 ih2 =>
  intro j ha hb;by_cases e:j=a
  ·subst e; exact .inl (by simp)
  ·by_cases hm:j < m
   ·rcases ih1 j (by omega) hm with h | ⟨p,n',hp1,hp2,hp3,hp4⟩
    ·exact .inr ⟨a,n,Nat.le_refl _,by omega,hn,h⟩
    ·exact .inr ⟨p,n',by omega,hp2,hp3,hp4⟩
   ·rcases ih2 j (by omega) hb with h | ⟨p,n',hp1,hp2,hp3,hp4⟩
    ·exact .inl (by simp[h])
    ·have:=h1.le;exact .inr ⟨p,n',by omega,hp2,hp3,hp4⟩
theorem Span.once {nodes:List Nd} {cs:List Int} {a b:Nat} (h:Span nodes cs a b):(∀ c∈cs,∀ p n,a≤p→p < b→nodes[p]? = some n→c ∉ n.next) ∧
  (∀ c p q n n',a≤p→p < b→a≤q→q < b→nodes[p]? = some n→nodes[q]? = some n'→c∈n.next→c∈n'.next→p=q):=by
 induction h with
 | nil a=>exact⟨(fun c hc=>(by cases hc)),(fun c p q n n' h1 h2=>(by omega))⟩
 | @cons a m b n cs hn h1 h2 ih1 ih2 =>
  have l1:=h1.le;have l2:=h2.le;have k1:=h1.kids;have k2:=h2.kids;have m1:=h1.mem;have m2:=h2.mem;constructor
  ·intro c hc p n' hp1 hp2 hp3 hp4;rcases List.mem_cons.1 hc with rfl | hc'
   ·by_cases e:p=a
    ·subst e; rw[hn] at hp3; cases hp3; have:=m1 _ hp4; omega
    ·by_cases hm:p < m
     ·have:=k1 p n' (by omega) hm hp3 _ hp4; omega
     ·have:=k2 p n' (by omega) hp2 hp3 _ hp4; omega
   ·by_cases e:p=a
    ·subst e; rw[hn] at hp3; cases hp3; have:=m1 _ hp4; have:=m2 _ hc'; omega
    ·by_cases hm:p < m
     ·have:=k1 p n' (by omega) hm hp3 _ hp4; have:=m2 _ hc'; omega
     ·exact ih2.1 c hc' p n' (by omega) hp2 hp3 hp4
  ·have key:∀ c p q n1 n2,a≤p→p < q→q < b→nodes[p]? = some n1→nodes[q]? = some n2→c∈n1.next→c∈n2.next→False:=by
    intro c p q n1 n2 hp1 hpq hq hn1 hn2 hc1 hc2;by_cases e:p=a
    ·subst e; rw[hn] at hn1; cases hn1;by_cases hm:q < m
     ·exact ih1.1 c hc1 q n2 (by omega) hm hn2 hc2
     ·have:=m1 c hc1; have:=k2 q n2 (by omega) hq hn2 c hc2; omega
    ·by_cases hm:q < m
     ·have:=ih1.2 c p q n1 n2 (by omega) (by omega) (by omega) hm hn1 hn2 hc1 hc2; omega
     ·by_cases hmp:p < m
      ·have:=k1 p n1 (by omega) hmp hn1 c hc1; have:=k2 q n2 (by omega) hq hn2 c hc2; omega
      ·have:=ih2.2 c p q n1 n2 (by omega) (by omega) (by omega) hq hn1 hn2 hc1 hc2; omega
   intro c p q n1 n2 hp1 hp2 hq1 hq2 hn1 hn2 hc1 hc2;rcases Nat.lt_trichotomy p q with h | h | h
   ·exact(key c p q n1 n2 hp1 h hq2 hn1 hn2 hc1 hc2).elim
   ·exact h
   ·exact(key c q p n2 n1 hq1 h hp2 hn2 hn1 hc2 hc1).elim
theorem Span.sub {nodes:List Nd} {cs:List Int} {a b:Nat} (h:Span nodes cs a b):∀ i:Nat,a≤i→i < b→∃ e,Span nodes [(i:Int)] i e∧i < e∧e≤b:=by
 induction h with
 | nil a=>intro i h1 h2; omega
 | @cons a m b n cs hn h1 h2 ih1 ih2 =>
  intro i ha hb;have l1:=h1.le;have l2:=h2.le;by_cases e:i=a
  ·subst e; exact⟨m,.cons hn h1 (.nil m),by omega,by omega⟩
  ·by_cases hm:i < m
   ·obtain⟨e,h,h3,h4⟩:=ih1 i (by omega) hm; exact⟨e,h,h3,by omega⟩
   ·obtain⟨e,h,h3,h4⟩:=ih2 i (by omega) hb; exact⟨e,h,h3,h4⟩
theorem Span.unique {nodes:List Nd} {cs:List Int} {a b:Nat} (h:Span nodes cs a b):∀ {b'},Span nodes cs a b'→b=b':=by
 induction h with
 | nil a=>intro b' h; cases h; rfl
 | cons hn h1 h2 ih1 ih2 =>
  intro b' h;generalize hx:((_:Int) :: _)=l at h;cases h with
  | nil=>cases hx
  | cons hn' h1' h2' =>
   injection hx with e1 e2
   rw[hn] at hn'; cases hn';have:=ih1 h1';subst this;subst e2;exact ih2 h2'
theorem sN {nodes:List Nd} {rec:Nat→Int→Int×Int} (hrec:∀ a d,(rec a d).1≠-1→∃ b:Nat,(rec a d).1=b∧Span nodes [(a:Int)] a b) :
  ∀ (cs:List Int) (x:Nat) (deep:Int),(bW rec cs x deep).1≠-1→∃ b:Nat,(bW rec cs x deep).1=b∧Span nodes cs x b
 | [],x,deep,_=>⟨x,rfl,.nil x⟩
 | c :: cs,x,deep,h=>by
  unfold bW at h ⊢;by_cases hc:c=x
  ·subst hc;simp only[ne_eq,not_true_eq_false,↓reduceIte,Int.toNat_natCast] at h ⊢;by_cases hng:(rec x deep).1 < 0
   ·rw[if_pos hng] at h; exact absurd rfl h
   ·rw[if_neg hng] at h ⊢;obtain⟨m,hm,hs⟩:=hrec x deep (by omega);rw[hm] at h ⊢;obtain⟨b,hb,hs2⟩:=sN hrec cs m _ h;refine⟨b,hb,?_⟩;generalize hl:[(x:Int)]=l at hs;cases hs with
    | nil=>cases hl
    | cons hn h1 h2 =>
     injection hl with e1 e2
     subst e2;cases h2
     exact .cons hn h1 hs2
  ·rw[if_pos hc] at h; exact absurd rfl h
theorem yU (nodes:List Nd):∀ (f a:Nat) (depth deep:Int),(bI nodes f a depth deep).1≠-1→∃ b:Nat,(bI nodes f a depth deep).1=b∧Span nodes [(a:Int)] a b
 | 0,_,_,_,h=>absurd rfl h
 | f+1,a,depth,deep,h=>by
  unfold bI at h ⊢;cases hn:nodes[a]? with
  | none=>rw[hn] at h; exact absurd rfl h
  | some n =>
   rw[hn] at h;simp only at h ⊢;have:=sN (nodes:=nodes) (rec:=fun a d=>bI nodes f a (depth+1) d) (fun a' d h'=>yU nodes f a' (depth+1) d h') n.next (a+1) (max deep depth) h;obtain⟨b,hb,hs⟩:=this;exact⟨b,hb,.cons hn hs (.nil b)⟩
structure Good (g:Gm):Prop where
 pos:0 < g.nodes.length
 span:Span g.nodes [(0:Int)] 0 g.nodes.length
 infos:BF g
theorem abm {g:Gm} (h:dP g=0):Good g:=by
 unfold dP at h;split at h
 ·omega
 ·rename_i h1
  split at h
  ·rename_i h2; exact absurd h h2
  ·rename_i h2
   split at h
   ·omega
   ·rename_i h3
    have hp:0 < g.nodes.length:=by unfold iL at h1; omega
    have h3':(bI g.nodes (g.nodes.length+1) 0 0 0).1=(g.nodes.length:Int):=by simpa using h3
    obtain⟨b,hb,hs⟩:=yU g.nodes (g.nodes.length+1) 0 0 0 (by omega);have:b=g.nodes.length:=by omega
    subst this;exact⟨hp,hs,nC (by simpa using h2)⟩
theorem Good.kidsIn {g:Gm} (h:Good g):Dp g.nodes:=by
 intro n hn c hc;obtain⟨i,hi⟩:=List.getElem?_of_mem hn;have:=h.span.kids i n (Nat.zero_le _) (aG hi) hi c hc;omega
def Kid (nodes:List Nd) (i k c:Nat):Prop:=∃ n,nodes[i]? = some n∧n.next[k]? = some (c:Int)
theorem Span.inj {nodes:List Nd} {cs:List Int} {a b:Nat} (h:Span nodes cs a b):∀ (k k':Nat) (c:Int),cs[k]? = some c→cs[k']? = some c→k=k':=by
 induction h with
 | nil a=>intro k k' c h1; simp at h1
 | @cons a m b n cs hn h1 h2 ih1 ih2 =>
  intro k k' c hk hk';have l1:=h1.le;have m2:=h2.mem;cases k with
  | zero =>
   cases k' with
   | zero=>rfl
   | succ k' =>
    simp at hk hk';have:=m2 c (List.mem_of_getElem? hk');omega
  | succ k =>
   cases k' with
   | zero =>
    simp at hk hk';have:=m2 c (List.mem_of_getElem? hk);omega
   | succ k' =>
    simp at hk hk';rw[ih2 k k' c hk hk']
theorem Span.ahz {nodes:List Nd} {cs:List Int} {a b:Nat} (h:Span nodes cs a b):∀ p n,a≤p→p < b→nodes[p]? = some n→∃ e,Span nodes n.next (p+1) e∧e≤b:=by
 intro p n ha hb hn;obtain⟨e,hs,h1,h2⟩:=h.sub p ha hb;generalize hl:[(p:Int)]=l at hs;cases hs with
 | nil=>cases hl
 | cons hn' h3 h4 =>
  injection hl with e1 e2
  subst e2;rw[hn] at hn'; cases hn';cases h4
  exact⟨e,h3,h2⟩
theorem Good.qM {g:Gm} (h:Good g) {i k c:Nat} (hk:Kid g.nodes i k c):i < c∧c < g.nodes.length∧i < g.nodes.length:=by
 obtain⟨n,hn,hc⟩:=hk;have hl:=aG hn;have:=h.span.kids i n (Nat.zero_le _) hl hn c (List.mem_of_getElem? hc);omega
theorem Good.abn {g:Gm} (h:Good g) {i k i' k' c:Nat} (h1:Kid g.nodes i k c) (h2:Kid g.nodes i' k' c):i=i'∧k=k':=by
 obtain⟨n,hn,hc⟩:=h1;obtain⟨n',hn',hc'⟩:=h2;have e:=h.span.once.2 c i i' n n' (Nat.zero_le _) (aG hn) (Nat.zero_le _) (aG hn') hn hn' (List.mem_of_getElem? hc) (List.mem_of_getElem? hc');subst e;rw[hn] at hn'; cases hn';obtain⟨e,hs,_⟩:=h.span.ahz i n (Nat.zero_le _) (aG hn) hn;exact⟨rfl,hs.inj k k' c hc hc'⟩
theorem Good.xU {g:Gm} (h:Good g) {c:Nat} (h0:0 < c) (hc:c < g.nodes.length):∃ i k,Kid g.nodes i k c:=by
 rcases h.span.parent c (Nat.zero_le _) hc with h | ⟨p,n,_,h1,h2,h3⟩
 ·simp at h; omega
 ·obtain⟨k,hk⟩:=List.getElem?_of_mem h3;exact⟨p,k,n,h2,hk⟩
theorem Good.aio {g:Gm} (h:Good g) {i k c:Nat} (hk:Kid g.nodes i k c):c≠0:=by
 have:=h.qM hk; omega
def upTo (nodes:List Nd) (c:Nat):Nat→Option (Nat×Nat)
 | 0=>none
 | i+1=>match (nodes[i]?).bind fun n=>n.next.findIdx? fun x=>decide (x=(c:Int)) with
  | some k=>some (i,k)
  | none=>upTo nodes c i
theorem adF {l:List Int} {c:Int} {k:Nat} (hinj:∀ (k k':Nat),l[k]? = some c→l[k']? = some c→k=k') (hk:l[k]? = some c):(l.findIdx? fun x=>decide (x=c))=some k:=by
 cases hf:l.findIdx? fun x=>decide (x=c) with
 | none =>
  rw[List.findIdx?_eq_none_iff] at hf;have:=hf c (List.mem_of_getElem? hk);simp at this
 | some k' =>
  rw[List.findIdx?_eq_some_iff_getElem] at hf;obtain⟨h1,h2,_⟩:=hf;have h3:=of_decide_eq_true h2;rw[hinj k' k (by rw[← h3]; simp) hk]
theorem acB {l:List Int} {c:Int} (h:c ∉ l):(l.findIdx? fun x=>decide (x=c))=none:=by
 rw[List.findIdx?_eq_none_iff];intro x hx;simp
 rintro rfl;exact h hx
theorem Good.aip {g:Gm} (h:Good g) {i k c:Nat} (hk:Kid g.nodes i k c):∀ j,i < j→j≤g.nodes.length→upTo g.nodes c j=some (i,k):=by
 intro j;induction j with
 | zero=>intro h1; omega
 | succ j ih =>
  intro h1 h2;obtain⟨n,hn⟩:=ay (l:=g.nodes) (k:=j) (by omega);unfold upTo;rw[hn,Option.bind_some];by_cases e:j=i
  ·subst e;have hk':=hk;obtain⟨n',hn',hc⟩:=hk';rw[hn] at hn'; cases hn';rw[adF (k:=k) (fun a b ha hb=>(h.abn ⟨n,hn,ha⟩ ⟨n,hn,hb⟩).2) hc]
  ·rw[acB (fun hm=>by
    obtain⟨k',hk'⟩:=List.getElem?_of_mem hm;exact e (h.abn ⟨n,hn,hk'⟩ hk).1)]
   exact ih (by omega) (by omega)
theorem Good.ai6 {g:Gm} (h:Good g):∀ j,j≤g.nodes.length→upTo g.nodes 0 j=none:=by
 intro j;induction j with
 | zero=>intro _; rfl
 | succ j ih =>
  intro h2;obtain⟨n,hn⟩:=ay (l:=g.nodes) (k:=j) (by omega);unfold upTo;rw[hn,Option.bind_some,acB (fun hm=>by
   obtain⟨k',hk'⟩:=List.getElem?_of_mem hm;exact h.aio ⟨n,hn,hk'⟩ rfl)]
  exact ih (by omega)
theorem ahA:rl 1=1:=by
 unfold rl; rw[show(1:Rat).num=1 from rfl,show(1:Rat).den=1 from rfl,show(1:Int).natAbs=1 from rfl,gK]; rfl
def oJ (l:List Int):Int:=l.foldl (· + ·) 0
theorem aaD (l:List Int) (x:Int):oJ (l ++ [x])=oJ l+x:=by unfold oJ; rw[List.foldl_append]; rfl
def bJ (m:List (List Rat)) (n:Nd):List Rat:=if n.kind=2 then m.getD n.info.toNat [] else n.weights.map fun x:Int=>(x:Rat) / ((oJ n.weights:Int):Rat)
def vZ (cnt:Nd→Bool) (nodes:List Nd) (m:List (List Rat)) (l:List Rat) (c:Nat):Rat :=
 match upTo nodes c c with
 | some (i,k)=>match nodes[i]? with
  | some n=>if cnt n then l.getD i 0*(bJ m n).getD k 0 else l.getD i 0
  | none=>1
 | none=>1
def kJ (cnt:Nd→Bool) (nodes:List Nd) (m:List (List Rat)):Nat→List Rat
 | 0=>[]
 | c+1=>kJ cnt nodes m c ++ [vZ cnt nodes m (kJ cnt nodes m c) c]
def dA (cnt:Nd→Bool) (nodes:List Nd) (m:List (List Rat)) (c:Nat):Rat:=(kJ cnt nodes m (c+1)).getD c 0
theorem iF (cnt:Nd→Bool) (nodes:List Nd) (m:List (List Rat)):∀ j,(kJ cnt nodes m j).length=j
 | 0=>rfl
 | j+1=>by unfold kJ; rw[List.length_append,iF cnt nodes m j]; rfl
theorem nU (cnt:Nd→Bool) (nodes:List Nd) (m:List (List Rat)) {c:Nat}:∀ {j},c < j→(kJ cnt nodes m j)[c]? = some (dA cnt nodes m c)
 | 0,h=>absurd h (by omega)
 | j+1,h=>by
  have hl:=iF cnt nodes m j;by_cases e:c=j
  ·subst e;have hl1:=iF cnt nodes m (c+1);obtain⟨x,hx⟩:=ay (l:=kJ cnt nodes m (c+1)) (k:=c) (by omega);unfold dA;rw[List.getD_eq_getElem?_getD,hx]; rfl
  ·unfold kJ;rw[List.getElem?_append_left (by omega)];exact nU cnt nodes m (by omega)
theorem ahW (cnt:Nd→Bool) (nodes:List Nd) (m:List (List Rat)) (j:Nat):kJ cnt nodes m j=(List.range j).map (dA cnt nodes m):=by
 apply List.ext_getElem?
 intro c;by_cases h:c < j
 ·rw[nU cnt nodes m h]; simp[h]
 ·rw[List.getElem?_eq_none (by rw[iF]; omega),List.getElem?_eq_none (by simp; omega)]
theorem afg (cnt:Nd→Bool) (nodes:List Nd) (m:List (List Rat)) (c:Nat):dA cnt nodes m c=vZ cnt nodes m (kJ cnt nodes m c) c:=by
 have h:=nU cnt nodes m (c:=c) (j:=c+1) (by omega);unfold kJ at h;rw[List.getElem?_append_right (by rw[iF]; omega),iF,Nat.sub_self] at h;simpa using h.symm
theorem acC (cnt:Nd→Bool) (nodes:List Nd) (m:List (List Rat)):dA cnt nodes m 0=1:=rfl
theorem uj {g:Gm} (hg:Good g) (cnt:Nd→Bool) (m:List (List Rat)) {i k c:Nat} {n:Nd} (hn:g.nodes[i]? = some n) (hc:n.next[k]? = some (c:Int)) :
  dA cnt g.nodes m c=if cnt n then dA cnt g.nodes m i*(bJ m n).getD k 0 else dA cnt g.nodes m i:=by
 have hk:Kid g.nodes i k c:=⟨n,hn,hc⟩;have hl:=hg.qM hk;rw[afg];unfold vZ;rw[hg.aip hk c hl.1 (by omega)];simp only[hn];rw[List.getD_eq_getElem?_getD,nU cnt g.nodes m hl.1]; rfl
theorem aaE {g:Gm} (hg:Good g) (cnt:Nd→Bool) (m:List (List Rat)) (hb:∀ n∈g.nodes,cnt n=true→∀ x∈bJ m n,rl x≤4):∀ c,c < g.nodes.length→rl (dA cnt g.nodes m c)≤1+4*c:=by
 intro c;induction c using Nat.strongRecOn with
 | _ c ih =>
  intro hc;by_cases h0:c=0
  ·subst h0; rw[acC]; rw[ahA]; omega
  ·obtain⟨i,k,n,hn,hk⟩:=hg.xU (Nat.pos_of_ne_zero h0) hc;have hl:=hg.qM ⟨n,hn,hk⟩;have h1:=ih i hl.1 hl.2.2;rw[uj hg cnt m hn hk];cases hcn:cnt n with
   | false=>simp only[Bool.false_eq_true,↓reduceIte]; omega
   | true =>
    simp only[↓reduceIte];have h2:=tq (dA cnt g.nodes m i) ((bJ m n).getD k 0);have h3:rl ((bJ m n).getD k 0)≤4:=by
     rw[List.getD_eq_getElem?_getD];cases hx:(bJ m n)[k]? with
     | none=>show rl 0≤4; rw[oV]; omega
     | some x=>exact hb n (List.mem_of_getElem? hn) hcn x (List.mem_of_getElem? hx)
    omega
def kW (acc:List Rat) (b:Rat) (x:List Rat):List Rat:=List.zipWith (fun a y=>a+b*y) acc x
def iZ (look:Nat→List Rat) (acc:List Rat) (l:List (Rat×Int)):List Rat:=l.foldl (fun acc bc=>kW acc bc.1 (look bc.2.toNat)) acc
def valOf (ak:Nat) (m:List (List Rat)) (n:Nd) (look:Nat→List Rat):List Rat :=
 if n.kind=3 then n.pay.map (fun x:Int=>(x:Rat)) else iZ look (List.replicate ak 0) ((bJ m n).zip n.next)
def yV (g:Gm) (m:List (List Rat)):Nat→List (List Rat)
 | 0=>[]
 | j+1=>(match g.nodes[g.nodes.length - 1 - j]? with
  | some n=>valOf g.ak.toNat m n (fun c=>(yV g m j).getD (c - (g.nodes.length - j)) [])
  | none=>[]) :: yV g m j
def bT (g:Gm) (m:List (List Rat)) (i:Nat):List Rat:=(yV g m (g.nodes.length - i)).headD []
theorem wu (g:Gm) (m:List (List Rat)):∀ (j i:Nat),j≤g.nodes.length→g.nodes.length - j≤i→i < g.nodes.length→(yV g m j)[i - (g.nodes.length - j)]? = some (bT g m i)
 | 0,i,_,h1,h2=>absurd h2 (by omega)
 | j+1,i,hj,h1,h2=>by
  by_cases e:i=g.nodes.length - (j+1)
  ·have e1:i - (g.nodes.length - (j+1))=0:=by omega
   have e2:g.nodes.length - i=j+1:=by omega
   rw[e1]; unfold bT; rw[e2]; unfold yV; rfl
  ·have e1:i - (g.nodes.length - (j+1))=(i - (g.nodes.length - j))+1:=by omega
   rw[e1]; unfold yV;rw[List.getElem?_cons_succ];exact wu g m j i (by omega) (by omega) h2
theorem wZ {look look':Nat→List Rat}:∀ {l:List (Rat×Int)} {acc:List Rat},(∀ bc∈l,look bc.2.toNat=look' bc.2.toNat)→iZ look acc l=iZ look' acc l
 | [],_,_=>rfl
 | bc :: l,acc,h=>by
  have h1:=h bc (List.mem_cons_self);have h2:=wZ (look:=look) (look':=look') (l:=l) (acc:=kW acc bc.1 (look bc.2.toNat)) (fun b hb=>h b (List.mem_cons_of_mem _ hb));show iZ look (kW acc bc.1 (look bc.2.toNat)) l=iZ look' (kW acc bc.1 (look' bc.2.toNat)) l;rw[h2,h1]
theorem adG (look:Nat→List Rat) (acc:List Rat) (l:List (Rat×Int)) (bc:Rat×Int):iZ look acc (l ++ [bc])=kW (iZ look acc l) bc.1 (look bc.2.toNat):=by unfold iZ; rw[List.foldl_append]; rfl
theorem nV {g:Gm} (hg:Good g) (m:List (List Rat)) {i:Nat} {n:Nd} (hn:g.nodes[i]? = some n):bT g m i=valOf g.ak.toNat m n (bT g m):=by
 have hl:=aG hn;have h1:=wu g m (g.nodes.length - i) i (by omega) (by omega) hl;obtain⟨j,hj⟩:∃ j,g.nodes.length - i=j+1:=⟨g.nodes.length - i - 1,by omega⟩;have e0:i - (g.nodes.length - (g.nodes.length - i))=0:=by omega
 rw[e0,hj] at h1;unfold yV at h1;have e1:g.nodes.length - 1 - j=i:=by omega
 rw[e1,hn,List.getElem?_cons_zero,Option.some.injEq] at h1;rw[← h1];show valOf _ m n _=valOf _ m n _;unfold valOf;by_cases hk:n.kind=3
 ·rw[if_pos hk,if_pos hk]
 ·rw[if_neg hk,if_neg hk];refine wZ fun bc hbc=>?_
  have hm:bc.2∈n.next:=(List.of_mem_zip (a:=bc.1) (b:=bc.2) hbc).2;have:=hg.span.kids i n (Nat.zero_le _) hl hn bc.2 hm;have h3:=wu g m j bc.2.toNat (by omega) (by omega) (by omega);rw[List.getD_eq_getElem?_getD,h3]; rfl
structure Fit (g:Gm) (m:List (List Rat)):Prop where
 good:Good g
 nodes:cZ g.ak g.infos.length g.nodes=0
 ak:1≤g.ak∧g.ak≤4
 rows:m.length=g.infos.length
 chan:∀ n∈g.nodes,n.kind≠3→(bJ m n).length=n.next.length∧∀ x∈bJ m n,rl x≤4
theorem acD {acc:List Rat} {b:Rat} {x:List Rat} {p:Nat} (h:acc.length=p) (h2:x.length=p):(kW acc b x).length=p:=by unfold kW; rw[List.length_zipWith]; omega
theorem kK {look:Nat→List Rat} {p:Nat}:∀ {l:List (Rat×Int)} {acc:List Rat},acc.length=p→(∀ bc∈l,(look bc.2.toNat).length=p)→(iZ look acc l).length=p
 | [],_,h,_=>h
 | bc :: l,acc,h,hl=>kK (l:=l) (acc:=kW acc bc.1 (look bc.2.toNat)) (acD h (hl bc (List.mem_cons_self))) (fun b hb=>hl b (List.mem_cons_of_mem _ hb))
theorem rJ {ak:Int} {ni:Nat} {nodes:List Nd} (h:cZ ak ni nodes=0) {n:Nd} (hn:n∈nodes) (hk:n.kind=3):(n.pay.length:Int)=ak∧(∀ x∈n.pay,-1000000≤x∧x≤1000000)∧n.next = []:=by
 have h1:=iC h n hn;unfold aN at h1;rw[if_neg (by omega),if_neg (by omega),if_pos hk] at h1;unfold gJ at h1;split at h1
 ·omega
 ·rename_i h2
  split at h1
  ·omega
  ·rename_i h3
   refine⟨by omega,fun x hx=>?_,List.eq_nil_of_length_eq_zero (by omega)⟩;have h4:outside (-1000000) 1000000 n.pay=false:=by simpa using h3
   unfold outside at h4;have:=List.any_eq_false.1 h4 x hx;simp at this;omega
theorem Fit.iD {g:Gm} {m:List (List Rat)} (h:Fit g m):∀ (f i:Nat),g.nodes.length - i≤f→i < g.nodes.length→(bT g m i).length=g.ak.toNat
 | 0,i,h1,h2=>absurd h2 (by omega)
 | f+1,i,h1,h2=>by
  obtain⟨n,hn⟩:=ay (l:=g.nodes) (k:=i) h2;have hmem:=List.mem_of_getElem? hn;rw[nV h.good m hn];unfold valOf;by_cases hk:n.kind=3
  ·rw[if_pos hk,List.length_map];have:=(rJ h.nodes hmem hk).1;omega
  ·rw[if_neg hk];refine kK (by simp) fun bc hbc=>?_
   have hm:bc.2∈n.next:=(List.of_mem_zip (a:=bc.1) (b:=bc.2) hbc).2;have:=h.good.span.kids i n (Nat.zero_le _) h2 hn bc.2 hm;exact Fit.iD h f _ (by omega) (by omega)
theorem ahB {acc x:List Rat} {b:Rat} {A B:Nat} (h1:∀ y∈acc,rl y≤A) (h2:∀ y∈x,rl y≤B) (hb:rl b≤4):∀ y∈kW acc b x,rl y≤A+B+5:=by
 intro y hy;unfold kW at hy;obtain⟨k,hk⟩:=List.getElem?_of_mem hy;rw[List.getElem?_zipWith] at hk;cases ha:acc[k]? with
 | none=>rw[ha] at hk; simp at hk
 | some u =>
  cases hx:x[k]? with
  | none=>rw[ha,hx] at hk; simp at hk
  | some v =>
   rw[ha,hx] at hk;simp at hk;subst hk;have e1:=h1 u (List.mem_of_getElem? ha);have e2:=h2 v (List.mem_of_getElem? hx);have e3:=aaZ u (b*v);have e4:=tq b v;omega
theorem agS {x:Int} (h:-1000000≤x∧x≤1000000):rl (x:Rat)≤1:=by
 rw[yj];have:(dig x.natAbs).length≤1:=aQ (by unfold LB; omega);omega
theorem Fit.ahC {g:Gm} {m:List (List Rat)} (h:Fit g m) {cs:List Int} {a b:Nat} (hs:Span g.nodes cs a b):∀ (bs acc:List Rat) (A:Nat),(∀ x∈bs,rl x≤4)→(∀ x∈acc,rl x≤A)→∀ x∈iZ (bT g m) acc (bs.zip cs),rl x≤A+7*(b - a):=by
 induction hs with
 | nil a =>
  intro bs acc A _ ha x hx;rw[List.zip_nil_right] at hx;have:=ha x hx; omega
 | @cons a k b n cs hn h1 h2 ih1 ih2 =>
  intro bs acc A hb ha x hx;have l1:=h1.le;have l2:=h2.le;cases bs with
  | nil =>
   have:=ha x (by simpa [iZ] using hx); omega
  | cons c bs =>
   rw[List.zip_cons_cons] at hx;have hmem:=List.mem_of_getElem? hn;have hv:∀ y∈bT g m a,rl y≤2+7*(k - a - 1):=by
    rw[nV h.good m hn];unfold valOf;by_cases hk:n.kind=3
    ·rw[if_pos hk];intro y hy;obtain⟨z,hz,rfl⟩:=List.mem_map.1 hy;have:=agS ((rJ h.nodes hmem hk).2.1 z hz);omega
    ·rw[if_neg hk];intro y hy;have:=ih1 _ _ 1 (h.chan n hmem hk).2 (fun z hz=>by rw[List.eq_of_mem_replicate hz,oV]; omega) y hy;omega
   have hacc:=ahB (b:=c) ha hv (hb c (List.mem_cons_self));have:=ih2 bs _ _ (fun y hy=>hb y (List.mem_cons_of_mem _ hy)) hacc x hx;omega
theorem sO {α β:Type}:∀ (l:List α) (r:List β) (k:Nat),(l.zip r).take k=(l.take k).zip r
 | [],r,k=>by simp
 | x :: l,[],k=>by simp
 | x :: l,y :: r,0=>by simp
 | x :: l,y :: r,k+1=>by rw[List.zip_cons_cons,List.take_succ_cons,List.take_succ_cons,List.zip_cons_cons,sO]
theorem Fit.abo {g:Gm} {m:List (List Rat)} (h:Fit g m) {i:Nat} {n:Nd} (hn:g.nodes[i]? = some n) (hk:n.kind≠3) (k:Nat) :
  ∀ x∈iZ (bT g m) (List.replicate g.ak.toNat 0) (((bJ m n).zip n.next).take k),rl x≤1+7*g.nodes.length:=by
 intro x hx;have hl:=aG hn;obtain⟨e,hs,he⟩:=h.good.span.ahz i n (Nat.zero_le _) hl hn;rw[sO] at hx;have:=h.ahC hs _ _ 1 (fun y hy=>(h.chan n (List.mem_of_getElem? hn) hk).2 y (List.mem_of_mem_take hy)) (fun z hz=>by rw[List.eq_of_mem_replicate hz,oV]; omega) x hx;omega
theorem Fit.abp {g:Gm} {m:List (List Rat)} (h:Fit g m) {i:Nat} (hi:i < g.nodes.length):∀ x∈bT g m i,rl x≤1+7*g.nodes.length:=by
 intro x hx;obtain⟨n,hn⟩:=ay (l:=g.nodes) (k:=i) hi;have hmem:=List.mem_of_getElem? hn;rw[nV h.good m hn] at hx;unfold valOf at hx;by_cases hk:n.kind=3
 ·rw[if_pos hk] at hx;obtain⟨z,hz,rfl⟩:=List.mem_map.1 hx;have:=agS ((rJ h.nodes hmem hk).2.1 z hz);omega
 ·rw[if_neg hk] at hx;have:=h.abo hn hk ((bJ m n).zip n.next).length x (by rw[List.take_of_length_le (Nat.le_refl _)]; exact hx);exact this
def acE (look:Nat→Rat) (a:Rat) (l:List (Rat×Int)):Rat:=l.foldl (fun a bc=>a+bc.1*look bc.2.toNat) a
theorem aiq (look:Nat→Rat) (a:Rat) (l:List (Rat×Int)) (bc:Rat×Int):acE look a (l ++ [bc])=acE look a l+bc.1*look bc.2.toNat:=by unfold acE; rw[List.foldl_append]; rfl
theorem aaF {look:Nat→List Rat} {p:Nat}:∀ {l:List (Rat×Int)} {acc:List Rat} {a:Rat},acc[p]? = some a→(∀ bc∈l,p < (look bc.2.toNat).length)→(iZ look acc l)[p]? = some (acE (fun c=>(look c).getD p 0) a l)
 | [],_,_,h,_=>h
 | bc :: l,acc,a,h,hl=>by
  have h1:=hl bc (List.mem_cons_self);obtain⟨y,hy⟩:=ay h1;have h2:(kW acc bc.1 (look bc.2.toNat))[p]? = some (a+bc.1*(look bc.2.toNat).getD p 0):=by
   unfold kW;rw[List.getElem?_zipWith,h,hy,List.getD_eq_getElem?_getD,hy]; rfl
  exact aaF (l:=l) h2 (fun b hb=>hl b (List.mem_cons_of_mem _ hb))
theorem Fit.ai7 {g:Gm} {m:List (List Rat)} (h:Fit g m) {i:Nat} {n:Nd} (hn:g.nodes[i]? = some n) (hk:n.kind≠3) {p:Nat} (hp:p < g.ak.toNat) :
  (bT g m i).getD p 0=acE (fun c=>(bT g m c).getD p 0) 0 ((bJ m n).zip n.next):=by
 rw[nV h.good m hn];unfold valOf;rw[if_neg hk,List.getD_eq_getElem?_getD,aaF (a:=0) (by simp[hp]) (fun bc hbc=>?_)]
 ·rfl
 ·have hm:bc.2∈n.next:=(List.of_mem_zip (a:=bc.1) (b:=bc.2) hbc).2;have:=h.good.span.kids i n (Nat.zero_le _) (aG hn) hn bc.2 hm;rw[h.iD _ _ (Nat.le_refl _) (by omega)];exact hp
structure BO (w:World) (p:Nat) (ak:Int) (ni:Nat):Prop where
 ak:w.cell? ⟨p,0,none⟩=some (.int .i64 ak)
 infos:∃ A c,w.cell? ⟨p,2,none⟩=some (.slice A ni c)
theorem adH (w:World) (F:Ag) (u ux:Value) (x:Nd) (hx:AX w F ux x) (hl:x.next.length < 1000000∧x.weights.length < 1000000∧x.pay.length < 1000000) :
  Calls Tryz.prog 165 #[u,ux] w (Ret w fun v _=>v = .int .i64 (bQ x)):=by
 obtain⟨v3,v4,v5,rfl,⟨A3,c3,rfl,hc3,h3⟩,⟨A4,c4,rfl,hc4,h4⟩,⟨A5,c5,rfl,hc5,h5⟩⟩:=hx;obtain⟨hl3,hl4,hl5⟩:=hl;have H4:=Ac (show Aw w F (.slice A4 x.weights.length c4) x.weights from⟨A4,c4,rfl,hc4,h4⟩);clear h3 h4 h5;by_cases q0:x.aH≠0
 ·have HF:=Ac (show bQ x=3 by unfold bQ; rw[if_pos (by omega)]);have d0:(x.aH != 0)=true:=neT (by omega);go_enter Tryz.func165,Tryz.ntmps165;go_wp2
  go_ret;exact⟨_,rfl,(Below.refl _ _).alloc (Nat.le_refl _) _,by rw[HF.out]; rfl⟩
 have d0:(x.aH != 0)=false:=neF (by omega);by_cases q1:x.info≠0
 ·have HF:=Ac (show bQ x=3 by unfold bQ; rw[if_pos (by omega)]);have d1:(x.info != 0)=true:=neT (by omega);go_enter Tryz.func165,Tryz.ntmps165;go_wp2
  go_ret;exact⟨_,rfl,(Below.refl _ _).alloc (Nat.le_refl _) _,by rw[HF.out]; rfl⟩
 have d1:(x.info != 0)=false:=neF (by omega);by_cases q2:0 < x.pay.length
 ·have HF:=Ac (show bQ x=3 by unfold bQ; rw[if_pos (by omega)]);go_enter Tryz.func165,Tryz.ntmps165;go_wp2
  go_ret;exact⟨_,rfl,(Below.refl _ _).alloc (Nat.le_refl _) _,by rw[HF.out]; rfl⟩
 have d2:decide ((0:Int) < (x.pay.length:Int))=false:=decide_eq_false (by omega);by_cases q3:x.next.length < 1
 ·have HF:=Ac (show bQ x=3 by unfold bQ; rw[if_pos (by omega)]);go_enter Tryz.func165,Tryz.ntmps165;go_wp2
  go_ret;exact⟨_,rfl,(Below.refl _ _).alloc (Nat.le_refl _) _,by rw[HF.out]; rfl⟩
 have d3:decide ((x.next.length:Int) < 1)=false:=decide_eq_false (by omega);by_cases q4:60 < x.next.length
 ·have HF:=Ac (show bQ x=3 by unfold bQ; rw[if_pos (by omega)]);go_enter Tryz.func165,Tryz.ntmps165;go_wp2
  go_ret;exact⟨_,rfl,(Below.refl _ _).alloc (Nat.le_refl _) _,by rw[HF.out]; rfl⟩
 have d4:decide ((60:Int) < (x.next.length:Int))=false:=decide_eq_false (by omega);by_cases q5:x.weights.length≠x.next.length
 ·have HF:=Ac (show bQ x=3 by unfold bQ; rw[if_pos (by omega)]);have d5:((x.weights.length:Int) != (x.next.length:Int))=true:=neT (by omega);go_enter Tryz.func165,Tryz.ntmps165;go_wp2
  go_ret;exact⟨_,rfl,(Below.refl _ _).alloc (Nat.le_refl _) _,by rw[HF.out]; rfl⟩
 have d5:((x.weights.length:Int) != (x.next.length:Int))=false:=neF (by omega);have HF:=Ac (show bQ x=iT 1 1000 x.weights by unfold bQ; rw[if_neg (by omega)]; rfl);clear q0 q1 q5;go_enter Tryz.func165,Tryz.ntmps165;go_wp2_with fail
 refine(o8 _ F _ 1 1000 x.weights (H4.out.on (Same.alloc _ _ _)) (by omega)).mono ?_;rintro e w' ⟨v,rfl,hb,rfl⟩;dsimp only;go_wp2
 go_ret;exact⟨_,rfl,((Below.refl _ _).alloc (Nat.le_refl _) _).trans (hb.mono (by simp)),by rw[HF.out]; rfl⟩
theorem bZ (w:World) (t:TypeId) (c:Array Value):∃ W:World,W=w.alloc (.cells c t)∧Row W w.heap.size t c.toList∧Below w.heap.size w W∧w.heap.size+1=W.heap.size :=
 ⟨_,rfl,Row.new w _ _,(Below.refl _ _).alloc (Nat.le_refl _) _,by simp⟩
theorem adI (ak:Int) (ni:Nat) (x:Nd) (h:¬ (0 < x.pay.length∨0 < x.weights.length∨x.next.length < 1∨10 < x.next.length)) :
  dK ak ni x=if iT 0 (ak - 1) [x.aH]≠0 then iT 0 (ak - 1) [x.aH] else iT 0 ((ni:Int) - 1) [x.info]:=by
 unfold dK iT outside;rw[if_neg h];simp only[List.any_cons,List.any_nil,Bool.or_false,Bool.or_eq_true,decide_eq_true_eq];repeat' split
 all_goals first | rfl | omega
theorem move_any (w:World) (F:Ag) (p:Nat) (ux:Value) (ak:Int) (ni:Nat) (x:Nd) (hw:BO w p ak ni) (hx:AX w F ux x) (hl:x.next.length < 1000000∧x.weights.length < 1000000∧x.pay.length < 1000000)
  (hp:0≤ak∧ak < 1000000) (hni:ni < 1000000) (hpl:p < w.heap.size) :
  Calls Tryz.prog 166 #[.pointer (some ⟨p,0,none⟩),ux] w (Ret w fun v _=>v = .int .i64 (dK ak ni x)):=by
 obtain⟨v3,v4,v5,rfl,⟨A3,c3,rfl,hc3,h3⟩,⟨A4,c4,rfl,hc4,h4⟩,⟨A5,c5,rfl,hc5,h5⟩⟩:=hx;obtain⟨hl3,hl4,hl5⟩:=hl;clear h3 h4 h5;obtain⟨hwp,Ai,ci,hwi⟩:=hw;by_cases q0:0 < x.weights.length
 ·have HF:=Ac (show dK ak ni x=3 by unfold dK; rw[if_pos (by omega)]);go_enter Tryz.func166,Tryz.ntmps166;go_wp2
  go_ret;exact⟨_,rfl,(Below.refl _ _).alloc (Nat.le_refl _) _,by rw[HF.out]; rfl⟩
 have d0:decide ((0:Int) < (x.weights.length:Int))=false:=decide_eq_false (by omega);by_cases q1:0 < x.pay.length
 ·have HF:=Ac (show dK ak ni x=3 by unfold dK; rw[if_pos (by omega)]);go_enter Tryz.func166,Tryz.ntmps166;go_wp2
  go_ret;exact⟨_,rfl,(Below.refl _ _).alloc (Nat.le_refl _) _,by rw[HF.out]; rfl⟩
 have d1:decide ((0:Int) < (x.pay.length:Int))=false:=decide_eq_false (by omega);by_cases q2:x.next.length < 1
 ·have HF:=Ac (show dK ak ni x=3 by unfold dK; rw[if_pos (by omega)]);go_enter Tryz.func166,Tryz.ntmps166;go_wp2
  go_ret;exact⟨_,rfl,(Below.refl _ _).alloc (Nat.le_refl _) _,by rw[HF.out]; rfl⟩
 have d2:decide ((x.next.length:Int) < 1)=false:=decide_eq_false (by omega);by_cases q3:10 < x.next.length
 ·have HF:=Ac (show dK ak ni x=3 by unfold dK; rw[if_pos (by omega)]);go_enter Tryz.func166,Tryz.ntmps166;go_wp2
  go_ret;exact⟨_,rfl,(Below.refl _ _).alloc (Nat.le_refl _) _,by rw[HF.out]; rfl⟩
 have d3:decide ((10:Int) < (x.next.length:Int))=false:=decide_eq_false (by omega);have HF:=Ac (adI ak ni x (by omega));go_enter Tryz.func166,Tryz.ntmps166;go_wp2_with fail
 obtain⟨W,hW,hbx,hWb,hWz⟩:=bZ w 67 #[.int .i64 x.kind,.int .i64 x.aH,.int .i64 x.info,.slice A3 x.next.length c3,.slice A4 x.weights.length c4,.slice A5 x.pay.length c5];rw[← hW];clear hW;have hold:=aI hWb;have wr1:IntKind.i64.wrap (ak - 1)=ak - 1:=IntWalk.i64_in _ (by omega);have wr2:IntKind.i64.wrap ((ni:Int) - 1)=(ni:Int) - 1:=IntWalk.i64_in _ (by omega);refine wp_region_held_drew (S:=fun w'=>w'.cell? ⟨w.heap.size,1,none⟩=some (.int .i64 x.aH)∧w'.cell? ⟨p,0,none⟩=some (.int .i64 ak)) (by kernel_rfl) ⟨hbx.cell rfl,(hold p 0 hpl).trans hwp⟩ (fun hHeld=>?_);refine tk0 [0,1,2,3,4,5,6,7] ?_;iterate 8 (refine tk (v:=?_) rfl (by kernel_rfl) (by kernel_rfl) (by kernel_rfl) (fun _ _ _ h=>h) (Or.inl ⟨by rfl,?_⟩) hHeld ?_;rotate_left;(focus intro wx hSx;(try dsimp only at hSx);go_split_ands;go_simp;try with_reducible rfl);try simp only[Act.put,lq1,lq2,lq3,lq4,lq5,lq6])
 refine tk1 ?_;refine tk2 8 (by kernel_rfl) rfl fun K hK=>?_
 go_simp;obtain⟨W1,hW1,hbr,um,afh⟩:=bZ W 3 #[.int .i64 x.aH];rw[← hW1];clear hW1;have dw:=hbx.below um (by omega);have hB1:Below w.heap.size w W1:=hWb.trans (um.mono (by omega));clear hbx um hWb;refine hK.out _ _ ⟨dw.drew.cell rfl,(aI hB1.drew p 0 hpl).trans hwp⟩ (fun hHeld=>?_);clear hK K;try simp only[Act.put,lq1,lq2,lq3,lq4,lq5,lq6]
 refine tk2 9 (by kernel_rfl) rfl fun K hK=>?_
 go_simp;refine(o8 _ (fun b=>b=W.heap.size) _ 0 (ak - 1) [x.aH] (Row.ints (l:=[x.aH]) hbr.drew (F:=fun b=>b=W.heap.size) rfl (c:=1) (by simp)) (by simp)).mono ?_;rintro e w1 ⟨_,rfl,hb1,rfl⟩;have hbx2:=dw.drew.below hb1 (by simp; omega);have hB2:Below w.heap.size w w1:=hB1.drew.trans (hb1.mono (by simp; omega));clear dw hb1 hB1 hbr;dsimp only;refine hK.out _ _ ⟨hbx2.cell rfl,(aI hB2 p 0 hpl).trans hwp⟩ (fun hHeld=>?_);clear hK K;try simp only[Act.put,lq1,lq2,lq3,lq4,lq5,lq6]
 refine tk0 [10] ?_;(refine tk (v:=?_) rfl (by kernel_rfl) (by kernel_rfl) (by kernel_rfl) (fun _ _ _ h=>h) (Or.inl ⟨by rfl,?_⟩) hHeld ?_;rotate_left;(focus intro wx hSx;(try dsimp only at hSx);go_split_ands;go_simp;try with_reducible rfl);try simp only[Act.put,lq1,lq2,lq3,lq4,lq5,lq6])
 refine tk1 ?_;refine wpAnyH_done (by kernel_rfl) ?_ _;have hx1:=hbx2.lt;generalize iT 0 (ak - 1) [x.aH]=er at *;by_cases he:er=0
 ·subst he;have HF2:=Ac (show dK ak ni x=iT 0 ((ni:Int) - 1) [x.info] by rw[HF.out]; simp);go_wp2_with fail
  refine wp_region_held_drew (S:=fun w'=>w'.cell? ⟨w.heap.size,2,none⟩=some (.int .i64 x.info)∧w'.cell? ⟨p,2,none⟩=some (.slice Ai ni ci)) (by kernel_rfl) ⟨hbx2.cell rfl,(aI hB2 p 2 hpl).trans hwi⟩ (fun hHeld=>?_);refine tk0 [0,1,2,3,4,5,6,7,8] ?_;iterate 9 (refine tk (v:=?_) rfl (by kernel_rfl) (by kernel_rfl) (by kernel_rfl) (fun _ _ _ h=>h) (Or.inl ⟨by rfl,?_⟩) hHeld ?_;rotate_left;(focus intro wx hSx;(try dsimp only at hSx);go_split_ands;go_simp;try with_reducible rfl);try simp only[Act.put,lq1,lq2,lq3,lq4,lq5,lq6])
  refine tk1 ?_;refine tk2 9 (by kernel_rfl) rfl fun K hK=>?_
  go_simp;obtain⟨W3,hW3,hbr,air,hW3z⟩:=bZ w1 3 #[.int .i64 x.info];rw[← hW3];clear hW3;have dL:=hbx2.below air (by omega);have hB3:Below w.heap.size w W3:=hB2.trans (air.mono (by omega));clear hbx2 air hB2;refine hK.out _ _ ⟨dL.drew.cell rfl,(aI hB3.drew p 2 hpl).trans hwi⟩ (fun hHeld=>?_);clear hK K;try simp only[Act.put,lq1,lq2,lq3,lq4,lq5,lq6]
  refine tk2 10 (by kernel_rfl) rfl fun K hK=>?_
  go_simp;refine(o8 _ (fun b=>b=w1.heap.size) _ 0 ((ni:Int) - 1) [x.info] (Row.ints (l:=[x.info]) hbr.drew (F:=fun b=>b=w1.heap.size) rfl (c:=1) (by simp)) (by simp)).mono ?_;rintro e w2 ⟨_,rfl,hb2,rfl⟩;have fK:=dL.drew.below hb2 (by simp; omega);have hB4:Below w.heap.size w w2:=hB3.drew.trans (hb2.mono (by simp; omega));clear dL hb2 hB3 hbr;dsimp only;refine hK.out _ _ ⟨fK.cell rfl,(aI hB4 p 2 hpl).trans hwi⟩ (fun hHeld=>?_);clear hK K;try simp only[Act.put,lq1,lq2,lq3,lq4,lq5,lq6]
  refine tk0 [11] ?_;(refine tk (v:=?_) rfl (by kernel_rfl) (by kernel_rfl) (by kernel_rfl) (fun _ _ _ h=>h) (Or.inl ⟨by rfl,?_⟩) hHeld ?_;rotate_left;(focus intro wx hSx;(try dsimp only at hSx);go_split_ands;go_simp;try with_reducible rfl);try simp only[Act.put,lq1,lq2,lq3,lq4,lq5,lq6])
  refine tk1 ?_;refine wpAnyH_done (by kernel_rfl) ?_ _;go_wp2
  go_ret;exact⟨_,rfl,hB4,by rw[HF2.out]; rfl⟩
 ·have hd:(er != 0)=true:=by simp[he]
  have HF2:=Ac (show dK ak ni x=er by rw[HF.out]; simp[he]);clear he;go_wp2
  go_ret;exact⟨_,rfl,hB2,by rw[HF2.out]; rfl⟩
theorem ahD (w:World) (F:Ag) (p:Nat) (ux:Value) (ak:Int) (ni:Nat) (x:Nd) (hw:BO w p ak ni) (hx:AX w F ux x) (hl:x.next.length < 1000000∧x.weights.length < 1000000∧x.pay.length < 1000000) (hpl:p < w.heap.size) :
  Calls Tryz.prog 167 #[.pointer (some ⟨p,0,none⟩),ux] w (Ret w fun v _=>v = .int .i64 (gJ ak x)):=by
 obtain⟨v3,v4,v5,rfl,⟨A3,c3,rfl,hc3,h3⟩,⟨A4,c4,rfl,hc4,h4⟩,⟨A5,c5,rfl,hc5,h5⟩⟩:=hx;obtain⟨hl3,hl4,hl5⟩:=hl;have H5:=Ac (show Aw w F (.slice A5 x.pay.length c5) x.pay from⟨A5,c5,rfl,hc5,h5⟩);clear h3 h4 h5;obtain⟨hwp,Ai,ci,hwi⟩:=hw;by_cases q0:x.aH≠0
 ·have HF:=Ac (show gJ ak x=3 by unfold gJ; rw[if_pos (by omega)]);have d0:(x.aH != 0)=true:=neT (by omega);go_enter Tryz.func167,Tryz.ntmps167;go_wp2
  go_quiet (fail)
  go_wp2
  go_ret;exact⟨_,rfl,aC ((Below.refl _ _).alloc (Nat.le_refl _) _) _,by rw[HF.out]; rfl⟩
 have d0:(x.aH != 0)=false:=neF (by omega);by_cases q1:x.info≠0
 ·have HF:=Ac (show gJ ak x=3 by unfold gJ; rw[if_pos (by omega)]);have d1:(x.info != 0)=true:=neT (by omega);go_enter Tryz.func167,Tryz.ntmps167;go_wp2
  go_quiet (fail)
  go_wp2
  go_ret;exact⟨_,rfl,aC ((Below.refl _ _).alloc (Nat.le_refl _) _) _,by rw[HF.out]; rfl⟩
 have d1:(x.info != 0)=false:=neF (by omega);by_cases q2:0 < x.next.length
 ·have HF:=Ac (show gJ ak x=3 by unfold gJ; rw[if_pos (by omega)]);have d2:decide ((0:Int) < (x.next.length:Int))=true:=decide_eq_true (by omega);go_enter Tryz.func167,Tryz.ntmps167;go_wp2
  go_quiet (fail)
  go_wp2
  go_ret;exact⟨_,rfl,aC ((Below.refl _ _).alloc (Nat.le_refl _) _) _,by rw[HF.out]; rfl⟩
 have d2:decide ((0:Int) < (x.next.length:Int))=false:=decide_eq_false (by omega);by_cases q3:0 < x.weights.length
 ·have HF:=Ac (show gJ ak x=3 by unfold gJ; rw[if_pos (by omega)]);have d3:decide ((0:Int) < (x.weights.length:Int))=true:=decide_eq_true (by omega);go_enter Tryz.func167,Tryz.ntmps167;go_wp2
  go_quiet (fail)
  go_wp2
  go_ret;exact⟨_,rfl,aC ((Below.refl _ _).alloc (Nat.le_refl _) _) _,by rw[HF.out]; rfl⟩
 have d3:decide ((0:Int) < (x.weights.length:Int))=false:=decide_eq_false (by omega);by_cases q4:(x.pay.length:Int)≠ak
 ·have HF:=Ac (show gJ ak x=3 by unfold gJ; rw[if_pos (by omega)]);have d4:((x.pay.length:Int) != ak)=true:=neT (by omega);go_enter Tryz.func167,Tryz.ntmps167;go_wp2
  go_quiet (fail)
  go_wp2
  go_ret;exact⟨_,rfl,aC ((Below.refl _ _).alloc (Nat.le_refl _) _) _,by rw[HF.out]; rfl⟩
 have d4:((x.pay.length:Int) != ak)=false:=neF (by omega);have HF:=Ac (show gJ ak x=iT (-1000000) 1000000 x.pay by unfold gJ; rw[if_neg (by omega)]; rfl);clear q0 q1 q4;go_enter Tryz.func167,Tryz.ntmps167;go_wp2
 go_quiet (fail)
 go_wp2_with fail
 refine(o8 _ F _ (-1000000) 1000000 x.pay ((H5.out.on (Same.alloc _ _ _)).on (Same.drewN _ _ _)) (by omega)).mono ?_;rintro e w' ⟨v,rfl,hb,rfl⟩;dsimp only;go_wp2
 go_ret;exact⟨_,rfl,(aC ((Below.refl _ _).alloc (Nat.le_refl _) _) _).trans (hb.mono (by simp)),by rw[HF.out]; rfl⟩
def fH:List Int→Bool
 | a :: b :: r=>decide (a≤b)&&fH (b :: r)
 | _=>true
theorem pU:∀ (l:List Int) (k:Nat),fH l=true→fH (l.drop k)=true
 | l,0,h=>h
 | [],k+1,h=>by simp[fH]
 | [a],k+1,h=>by simp[fH]
 | a :: b :: r,k+1,h=>by
  simp only[fH,Bool.and_eq_true] at h;simp only[List.drop_succ_cons];exact pU (b :: r) k h.2
theorem uQ {l:List Int} {k:Nat} {x y:Int} (hx:l[k]? = some x) (hy:l[k+1]? = some y):fH (l.drop k)=(decide (x≤y)&&fH (l.drop (k+1))):=by
 have h1:=aG hx;have h2:=aG hy;have e1:l[k]=x:=by simpa [h1] using hx
 have e2:l[k+1]=y:=by simpa [h2] using hy
 rw[List.drop_eq_getElem_cons h1,List.drop_eq_getElem_cons h2,e1,e2];rfl
theorem acF (l:List Int):fH l=true↔∀ k x y,l[k]? = some x→l[k+1]? = some y→x≤y:=by
 constructor
 ·intro h k x y hx hy;have:=pU l k h;rw[uQ hx hy] at this;simp at this; exact this.1
 ·induction l with
  | nil=>intro _; rfl
  | cons a r ih=>match r with
   | []=>intro _; rfl
   | b :: r=>intro h; simp only[fH,Bool.and_eq_true,decide_eq_true_eq]; exact⟨h 0 a b rfl rfl,ih (fun k x y hx hy=>h (k+1) x y (by simpa using hx) (by simpa using hy))⟩
theorem abq (w:World) (F:Ag) (v:Value) (l:List Int) (hv:Aw w F v l) (hl:l.length≤1000000) :
  Calls Tryz.prog 169 #[v] w (Ret w fun v _=>v = .bool (fH l)):=by
 obtain⟨A,c,rfl,hc,hN⟩:=hv;have HN:=Ac hN; clear hN;go_enter Tryz.func169,Tryz.ntmps169;go_wp2
 go_loopw [3] (fun i wr=>∃ k:Nat,k≤l.length∧i = .int .i64 ((k:Int) - 1)∧fH (l.drop (k - 1))=true∧∃ n,wr=w.drewN n) (fun i _=>(intOf i+1).toNat)
 case atStart=>exact⟨l.length,by omega,rfl,by cases h:l.length with | zero=>simp[List.length_eq_zero_iff.1 h,fH] | succ m=>(have hm:m < l.length:=by omega); simp[List.drop_eq_getElem_cons hm,List.drop_eq_nil_of_le (show l.length≤m+1 by omega),fH],0,rfl⟩
 case round =>
  obtain⟨k,hk,rfl,hp,nn,rfl⟩:=hrel;have HP:=Ac hp; clear hp;by_cases hlt:2≤k
  ·obtain⟨b,o,rfl,_,hb,hx⟩:=HN.out (by omega);obtain⟨q,rfl⟩:∃ q,k=q+2:=⟨k - 2,by omega⟩;obtain⟨p,hpq⟩:∃ p,p=q+1:=⟨_,rfl⟩;have hpl:p < l.length:=by omega
   have hql:q < l.length:=by omega
   obtain⟨x,hx'⟩:=ay (l:=l) (k:=q) (by omega);obtain⟨y,hy'⟩:=ay (l:=l) (k:=p) (by omega);have ex:=hx q x hx';have ey:=hx p y hy';unfold jv at ex ey; rw[Nat.mul_one] at ex ey;have HS:=Ac (uQ hx' (by rw[← hpq]; exact hy'));clear hx hx' hy';have i1:(((q+2:Nat):Int) - 1)=(p:Int):=by omega
   have i2:((p:Int) - 1)=(q:Int):=by omega
   have wr2:IntKind.i64.wrap (q:Int)=(q:Int):=IntWalk.i64_in _ (by omega);have hp0:(0:Int) < (p:Int):=by omega
   rw[i1];have HPQ:=Ac hpq; clear hpq i1;go_wp2_with fail
   refine wp_region_held_drew (S:=fun w'=>w'.cell? ⟨b,o+q,none⟩=some (.int .i64 x)∧w'.cell? ⟨b,o+p,none⟩=some (.int .i64 y)) (by kernel_rfl) ⟨ex,ey⟩ (fun hHeld=>?_);refine tk0 [0,1,2,3,4,5,6,7,8] ?_;iterate 9 (refine tk (v:=?_) rfl (by kernel_rfl) (by kernel_rfl) (by kernel_rfl) (fun _ _ _ h=>h) (Or.inl ⟨by rfl,?_⟩) hHeld ?_;rotate_left;(focus intro wx hSx;(try dsimp only at hSx);go_split_ands;go_simp;try with_reducible rfl);try simp only[Act.put,lq1,lq2,lq3,lq4,lq5,lq6])
   refine tk1 ?_;refine tk2 9 (by kernel_rfl) rfl fun K hK=>?_
   go_simp;refine(agh _ y x).mono ?_;rintro e w1 ⟨rfl,rfl⟩;dsimp only;refine hK.out _ _ ⟨ex,ey⟩ (fun hHeld=>?_);clear hK K;try simp only[Act.put,lq1,lq2,lq3,lq4,lq5,lq6]
   refine wpAnyH_done (by kernel_rfl) ?_ _;clear hHeld ex ey;by_cases hyx:y < x
   ·have HF:=Ac (show fH l=false by
     cases h:fH l with
     | false=>rfl
     | true=>have:=pU l q h; rw[HS.out] at this; simp at this; omega)
    go_wp2
    go_ret;exact⟨_,rfl,aC (Below.refl _ _) _,by first | rfl | (rw[HF.out]; rfl)⟩
   ·have hd:decide (y < x)=false:=decide_eq_false hyx;go_wp2
    go_roundw
    case rel =>
     have e:=HPQ.out;refine⟨q+1,by omega,by first | rfl | (congr 1; omega),?_,_,rfl⟩;have:=HP.out;rw[Nat.add_sub_cancel,HS.out];simp only[Bool.and_eq_true,decide_eq_true_eq];exact⟨by omega,this⟩
    case measure=>simp[intOf]; omega
  ·go_wp2
   go_ret;refine⟨_,rfl,aC (Below.refl _ _) _,?_⟩;have:=HP.out;rw[show k - 1=0 by omega] at this;simp at this;rw[this]; rfl
end Go.Proofs.YtkcheepafifjaaaGreatDoor
