/- parlourref17: Reaches. -/
import Derived.Test.YtkcheepafifjaaaGreatDoorU34
import Derived.Deep.Cut
set_option linter.all false
set_option maxRecDepth 100000
set_option maxHeartbeats 12800000
namespace Go.Proofs.YtkcheepafifjaaaGreatDoor
open Lib renaming hid → Ac
open List renaming getElem_toArray → lq1, getElem_cons_zero → lq2, getElem_cons_succ → lq3, setIfInBounds_toArray → lq4, set_cons_zero → lq5, set_cons_succ → lq6
open Go.RowKit
structure Bv (w:World) (F:Ag) (g:Gm) (m:List (List Rat)) (cnt:Nd→Bool) (bo:Nat) (i k:Nat) (L:List RV) (W:World):Prop where
 len:L.length=g.nodes.length
 made:AB W bo 53 (fun b=>(F b∧b < w.heap.size)∨bo < b) L
 root:∃ q,L[0]? = some q∧q.r=au 1
 kid:∀ i' k' c,Kid g.nodes i' k' c→(i' < i∨(i'=i∧k' < k))→∃ q,L[c]? = some q∧q.r=au (dA cnt g.nodes m c)
section
variable {w:World} {F:Ag} {g:Gm} {m:List (List Rat)} {cnt:Nd→Bool} {bo i k:Nat} {L:List RV} {W W':World}
theorem Bv.below (h:Bv w F g m cnt bo i k L W) (hb:Below W.heap.size W W'):Bv w F g m cnt bo i k L W':=⟨h.len,h.made.below hb,h.root,h.kid⟩
theorem Bv.at (h:Bv w F g m cnt bo i k L W) (hg:Good g) (hi:i < g.nodes.length):∃ (A:Option Addr) (c:Nat) (B:Option Addr) (d:Nat),L[i]? = some ⟨au (dA cnt g.nodes m i),.slice A (au (dA cnt g.nodes m i)).num.length c,.slice B (au (dA cnt g.nodes m i)).den.length d⟩∧(⟨au (dA cnt g.nodes m i),.slice A (au (dA cnt g.nodes m i)).num.length c,.slice B (au (dA cnt g.nodes m i)).den.length d⟩:RV).fine W (fun b=>(F b∧b < w.heap.size)∨bo < b):=by
 obtain⟨q,hq,hr⟩:∃ q,L[i]? = some q∧q.r=au (dA cnt g.nodes m i):=by
  by_cases h0:i=0
  ·subst h0; exact h.root
  ·obtain⟨i',k',hk⟩:=hg.xU (Nat.pos_of_ne_zero h0) hi;exact h.kid i' k' i hk (.inl (hg.qM hk).1)
 have hf:=h.made.fine q (List.mem_of_getElem? hq);obtain⟨r,vn,vd⟩:=q;simp only at hr;subst hr;have hf':=RV.fine.keep hf (G:=fun b=>(F b∧b < w.heap.size)∨bo < b) (fun b hb _=>hb.1) (Same.refl _ _);have h1:=hf'.1; have h2:=hf'.2;obtain⟨A,c,e1,_⟩:=h1;obtain⟨B,d,e2,_⟩:=h2;simp only at e1 e2;subst e1; subst e2;exact⟨A,c,B,d,hq,hf'⟩
theorem Bv.set (h:Bv w F g m cnt bo i k L W) (hg:Good g) (hwb:w.heap.size≤bo) {c:Nat} (hk:Kid g.nodes i k c) (vn vd:Value) (hq:(⟨au (dA cnt g.nodes m c),vn,vd⟩:RV).fine W (fun b=>(F b∧b < w.heap.size)∨bo < b)) :
  ∃ W',W'=(((W.setCell ⟨bo,c*3,none⟩ (.bool (au (dA cnt g.nodes m c)).neg)).setCell ⟨bo,c*3+1,none⟩ vn).setCell ⟨bo,c*3+2,none⟩ vd)∧Bv w F g m cnt bo i (k+1) (L.set c ⟨au (dA cnt g.nodes m c),vn,vd⟩) W'∧Below w.heap.size W W'∧W'.heap.size=W.heap.size∧W.grownBy W' (some bo):=by
 have hl:=hg.qM hk;have hn:¬ ((F bo∧bo < w.heap.size)∨bo < bo):=by omega
 obtain⟨W',hW',hm,hwB,hwS,hwz,afB⟩:=h.made.set c ⟨au (dA cnt g.nodes m c),vn,vd⟩ (RV.fine.keep hq (fun b hb _=>⟨hb,fun e=>hn (e▸hb)⟩) (Same.refl _ _));refine⟨W',hW',⟨by rw[List.length_set]; exact h.len,hm,?_,fun i' k' c' hk' hlt=>?_⟩,hwB _ _ hwb (Below.refl _ _),hwz,?_⟩
 ·obtain⟨q,h1,h2⟩:=h.root;exact⟨q,by rw[List.getElem?_set_ne (by omega)]; exact h1,h2⟩
 ·by_cases e:c'=c
  ·subst e;exact⟨_,List.getElem?_set_self (by rw[h.len]; omega),rfl⟩
  ·rw[List.getElem?_set_ne (fun h=>e h.symm)];refine h.kid i' k' c' hk' ?_;rcases hlt with h1 | ⟨h1,h2⟩
   ·exact .inl h1
   ·by_cases e2:k'=k
    ·subst e2; subst h1;obtain⟨n,hn1,hc⟩:=hk;obtain⟨n',hn',hc'⟩:=hk';rw[hn1] at hn'; cases hn';rw[hc] at hc'; injection hc' with e3
     exact absurd (Int.ofNat_inj.1 e3).symm e
    ·exact .inr ⟨h1,by omega⟩
 ·rw[hW'];exact grown_setCell (p:=⟨bo,c*3+2,none⟩) (grown_setCell (p:=⟨bo,c*3+1,none⟩) (grown_setCell (p:=⟨bo,c*3,none⟩) (jh _ _) (.inl rfl) _) (.inl rfl) _) (.inl rfl) _
theorem Bv.next {n:Nd} (h:Bv w F g m cnt bo i k L W) (hn:g.nodes[i]? = some n) (hk:n.next.length≤k):Bv w F g m cnt bo (i+1) 0 L W :=
 ⟨h.len,h.made,h.root,fun i' k' c hk' hlt=>h.kid i' k' c hk' (by
  rcases hlt with h1 | ⟨_,h2⟩
  ·by_cases e:i'=i
   ·subst e;obtain⟨n',hn',hc⟩:=hk';rw[hn] at hn'; cases hn';have:=aG hc;exact .inr ⟨rfl,by omega⟩
   ·exact .inl (by omega)
  ·omega)⟩
theorem Bv.done (h:Bv w F g m cnt bo i k L W) (hg:Good g) (hi:g.nodes.length≤i):L.map RV.r=((List.range g.nodes.length).map (dA cnt g.nodes m)).map au:=by
 apply List.ext_getElem?
 intro c;by_cases hc:c < g.nodes.length
 ·obtain⟨q,hq,hr⟩:∃ q,L[c]? = some q∧q.r=au (dA cnt g.nodes m c):=by
   by_cases h0:c=0
   ·subst h0; exact h.root
   ·obtain⟨i',k',hk⟩:=hg.xU (Nat.pos_of_ne_zero h0) hc;have:=hg.qM hk;exact h.kid i' k' c hk (.inl (by omega))
  simp[hq,hr,hc]
 ·have:=h.len;rw[List.getElem?_eq_none (by simp; omega),List.getElem?_eq_none (by simp; omega)]
end
theorem xu (w:World) (F:Ag) (vg vm:Value) (g:Gm) (m:List (List Rat)) (pl part:Int) (cnt:Nd→Bool) (hg:AA w F vg g) (hm:AP w F vm m) (hf:Fit g m) (hn:g.nodes.length≤100) (hml:m.length≤100000)
  (hcnt:∀ n,n.kind≠3→cnt n = !(((part==1) && !(ownB pl n))||((part==2)&&ownB pl n))) (hc3:∀ n,cnt n=true→n.kind≠3) :
  Calls Tryz.prog 52 #[vg,vm,.int .i64 pl,.int .i64 part] w (Ret w fun u w'=>(∃ b,u = .slice (some ⟨b,0,none⟩) g.nodes.length g.nodes.length)∧BH w' (Ext F w.heap.size) u ((List.range g.nodes.length).map (dA cnt g.nodes m))):=by
 have HG:=Ac (hg.keep (G:=Old F w.heap.size) (fun _ hb hl=>⟨hb,hl⟩) (Same.refl _ _)); have HM:=Ac (Ae.keep (G:=Old F w.heap.size) hm (fun _ hb hl=>⟨hb,hl⟩) (Same.refl _ _)); have HFT:=Ac hf; have HCN:=Ac hcnt; have HC3:=Ac hc3;have HRL:=Ac (fun c (hc:c < g.nodes.length)=>aaE hf.good cnt m (fun n hn hcn=>(hf.chan n hn (hc3 n hcn)).2) c hc);have hpos:=hf.good.pos;obtain⟨vn,vi,rfl,⟨A,c,rfl,hc,hN⟩,⟨Ai,ci,rfl,hci,hI⟩⟩:=hg;obtain⟨b,q,rfl,hFb,hbl,hcell⟩:=hN hpos;have HC:=Ac hcell;obtain⟨Am,cm,rfl,hcm,_⟩:=hm;rw[List.length_map] at hcm HM;rw[List.length_map];clear hN hI hcell hf hcnt hc3;go_enter Tryz.func52,Tryz.ntmps52;go_upto_region 1 with(fail)
 obtain⟨Wa,hWa,rx,hBa,hza⟩:=aB w 25 #[.int .i64 g.ak,.slice (some ⟨b,q,none⟩) g.nodes.length c,.slice Ai g.infos.length ci];rw[← hWa];have ad2:w.heap.size+1≤Wa.heap.size:=by omega
 clear hWa hza;have x1:=rx.cell (i:=1) rfl;go_upto_region 2 with(at_make; refine oI _ rfl _ _ 30 rfl 53 Tryz.underlying30 Tryz.infoRat g.nodes.length rfl rfl (by omega) ?_; intro w1 hb1 zq hm1; have hz1:=Nat.le_of_eq zq.symm; clear zq)
 obtain⟨bo,hbo⟩:∃ bo,bo=Wa.heap.size:=⟨_,rfl⟩;have HMR:=Ac (hm1 (fun b=>(F b∧b < w.heap.size)∨bo < b)); clear hm1;replace HMR:Hid (AB w1 bo 53 (fun b=>(F b∧b < w.heap.size)∨bo < b) (List.replicate g.nodes.length rv0)):=by rw[hbo]; rw[hbo] at HMR; exact HMR
 rw[← hbo];have k1:w.heap.size+1≤bo:=by omega
 have k2:bo < w1.heap.size:=by omega
 replace rx:=rx.below hb1 rx.lt;replace hBa:=hBa.trans (hb1.mono hBa.size);clear hb1 hbo hz1 ad2 x1;go_wp2_with fail
 refine(ny w1 1 (by decide) (by decide)).mono ?_;rintro e wn ⟨u,rfl,hb,hu⟩;obtain⟨y,hy⟩:∃ y:Rat,y=((1:Int):Rat):=⟨_,rfl⟩;rw[← hy] at hu;have HY:=Ac (show y=1 from hy);have hu2:=hu.mono (G:=fun b=>(F b∧b < w.heap.size)∨bo < b) (fun b hb _=>.inr (by omega));obtain⟨A6,c6,B6,d6,rfl,bV⟩:=hu2.opened;have hmz:=HMR.out.below hb;have hg0:(List.replicate g.nodes.length rv0)[0]? = some rv0:=by rw[List.getElem?_replicate,if_pos hpos]
 have y0:=hmz.cell (j:=0) hg0 (by omega) rfl; have y1:=hmz.cell (j:=1) hg0 (by omega) rfl; have y2:=hmz.cell (j:=2) hg0 (by omega) rfl;have f0:=hmz.row.frozen 0; have f1:=hmz.row.frozen 1; have f2:=hmz.row.frozen 2;obtain⟨Wz,hWz,hm2,hwB,hwS,hwz,hwb⟩:=hmz.set 0 ⟨au y,.slice A6 (au y).num.length c6,.slice B6 (au y).den.length d6⟩ (RV.fine.keep bV (fun b hb _=>⟨hb,by rintro rfl; omega⟩) (Same.refl _ _));simp only[Nat.zero_mul,Nat.zero_add] at hWz y0 y1 y2;have hst:Bv w F g m cnt bo 0 0 ((List.replicate g.nodes.length rv0).set 0 ⟨au y,.slice A6 (au y).num.length c6,.slice B6 (au y).den.length d6⟩) Wz :=
  ⟨by simp,hm2,⟨_,List.getElem?_set_self (by simpa using hpos),by rw[HY.out]⟩,fun i' k' c' _ h=>by omega⟩
 have HST:=Ac hst;have aiC:Row Wz w.heap.size 25 [.int .i64 g.ak,.slice (some ⟨b,q,none⟩) g.nodes.length c,.slice Ai g.infos.length ci]:=(rx.below hb rx.lt).of_block (hwb _ (by omega));have hBz:=hwB _ _ (by omega) (hBa.trans (hb.mono hBa.size));have k3:bo < Wz.heap.size:=by have:=hb.size; omega
 have HWz:=Ac hWz; have HBZ:=Ac hBz; have HRX:=Ac aiC;have x1z:=aiC.cell (i:=1) rfl;clear hu hu2 bV hmz hm2 hwB hwS hwz hwb hWz hst aiC hBz hb hBa rx hg0 HMR hy k2;dsimp only;go_wp2_with fail
 rw[← HWz.out];clear y0 y1 y2 f0 f1 f2;go_loopw [10] (fun iv wr=>∃ (i:Nat) (L:List RV),i≤g.nodes.length∧iv = .int .i64 (i:Int)∧Bv w F g m cnt bo i 0 L wr∧Row wr w.heap.size 25 [.int .i64 g.ak,.slice (some ⟨b,q,none⟩) g.nodes.length c,.slice Ai g.infos.length ci]∧Below w.heap.size w wr∧bo < wr.heap.size) (fun iv _=>g.nodes.length - (intOf iv).toNat)
 case atStart=>exact⟨0,_,by omega,rfl,HST.out,HRX.out,HBZ.out,k3⟩
 case round =>
  clear HST HRX HBZ x1z HWz k3;obtain⟨i,L,hi,rfl,hst,rx,hB,k3⟩:=hrel;have HST:=Ac hst; clear hst;have x1:=rx.cell (i:=1) rfl;by_cases hlt:i < g.nodes.length
  ·obtain⟨n,hni⟩:=ay hlt;have hne:=HC.out i n hni;have n0:=hne.c0; have n1:=hne.c1; have n2:=hne.c2;obtain⟨v3,n3,h3⟩:=hne.c3;obtain⟨v4,n4,h4⟩:=hne.c4;obtain⟨v5,n5,h5⟩:=hne.c5;have H3:=Ac h3;obtain⟨A3,c3,rfl,_,_⟩:=h3;obtain⟨A4,c4,rfl,_,_⟩:=h4;obtain⟨A5,c5,rfl,_,_⟩:=h5;have HX:=Ac hni;have hmem:=List.mem_of_getElem? hni;replace n0:=ah n0 hB;replace n1:=ah n1 hB;replace n2:=ah n2 hB;replace n3:=ah n3 hB;replace n4:=ah n4 hB;replace n5:=ah n5 hB;clear hne hni;go_upto_region 7 with(fail)
   obtain⟨W1,hW1,rn,hB1,hz1⟩:=aB wr 67 #[.int .i64 n.kind,.int .i64 n.aH,.int .i64 n.info,.slice A3 n.next.length c3,.slice A4 n.weights.length c4,.slice A5 n.pay.length c5];rw[← hW1];clear hW1;obtain⟨nb,hnb⟩:∃ nb,nb=wr.heap.size:=⟨_,rfl⟩;rw[← hnb] at rn ⊢;have k4:bo < nb:=by omega
   have k5:nb < W1.heap.size:=rn.lt;replace HST:=Ac (HST.out.below hB1);replace rx:=rx.below hB1 rx.lt;replace hB:=hB.trans (hB1.mono hB.size);clear hB1 hz1 hnb n0 n1 n2 n3 n4 n5 x1;have x0:=rn.cell (i:=0) rfl; have x1':=rn.cell (i:=1) rfl;have HOWN:=Ac (show ownB pl n=(n.kind==2&&n.aH==pl) from rfl);go_cut [12] from 33 to 42 (fun v wx=>v = .bool (ownB pl n)∧wx=W1)
   case first =>
    by_cases hk:n.kind=2
    ·have t1:(n.kind==2)=true:=by simp[hk]
     by_cases hq:n.aH=pl
     ·have t2:(n.aH==pl)=true:=by simp[hq]
      have HF:=Ac (show ownB pl n=true by rw[HOWN.out,t1,t2]; rfl);clear hk hq;go_wp2_with fail
      go_meet
      exact⟨by rw[HF.out],rfl⟩
     ·have t2:(n.aH==pl)=false:=by simpa using hq
      have HF:=Ac (show ownB pl n=false by rw[HOWN.out,t1,t2]; rfl);clear hk hq;go_wp2_with fail
      go_meet
      exact⟨by rw[HF.out],rfl⟩
    ·have t1:(n.kind==2)=false:=by simpa using hk
     have HF:=Ac (show ownB pl n=false by rw[HOWN.out,t1]; rfl);clear hk;go_wp2_with fail
     go_meet
     exact⟨by rw[HF.out],rfl⟩
   case rest =>
    obtain⟨rfl,rfl⟩:=hcut;clear x0 x1';obtain⟨ob,hob⟩:∃ ob,ob=ownB pl n:=⟨_,rfl⟩;rw[← hob];have HOB:=Ac hob; clear hob;go_wp2_with fail
    go_loopw [13] (fun iv wr=>∃ (k:Nat) (L:List RV),k≤n.next.length∧iv = .int .i64 (k:Int)∧Bv w F g m cnt bo i k L wr∧Row wr w.heap.size 25 [.int .i64 g.ak,.slice (some ⟨b,q,none⟩) g.nodes.length c,.slice Ai g.infos.length ci]∧Row wr nb 67 [.int .i64 n.kind,.int .i64 n.aH,.int .i64 n.info,.slice A3 n.next.length c3,.slice A4 n.weights.length c4,.slice A5 n.pay.length c5]∧Below w.heap.size w wr∧nb < wr.heap.size) (fun iv _=>n.next.length - (intOf iv).toNat)
    case atStart=>exact⟨0,L,by omega,rfl,HST.out,rx,rn,hB,k5⟩
    case round =>
     clear HST rx rn hB k5 L;obtain⟨k,L,hk,rfl,hst,rx,rn,hB,k5⟩:=hrel;have HST:=Ac hst; clear hst;have x3:=rn.cell (i:=3) rfl;by_cases hkt:k < n.next.length
     ·have hk3:n.kind≠3:=fun h=>by
       have:=(rJ HFT.out.nodes hmem h).2.2;rw[this] at hkt; simp at hkt
      have hnl:n.next.length≤1000:=by
       rcases kinds HFT.out.nodes hmem with k1 | k1 | k1
       ·have:=(jB HFT.out.nodes hmem k1).2.2.1; omega
       ·have:=(kX HFT.out.nodes hmem k1).2.1; omega
       ·exact absurd k1 hk3
      obtain⟨ch,hch⟩:=ay hkt;have hkk:=HFT.out.good.span.kids i n (Nat.zero_le _) hlt HX.out ch (List.mem_of_getElem? hch);obtain⟨cc,rfl⟩:∃ cc:Nat,ch=(cc:Int):=⟨ch.toNat,by omega⟩;have hcl:cc < g.nodes.length:=by omega
      have HKD:=Ac (show Kid g.nodes i k cc from⟨n,HX.out,hch⟩);have HRK:=Ac (uj HFT.out.good cnt m HX.out hch);have hcn:=HCN.out n hk3;rw[← HOB.out] at hcn;have HCNT:=Ac hcn;obtain⟨b3,o3,rfl,hF3,hb3,qR⟩:∃ b3 o3,A3=some ⟨b3,o3,none⟩∧F b3∧b3 < w.heap.size∧∀ (k:Nat) (x:Int),n.next[k]? = some x→jv .i64 w F b3 (o3+k*1) x:=by
       obtain⟨A',c',he,_,hx⟩:=H3.out;simp only[Value.slice.injEq] at he;obtain⟨rfl,_,rfl⟩:=he;obtain⟨b3,o3,h1,h2,h3,h4⟩:=hx (by omega);exact⟨b3,o3,h1,h2,h3,h4⟩
      have ec:=qR k _ hch;unfold jv at ec;rw[Nat.mul_one] at ec;replace ec:=ah ec hB;obtain⟨Ar,cr,Br,dr,hLi,hqi⟩:=HST.out.at HFT.out.good hlt;obtain⟨ri,hri⟩:∃ ri,ri=dA cnt g.nodes m i:=⟨_,rfl⟩;have hrli:=HRL.out i hlt;rw[← hri] at hLi hqi hrli;have HRI:=Ac hri;have e0:wr.cell? ⟨bo,i*3,none⟩=some (.bool (au ri).neg):=HST.out.made.cell (j:=0) hLi (by omega) rfl;have e1:=HST.out.made.cell (j:=1) hLi (by omega) rfl; have e2:=HST.out.made.cell (j:=2) hLi (by omega) rfl;obtain⟨qo,hqo⟩:=ay (l:=L) (k:=cc) (by rw[HST.out.len]; exact hcl);have HQO:=Ac hqo; have HQI:=Ac hqi;clear qR hch hkk hcn hLi hqi hri hqo;go_upto_region 11 with(fail)
      go_cut [61] from 49 to 62 (fun v wx=>v = .bool (!cnt n)∧wx=wr)
      case first =>
       cases hb1:(part==1) <;> cases hb2:(part==2) <;> cases ob
       all_goals
        have HC2:=Ac (HCNT.out.trans (by rw[hb1,hb2]));go_wp2_with fail
        go_meet
        exact⟨by rw[HC2.out]; rfl,rfl⟩
      case rest =>
       obtain⟨rfl,rfl⟩:=hcut;cases hcb:cnt n
       ·have hval:dA cnt g.nodes m cc=ri:=by rw[HRK.out,hcb,HRI.out]; rfl
        have CU:=Ac hval;clear hval;go_wp2_with fail
        refine bC (fun w'=>w'.cell? ⟨nb,3,none⟩=some (.slice (some ⟨b3,o3,none⟩) n.next.length c3)∧w'.cell? ⟨b3,o3+k,none⟩=some (.int .i64 (cc:Int))∧w'.cell? ⟨bo,i*3,none⟩=some (.bool (au ri).neg)∧w'.cell? ⟨bo,i*3+1,none⟩=some (.slice Ar (au ri).num.length cr)∧w'.cell? ⟨bo,i*3+2,none⟩=some (.slice Br (au ri).den.length dr)) 11 1 (by kernel_rfl) rfl (by kernel_rfl) ?_;have hHeld:(fun w':World=>w'.cell? ⟨nb,3,none⟩=some (.slice (some ⟨b3,o3,none⟩) n.next.length c3)∧w'.cell? ⟨b3,o3+k,none⟩=some (.int .i64 (cc:Int))∧w'.cell? ⟨bo,i*3,none⟩=some (.bool (au ri).neg)∧w'.cell? ⟨bo,i*3+1,none⟩=some (.slice Ar (au ri).num.length cr)∧w'.cell? ⟨bo,i*3+2,none⟩=some (.slice Br (au ri).den.length dr)) wc.drew:=⟨x3,ec,e0,e1,e2⟩;simp only[List.take_succ_cons,List.take_zero];have hb:Below wc.heap.size wc wc.drew:=aC (Below.refl _ wc) 1;replace x3:=ah x3 hb;replace ec:=ah ec hb;replace e0:=ah e0 hb;replace e1:=ah e1 hb;replace e2:=ah e2 hb;replace HST:=Ac (HST.out.below hb);replace HQI:=Ac (HQI.out.below hb);replace rx:=rx.below hb rx.lt; replace rn:=rn.below hb rn.lt;replace k5:=Nat.lt_of_lt_of_le k5 hb.size;replace hB:=hB.trans (hb.mono hB.size);clear hb;generalize wc.drew=wn at *;refine tk0 [0,1,2,3,4,5,6,7,8,9,10] ?_;iterate 11 (refine tk (v:=?_) rfl (by kernel_rfl) (by kernel_rfl) (by kernel_rfl) (fun _ _ _ h=>h) (Or.inl ⟨by rfl,?_⟩) hHeld ?_;rotate_left;(focus intro wx hSx;(try dsimp only at hSx);go_split_ands;go_simp;try with_reducible rfl);try simp only[Act.put,lq1,lq2,lq3,lq4,lq5,lq6])
        refine tk1 ?_;refine wpAnyH_done (by kernel_rfl) ?_ _;clear hHeld;show wpList _ _ _ _ _ _;have HU:=HQI;have hrow:=HST.out.made.row;have y0:wn.cell? ⟨bo,cc*3,none⟩=_:=HST.out.made.cell (j:=0) HQO.out (by omega) rfl; have y1:=HST.out.made.cell (j:=1) HQO.out (by omega) rfl; have y2:=HST.out.made.cell (j:=2) HQO.out (by omega) rfl;have g0:=HST.out.made.row.frozen (cc*3); have g1:=HST.out.made.row.frozen (cc*3+1); have g2:=HST.out.made.row.frozen (cc*3+2);obtain⟨Wz,hWz,hsz,hbz,hszz,hgz⟩:=HST.out.set HFT.out.good (by omega) HKD.out (.slice Ar (au ri).num.length cr) (.slice Br (au ri).den.length dr) (by rw[CU.out]; exact HU.out);rw[CU.out] at hWz;have HWz:=Ac hWz; have HSZ:=Ac hsz; have HBZ:=Ac (hB.trans hbz);have rxz:=rP hgz rx (by omega); have rnz:=rP hgz rn (by omega);have DN:=Ac rxz; have DR:=Ac rnz;have k6:nb < Wz.heap.size:=by omega
        clear hWz hsz hbz hszz hgz rx rn hB HST HQI x3 ec e0 e1 e2 rxz rnz;go_wp2
        rw[← HWz.out];show Exit.then _ _ .normal _ _;go_wp2
        go_roundw
        case rel=>exact⟨k+1,_,by omega,by go_num,HSZ.out,DN.out,DR.out,HBZ.out,k6⟩
        case measure=>simp[intOf]; omega
       ·have ad5:=HFT.out.chan n hmem hk3;obtain⟨z,hz⟩:=ay (l:=bJ m n) (k:=k) (by rw[ad5.1]; exact hkt);have hzr:=ad5.2 z (List.mem_of_getElem? hz);have hzd:(bJ m n).getD k 0=z:=by rw[List.getD_eq_getElem?_getD,hz]; rfl
        obtain⟨rc,hrc⟩:∃ rc:Rat,rc=ri*z:=⟨_,rfl⟩;have hval:dA cnt g.nodes m cc=rc:=by rw[HRK.out,hcb,if_pos rfl,hzd,← HRI.out,hrc]
        have CU:=Ac hval; have HZD:=Ac hzd; have HRC:=Ac hrc;have a0:=rx.cell (i:=0) rfl; have a1:=rx.cell (i:=1) rfl; have a2:=rx.cell (i:=2) rfl;clear hval hz hzd ad5 hrc;go_wp2_with fail
        refine bC (fun w'=>w'.cell? ⟨nb,3,none⟩=some (.slice (some ⟨b3,o3,none⟩) n.next.length c3)∧w'.cell? ⟨b3,o3+k,none⟩=some (.int .i64 (cc:Int))∧w'.cell? ⟨bo,i*3,none⟩=some (.bool (au ri).neg)∧w'.cell? ⟨bo,i*3+1,none⟩=some (.slice Ar (au ri).num.length cr)∧w'.cell? ⟨bo,i*3+2,none⟩=some (.slice Br (au ri).den.length dr)∧w'.cell? ⟨w.heap.size,0,none⟩=some (.int .i64 g.ak)∧w'.cell? ⟨w.heap.size,1,none⟩=some (.slice (some ⟨b,q,none⟩) g.nodes.length c)∧w'.cell? ⟨w.heap.size,2,none⟩=some (.slice Ai g.infos.length ci)) 17 1 (by kernel_rfl) rfl (by kernel_rfl) ?_;have hHeld:(fun w':World=>w'.cell? ⟨nb,3,none⟩=some (.slice (some ⟨b3,o3,none⟩) n.next.length c3)∧w'.cell? ⟨b3,o3+k,none⟩=some (.int .i64 (cc:Int))∧w'.cell? ⟨bo,i*3,none⟩=some (.bool (au ri).neg)∧w'.cell? ⟨bo,i*3+1,none⟩=some (.slice Ar (au ri).num.length cr)∧w'.cell? ⟨bo,i*3+2,none⟩=some (.slice Br (au ri).den.length dr)∧w'.cell? ⟨w.heap.size,0,none⟩=some (.int .i64 g.ak)∧w'.cell? ⟨w.heap.size,1,none⟩=some (.slice (some ⟨b,q,none⟩) g.nodes.length c)∧w'.cell? ⟨w.heap.size,2,none⟩=some (.slice Ai g.infos.length ci)) wc.drew:=⟨x3,ec,e0,e1,e2,a0,a1,a2⟩;simp only[List.take_succ_cons,List.take_zero];have hb:Below wc.heap.size wc wc.drew:=aC (Below.refl _ wc) 1;replace x3:=ah x3 hb;replace ec:=ah ec hb;replace e0:=ah e0 hb;replace e1:=ah e1 hb;replace e2:=ah e2 hb;replace a0:=ah a0 hb;replace a1:=ah a1 hb;replace a2:=ah a2 hb;replace HST:=Ac (HST.out.below hb);replace HQI:=Ac (HQI.out.below hb);replace rx:=rx.below hb rx.lt; replace rn:=rn.below hb rn.lt;replace k5:=Nat.lt_of_lt_of_le k5 hb.size;replace hB:=hB.trans (hb.mono hB.size);clear hb;generalize wc.drew=wn at *;refine tk0 [0,1,2,3,4,5,6,7,8,9,10,11,12,13] ?_;iterate 14 (refine tk (v:=?_) rfl (by kernel_rfl) (by kernel_rfl) (by kernel_rfl) (fun _ _ _ h=>h) (Or.inl ⟨by rfl,?_⟩) hHeld ?_;rotate_left;(focus intro wx hSx;(try dsimp only at hSx);go_split_ands;go_simp;try with_reducible rfl);try simp only[Act.put,lq1,lq2,lq3,lq4,lq5,lq6])
        refine tk1 ?_;refine tk2 14 (by kernel_rfl) rfl fun K hK=>?_
        go_simp;refine(zn wn (Old F w.heap.size) _ _ g m i k n (HG.out.on (Below.same' hB _)) (Ae.keep HM.out (fun _ h _=>h) (Below.same' hB _)) HFT.out hn hml HX.out hk3 hkt).mono ?_;rintro e wn ⟨u1,rfl,hb,hu⟩;rw[HZD.out] at hu;have HU1:=Ac (hu.mono (G:=fun b=>(F b∧b < w.heap.size)∨bo < b) (fun b hb _=>hb.elim (fun h=>.inl ⟨h.1,h.2⟩) fun h=>.inr (by omega)));clear hu;replace x3:=ah x3 hb;replace ec:=ah ec hb;replace e0:=ah e0 hb;replace e1:=ah e1 hb;replace e2:=ah e2 hb;replace a0:=ah a0 hb;replace a1:=ah a1 hb;replace a2:=ah a2 hb;replace HST:=Ac (HST.out.below hb);replace HQI:=Ac (HQI.out.below hb);replace rx:=rx.below hb rx.lt; replace rn:=rn.below hb rn.lt;replace k5:=Nat.lt_of_lt_of_le k5 hb.size;replace hB:=hB.trans (hb.mono hB.size);clear hb;dsimp only;clear hHeld;refine hK.out _ _ ⟨x3,ec,e0,e1,e2,a0,a1,a2⟩ (fun hHeld=>?_);clear hK K;try simp only[Act.put,lq1,lq2,lq3,lq4,lq5,lq6]
        refine tk2 15 (by kernel_rfl) rfl fun K hK=>?_
        go_simp;refine(wY wn (fun b=>(F b∧b < w.heap.size)∨bo < b) _ _ ri z (Az.make (r:=au ri) rfl HQI.out.1 HQI.out.2) HU1.out (by omega) (by omega)).mono ?_;rintro e wn ⟨u2,rfl,hb,hu⟩;rw[← HRC.out] at hu;have hu2:=hu.mono (G:=fun b=>(F b∧b < w.heap.size)∨bo < b) (fun b hb _=>hb.elim id fun h=>.inr (by omega));obtain⟨A10,c10,B10,d10,rfl,bV⟩:=hu2.opened;have HU:=Ac bV;clear hu hu2 bV HU1;replace x3:=ah x3 hb;replace ec:=ah ec hb;replace e0:=ah e0 hb;replace e1:=ah e1 hb;replace e2:=ah e2 hb;replace a0:=ah a0 hb;replace a1:=ah a1 hb;replace a2:=ah a2 hb;replace HST:=Ac (HST.out.below hb);replace HQI:=Ac (HQI.out.below hb);replace rx:=rx.below hb rx.lt; replace rn:=rn.below hb rn.lt;replace k5:=Nat.lt_of_lt_of_le k5 hb.size;replace hB:=hB.trans (hb.mono hB.size);clear hb;dsimp only;clear hHeld;refine hK.out _ _ ⟨x3,ec,e0,e1,e2,a0,a1,a2⟩ (fun hHeld=>?_);clear hK K;try simp only[Act.put,lq1,lq2,lq3,lq4,lq5,lq6]
        refine tk0 [16] ?_;(refine tk (v:=?_) rfl (by kernel_rfl) (by kernel_rfl) (by kernel_rfl) (fun _ _ _ h=>h) (Or.inl ⟨by rfl,?_⟩) hHeld ?_;rotate_left;(focus intro wx hSx;(try dsimp only at hSx);go_split_ands;go_simp;try with_reducible rfl);try simp only[Act.put,lq1,lq2,lq3,lq4,lq5,lq6])
        refine tk1 ?_;refine wpAnyH_done (by kernel_rfl) ?_ _;clear hHeld;show wpList _ _ _ _ _ _;have hrow:=HST.out.made.row;have y0:wn.cell? ⟨bo,cc*3,none⟩=_:=HST.out.made.cell (j:=0) HQO.out (by omega) rfl; have y1:=HST.out.made.cell (j:=1) HQO.out (by omega) rfl; have y2:=HST.out.made.cell (j:=2) HQO.out (by omega) rfl;have g0:=HST.out.made.row.frozen (cc*3); have g1:=HST.out.made.row.frozen (cc*3+1); have g2:=HST.out.made.row.frozen (cc*3+2);obtain⟨Wz,hWz,hsz,hbz,hszz,hgz⟩:=HST.out.set HFT.out.good (by omega) HKD.out (.slice A10 (au rc).num.length c10) (.slice B10 (au rc).den.length d10) (by rw[CU.out]; exact HU.out);rw[CU.out] at hWz;have HWz:=Ac hWz; have HSZ:=Ac hsz; have HBZ:=Ac (hB.trans hbz);have rxz:=rP hgz rx (by omega); have rnz:=rP hgz rn (by omega);have DN:=Ac rxz; have DR:=Ac rnz;have k6:nb < Wz.heap.size:=by omega
        clear hWz hsz hbz hszz hgz rx rn hB HST HQI x3 ec e0 e1 e2 a0 a1 a2 rxz rnz;go_wp2
        rw[← HWz.out];show Exit.inBlock _ _ .normal _ _;go_wp2
        go_roundw
        case rel=>exact⟨k+1,_,by omega,by go_num,HSZ.out,DN.out,DR.out,HBZ.out,k6⟩
        case measure=>simp[intOf]; omega
     ·have hnx:=HST.out.next HX.out (by omega);have HNX:=Ac hnx;clear hnx;go_wp2
      go_roundw
      case rel=>exact⟨i+1,L,by omega,by go_num,HNX.out,rx,hB,by omega⟩
      case measure=>simp[intOf]; omega
  ·go_wp2
   go_ret;have hd:=HST.out.done HFT.out.good (by omega);have hraw:=HST.out.made.tN (G:=Ext F w.heap.size) (fun b hb=>hb.elim (fun h=>.inl h.1) (fun h=>.inr (by omega))) (.inr (by omega)) (c:=g.nodes.length) (by rw[HST.out.len]; exact Nat.le_refl _);rw[HST.out.len,hd] at hraw;exact⟨_,rfl,hB,⟨_,rfl⟩,hraw⟩
theorem jo (w:World) (F:Ag) (vg vm:Value) (g:Gm) (m:List (List Raw)) (hg:AA w F vg g) (hsm:Small g) (hm:Ae w F vm m) (hlm:m.length≤100000) (hb:AO m) :
  Calls Tryz.prog 50 #[vg,vm] w (Ret w fun v _=>v = .int .i64 (bF g m)):=by
 have HG:=Ac hg; have HM:=Ac hm; have HS:=Ac hsm;have hli:=hsm.infos;have hact:dP g=0→∀ i∈g.infos,i.actions≤10:=zi;obtain⟨vn,vi,rfl,⟨A,c,rfl,hc,_⟩,⟨Ai,ci,rfl,hci,_⟩⟩:=hg;clear hm hsm;go_enter Tryz.func50,Tryz.ntmps50;go_wp2_with fail
 obtain⟨W,hW,rx,hB,hz⟩:=aB w 25 #[.int .i64 g.ak,.slice A g.nodes.length c,.slice Ai g.infos.length ci];rw[← hW];clear hW hz;replace HG:=Ac (HG.out.on (Below.same' hB F)); replace HM:=Ac (Ae.below HM.out hB);have x0:=rx.cell (i:=0) rfl; have x1:=rx.cell (i:=1) rfl; have x2:=rx.cell (i:=2) rfl;clear rx;go_wp2_with fail
 refine(afe W F _ g HG.out HS.out).mono ?_;rintro e w1 ⟨_,rfl,hb1,rfl⟩;replace HG:=Ac (HG.out.on (Below.same' hb1 F)); replace HM:=Ac (Ae.below HM.out hb1);replace x0:=ah x0 hb1; replace x1:=ah x1 hb1; replace x2:=ah x2 hb1;have hB1:=hB.trans (hb1.mono hB.size);clear hb1;have HE:=Ac (show bF g m=if dP g≠0 then dP g else lS (g.infos.map Inf.actions) m from rfl);generalize dP g=fe at *;by_cases h0:fe=0
 ·have t1:(fe != 0)=false:=by rw[h0]; rfl
  have HF:=Ac (HE.out.trans (if_neg (by simpa using h0)));have ha:=hact h0;clear h0 hact;dsimp only;go_wp2_with fail
  refine(afA w1 F _ _ g m HG.out HM.out hlm (by omega) hb ha).mono ?_;rintro e w2 ⟨_,rfl,hb2,rfl⟩;have hB2:=hB1.trans (hb2.mono hB1.size);rw[← HF.out];dsimp only;go_wp2
  go_ret;exact⟨_,rfl,hB2,rfl⟩
 ·have t1:(fe != 0)=true:=by simp[h0]
  have HF:=Ac (HE.out.trans (if_pos h0));clear h0 hact;dsimp only;go_wp2
  go_ret;exact⟨_,rfl,hB1,by rw[HF.out]; rfl⟩
end Go.Proofs.YtkcheepafifjaaaGreatDoor
