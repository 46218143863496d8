/- subgame.Replace. -/
import Derived.Test.YthmklhapjegfdaaGreatDoorV25
import Derived.Test.YthmklhapjegfdaaGreatDoorV36
set_option linter.all false
set_option maxRecDepth 100000
set_option maxHeartbeats 12800000
namespace Go.Proofs.YthmklhapjegfdaaGreatDoor
open Lib renaming hid → Ac
open Go.RowKit
theorem BQ.bad {F:Ag} {g:Gm} {roots:List Int} {m o:List (List Raw)} {er:Int} {w':World} (h:rP g roots m o=er) (h0:er≠0):BQ F (rP g roots m o) (uF g roots m o) (.tuple #[.slice none 0 0,.int .i64 er]) w':=by
 unfold uF;rw[h,if_neg h0];exact⟨_,rfl,Ae.nil _ _⟩
theorem afe {m:List (List Rat)} (h:CP (m.map (List.map aG))) {l:List Rat} (hl:l∈m):∀ x∈l,rl x≤20000:=fun x hx=>by
 have:=h _ (List.mem_map_of_mem hl) _ (List.mem_map_of_mem hx);have h2:rl x≤4:=Nat.max_le.2 this;omega
theorem Bz.sets {w:World} {F:Ag} {p:Int} {A1 A2 A3 A4 A5:Option Addr} {n1 c1 n2 c2 n3 c3 n4 c4 n5 c5:Nat} {g:Gm} {par last:List Int} {sets:List (List Int)} (h:Bz w F (.agg #[.int .i64 p,.slice A1 n1 c1,.slice A2 n2 c2,.slice A3 n3 c3,.slice A4 n4 c4,.slice A5 n5 c5]) g par last sets) :
  n5=sets.length∧Bc w F (.slice A5 sets.length c5) sets:=by
 obtain⟨vn,vi,vp,vl,vs,e,_,_,_,_,h5⟩:=h;simp only[Value.agg.injEq,Array.mk.injEq,List.cons.injEq,and_true] at e;obtain⟨_,_,_,_,_,rfl⟩:=e;have h6:=h5;obtain⟨A,c,e,_,_⟩:=h6;simp only[Value.slice.injEq] at e;obtain⟨_,rfl,_⟩:=e;exact⟨rfl,h5⟩
theorem Bc.get {w:World} {F:Ag} {v:Value} {L:List (List Int)} (h:Bc w F v L) {k:Nat} {l:List Int} (hk:L[k]? = some l):∃ b o c u,v = .slice (some ⟨b,o,none⟩) L.length c∧b < w.heap.size∧w.cell? ⟨b,o+k,none⟩=some u∧Ah w F u l:=by
 obtain⟨A,c,rfl,hc,hr⟩:=h;obtain⟨b,o,rfl,hF,hb,hx⟩:=hr (by have:=aI hk; omega);obtain⟨u,e,hu⟩:=hx k l hk;rw[Nat.mul_one] at e;exact⟨b,o,c,u,rfl,hb,e,hu⟩
theorem AU.get {w:World} {F:Ag} {v:Value} {l:List Bool} (h:AU w F v l) {k:Nat} {x:Bool} (hk:l[k]? = some x):∃ b o c,v = .slice (some ⟨b,o,none⟩) l.length c∧b < w.heap.size∧w.cell? ⟨b,o+k,none⟩=some (.bool x):=by
 obtain⟨A,c,rfl,hc,hr⟩:=h;obtain⟨b,o,rfl,hF,hb,hx⟩:=hr (by have:=aI hk; omega);have e:=hx k x hk;unfold uJ at e;rw[Nat.mul_one] at e;exact⟨b,o,c,rfl,hb,e⟩
theorem ajW {w:World} {bo:Nat} {n:Nat} {Fd:Ag} (h:Row w bo 64 (List.replicate n (.slice none 0 0))) (hF:¬ Fd bo):HeldRows w bo 64 Fd (List.replicate n (.slice none 0 0,[])) []:=by
 refine⟨?_,fun q hq=>?_,hF⟩
 ·rw[List.append_nil,List.map_replicate];exact h
 ·rw[List.eq_of_mem_replicate hq];exact Az.nil _ _
theorem aff (w:World) (F:Ag) (u vr vm vo:Value) (g:Gm) (roots:List Int) (m o:List (List Raw)) (hg:AB w F u g) (hr:Ah w F vr roots) (hm:Ae w F vm m) (ho:Ae w F vo o) (hT:BH w) (hsm:Small g) (hl:roots.length≤1000)
  (hlm:m.length≤1000∧∀ l∈m,l.length≤1000) (hlo:o.length≤1000∧∀ l∈o,l.length≤1000) (hbm:BI m) (hbo:BI o) (h4m:CP m) (h4o:CP o) :
  Calls Tryz.prog 16 #[u,vr,vm,vo] w (Ret w (BQ (fun b=>w.heap.size≤b) (rP g roots m o) (uF g roots m o))):=by
 have HG:=Ac hg;have HR:=Ac hr;have HM:=Ac hm;have HO:=Ac ho;have HT:=Ac hT;have hn:=hsm.nodes;have HS:=Ac hsm;have HBM:=Ac hbm;have HBO:=Ac hbo;have H4M:=Ac h4m;have H4O:=Ac h4o;have HLM:=Ac hlm;have HLO:=Ac hlo;have lm:=hlm.1;obtain⟨vn,vi,rfl,⟨A,c,rfl,hc,hN⟩,⟨Ai,ci,rfl,hci,hI⟩⟩:=hg;obtain⟨Am,cm,rfl,hcm,hMM⟩:=hm;obtain⟨Ao,co,rfl,hco,hOO⟩:=ho;clear hN hI hMM hOO hr hsm hT hbm hbo h4m h4o hlm hlo;go_in;go_wp2_with fail
 refine zaS ?_;intro W hW rx hB hz;clear hW;refine(open_any W F _ _ g roots (HG.out.on (Below.same' hB F)) (HR.out.on (Below.same' hB F)) HS.out hl).mono ?_;rintro e w1 ⟨_,rfl,hb1,vv,rfl,⟨p0,A1,n1,c1,A2,n2,c2,A3,n3,c3,A4,n4,c4,A5,n5,c5,rfl⟩,hv2⟩;replace rx:=rx.below hb1 rx.lt;replace hB:=hB.trans (hb1.mono hB.size);have HV2:=Ac hv2;clear hv2 hz hb1;have HOI:=Ac (fun h:dD g roots=0=>vZ h);have H1:=Ac (fun h:dD g roots≠0=>show rP g roots m o=dD g roots by unfold rP; rw[if_pos h]);have H2:=Ac (fun h:dD g roots=0=>show rP g roots m o=if lW (insL g.nodes.length (aQ g.nodes).2 roots) (aW g)=false then 13 else if gU g m≠0 then gU g m else gU g o by unfold rP; rw[if_neg (by simpa using h)]);generalize dD g roots=er at *;dsimp only;by_cases he:er=0
 case neg =>
  refine zbI ?_;intro hd;have HF:=Ac (H1.out he);have HNZ:=Ac he;clear he rx;go_wp2
  go_ret2;exact⟨_,rfl,hB.alloc hB.size _,BQ.bad HF.out HNZ.out⟩
 have HF0:=Ac (H2.out he);obtain⟨hf0,hin⟩:=HOI.out he;have HIN:=Ac hin;have HFO:=Ac hf0;have hfl:=(fine hf0).last;have HFL:=Ac hfl;have HVX:=Ac (HV2.out he);have HEZ:=Ac he;subst he;clear hin hf0 hfl H1 H2 HOI HV2;go_wp2_with fail
 obtain⟨W2,hW2,hbx,nX,af6⟩:=aT w1 98 #[.int .i64 p0,.slice A1 n1 c1,.slice A2 n2 c2,.slice A3 n3 c3,.slice A4 n4 c4,.slice A5 n5 c5];rw[← hW2];clear hW2 af6;refine(tq _ (fun b=>F b∨W.heap.size≤b) _ _ g (aQ g.nodes).1 (aQ g.nodes).2 (aW g) roots (HVX.out.on (Below.same' nX _)) ((HR.out.on (Below.same' (hB.trans (nX.mono hB.size)) F)).keep (fun b hb _=>.inl hb) (Same.refl _ _)) hl byOmega (fH _ _).2 HIN.out HFL.out (dZ HS.out).1 (dZ HS.out).2 (fun l hl x hx=>mJ (Nat.le_refl _) l hl x hx)).mono ?_;rintro e w2 ⟨_,rfl,hb2,rfl⟩;replace rx:=(rx.below nX rx.lt).below hb2 (by have:=rx.lt; have:=nX.size; omega);replace hbx:=hbx.below hb2 hbx.lt;have h12:=nX.trans (hb2.mono nX.size);replace hB:=hB.trans (h12.mono hB.size);replace HVX:=Ac (HVX.out.on (Below.same' h12 _));clear hb2 nX h12;obtain⟨cl,hcl⟩:=named (lW (insL g.nodes.length (aQ g.nodes).2 roots) (aW g));have HCL:=Ac hcl;rw[← hcl] at HF0 ⊢;clear hcl;dsimp only;cases cl
 case false =>
  have HF:=Ac (HF0.out.trans (if_pos rfl));clear HF0 rx hbx;go_wp2
  go_ret2;exact⟨_,rfl,hB,BQ.bad HF.out aA⟩
 have HF1:=Ac (HF0.out.trans (if_neg aA));clear HF0;go_wp2_with fail
 obtain⟨W3,hW3,ry,hb3,hz3⟩:=aP w2 28 #[.slice Am m.length cm,.slice Ao o.length co];rw[← hW3];clear hW3 hz3;replace rx:=rx.below hb3 rx.lt;replace hbx:=hbx.below hb3 hbx.lt;replace hB:=hB.trans (hb3.mono hB.size);replace HVX:=Ac (HVX.out.on (Below.same' hb3 _));obtain⟨yb,hyb⟩:=named w2.heap.size;rw[← hyb] at ry ⊢;clear hb3 hyb;obtain⟨vb,hvb⟩:=named w1.heap.size;rw[← hvb] at hbx ⊢;clear hvb;go_wp2_with fail
 have HBW:=Ac hB;have HRX:=Ac rx;have HBX:=Ac hbx;have HRY:=Ac ry;have hxz:=rx.lt;have hbz:=hbx.lt;have hyz:=ry.lt;clear rx hbx ry;go_loopw [13,14,37] (fun _ _ iv wr=>∃ k:Nat,k≤2∧iv = .int .i64 (k:Int)∧(1≤k→gU g m=0)∧(2≤k→gU g o=0)∧Below W3.heap.size W3 wr) (fun _ _ iv _=>2 - (intOf iv).toNat)
 case atStart=>exact⟨0,byOmega,rfl,fun h=>by omega,fun h=>by omega,Below.refl _ _⟩
 case round =>
  obtain⟨k,hk,rfl,hk1,hk2,hbel⟩:=hrel;have HK1:=Ac hk1;have HK2:=Ac hk2;have hB:=HBW.out.trans (hbel.mono HBW.out.size);have rx:=HRX.out.below hbel hxz;have hbx:=HBX.out.below hbel hbz;have ry:=HRY.out.below hbel hyz;refine ZL ?_;intro x0 x1 x2;clear hk1 hk2;by_cases hlt:k < 2
  case pos =>
   have hkk:k=0∨k=1:=byOmega;rcases hkk with rfl | rfl
   ·have y0:=ry.cell (i:=0) rfl;go_wp2_with fail
    refine(vF wr F _ _ g m (HG.out.on (Below.same' hB F)) HS.out (Ae.on HM.out (Below.same' hB F)) (HT.out.on hB) (by have:=HLM.out.1; omega) HBM.out).mono ?_;rintro e wp ⟨_,rfl,hbp,rfl⟩;have fZ:=hbel.trans (hbp.mono hbel.size);have hB2:=hB.trans (hbp.mono hB.size);have HE:=Ac (show gU g m=gU g m from rfl);obtain⟨er,her⟩:=named (gU g m);rw[← her];by_cases he:er=0
    case neg =>
     refine zbI ?_;intro hd;have HFN:=Ac (show rP g roots m o=er by rw[her]; exact HF1.out.trans (if_pos (by rw[← her]; exact he)));have HNZ:=Ac he;clear he her x0 x1 x2 y0 rx hbx ry hbel hbp HE;dsimp only;go_wp2
     go_ret2;exact⟨_,rfl,hB2,BQ.bad HFN.out HNZ.out⟩
    have HZ:=Ac (her.symm.trans he);subst he;clear her x0 x1 x2 y0 rx hbx ry hbel hbp HE hB hB2;dsimp only;go_wp2
    go_roundw
    case rel=>exact⟨1,byOmega,by go_num,fun _=>HZ.out,fun h=>by omega,fZ⟩
    case measure=>simp[intOf] <;> omega
   ·have y0:=ry.cell (i:=1) rfl;go_wp2_with fail
    refine(vF wr F _ _ g o (HG.out.on (Below.same' hB F)) HS.out (Ae.on HO.out (Below.same' hB F)) (HT.out.on hB) (by have:=HLO.out.1; omega) HBO.out).mono ?_;rintro e wp ⟨_,rfl,hbp,rfl⟩;have fZ:=hbel.trans (hbp.mono hbel.size);have hB2:=hB.trans (hbp.mono hB.size);have HE:=Ac (show gU g o=gU g o from rfl);have HF2:=Ac (HF1.out.trans (if_neg (by simpa using HK1.out (Nat.le_refl _))));obtain⟨er,her⟩:=named (gU g o);rw[← her];by_cases he:er=0
    case neg =>
     refine zbI ?_;intro hd;have HFN:=Ac (show rP g roots m o=er by rw[her]; exact HF2.out);have HNZ:=Ac he;clear he her x0 x1 x2 y0 rx hbx ry hbel hbp HE;dsimp only;go_wp2
     go_ret2;exact⟨_,rfl,hB2,BQ.bad HFN.out HNZ.out⟩
    have HZ:=Ac (her.symm.trans he);subst he;clear her x0 x1 x2 y0 rx hbx ry hbel hbp HE hB hB2;dsimp only;go_wp2
    go_roundw
    case rel=>exact⟨2,byOmega,by go_num,fun _=>HK1.out (Nat.le_refl _),fun _=>HZ.out,fZ⟩
    case measure=>simp[intOf] <;> omega
  have HZM:=Ac (HK1.out byOmega);have HZO:=Ac (HK2.out byOmega);have hk2:k=2:=byOmega;subst hk2;have HE0:=Ac (show rP g roots m o=0 by rw[HF1.out,if_neg (by simpa using HZM.out)]; exact HZO.out);clear hk hlt HK1 HK2 x0 x1 x2;refine zaM ?_;intro v0 v1 v2 v3 v4 v5;go_wp2_with fail
  refine(vY wr (fun b=>F b∨W.heap.size≤b) _ _ g (aQ g.nodes).1 (aQ g.nodes).2 (aW g) roots (HVX.out.on (Below.same' hbel _)) ((HR.out.on (Below.same' hB F)).keep (fun b hb _=>.inl hb) (Same.refl _ _)) hl byOmega (fH _ _).2 HIN.out HFL.out).mono ?_;rintro e w5 ⟨vb',rfl,hb5,hvb⟩;have hB5:=hB.trans (hb5.mono hB.size);have ak0:=hbel.trans (hb5.mono hbel.size);replace hbx:=hbx.below hb5 hbx.lt;have Ed:=Ac (show AU w5 (fun _=>True) vb' (insL g.nodes.length (aQ g.nodes).2 roots) from AU.keep hvb (fun _ _ _=>trivial) (Same.refl _ _));obtain⟨Ab,cb,rfl,hcb,_⟩:=hvb;have hil:=lF g.nodes.length (aQ g.nodes).2 roots;obtain⟨hn5,ak1⟩:=(HVX.out.on (Below.same' ak0 _)).sets;have HST:=Ac ak1;subst hn5;have HSM:=Ac (aci HZM.out);have HSO:=Ac (aci HZO.out);have HOUT:=Ac (show uF g roots m o=ajw (insL g.nodes.length (aQ g.nodes).2 roots) (aW g) m o m.length by unfold uF; rw[if_pos HE0.out]);have HSN:=Ac (ahY HFO.out);have HSI:=Ac (show ∀ l∈aW g,∀ x∈l,0≤x∧x < (g.nodes.length:Int) from fun l hl x hx=>mJ (Nat.le_refl _) l hl x hx);have hss:=(dZ HS.out).1;obtain⟨m',hm1,_,_⟩:=aga HZM.out H4M.out;obtain⟨o',ho1,_,_⟩:=aga HZO.out H4O.out;have HMR:=Ac hm1;have HOR:=Ac ho1;generalize insL g.nodes.length (aQ g.nodes).2 roots=inn at *;generalize aW g=sets at *;clear hb5 rx ry v0 v1 v2 v3 v4 v5 ak1 hm1 ho1 HVX HBX HRX HRY HIN HFL;have v5:=hbx.cell (i:=5) rfl;have hlm1:=HLM.out.1;dsimp only;go_wp2_with (at_make; refine gG _ rfl _ _ 28 rfl 64 (.slice none 0 0) 24 Tryz.underlying28 ak rfl m.length rfl rfl byOmega byOmega ?_; intro w6 hb6 hz6e hm6; have v6:=ah v5 hb6; have HM6:=Ac hm6; clear hm6 v5)
  obtain⟨ob,hob⟩:=named w5.heap.size;have hob1:w.heap.size≤ob:=by rw[hob];exact hB5.size
  have hob2:ob < w6.heap.size:=byOmega;have hob3:w5.heap.size≤ob:=by rw[hob];exact Nat.le_refl _
  rw[← hob] at HM6 ⊢;have HH0:=Ac (ajW (Fd:=fun b=>w.heap.size≤b∧b≠ob) HM6.out (fun h=>h.2 rfl));clear hob hz6e hbx HM6;have hz6:=hB5.size;have HB6:=Ac hB5;have HB60:=Ac hb6;clear hB hB5 hbel ak0 hb6;go_wp2_with fail
  go_loopw [17,18,19,57] (fun _ _ _ iv wr=>∃ (k:Nat) (L:List (Value×List Raw)),k≤sets.length∧iv = .int .i64 (k:Int)∧L.length=m.length∧L.map Prod.snd=sQ (uD inn sets m o) m.length k∧HeldRows wr ob 64 (fun b=>w.heap.size≤b∧b≠ob) L []∧Below w5.heap.size w5 wr) (fun _ _ _ iv _=>sets.length - (intOf iv).toNat)
  case atStart=>exact⟨0,_,Nat.zero_le _,rfl,List.length_replicate,by rw[ad1,List.map_replicate],HH0.out,HB60.out⟩
  case round =>
   clear HH0 v6 HB60;obtain⟨k,L,hk,rfl,hLl,hLr,hH,hbel⟩:=hrel;have HH:=Ac hH;have HLL:=Ac hLl;have HLR:=Ac hLr;clear hH hLl hLr;by_cases hlt:k < sets.length
   case neg =>
    go_wp2_with fail
    go_ret2;refine⟨_,rfl,HB6.out.trans (hbel.mono hz6),_,by rw[HE0.out]; rfl,?_⟩;have h5:=HH.out.rows (F:=fun b=>w.heap.size≤b) (fun b hb=>hb.1) hob1 (c:=m.length) (by rw[HLL.out]; exact Nat.le_refl _);rw[HLL.out,HLR.out,show k=m.length by have:=HSM.out; omega,afG] at h5;rw[HOUT.out];exact h5
   obtain⟨l,hl'⟩:=aC hlt;obtain⟨x,t,rfl⟩:∃ x t,l=x :: t:=by
    cases l with
    | nil=>exact absurd rfl (HSN.out [] (List.mem_of_getElem? hl'))
    | cons x t=>exact⟨x,t,rfl⟩
   obtain⟨hx0,hx1⟩:=HSI.out _ (List.mem_of_getElem? hl') x List.mem_cons_self;obtain⟨q,rfl⟩:=Int.eq_ofNat_of_zero_le hx0;obtain⟨y,hy⟩:=aC (l:=inn) (k:=q) byOmega;obtain⟨bs,os,cs,u9,e1,hbs,e2,hrow⟩:=Bc.get HST.out hl';injection e1 with e11 e12 e13
   subst e11;clear e12 e13;obtain⟨bl,ol,cl,rfl,_,hbl,e3⟩:=Ah.get hrow (show(((q:Int) :: t))[0]? = some (q:Int) from rfl);obtain⟨bi,oi,ci',e4,hbi,e5⟩:=AU.get Ed.out hy;injection e4 with e41 e42 e43
   subst e41;clear e42 e43 hrow;have hqi:q < inn.length:=aI hy;have HY:=Ac (show ajv inn (sets.getD k [])=y by have h1:sets.getD k []=(q:Int) :: t:=(by rw[List.getD_eq_getElem?_getD,hl']; rfl); unfold ajv jr; rw[h1]; show inn.getD ((q:Int)).toNat false=y; rw[Int.toNat_natCast,List.getD_eq_getElem?_getD,hy]; rfl);have hkm:k < m.length:=by have:=HSM.out;omega
   have hko:k < o.length:=by have:=HSO.out;omega
   replace e2:=ah e2 hbel;replace e3:=ah e3 hbel;replace e5:=ah e5 hbel;rw[Nat.add_zero] at e3;have hB:=HB6.out.trans (hbel.mono hz6);obtain⟨p0,hp0⟩:=aC (l:=L) (k:=k) (by rw[HLL.out]; exact hkm);have HP0:=Ac hp0;have HL':=Ac hl';have HYI:=Ac hy;have hl0:0 < ((q:Int) :: t).length:=Nat.zero_lt_succ _;clear hl' hy hp0 hx0 hx1;cases y
   ·obtain⟨xs,hxs⟩:=aC (l:=m') (k:=k) (by have:=congrArg List.length HMR.out; rw[List.length_map] at this; omega);have HXS:=Ac hxs;have hmk:m[k]? = some (xs.map aG):=by rw[HMR.out,List.getElem?_map,hxs];rfl
    have HMK:=Ac hmk;obtain⟨bb,oo,cc,vx,e6,hF1,hlt1,z0,i1⟩:=Ae.at (Ae.on HM.out (Below.same' hB F)) hmk;injection e6 with e61 e62 e63
    subst e61;clear e62 e63;have V1:=Ac (show Bo wr F vx xs from i1);have hxl:xs.length≤1000:=by have:=HLM.out.2 _ (List.mem_of_getElem? hmk);rwa [List.length_map] at this
    have HX4:=Ac (afe (by rw[← HMR.out]; exact H4M.out) (List.mem_of_getElem? hxs));have HRR:=Ac (show uD inn sets m o k=xs.map aG by unfold uD; rw[HY.out]; show(m).getD k []=_; rw[List.getD_eq_getElem?_getD,hmk]; rfl);obtain⟨An,cn,rfl,_,_⟩:=i1;rw[List.length_map] at z0;replace V1:=Ac (show Bo wr F (.slice An xs.length cn) xs by have:=V1.out; rwa [List.length_map] at this);clear hxs hmk;go_wp2_with fail
    refine(aaP wr F _ xs V1.out hxl HX4.out).mono ?_;rintro e wq ⟨vq,rfl,hbq,hu⟩;refine zbh ?_;intro HHq fZ hgl HU;obtain⟨Aq,cq,rfl,_,_⟩:=hu;rw[List.length_map] at HU ⊢;refine zbt ?_;intro y0 g0 HW2 HBZ;clear HH HHq HU hbel fZ hbq hB V1 z0 e2 e3 e5 hgl;dsimp only;go_wp2
    go_roundw
    case rel=>exact⟨k+1,_,byOmega,by go_num,by rw[List.length_set,HLL.out],by rw[List.map_set,HLR.out,← aaF _ hkm,HRR.out],HW2.out,HBZ.out⟩
    case measure=>simp[intOf]; omega
   ·obtain⟨xs,hxs⟩:=aC (l:=o') (k:=k) (by have:=congrArg List.length HOR.out; rw[List.length_map] at this; omega);have HXS:=Ac hxs;have hmk:o[k]? = some (xs.map aG):=by rw[HOR.out,List.getElem?_map,hxs];rfl
    have HMK:=Ac hmk;obtain⟨bb,oo,cc,vx,e6,hF1,hlt1,z0,i1⟩:=Ae.at (Ae.on HO.out (Below.same' hB F)) hmk;injection e6 with e61 e62 e63
    subst e61;clear e62 e63;have V1:=Ac (show Bo wr F vx xs from i1);have hxl:xs.length≤1000:=by have:=HLO.out.2 _ (List.mem_of_getElem? hmk);rwa [List.length_map] at this
    have HX4:=Ac (afe (by rw[← HOR.out]; exact H4O.out) (List.mem_of_getElem? hxs));have HRR:=Ac (show uD inn sets m o k=xs.map aG by unfold uD; rw[HY.out]; show(o).getD k []=_; rw[List.getD_eq_getElem?_getD,hmk]; rfl);obtain⟨An,cn,rfl,_,_⟩:=i1;rw[List.length_map] at z0;replace V1:=Ac (show Bo wr F (.slice An xs.length cn) xs by have:=V1.out; rwa [List.length_map] at this);clear hxs hmk;go_wp2_with fail
    refine(aaP wr F _ xs V1.out hxl HX4.out).mono ?_;rintro e wq ⟨vq,rfl,hbq,hu⟩;refine zbh ?_;intro HHq fZ hgl HU;obtain⟨Aq,cq,rfl,_,_⟩:=hu;rw[List.length_map] at HU ⊢;refine zbt ?_;intro y0 g0 HW2 HBZ;clear HH HHq HU hbel fZ hbq hB V1 z0 e2 e3 e5 hgl;dsimp only;go_wp2
    go_roundw
    case rel=>exact⟨k+1,_,byOmega,by go_num,by rw[List.length_set,HLL.out],by rw[List.map_set,HLR.out,← aaF _ hkm,HRR.out],HW2.out,HBZ.out⟩
    case measure=>simp[intOf]; omega
end Go.Proofs.YthmklhapjegfdaaGreatDoor
