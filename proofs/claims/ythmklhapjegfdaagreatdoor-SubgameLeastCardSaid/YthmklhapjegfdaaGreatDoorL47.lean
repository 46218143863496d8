/- subgame.Replace. -/
import Derived.Test.YthmklhapjegfdaaGreatDoorL34
import Derived.Test.YthmklhapjegfdaaGreatDoorL26
set_option linter.all false
set_option maxRecDepth 100000
set_option maxHeartbeats 12800000
namespace Go.Proofs.YthmklhapjegfdaaGreatDoor
open Lib renaming hid → Aa
open Go.RowKit
theorem BL.bad {F:Ac} {g:Gm} {roots:List Int} {m o:List (List Raw)} {er:Int} {w':World} (h:qN g roots m o=er) (h0:er≠0):BL F (qN g roots m o) (sU g roots m o) (.tuple #[.slice none 0 0,.int .i64 er]) w':=by
 unfold sU;rw[h,if_neg h0];exact⟨_,rfl,Af.nil _ _⟩
theorem EF.sets {g:Gm} (hsm:Small g):(aN g).length≤1000∧∀ l∈aN g,l.length≤1000:=bU hsm
theorem aee {m:List (List Rat)} (h:CB (m.map (List.map aK))) {l:List Rat} (hl:l∈m):∀ x∈l,rl x≤20000:=fun x hx=>by
 have:=h _ (List.mem_map_of_mem hl) _ (List.mem_map_of_mem hx);have h2:rl x≤4:=Nat.max_le.2 this;omega
theorem Bg.sets {w:World} {F:Ac} {p:Int} {A1 A2 A3 A4 A5:Option Addr} {n1 c1 n2 c2 n3 c3 n4 c4 n5 c5:Nat} {g:Gm} {par last:List Int} {sets:List (List Int)} (h:Bg w F (.agg #[.int .i64 p,.slice A1 n1 c1,.slice A2 n2 c2,.slice A3 n3 c3,.slice A4 n4 c4,.slice A5 n5 c5]) g par last sets) :
  n5=sets.length∧AY w F (.slice A5 sets.length c5) sets:=by
 obtain⟨vn,vi,vp,vl,vs,e,_,_,_,_,h5⟩:=h;simp only[Value.agg.injEq,Array.mk.injEq,List.cons.injEq,and_true] at e;obtain⟨_,_,_,_,_,rfl⟩:=e;have h6:=h5;obtain⟨A,c,e,_,_⟩:=h6;simp only[Value.slice.injEq] at e;obtain⟨_,rfl,_⟩:=e;exact⟨rfl,h5⟩
theorem AY.get {w:World} {F:Ac} {v:Value} {L:List (List Int)} (h:AY w F v L) {k:Nat} {l:List Int} (hk:L[k]? = some l):∃ b o c u,v = .slice (some ⟨b,o,none⟩) L.length c∧b < w.heap.size∧w.cell? ⟨b,o+k,none⟩=some u∧Ae w F u l:=by
 obtain⟨A,c,rfl,hc,hr⟩:=h;obtain⟨b,o,rfl,hF,hb,hx⟩:=hr (by have:=aB hk; omega);obtain⟨u,e,hu⟩:=hx k l hk;rw[Nat.mul_one] at e;exact⟨b,o,c,u,rfl,hb,e,hu⟩
theorem AO.get {w:World} {F:Ac} {v:Value} {l:List Bool} (h:AO w F v l) {k:Nat} {x:Bool} (hk:l[k]? = some x):∃ b o c,v = .slice (some ⟨b,o,none⟩) l.length c∧b < w.heap.size∧w.cell? ⟨b,o+k,none⟩=some (.bool x):=by
 obtain⟨A,c,rfl,hc,hr⟩:=h;obtain⟨b,o,rfl,hF,hb,hx⟩:=hr (by have:=aB hk; omega);have e:=hx k x hk;unfold tC at e;rw[Nat.mul_one] at e;exact⟨b,o,c,rfl,hb,e⟩
theorem aiw {w:World} {bo:Nat} {n:Nat} {Fd:Ac} (h:Row w bo 64 (List.replicate n (.slice none 0 0))) (hF:¬ Fd bo):HeldRows w bo 64 Fd (List.replicate n (.slice none 0 0,[])) []:=by
 refine⟨?_,fun q hq=>?_,hF⟩
 ·rw[List.append_nil,List.map_replicate]; exact h
 ·rw[List.eq_of_mem_replicate hq]; exact Aj.nil _ _
theorem aef (w:World) (F:Ac) (u vr vm vo:Value) (g:Gm) (roots:List Int) (m o:List (List Raw)) (hg:Az w F u g) (hr:Ae w F vr roots) (hm:Af w F vm m) (ho:Af w F vo o) (hT:Bq w) (hsm:Small g) (hl:roots.length≤1000)
  (hlm:m.length≤1000∧∀ l∈m,l.length≤1000) (hlo:o.length≤1000∧∀ l∈o,l.length≤1000) (hbm:BJ m) (hbo:BJ o) (h4m:CB m) (h4o:CB o) :
  Calls Tryz.prog 16 #[u,vr,vm,vo] w (Ret w (BL (fun b=>w.heap.size≤b) (qN g roots m o) (sU g roots m o))):=by
 have HG:=Aa hg; have HR:=Aa hr; have HM:=Aa hm; have HO:=Aa ho; have HT:=Aa hT;have hn:=hsm.nodes;have HS:=Aa hsm; have HBM:=Aa hbm; have HBO:=Aa hbo; have H4M:=Aa h4m; have H4O:=Aa h4o;have HLM:=Aa hlm; have HLO:=Aa hlo;have lm:=hlm.1;obtain⟨vn,vi,rfl,⟨A,c,rfl,hc,hN⟩,⟨Ai,ci,rfl,hci,hI⟩⟩:=hg;obtain⟨Am,cm,rfl,hcm,hMM⟩:=hm;obtain⟨Ao,co,rfl,hco,hOO⟩:=ho;clear hN hI hMM hOO hr hsm hT hbm hbo h4m h4o hlm hlo;go_enter Tryz.func16,Tryz.ntmps16;go_wp2_with fail
 obtain⟨W,hW,rx,hB,hz⟩:=aJ w 25 #[.int .i64 g.aj,.slice A g.nodes.length c,.slice Ai g.infos.length ci];rw[← hW];clear hW;refine(open_any W F _ _ g roots (HG.out.on (Below.same' hB F)) (HR.out.on (Below.same' hB F)) HS.out hl).mono ?_;rintro e w1 ⟨_,rfl,hb1,vv,rfl,⟨p0,A1,n1,c1,A2,n2,c2,A3,n3,c3,A4,n4,c4,A5,n5,c5,rfl⟩,hv2⟩;replace rx:=rx.below hb1 rx.lt;replace hB:=hB.trans (hb1.mono hB.size);have HV2:=Aa hv2;clear hv2 hz hb1;have HOI:=Aa (fun h:aZ g roots=0=>qA h);have H1:=Aa (fun h:aZ g roots≠0=>show qN g roots m o=aZ g roots by unfold qN; rw[if_pos h]);have H2:=Aa (fun h:aZ g roots=0=>show qN g roots m o=if jF (insL g.nodes.length (aF g.nodes).2 roots) (aN g)=false then 13 else if fF g m≠0 then fF g m else fF g o by unfold qN; rw[if_neg (by simpa using h)]);generalize aZ g roots=er at *;dsimp only;by_cases he:er=0
 case neg =>
  have hd:(er != 0)=true:=by simp[he]
  have HF:=Aa (H1.out he);have HNZ:=Aa he;clear he rx;go_wp2
  go_ret2;exact⟨_,rfl,hB.alloc hB.size _,BL.bad HF.out HNZ.out⟩
 have HF0:=Aa (H2.out he);obtain⟨hf0,hin⟩:=HOI.out he;have HIN:=Aa hin;have HFO:=Aa hf0;have hfl:=(fine hf0).last;have HFL:=Aa hfl;have HVX:=Aa (HV2.out he);have HEZ:=Aa he;subst he;clear hin hf0 hfl H1 H2 HOI HV2;go_wp2_with fail
 obtain⟨W2,hW2,hbx,mJ,ae5⟩:=aH w1 98 #[.int .i64 p0,.slice A1 n1 c1,.slice A2 n2 c2,.slice A3 n3 c3,.slice A4 n4 c4,.slice A5 n5 c5];rw[← hW2];clear hW2 ae5;refine(rM _ (fun b=>F b∨W.heap.size≤b) _ _ g (aF g.nodes).1 (aF g.nodes).2 (aN g) roots (HVX.out.on (Below.same' mJ _)) ((HR.out.on (Below.same' (hB.trans (mJ.mono hB.size)) F)).keep (fun b hb _=>.inl hb) (Same.refl _ _)) hl (by omega) (dO _ _).2 HIN.out HFL.out (bU HS.out).1 (bU HS.out).2 (fun l hl x hx=>lg (Nat.le_refl _) l hl x hx)).mono ?_;rintro e w2 ⟨_,rfl,hb2,rfl⟩;replace rx:=(rx.below mJ rx.lt).below hb2 (by have:=rx.lt; have:=mJ.size; omega);replace hbx:=hbx.below hb2 hbx.lt;have h12:=mJ.trans (hb2.mono mJ.size);replace hB:=hB.trans (h12.mono hB.size);replace HVX:=Aa (HVX.out.on (Below.same' h12 _));clear hb2 mJ h12;obtain⟨cl,hcl⟩:∃ cl,cl=jF (insL g.nodes.length (aF g.nodes).2 roots) (aN g):=⟨_,rfl⟩;have HCL:=Aa hcl;rw[← hcl] at HF0 ⊢;clear hcl;dsimp only;cases cl
 case false =>
  have HF:=Aa (HF0.out.trans (if_pos rfl));clear HF0 rx hbx;go_wp2
  go_ret2;exact⟨_,rfl,hB,BL.bad HF.out (by decide)⟩
 have HF1:=Aa (HF0.out.trans (if_neg (by decide)));clear HF0;go_wp2_with fail
 obtain⟨W3,hW3,ry,hb3,hz3⟩:=aJ w2 28 #[.slice Am m.length cm,.slice Ao o.length co];rw[← hW3];clear hW3 hz3;replace rx:=rx.below hb3 rx.lt;replace hbx:=hbx.below hb3 hbx.lt;replace hB:=hB.trans (hb3.mono hB.size);replace HVX:=Aa (HVX.out.on (Below.same' hb3 _));obtain⟨yb,hyb⟩:∃ yb,yb=w2.heap.size:=⟨_,rfl⟩;rw[← hyb] at ry ⊢;clear hb3 hyb;obtain⟨vb,hvb⟩:∃ vb,vb=w1.heap.size:=⟨_,rfl⟩;rw[← hvb] at hbx ⊢;clear hvb;go_wp2_with fail
 have HBW:=Aa hB;have HRX:=Aa rx; have HBX:=Aa hbx; have HRY:=Aa ry;have hxz:=rx.lt; have hbz:=hbx.lt; have hyz:=ry.lt;clear rx hbx ry;go_loopw [13,14,37] (fun _ _ iv wr=>∃ k:Nat,k≤2∧iv = .int .i64 (k:Int)∧(1≤k→fF g m=0)∧(2≤k→fF g o=0)∧Below W3.heap.size W3 wr) (fun _ _ iv _=>2 - (intOf iv).toNat)
 case atStart=>exact⟨0,by omega,rfl,fun h=>by omega,fun h=>by omega,Below.refl _ _⟩
 case round =>
  obtain⟨k,hk,rfl,hk1,hk2,hbel⟩:=hrel;have HK1:=Aa hk1; have HK2:=Aa hk2;have hB:=HBW.out.trans (hbel.mono HBW.out.size);have rx:=HRX.out.below hbel hxz; have hbx:=HBX.out.below hbel hbz; have ry:=HRY.out.below hbel hyz;have x0:=rx.cell (i:=0) rfl; have x1:=rx.cell (i:=1) rfl; have x2:=rx.cell (i:=2) rfl;clear hk1 hk2;by_cases hlt:k < 2
  case pos =>
   have hkk:k=0∨k=1:=by omega
   rcases hkk with rfl | rfl
   ·have y0:=ry.cell (i:=0) rfl;go_wp2_with fail
    refine(ug wr F _ _ g m (HG.out.on (Below.same' hB F)) HS.out (Af.on HM.out (Below.same' hB F)) (HT.out.on hB) (by have:=HLM.out.1; omega) HBM.out).mono ?_;rintro e wp ⟨_,rfl,hbp,rfl⟩;have dR:=hbel.trans (hbp.mono hbel.size);have hB2:=hB.trans (hbp.mono hB.size);have HE:=Aa (show fF g m=fF g m from rfl);obtain⟨er,her⟩:∃ er,er=fF g m:=⟨_,rfl⟩;rw[← her];by_cases he:er=0
    case neg =>
     have hd:(er != 0)=true:=by simp[he]
     have HFN:=Aa (show qN g roots m o=er by rw[her]; exact HF1.out.trans (if_pos (by rw[← her]; exact he)));have HNZ:=Aa he;clear he her x0 x1 x2 y0 rx hbx ry hbel hbp HE;dsimp only;go_wp2
     go_ret2;exact⟨_,rfl,hB2,BL.bad HFN.out HNZ.out⟩
    have HZ:=Aa (her.symm.trans he);subst he;clear her x0 x1 x2 y0 rx hbx ry hbel hbp HE hB hB2;dsimp only;go_wp2
    go_roundw
    case rel=>exact⟨1,by omega,by go_num,fun _=>HZ.out,fun h=>by omega,dR⟩
    case measure=>simp[intOf] <;> omega
   ·have y0:=ry.cell (i:=1) rfl;go_wp2_with fail
    refine(ug wr F _ _ g o (HG.out.on (Below.same' hB F)) HS.out (Af.on HO.out (Below.same' hB F)) (HT.out.on hB) (by have:=HLO.out.1; omega) HBO.out).mono ?_;rintro e wp ⟨_,rfl,hbp,rfl⟩;have dR:=hbel.trans (hbp.mono hbel.size);have hB2:=hB.trans (hbp.mono hB.size);have HE:=Aa (show fF g o=fF g o from rfl);have HF2:=Aa (HF1.out.trans (if_neg (by simpa using HK1.out (Nat.le_refl _))));obtain⟨er,her⟩:∃ er,er=fF g o:=⟨_,rfl⟩;rw[← her];by_cases he:er=0
    case neg =>
     have hd:(er != 0)=true:=by simp[he]
     have HFN:=Aa (show qN g roots m o=er by rw[her]; exact HF2.out);have HNZ:=Aa he;clear he her x0 x1 x2 y0 rx hbx ry hbel hbp HE;dsimp only;go_wp2
     go_ret2;exact⟨_,rfl,hB2,BL.bad HFN.out HNZ.out⟩
    have HZ:=Aa (her.symm.trans he);subst he;clear her x0 x1 x2 y0 rx hbx ry hbel hbp HE hB hB2;dsimp only;go_wp2
    go_roundw
    case rel=>exact⟨2,by omega,by go_num,fun _=>HK1.out (Nat.le_refl _),fun _=>HZ.out,dR⟩
    case measure=>simp[intOf] <;> omega
  have HZM:=Aa (HK1.out (by omega)); have HZO:=Aa (HK2.out (by omega));have hk2:k=2:=by omega
  subst hk2;have HE0:=Aa (show qN g roots m o=0 by rw[HF1.out,if_neg (by simpa using HZM.out)]; exact HZO.out);clear hk hlt HK1 HK2 x0 x1 x2;have v0:=hbx.cell (i:=0) rfl; have v1:=hbx.cell (i:=1) rfl; have v2:=hbx.cell (i:=2) rfl; have v3:=hbx.cell (i:=3) rfl; have v4:=hbx.cell (i:=4) rfl; have v5:=hbx.cell (i:=5) rfl;go_wp2_with fail
  refine(uP wr (fun b=>F b∨W.heap.size≤b) _ _ g (aF g.nodes).1 (aF g.nodes).2 (aN g) roots (HVX.out.on (Below.same' hbel _)) ((HR.out.on (Below.same' hB F)).keep (fun b hb _=>.inl hb) (Same.refl _ _)) hl (by omega) (dO _ _).2 HIN.out HFL.out).mono ?_;rintro e w5 ⟨vb',rfl,hb5,hvb⟩;have hB5:=hB.trans (hb5.mono hB.size);have ajw:=hbel.trans (hb5.mono hbel.size);replace hbx:=hbx.below hb5 hbx.lt;have Ec:=Aa (show AO w5 (fun _=>True) vb' (insL g.nodes.length (aF g.nodes).2 roots) from AO.keep hvb (fun _ _ _=>trivial) (Same.refl _ _));obtain⟨Ab,cb,rfl,hcb,_⟩:=hvb;have hil:=fU g.nodes.length (aF g.nodes).2 roots;obtain⟨hn5,ajx⟩:=(HVX.out.on (Below.same' ajw _)).sets;have HST:=Aa ajx;subst hn5;have HSM:=Aa (abO HZM.out);have HSO:=Aa (abO HZO.out);have HOUT:=Aa (show sU g roots m o=ahY (insL g.nodes.length (aF g.nodes).2 roots) (aN g) m o m.length by unfold sU; rw[if_pos HE0.out]);have HSN:=Aa (agN HFO.out);have HSI:=Aa (show ∀ l∈aN g,∀ x∈l,0≤x∧x < (g.nodes.length:Int) from fun l hl x hx=>lg (Nat.le_refl _) l hl x hx);have hss:=(bU HS.out).1;obtain⟨m',hm1,_,_⟩:=afb HZM.out H4M.out;obtain⟨o',ho1,_,_⟩:=afb HZO.out H4O.out;have HMR:=Aa hm1; have HOR:=Aa ho1;generalize insL g.nodes.length (aF g.nodes).2 roots=inn at *;generalize aN g=sets at *;clear hb5 rx ry v0 v1 v2 v3 v4 v5 ajx hm1 ho1 HVX HBX HRX HRY HIN HFL;have v5:=hbx.cell (i:=5) rfl;have hlm1:=HLM.out.1;dsimp only;go_wp2_with (at_make; refine fG _ rfl _ _ 28 rfl 64 (.slice none 0 0) 24 Tryz.underlying28 (by kernel_rfl) rfl m.length rfl rfl (by omega) (by omega) ?_; intro w6 hb6 hz6e hm6; have v6:=ah v5 hb6; have HM6:=Aa hm6; clear hm6 v5)
  obtain⟨ob,hob⟩:∃ ob,ob=w5.heap.size:=⟨_,rfl⟩;have hob1:w.heap.size≤ob:=by rw[hob]; exact hB5.size
  have hob2:ob < w6.heap.size:=by omega
  have hob3:w5.heap.size≤ob:=by rw[hob]; exact Nat.le_refl _
  rw[← hob] at HM6 ⊢;have HH0:=Aa (aiw (Fd:=fun b=>w.heap.size≤b∧b≠ob) HM6.out (fun h=>h.2 rfl));clear hob hz6e hbx HM6;have hz6:=hB5.size;have HB6:=Aa hB5;have HB60:=Aa hb6;clear hB hB5 hbel ajw hb6;go_wp2_with fail
  go_loopw [17,18,19,57] (fun _ _ _ iv wr=>∃ (k:Nat) (L:List (Value×List Raw)),k≤sets.length∧iv = .int .i64 (k:Int)∧L.length=m.length∧L.map Prod.snd=rD (sS inn sets m o) m.length k∧HeldRows wr ob 64 (fun b=>w.heap.size≤b∧b≠ob) L []∧Below w5.heap.size w5 wr) (fun _ _ _ iv _=>sets.length - (intOf iv).toNat)
  case atStart=>exact⟨0,_,Nat.zero_le _,rfl,List.length_replicate,by rw[adk,List.map_replicate],HH0.out,HB60.out⟩
  case round =>
   clear HH0 v6 HB60;obtain⟨k,L,hk,rfl,hLl,hLr,hH,hbel⟩:=hrel;have HH:=Aa hH; have HLL:=Aa hLl; have HLR:=Aa hLr;clear hH hLl hLr;by_cases hlt:k < sets.length
   case neg =>
    go_wp2_with fail
    go_ret2;refine⟨_,rfl,HB6.out.trans (hbel.mono hz6),_,by rw[HE0.out]; rfl,?_⟩;have h5:=HH.out.rows (F:=fun b=>w.heap.size≤b) (fun b hb=>hb.1) hob1 (c:=m.length) (by rw[HLL.out]; exact Nat.le_refl _);rw[HLL.out,HLR.out,show k=m.length by have:=HSM.out; omega,aeE] at h5;rw[HOUT.out];exact h5
   obtain⟨l,hl'⟩:=au hlt;obtain⟨x,t,rfl⟩:∃ x t,l=x :: t:=by
    cases l with
    | nil=>exact absurd rfl (HSN.out [] (List.mem_of_getElem? hl'))
    | cons x t=>exact⟨x,t,rfl⟩
   obtain⟨hx0,hx1⟩:=HSI.out _ (List.mem_of_getElem? hl') x List.mem_cons_self;obtain⟨q,rfl⟩:=Int.eq_ofNat_of_zero_le hx0;obtain⟨y,hy⟩:=au (l:=inn) (k:=q) (by omega);obtain⟨bs,os,cs,u9,e1,hbs,e2,hrow⟩:=AY.get HST.out hl';injection e1 with e11 e12 e13
   subst e11;clear e12 e13;obtain⟨bl,ol,cl,rfl,_,hbl,e3⟩:=Ae.get hrow (show(((q:Int) :: t))[0]? = some (q:Int) from rfl);obtain⟨bi,oi,ci',e4,hbi,e5⟩:=AO.get Ec.out hy;injection e4 with e41 e42 e43
   subst e41;clear e42 e43 hrow;have hqi:q < inn.length:=aB hy;have HY:=Aa (show ahX inn (sets.getD k [])=y by have h1:sets.getD k []=(q:Int) :: t:=(by rw[List.getD_eq_getElem?_getD,hl']; rfl); unfold ahX jh; rw[h1]; show inn.getD ((q:Int)).toNat false=y; rw[Int.toNat_natCast,List.getD_eq_getElem?_getD,hy]; rfl);have hkm:k < m.length:=by have:=HSM.out; omega
   have hko:k < o.length:=by have:=HSO.out; omega
   replace e2:=ah e2 hbel; replace e3:=ah e3 hbel; replace e5:=ah e5 hbel;rw[Nat.add_zero] at e3;have hB:=HB6.out.trans (hbel.mono hz6);obtain⟨p0,hp0⟩:=au (l:=L) (k:=k) (by rw[HLL.out]; exact hkm);have HP0:=Aa hp0;have HL':=Aa hl'; have HYI:=Aa hy;have hl0:0 < ((q:Int) :: t).length:=Nat.zero_lt_succ _;clear hl' hy hp0 hx0 hx1;cases y
   ·obtain⟨xs,hxs⟩:=au (l:=m') (k:=k) (by have:=congrArg List.length HMR.out; rw[List.length_map] at this; omega);have HXS:=Aa hxs;have hmk:m[k]? = some (xs.map aK):=by rw[HMR.out,List.getElem?_map,hxs]; rfl
    have HMK:=Aa hmk;obtain⟨bb,oo,cc,vx,e6,hF1,hlt1,z0,i1⟩:=Af.at (Af.on HM.out (Below.same' hB F)) hmk;injection e6 with e61 e62 e63
    subst e61;clear e62 e63;have V1:=Aa (show BF wr F vx xs from i1);have hxl:xs.length≤1000:=by have:=HLM.out.2 _ (List.mem_of_getElem? hmk); rwa [List.length_map] at this
    have HX4:=Aa (aee (by rw[← HMR.out]; exact H4M.out) (List.mem_of_getElem? hxs));have HRR:=Aa (show sS inn sets m o k=xs.map aK by unfold sS; rw[HY.out]; show(m).getD k []=_; rw[List.getD_eq_getElem?_getD,hmk]; rfl);obtain⟨An,cn,rfl,_,_⟩:=i1;rw[List.length_map] at z0;replace V1:=Aa (show BF wr F (.slice An xs.length cn) xs by have:=V1.out; rwa [List.length_map] at this);clear hxs hmk;go_wp2_with fail
    refine(aav wr F _ xs V1.out hxl HX4.out).mono ?_;rintro e wq ⟨vq,rfl,hbq,hu⟩;have HHq:=Aa (HH.out.below hbq);have dR:=hbel.trans (hbq.mono hbel.size);have hgl:=HH.out.row.lt;have HU:=Aa (show Aj wq (fun b=>w.heap.size≤b∧b≠ob) vq (xs.map aK) from Aj.keep hu (fun b hb _=>⟨by have:=hB.size; omega,by omega⟩) (Same.refl _ _));obtain⟨Aq,cq,rfl,_,_⟩:=hu;rw[List.length_map] at HU ⊢;have y0:=HHq.out.cell HP0.out;have g0:=HHq.out.row.frozen k;have HW2:=Aa (HHq.out.set (k:=k) (q:=(.slice Aq xs.length cq,xs.map aK)) (by rw[HLL.out]; exact hkm) HU.out);have HBZ:=Aa (dR.setCell (p:=⟨ob,k,none⟩) hob3 (.slice Aq xs.length cq));clear HH HHq HU hbel dR hbq hB V1 z0 e2 e3 e5 hgl;dsimp only;go_wp2
    go_roundw
    case rel=>exact⟨k+1,_,by omega,by go_num,by rw[List.length_set,HLL.out],by rw[List.map_set,HLR.out,← aae _ hkm,HRR.out],HW2.out,HBZ.out⟩
    case measure=>simp[intOf]; omega
   ·obtain⟨xs,hxs⟩:=au (l:=o') (k:=k) (by have:=congrArg List.length HOR.out; rw[List.length_map] at this; omega);have HXS:=Aa hxs;have hmk:o[k]? = some (xs.map aK):=by rw[HOR.out,List.getElem?_map,hxs]; rfl
    have HMK:=Aa hmk;obtain⟨bb,oo,cc,vx,e6,hF1,hlt1,z0,i1⟩:=Af.at (Af.on HO.out (Below.same' hB F)) hmk;injection e6 with e61 e62 e63
    subst e61;clear e62 e63;have V1:=Aa (show BF wr F vx xs from i1);have hxl:xs.length≤1000:=by have:=HLO.out.2 _ (List.mem_of_getElem? hmk); rwa [List.length_map] at this
    have HX4:=Aa (aee (by rw[← HOR.out]; exact H4O.out) (List.mem_of_getElem? hxs));have HRR:=Aa (show sS inn sets m o k=xs.map aK by unfold sS; rw[HY.out]; show(o).getD k []=_; rw[List.getD_eq_getElem?_getD,hmk]; rfl);obtain⟨An,cn,rfl,_,_⟩:=i1;rw[List.length_map] at z0;replace V1:=Aa (show BF wr F (.slice An xs.length cn) xs by have:=V1.out; rwa [List.length_map] at this);clear hxs hmk;go_wp2_with fail
    refine(aav wr F _ xs V1.out hxl HX4.out).mono ?_;rintro e wq ⟨vq,rfl,hbq,hu⟩;have HHq:=Aa (HH.out.below hbq);have dR:=hbel.trans (hbq.mono hbel.size);have hgl:=HH.out.row.lt;have HU:=Aa (show Aj wq (fun b=>w.heap.size≤b∧b≠ob) vq (xs.map aK) from Aj.keep hu (fun b hb _=>⟨by have:=hB.size; omega,by omega⟩) (Same.refl _ _));obtain⟨Aq,cq,rfl,_,_⟩:=hu;rw[List.length_map] at HU ⊢;have y0:=HHq.out.cell HP0.out;have g0:=HHq.out.row.frozen k;have HW2:=Aa (HHq.out.set (k:=k) (q:=(.slice Aq xs.length cq,xs.map aK)) (by rw[HLL.out]; exact hkm) HU.out);have HBZ:=Aa (dR.setCell (p:=⟨ob,k,none⟩) hob3 (.slice Aq xs.length cq));clear HH HHq HU hbel dR hbq hB V1 z0 e2 e3 e5 hgl;dsimp only;go_wp2
    go_roundw
    case rel=>exact⟨k+1,_,by omega,by go_num,by rw[List.length_set,HLL.out],by rw[List.map_set,HLR.out,← aae _ hkm,HRR.out],HW2.out,HBZ.out⟩
    case measure=>simp[intOf]; omega
end Go.Proofs.YthmklhapjegfdaaGreatDoor
