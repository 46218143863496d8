/- parlourkit.OwnRat, OwnVec, OwnLists: copies in new memory. -/
import Derived.Test.YthmklhapjegfdaaGreatDoorP20
import Derived.Test.YthmklhapjegfdaaGreatDoorP33
set_option linter.all false
set_option maxRecDepth 100000
set_option maxHeartbeats 12800000
namespace Go.Proofs.YthmklhapjegfdaaGreatDoor
open Lib renaming hid → Ae
open List renaming getElem_toArray → lq1, getElem_cons_zero → lq2, getElem_cons_succ → lq3, setIfInBounds_toArray → lq4, set_cons_zero → lq5, set_cons_succ → lq6
open Go.RowKit
def Fact.empty:Fact:=⟨fun v _=>∃ b,v = .slice (some ⟨b,0,none⟩) 0 0,fun _ _ _ h _=>h⟩
theorem aer (w:World) (F:Ah) (v:Value) (r:Raw) (hv:AL w F v r) (l1:r.num.length≤500000) (l2:r.den.length≤500000) :
  Calls Tryz.prog 128 #[v] w (Ret w fun u w'=>AL w' (fun b=>w.heap.size≤b) u r):=by
 have hv0:=hv.old;clear hv;obtain⟨vn,vd,rfl,hn,hd⟩:=hv0;have HN:=Ae hn; have HD:=Ae hd;obtain⟨A,c,rfl,_,_⟩:=hn;obtain⟨B,d,rfl,_,_⟩:=hd;go_in
 go_wp2_with fail
 obtain⟨W,hW,rx,rz,hB,hz⟩:=alloc2 w 83 #[.bool r.neg,.slice A r.num.length c,.slice B r.den.length d] 83 #[.bool false,.slice none 0 0,.slice none 0 0];rw[← hW];clear hW;replace HN:=Ae (HN.out.below hB); replace HD:=Ae (HD.out.below hB);have hz:w.heap.size+2≤W.heap.size:=hz;have x0:=rx.cell (i:=0) rfl;have x1:=rx.cell (i:=1) rfl;have x2:=rx.cell (i:=2) rfl;clear rx;refine bW (fun w'=>w'.cell? ⟨w.heap.size,0,none⟩=some (.bool r.neg)∧w'.cell? ⟨w.heap.size,1,none⟩=some (.slice A r.num.length c)∧w'.cell? ⟨w.heap.size,2,none⟩=some (.slice B r.den.length d)) 11 1 aj rfl aj ?_;have hHeld:(fun w':World=>w'.cell? ⟨w.heap.size,0,none⟩=some (.bool r.neg)∧w'.cell? ⟨w.heap.size,1,none⟩=some (.slice A r.num.length c)∧w'.cell? ⟨w.heap.size,2,none⟩=some (.slice B r.den.length d)) W.drew:=⟨x0,x1,x2⟩;simp only[List.take_succ_cons,List.take_zero];have hb:Below W.heap.size W W.drew:=aH (Below.refl _ W) 1;replace x0:=ah x0 hb;replace x1:=ah x1 hb;replace x2:=ah x2 hb;replace HN:=Ae (HN.out.below hb);replace HD:=Ae (HD.out.below hb);replace rz:=rz.below hb rz.lt;replace hz:=Nat.le_trans hz hb.size;replace hB:=hB.trans (hb.mono hB.size);clear hb;generalize W.drew=wn at *;refine tk0 [0,1,3,4,7,8] ?_;iterate 6 (refine tk (v:=?_) rfl aj aj aj (fun _ _ _ h=>h) (Or.inl ⟨by rfl,?_⟩) hHeld ?_;rotate_left;(focus intro wx hSx;(try dsimp only at hSx);go_split_ands;go_simp;try with_reducible rfl);try simp only[Act.put,lq1,lq2,lq3,lq4,lq5,lq6])
 refine tk1 ?_;refine iE (js:=[2,5,6,9,10]) ((Hold.cell (w.heap.size) 0 (.bool r.neg)).and ((Hold.cell (w.heap.size) 1 (.slice A r.num.length c)).and ((Hold.cell (w.heap.size) 2 (.slice B r.den.length d)).and ((Hold.of (Fact.limbs (Old F w.heap.size) r.num) (.slice A r.num.length c)).and ((Hold.of (Fact.limbs (Old F w.heap.size) r.den) (.slice B r.den.length d)).and (Hold.below (w.heap.size+2) wn)))))) [(2,Fact.empty),(5,Fact.limbs (fun b=>w.heap.size+2≤b) r.num),(6,Fact.empty),(9,Fact.limbs (fun b=>w.heap.size+2≤b) r.den),(10,Fact.raw (fun b=>w.heap.size+2≤b) r)] aj ⟨x0,x1,x2,HN.out,HD.out,⟨hz,(Below.refl _ _).mono (Nat.le_refl _)⟩⟩ (fun _ h=>⟨h.1,h.2.1,h.2.2.1⟩) ?_;refine Flow.cons (o:=_) rfl (fun wk hS hf K hK=>?_) (fun v2=>?_)
 ·go_simp;exact hK.out _ _ ((Below.refl _ _).alloc (Nat.le_refl _) _) ⟨_,rfl⟩
 try simp only[Act.put,lq1,lq2,lq3,lq4,lq5,lq6]
 refine Flow.cons (o:=_) rfl (fun wk hS hf K hK=>?_) (fun v5=>?_)
 ·have f2:=aS (f:=Fact.empty) (hf (2,v2) ay aj) rfl;obtain⟨b2,rfl⟩:=f2;refine ad3 rfl ?_;refine mW (F:=Old F w.heap.size) _ _ 81 Tryz.underlying81 rfl (some ⟨b2,0,none⟩) (fun _ h=>by cases h; exact⟨_,rfl⟩) _ r.num rfl rfl hS.2.2.2.1 byOmega ?_;intro u w' hb hi;exact hK.out _ _ hb (Ak.keep hi.limbs (fun b h _=>Nat.le_trans hS.2.2.2.2.2.1 h) (Same.refl _ _))
 try simp only[Act.put,lq1,lq2,lq3,lq4,lq5,lq6]
 refine Flow.cons (o:=_) rfl (fun wk hS hf K hK=>?_) (fun v6=>?_)
 ·go_simp;exact hK.out _ _ ((Below.refl _ _).alloc (Nat.le_refl _) _) ⟨_,rfl⟩
 try simp only[Act.put,lq1,lq2,lq3,lq4,lq5,lq6]
 refine Flow.cons (o:=_) rfl (fun wk hS hf K hK=>?_) (fun v9=>?_)
 ·have f6:=aS (f:=Fact.empty) (hf (6,v6) ay aj) rfl;obtain⟨b6,rfl⟩:=f6;refine ad3 rfl ?_;refine mW (F:=Old F w.heap.size) _ _ 81 Tryz.underlying81 rfl (some ⟨b6,0,none⟩) (fun _ h=>by cases h; exact⟨_,rfl⟩) _ r.den rfl rfl hS.2.2.2.2.1 byOmega ?_;intro u w' hb hi;exact hK.out _ _ hb (Ak.keep hi.limbs (fun b h _=>Nat.le_trans hS.2.2.2.2.2.1 h) (Same.refl _ _))
 try simp only[Act.put,lq1,lq2,lq3,lq4,lq5,lq6]
 refine Flow.cons (o:=_) rfl (fun wk hS hf K hK=>?_) (fun v10=>?_)
 ·have f5:=aS (f:=Fact.limbs (fun b=>w.heap.size+2≤b) r.num) (hf (5,v5) ay aj) rfl;have f9:=aS (f:=Fact.limbs (fun b=>w.heap.size+2≤b) r.den) (hf (9,v9) ay aj) rfl;have g4:=f5; have g5:=f9;obtain⟨A4,c4,rfl,_,_⟩:=g4;obtain⟨A5,c5,rfl,_,_⟩:=g5;go_simp;exact hK.out _ _ (Below.refl _ _) (AL.make rfl f5 f9)
 try simp only[Act.put,lq1,lq2,lq3,lq4,lq5,lq6]
 refine Flow.nil (fun wE hS hf=>?_);have f10:=aS (f:=Fact.raw (fun b=>w.heap.size+2≤b) r) (hf (10,v10) ay) rfl;have hBe:=hS.2.2.2.2.2.2;have f11:=f10;obtain⟨vn6,vd6,hv6,hn6,hd6⟩:=f11;obtain⟨A6,c6,rfl,_,_⟩:=hn6;obtain⟨B6,d6,rfl,_,_⟩:=hd6;dsimp only at hv6;subst hv6;have hrz:=rz.of_block (hBe.block _ byOmega);have hBE:Below w.heap.size w wE:=hB.trans (hBe.mono byOmega);have HF:=Ae f10; clear hf hS f10 x0 x1 x2 rz;show wpList _ _ _ _ _ _;have q0:=hrz.cell (i:=0) rfl;have y0:=hrz.frozen 0;have q1:=hrz.cell (i:=1) rfl;have y1:=hrz.frozen 1;have q2:=hrz.cell (i:=2) rfl;have y2:=hrz.frozen 2;go_wp2
 show Exit.then _ _ .normal _ _;go_wp2
 obtain⟨Wz,hWz,hrz,hwz,hkz⟩:=bP hrz (.bool r.neg) (.slice A6 r.num.length c6) (.slice B6 r.den.length d6);rw[← hWz];clear hWz q0 q1 q2 y0 y1 y2;have t0:=hrz.cell (i:=0) rfl;have t1:=hrz.cell (i:=1) rfl;have t2:=hrz.cell (i:=2) rfl;refine bodyPost_ret (v:=.agg #[.bool r.neg,.slice A6 r.num.length c6,.slice B6 r.den.length d6]) (by simp[results,Tryz.results128,go_sem,t0,t1,t2]) rfl ?_;exact⟨_,rfl,hwz _ _ byOmega hBE,AL.keep HF.out (fun b hb _=>Nat.le_trans (Nat.le_add_right _ 2) hb) (hkz _ (fun h=>by omega))⟩
theorem aes (w:World) (F:Ah) (v:Value) (l:List Raw) (hv:AB w F v l) (hs:BG l) :
  Calls Tryz.prog 69 #[v] w (Ret w fun v w'=>AB w' (fun b=>w.heap.size≤b) v l):=by
 have HV:=Ae hv; have HS:=Ae hs;have hl:=hs.1;obtain⟨A,c,rfl,hc,_⟩:=hv;clear hs;go_in
 go_wp2
 go_loopw [3,4] (fun u i wr=>∃ (k:Nat) (L:List RV),k≤l.length∧i = .int .i64 (k:Int)∧L.length=k∧L.map RV.r=l.take k∧Bg wr w.heap.size 83 (fun b=>w.heap.size≤b) u L∧Below w.heap.size w wr) (fun _ i _=>l.length - (intOf i).toNat)
 case atStart=>exact⟨0,[],byOmega,rfl,rfl,rfl,Bg.nil _ _ _ _,Below.refl _ _⟩
 case round =>
  obtain⟨k,L,hk,rfl,hLl,hLr,hown,hbel⟩:=hrel;have HO:=Ae hown; have HL:=Ae hLr;have HLL:=Ae hLl;clear hown hLr hLl;by_cases hlt:k < l.length
  ·obtain⟨x,hxk⟩:=aC hlt;obtain⟨bb,o,cc,vn,vd,e1,hF1,hlt1,x0,x1,x2,i1,i2⟩:=AB.at HV.out hxk;injection e1 with e11 e12 e13
   subst e11;clear e12 e13;have V1:=Ae ((show AL w F _ x from⟨vn,vd,rfl,i1,i2⟩).below hbel);obtain⟨An,cn,rfl,_,_⟩:=i1;obtain⟨Ad,cd,rfl,_,_⟩:=i2;have L1:=Ae (HS.out.2 x (List.mem_of_getElem? hxk));have HXK:=Ae hxk;have hold:=aN hbel;clear hxk;have hz:=hbel.size;go_wp2_with fail
   refine(aer wr F _ x V1.out L1.out.1 L1.out.2).mono ?_;rintro e w2 ⟨vm,rfl,hb2,hu⟩;obtain⟨q,hq,rfl,hqf⟩:=AL.rv hu;have fZ:=hbel.trans (hb2.mono hbel.size);have HO2:=Ae (HO.out.below hb2);have HF:=Ae (show q.fine w2 (Apart (fun b=>w.heap.size≤b) u3) from hqf.keep (fun b hb _=>⟨byOmega,fun e=>by have:=(HO.out.row.lt b e).2; omega⟩) (Same.refl _ _));have HQ:=Ae hq;clear hqf hu hq hb2 hold hbel x0 x1 x2;dsimp only[RV.cells];go_wp2_with (at_builtin; refine xU (F:=fun b=>w.heap.size≤b) rfl _ _ 108 83 Tryz.underlying108 Tryz.infoRat rfl w.heap.size (Nat.le_refl _) u3 L rfl q (by have:=HLL.out; omega) rfl HO2.out HF.out fZ ?_; intro g cap w' hown' aZ hlt'; have HO':=Ae hown')
   go_roundw
   case rel=>exact⟨k+1,L ++ [q],byOmega,by go_num,by rw[List.length_append,HLL.out]; rfl,by rw[List.map_append,HL.out,take_snoc HXK.out,List.map_cons,List.map_nil,HQ.out],HO'.out,aZ⟩
   case measure=>simp[intOf]; omega
  ·go_wp2
   go_ret;refine⟨_,rfl,hbel,?_⟩;have h5:=HO.out.pR (G:=fun b=>w.heap.size≤b) (fun b hb=>hb) (fun b hb=>hb);rw[HL.out,List.take_of_length_le byOmega] at h5;exact h5
theorem Tryz.infoRats:(Tryz.prog.info? 64).map (fun i=>(i.zero,i.size,i.bytes))=some (some (.slice none 0 0),qV.n,24):=aj
theorem abM (w:World) (F:Ah) (v:Value) (l:List (List Raw)) (hv:Ag w F v l) (hs:AZ l) :
  Calls Tryz.prog 21 #[v] w (Ret w fun v w'=>Ag w' (fun b=>w.heap.size≤b) v l):=by
 have HV:=Ae hv; have HS:=Ae hs;have hl:=hs.1;obtain⟨A,c,rfl,hc,_⟩:=hv;clear hs;go_in
 go_wp2
 go_loopw [3,4] (fun u i wr=>∃ (k:Nat) (L:List (Value×List Raw)),k≤l.length∧i = .int .i64 (k:Int)∧L.length=k∧L.map Prod.snd=l.take k∧AO qV wr w.heap.size 64 (fun b=>w.heap.size≤b) u L∧Below w.heap.size w wr) (fun _ i _=>l.length - (intOf i).toNat)
 case atStart=>exact⟨0,[],byOmega,rfl,rfl,rfl,AO.nil _ _ _ _ _,Below.refl _ _⟩
 case round =>
  obtain⟨k,L,hk,rfl,hLl,hLr,hown,hbel⟩:=hrel;have HO:=Ae hown; have HL:=Ae hLr;have HLL:=Ae hLl;clear hown hLr hLl;by_cases hlt:k < l.length
  ·obtain⟨x,hxk⟩:=aC hlt;obtain⟨bb,o,cc,vx,e1,hF1,hlt1,x0,i1⟩:=Ag.at HV.out hxk;injection e1 with e11 e12 e13
   subst e11;clear e12 e13;have V1:=Ae (AB.on i1 (Below.same' hbel F));obtain⟨An,cn,rfl,_,_⟩:=i1;have L1:=Ae (HS.out.2 x (List.mem_of_getElem? hxk));have HXK:=Ae hxk;have hold:=aN hbel;clear hxk;have hz:=hbel.size;go_wp2_with fail
   refine(aes wr F _ x V1.out L1.out).mono ?_;rintro e w2 ⟨vm,rfl,hb2,hu⟩;have fZ:=hbel.trans (hb2.mono hbel.size);have HO2:=Ae (HO.out.below hb2);have HF:=Ae (show qV.fine w2 (Apart (fun b=>w.heap.size≤b) u3) (vm,x) from AB.keep hu (fun b hb _=>⟨byOmega,fun e=>by have:=(HO.out.row.lt b e).2; omega⟩) (Same.refl _ _));obtain⟨Am,cm,rfl,_,_⟩:=hu;clear hb2 hold hbel x0;dsimp only;go_wp2_with (at_builtin; refine eY (K:=qV) (F:=fun b=>w.heap.size≤b) rfl _ _ 27 64 24 _ Tryz.underlying27 Tryz.infoRats rfl aB rfl w.heap.size (Nat.le_refl _) u3 L rfl (.slice Am x.length cm,x) _ rfl (by have:=HLL.out; omega) rfl HO2.out HF.out fZ ?_; intro g cap w' hown' aZ hlt' _; have HO':=Ae hown')
   go_roundw
   case rel=>exact⟨k+1,L ++ [(.slice Am x.length cm,x)],byOmega,by go_num,by rw[List.length_append,HLL.out]; rfl,by rw[List.map_append,HL.out,take_snoc HXK.out,List.map_cons,List.map_nil],HO'.out,aZ⟩
   case measure=>simp[intOf]; omega
  ·go_wp2
   go_ret;refine⟨_,rfl,hbel,?_⟩;have h5:=HO.out.rows (G:=fun b=>w.heap.size≤b) (fun b hb=>hb) (fun b hb=>hb);rw[HL.out,List.take_of_length_le byOmega] at h5;exact h5
theorem ac5 (xs ys:List Rat):qE (xs++ys)=if qE xs≠0 then qE xs else qE ys:=by
 unfold qE;rw[List.any_append];cases xs.any (fun x=>decide (1024 < rl x)) <;> simp
theorem ahl (x:Rat):qE [x]=jT x:=by unfold qE jT; by_cases h:1024 < rl x <;> simp[h]
theorem afU {x:Rat} (h:jT x=0):dZ x=aG x:=by
 unfold jT at h;unfold dZ;split at h
 ·cases h
 ·rename_i h1; rw[if_neg h1]
theorem ahm {xs:List Rat} {x:Rat} (hx:x∈xs) (h:jT x=5):qE xs=5:=by
 unfold qE;unfold jT at h;have h1:1024 < rl x:=by
  by_cases h1:1024 < rl x
  ·exact h1
  ·rw[if_neg h1] at h; cases h
 rw[if_pos (List.any_eq_true.2 ⟨x,hx,by simpa using h1⟩)]
def abN (m:List (List Rat)):List (List Raw):=if qE m.flatten≠0 then [] else m.map (List.map aG)
theorem afV {m:List (List Rat)} {k:Nat} {l:List Rat} (h:m[k]? = some l):(m.take (k+1)).flatten=(m.take k).flatten++l:=by
 rw[take_snoc h,List.flatten_append]; simp
theorem xw (w:World) (F:Ah) (v:Value) (m:List (List Rat)) (hv:Ag w F v (m.map (List.map ak))) (hl:m.length≤1000) (hr:∀ l∈m,l.length≤1000) (hf:∀ l∈m,∀ x∈l,rl x≤100000) :
  Calls Tryz.prog 72 #[v] w (Ret w fun u w'=>∃ t,u = .tuple #[t,.int .i64 (qE m.flatten)]∧Ag w' (fun b=>w.heap.size≤b) t (abN m)):=by
 have HV:=Ae hv;obtain⟨A,c,rfl,hc,_⟩:=hv;obtain⟨n,hn⟩:=named m.length;have hnn:(m.map (List.map ak)).length=n:=by rw[List.length_map,hn]
 rw[hnn] at hc HV ⊢;have HR:=Ae hr; have HF:=Ae hf;rw[← hn] at hl;have HNL:=Ae hn;clear hr hf hn hnn;go_in
 go_wp2_with (at_make; refine eU _ rfl _ _ 28 rfl 64 (.slice none 0 0) 24 Tryz.underlying28 Tryz.infoRats rfl n rfl rfl byOmega byOmega ?_; intro w1 hb1 hz1 hm1)
 obtain⟨bo,hbo⟩:=named w.heap.size;rw[← hbo] at hm1 ⊢;have ah2:bo < w1.heap.size:=byOmega;have hbow:w.heap.size≤bo:=byOmega;have HM1:=Ae (show Row w1 bo 64 (jP [] n) by rw[aaO]; exact hm1);have HB1:=Ae hb1;clear hm1 hb1 hz1 hbo;go_loopw [16] (fun i wr=>∃ (k:Nat) (vs:List Value),k≤n∧i = .int .i64 (k:Int)∧vs.length=k∧Row wr bo 64 (jP vs n)∧AQ wr (fun b=>w1.heap.size≤b) vs ((m.take k).map (List.map aG))∧qE (m.take k).flatten=0∧Below w.heap.size w wr∧w1.heap.size≤wr.heap.size) (fun i _=>n - (intOf i).toNat)
 case atStart=>exact⟨0,[],Nat.zero_le _,rfl,rfl,HM1.out,AQ.nil _ _,rfl,HB1.out,Nat.le_refl _⟩
 case round =>
  clear HM1 HB1;obtain⟨k,vs,hk,rfl,hvl,hrow,hdone,herr,hB,hz⟩:=hrel;obtain⟨wa,rfl⟩:=named wr;have HD:=Ae hdone; have HE:=Ae herr;have HVL:=Ae hvl;clear hdone herr hvl;by_cases hlt:k < n
  ·obtain⟨row,hrw⟩:=aC (l:=m) (k:=k) (by rw[← HNL.out]; exact hlt);obtain⟨b,o,cc,u,e2,_,hbw,x0,i1⟩:=Ag.at HV.out (k:=k) (l:=row.map ak) (by rw[List.getElem?_map,hrw]; rfl);injection e2 with e21 e22 e23
   subst e21;clear e22 e23;have HU:=Ae i1;obtain⟨Ar,cr,rfl,_,_⟩:=i1;obtain⟨rn,hrn⟩:=named row.length;have hrn2:(row.map ak).length=rn:=by rw[List.length_map,hrn]
   rw[hrn2] at x0 HU;have hmem:=List.mem_of_getElem? hrw;have hrl:rn≤1000:=by rw[hrn]; exact HR.out row hmem
   have HRF:=Ae (HF.out row hmem);have HRW:=Ae hrw;have HRN:=Ae hrn;rw[← aN hB _ _ hbw] at x0;have HRO:=Ae (show Row wa bo 64 (yD vs (.slice none 0 0) n) by rw[acu (by rw[HVL.out]; exact hlt)]; exact hrow);have HBA:=Ae hB;clear hrw hrn hrn2 hmem hrow hB;go_wp2
   go_loopw [23] (fun i wr=>∃ (j:Nat) (L:List RV) (u:Value),j≤rn∧i = .int .i64 (j:Int)∧L.length=j∧L.map RV.r=(row.take j).map aG∧Row wr bo 64 (yD vs u n)∧AO uI wr wa.heap.size 83 (fun b=>wa.heap.size≤b) u L∧qE (row.take j)=0∧AQ wr (fun b=>w1.heap.size≤b∧b < wa.heap.size) vs ((m.take k).map (List.map aG))∧Below w.heap.size w wr∧wa.heap.size≤wr.heap.size) (fun i _=>rn - (intOf i).toNat)
   case atStart=>exact⟨0,[],.slice none 0 0,Nat.zero_le _,rfl,rfl,rfl,HRO.out,AO.nil _ _ _ _ _,rfl,HD.out.keep (fun b hb hl=>⟨hb,hl⟩) (Same.refl _ _),HBA.out,Nat.le_refl _⟩
   case round =>
    clear x0 HRO HBA HD;obtain⟨j,L,u,hj,rfl,hLl,hLm,hrow,hown,herr,hdone,hB,hz2⟩:=hrel;obtain⟨wb,rfl⟩:=named wr;have HD:=Ae hdone; have HO:=Ae hown; have HLL:=Ae hLl; have HLM:=Ae hLm; have HER:=Ae herr;clear hdone hown hLl hLm herr;by_cases hjt:j < rn
    ·obtain⟨x,hx⟩:=aC (l:=row) (k:=j) (by rw[← HRN.out]; exact hjt);obtain⟨eb,eo,cc,vn,vd,e2,hFe,hew,e0,e1,e2',hfn,hfd⟩:=AB.at HU.out (k:=j) (r:=ak x) (by rw[List.getElem?_map,hx]; rfl);injection e2 with e21 e22 e23
     subst e21;clear e22 e23;have HX:=Ae (show AL w F (.agg #[.bool (ak x).neg,vn,vd]) (ak x) from AL.make rfl hfn hfd);obtain⟨An,cn,rfl,_,_⟩:=hfn;obtain⟨Ad,cd,rfl,_,_⟩:=hfd;have hold:=aN hB;rw[← hold _ _ hew] at e0 e1 e2';have hrlx:=HRF.out x (List.mem_of_getElem? hx);have HXJ:=Ae hx;clear hx hold;have hBs:=hB.size;go_wp2_with fail
     obtain⟨W2,hW2,rz,hB2,hzz⟩:=aO wb 118 #[.bool (ak x).neg,.slice An (ak x).num.length cn,.slice Ad (ak x).den.length cd];rw[← hW2];replace HX:=Ae ((AL.on HX.out (Below.same' hB F)).below hB2);replace HO:=Ae (HO.out.below hB2);replace HD:=Ae (HD.out.keep (fun _ h _=>h) (Below.same' hB2 _));replace hrow:=hrow.below hB2 hrow.lt;replace hB:=hB.trans (hB2.mono hB.size);have hz3:=hB2.size;have q0:=rz.cell (i:=0) rfl; have q1:=rz.cell (i:=1) rfl; have q2:=rz.cell (i:=2) rfl;have HUB:=Ae (fun b (e:u.ownBlock=some b)=>(HO.out.row.lt b e).2);clear hW2 hB2 hzz rz e0 e1 e2';go_wp2_with fail
     refine(agZ W2 F _ x HX.out hrlx).mono ?_;rintro e w3 ⟨t,rfl,hb,u3,rfl,hu3⟩;replace HO:=Ae (HO.out.below hb);replace HD:=Ae (HD.out.keep (fun _ h _=>h) (Below.same' hb _));replace hrow:=hrow.below hb hrow.lt;replace hB:=hB.trans (hb.mono hB.size);have hz4:=hb.size;obtain⟨A1,c1,B1,d1,rfl,iq⟩:=hu3.opened;clear hu3 hb q0 q1 q2 HX;obtain⟨oe,hoe⟩:=named (jT x);have hcs:oe=0∨oe=5:=by rw[hoe]; exact ahU
     rw[← hoe];have HOE:=Ae hoe;clear hoe;have HFN:=Ae iq;clear iq;dsimp only;go_upto_region 9 with(fail)
     obtain⟨W4,hW4,rr,hb4,hzz⟩:=aO w3 83 #[.bool (dZ x).neg,.slice A1 (dZ x).num.length c1,.slice B1 (dZ x).den.length d1];rw[← hW4];replace HO:=Ae (HO.out.below hb4);replace HD:=Ae (HD.out.keep (fun _ h _=>h) (Below.same' hb4 _));replace HFN:=Ae (RV.fine.keep HFN.out (fun _ h _=>h) (Below.same' hb4 _));replace hrow:=hrow.below hb4 hrow.lt;replace hB:=hB.trans (hb4.mono hB.size);have hz5:=hb4.size;have q0:=rr.cell (i:=0) rfl; have q1:=rr.cell (i:=1) rfl; have q2:=rr.cell (i:=2) rfl;clear hW4 hb4 rr;rcases hcs with rfl | rfl
     ·have hcu:=hrow.cell (i:=k) (show(yD vs u n)[k]? = some u by rw[← HVL.out]; exact zC);have hcf:=hrow.frozen k;go_wp2_with fail
      refine bW (fun w'=>w'.cell? ⟨bo,k,none⟩=some u∧w'.cell? ⟨w3.heap.size,0,none⟩=some (.bool (dZ x).neg)∧w'.cell? ⟨w3.heap.size,1,none⟩=some (.slice A1 (dZ x).num.length c1)∧w'.cell? ⟨w3.heap.size,2,none⟩=some (.slice B1 (dZ x).den.length d1)) 10 1 aj rfl aj ?_;have hHeld:(fun w':World=>w'.cell? ⟨bo,k,none⟩=some u∧w'.cell? ⟨w3.heap.size,0,none⟩=some (.bool (dZ x).neg)∧w'.cell? ⟨w3.heap.size,1,none⟩=some (.slice A1 (dZ x).num.length c1)∧w'.cell? ⟨w3.heap.size,2,none⟩=some (.slice B1 (dZ x).den.length d1)) W4.drew:=⟨hcu,q0,q1,q2⟩;simp only[List.take_succ_cons,List.take_zero];have hb:Below W4.heap.size W4 W4.drew:=aH (Below.refl _ W4) 1;obtain⟨wn,hwn⟩:=named W4.drew;rw[← hwn] at hb hHeld ⊢;replace HO:=Ae (HO.out.below hb);replace HD:=Ae (HD.out.keep (fun _ h _=>h) (Below.same' hb _));replace HFN:=Ae (RV.fine.keep HFN.out (fun _ h _=>h) (Below.same' hb _));replace hrow:=hrow.below hb hrow.lt;replace hB:=hB.trans (hb.mono hB.size);have hz6:=hb.size;obtain⟨hcu,q0,q1,q2⟩:=id hHeld;clear hb hwn;refine tk0 [0,1,2,3,4,5,6] ?_;iterate 7 (refine tk (v:=?_) rfl aj aj aj (fun _ _ _ h=>h) (Or.inl ⟨by rfl,?_⟩) hHeld ?_;rotate_left;(focus intro wx hSx;(try dsimp only at hSx);go_split_ands;go_simp;try with_reducible rfl);try simp only[Act.put,lq1,lq2,lq3,lq4,lq5,lq6])
      refine tk1 ?_;refine tk2 7 aj rfl fun K hK=>?_
      go_simp;refine hK.out _ _ ⟨ah hcu ((Below.refl _ _).alloc (Nat.le_refl _) _),ah q0 ((Below.refl _ _).alloc (Nat.le_refl _) _),ah q1 ((Below.refl _ _).alloc (Nat.le_refl _) _),ah q2 ((Below.refl _ _).alloc (Nat.le_refl _) _)⟩ (fun hHeld=>?_);clear hK K;try simp only[Act.put,lq1,lq2,lq3,lq4,lq5,lq6]
      refine tk2 8 aj rfl fun K hK=>?_
      refine nO (K:=uI) (F:=fun b=>wa.heap.size≤b) rfl _ _ 64 83 56 _ Tryz.underlying64 Tryz.infoRat rfl aB rfl wa.heap.size (by omega:wa.heap.size≤wn.heap.size) u L rfl ⟨dZ x,.slice A1 (dZ x).num.length c1,.slice B1 (dZ x).den.length d1⟩ _ rfl (by have:=HLL.out; omega) rfl HO.out (RV.fine.keep HFN.out (fun b hb _=>⟨byOmega,fun e=>by have:=HUB.out b e; omega⟩) (Same.refl _ _)) (Below.refl _ _) ?_;intro gg cap w5 hown5 qy afW lX;have yj:Row w5 bo _ _:=hrow.of_block (lX.2 bo (fun e=>by have:=(HO.out.row.lt bo e).1; omega) hrow.lt);have HD5:=Ae (HD.out.keep (fun _ h _=>h) (lX.mono fun b hb e=>by have:=(HO.out.row.lt b e).1; omega));have hB5:=hB.trans (qy.mono (show w.heap.size≤wa.heap.size by omega));have aeu:=yj.cell (i:=k) (show(yD vs u n)[k]? = some u by rw[← HVL.out]; exact zC);have aiG:=yj.frozen k;have hblk:=lX.2 w3.heap.size (fun e=>by have:=HUB.out _ e; omega) byOmega;have HO5:=Ae hown5;refine hK.out _ _ ⟨aeu,(World.cell?_of_block hblk).trans q0,(World.cell?_of_block hblk).trans q1,(World.cell?_of_block hblk).trans q2⟩ (fun hHeld=>?_);clear hrow hB hcu hcf q0 q1 q2 hown5 hblk lX qy;clear hK K;try simp only[Act.put,lq1,lq2,lq3,lq4,lq5,lq6]
      refine tk0 [9] ?_;(refine tk (v:=?_) rfl aj aj aj (fun _ _ _ h=>h) (Or.inl ⟨by rfl,?_⟩) hHeld ?_;rotate_left;(focus intro wx hSx;(try dsimp only at hSx);go_split_ands;go_simp;try with_reducible rfl);try simp only[Act.put,lq1,lq2,lq3,lq4,lq5,lq6])
      refine tk1 ?_;refine wpAnyH_done aj ?_ _;clear hHeld;show wpList _ _ _ _ _ _;go_wp2
      unfold Bv;show Exit.inBlock _ _ .normal _ _;go_wp2
      go_roundw
      case rel =>
       have hro:dZ x=aG x:=afU HOE.out.symm;have hS:∀ (G:Ah),(∀ b,G b→b≠bo)→Same G w5 (w5.setCell ⟨bo,k,none⟩ (.slice (some ⟨gg,0,none⟩) (L.length+1) cap)):=fun G hG=>Same.setCell G w5 (p:=⟨bo,k,none⟩) (fun h=>hG bo h rfl) _
       refine⟨j+1,L ++ [⟨dZ x,.slice A1 (dZ x).num.length c1,.slice B1 (dZ x).den.length d1⟩],.slice (some ⟨gg,0,none⟩) (L.length+1) cap,byOmega,by go_num,by rw[List.length_append,HLL.out]; rfl,?_,?_,HO5.out.same (hS _ fun b hb=>by omega),?_,HD5.out.keep (fun _ h _=>h) (hS _ fun b hb=>by omega),hB5.setCell (p:=⟨bo,k,none⟩) hbow _,au⟩
       ·rw[List.map_append,HLM.out,take_snoc HXJ.out,List.map_append];show _ ++ [dZ x]=_ ++ [aG x];rw[hro]
       ·have:=yj.set k (.slice (some ⟨gg,0,none⟩) (L.length+1) cap);rwa [← HVL.out,acs,HVL.out] at this
       ·rw[take_snoc HXJ.out,ac5,HER.out,ahl,← HOE.out]; rfl
      case measure=>simp[intOf]; omega
     ·have h5:=ahm (xs:=m.flatten) (x:=x) (List.mem_flatten.2 ⟨row,List.mem_of_getElem? HRW.out,List.mem_of_getElem? HXJ.out⟩) HOE.out.symm;have HE5:=Ae h5;clear h5;go_wp2
      go_ret2;refine⟨_,rfl,hB,_,by rw[HE5.out]; rfl,?_⟩;unfold abN;rw[if_pos (by rw[HE5.out]; decide)];exact Ag.nil _ _
    ·have hje:j=rn:=byOmega;subst hje;go_wp2
     go_roundw
     case rel =>
      refine⟨k+1,vs ++ [u],byOmega,by go_num,by rw[List.length_append,HVL.out]; rfl,hrow,?_,?_,hB,byOmega⟩
      ·have h1:=HO.out.pR (G:=fun b=>w1.heap.size≤b) (fun b hb=>by omega) (fun b hb=>by omega);rw[HLM.out,List.take_of_length_le (by rw[HRN.out]; exact Nat.le_refl _)] at h1;have h2:=(HD.out.keep (G:=fun b=>w1.heap.size≤b) (fun b hb _=>hb.1) (Same.refl _ _)).snoc h1;rw[take_snoc HRW.out,List.map_append];exact h2
      ·rw[afV HRW.out,ac5,HE.out];have h1:=HER.out;rw[List.take_of_length_le (by rw[HRN.out]; exact Nat.le_refl _)] at h1;rw[h1]; rfl
     case measure=>simp[intOf]; omega
  ·go_wp2
   go_ret2;have hke:k=n:=byOmega;subst hke;have h1:=HD.out;rw[HNL.out,List.take_of_length_le (Nat.le_refl _)] at h1;have h2:=hrow;rw[uJ (by rw[HVL.out]; exact Nat.le_refl _)] at h2;refine⟨_,rfl,hB,_,by have:=HE.out; rw[HNL.out,List.take_of_length_le (Nat.le_refl _)] at this; rw[this]; rfl,?_⟩;have h3:=AQ.rows (G:=fun b=>w.heap.size≤b) h1 h2 hbow (fun b hb=>by omega) (c:=k) (by rw[List.length_map,HNL.out]; exact Nat.le_refl _);rw[List.length_map,← HNL.out] at h3;unfold abN;rw[if_neg (by have:=HE.out; rw[HNL.out,List.take_of_length_le (Nat.le_refl _)] at this; simpa using this)];exact h3
end Go.Proofs.YthmklhapjegfdaaGreatDoor
