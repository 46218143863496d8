/- subgame.view.closure's inner function: a subtree is put inside, and the sets found there wait in the channel. -/
import Derived.Test.YthmklhapjegfdaaGreatDoorL33
import Derived.Deep.CutRange
import Derived.Test.YthmklhapjegfdaaGreatDoorL23
import Derived.Deep.LoopGhost
set_option linter.all false
set_option maxRecDepth 100000
set_option maxHeartbeats 12800000
namespace Go.Proofs.YthmklhapjegfdaaGreatDoor
open Lib renaming hid → Aa
open List renaming getElem_toArray → lq1, getElem_cons_zero → lq2, getElem_cons_succ → lq3, setIfInBounds_toArray → lq4, set_cons_zero → lq5, set_cons_succ → lq6
open Go.RowKit
structure Cl where
 inn:List Bool
 fnd:List Bool
 q:List Int
 deriving Inhabited,DecidableEq
def putAt (nodes:List Nd) (s:Cl) (i:Nat):Cl:=match nodes[i]? with
 | some n=>if n.kind=2∧s.fnd.getD n.info.toNat false=false then ⟨s.inn.set i true,s.fnd.set n.info.toNat true,s.q ++ [n.info]⟩ else ⟨s.inn.set i true,s.fnd,s.q⟩
 | none=>s
def jr (nodes:List Nd) (s:Cl) (a:Nat):Nat→Cl
 | 0=>s
 | j+1=>putAt nodes (jr nodes s a j) (a+j)
def iI (nodes:List Nd) (last:List Int) (s:Cl) (r:Int):Cl:=if s.inn.getD r.toNat false then s else jr nodes s r.toNat (last.getD r.toNat 0+1 - r).toNat
structure Cl.Ok (N ni:Nat) (s:Cl):Prop where
 inn:s.inn.length=N
 fnd:s.fnd.length=ni
 few:s.q.length≤s.fnd.countP id
 q:∀ x∈s.q,0≤x∧x < (ni:Int)
theorem count_set {l:List Bool} {i:Nat} (h:l[i]? = some false):(l.set i true).countP id=l.countP id+1:=by
 induction l generalizing i with
 | nil=>cases h
 | cons b l ih =>
  cases i with
  | zero=>simp at h; subst h; simp
  | succ i =>
   simp only[List.getElem?_cons_succ] at h;simp only[List.set_cons_succ,List.countP_cons,ih h];omega
theorem ad3 {l:List Bool} {i:Nat} (h:l[i]? = some false):l.countP id < l.length:=by
 have h1:=count_set h;have h2:(l.set i true).countP id≤(l.set i true).length:=List.countP_le_length;simp at h2;omega
theorem Cl.Ok.put {N ni:Nat} {s:Cl} (h:Cl.Ok N ni s) {nodes:List Nd} (hin:∀ n∈nodes,n.kind=2→0≤n.info∧n.info < (ni:Int)) (i:Nat):Cl.Ok N ni (putAt nodes s i):=by
 unfold putAt;split
 ·rename_i n hn
  split
  ·rename_i hc
   have hb:=hin n (List.mem_of_getElem? hn) hc.1;have hf:s.fnd[n.info.toNat]? = some false:=by
    obtain⟨b,hb'⟩:=au (l:=s.fnd) (k:=n.info.toNat) (by rw[h.fnd]; omega);have:=hc.2;simp[List.getD_eq_getElem?_getD,hb'] at this;rw[hb',this]
   refine⟨by simp[h.inn],by simp[h.fnd],?_,fun x hx=>?_⟩
   ·rw[count_set hf]; have:=h.few; simp; omega
   ·rcases List.mem_append.1 hx with hx | hx
    ·exact h.q x hx
    ·simp at hx; subst hx; exact hb
  ·exact⟨by simp[h.inn],h.fnd,h.few,h.q⟩
 ·exact h
theorem Cl.Ok.jr {N ni:Nat} {s:Cl} (h:Cl.Ok N ni s) {nodes:List Nd} (hin:∀ n∈nodes,n.kind=2→0≤n.info∧n.info < (ni:Int)) (a j:Nat):Cl.Ok N ni (jr nodes s a j):=by
 induction j with
 | zero=>exact h
 | succ j ih=>exact ih.put hin _
theorem Cl.Ok.iI {N ni:Nat} {s:Cl} (h:Cl.Ok N ni s) {nodes:List Nd} (hin:∀ n∈nodes,n.kind=2→0≤n.info∧n.info < (ni:Int)) (last:List Int) (r:Int):Cl.Ok N ni (iI nodes last s r):=by
 unfold Go.Proofs.YthmklhapjegfdaaGreatDoor.iI;split
 ·exact h
 ·exact h.jr hin _ _
structure Bv (w:World) (bi di bf df bw ch N ni:Nat) (s:Cl):Prop where
 ci:Row w bi 70 [.slice (some ⟨di,0,none⟩) N N]
 cf:Row w bf 70 [.slice (some ⟨df,0,none⟩) ni ni]
 cw:Row w bw 195 [.chan (some ch)]
 ri:Row w di 4 (eU s.inn)
 rf:Row w df 4 (eU s.fnd)
 chn:∃ sn rc,w.heap[ch]? = some (.chan ni (cO s.q).toArray false sn rc false)
structure BQ (bi di bf df bw ch bv:Nat):Prop where
 a1:bi≠di
 a2:bi≠df
 a3:bi≠ch
 a4:bf≠di
 a5:bf≠df
 a6:bf≠ch
 a7:bw≠di
 a8:bw≠df
 a9:bw≠ch
 b1:di≠df
 b2:di≠ch
 b3:df≠ch
 v1:bv≠di
 v2:bv≠df
 v3:bv≠ch
theorem heap_setChan_ne (w:World) (c cap:Nat) (buf:Array Value) (cl:Bool) (s r:Nat) (tm:Bool) {k:Nat} (h:k≠c):(w.setChan c cap buf cl s r tm).heap[k]? = w.heap[k]?:=by
 simp[World.setChan,Array.getElem?_setIfInBounds,Ne.symm h]
section
variable {w:World} {bi di bf df bw ch N ni:Nat} {s:Cl} {bv:Nat}
theorem Bv.alloc (h:Bv w bi di bf df bw ch N ni s) (o:Obj):Bv (w.alloc o) bi di bf df bw ch N ni s:=by
 obtain⟨sn,rc,hc⟩:=h.chn;exact⟨h.ci.alloc _,h.cf.alloc _,h.cw.alloc _,h.ri.alloc _,h.rf.alloc _,sn,rc,by rw[Below.heap_alloc _ _ _ (Array.getElem?_eq_some_iff.1 hc).1]; exact hc⟩
theorem Bv.drew (h:Bv w bi di bf df bw ch N ni s):Bv w.drew bi di bf df bw ch N ni s:=⟨h.ci,h.cf,h.cw,h.ri,h.rf,h.chn⟩
theorem Bv.setI (h:Bv w bi di bf df bw ch N ni s) (ap:BQ bi di bf df bw ch bv) (i:Nat):Bv (w.setCell ⟨di,i,none⟩ (.bool true)) bi di bf df bw ch N ni ⟨s.inn.set i true,s.fnd,s.q⟩:=by
 obtain⟨sn,rc,hc⟩:=h.chn;exact⟨h.ci.other ap.a1 _,h.cf.other ap.a4 _,h.cw.other ap.a7 _,by simpa [eU,List.map_set] using h.ri.set i (.bool true),h.rf.other ap.b1.symm _,sn,rc,by rw[Below.heap_setCell _ _ _ _ ap.b2.symm]; exact hc⟩
theorem Bv.setF (h:Bv w bi di bf df bw ch N ni s) (ap:BQ bi di bf df bw ch bv) (i:Nat):Bv (w.setCell ⟨df,i,none⟩ (.bool true)) bi di bf df bw ch N ni ⟨s.inn,s.fnd.set i true,s.q⟩:=by
 obtain⟨sn,rc,hc⟩:=h.chn;exact⟨h.ci.other ap.a2 _,h.cf.other ap.a5 _,h.cw.other ap.a8 _,h.ri.other ap.b1 _,by simpa [eU,List.map_set] using h.rf.set i (.bool true),sn,rc,by rw[Below.heap_setCell _ _ _ _ ap.b3.symm]; exact hc⟩
theorem Bv.setC (h:Bv w bi di bf df bw ch N ni s) (ap:BQ bi di bf df bw ch bv) (q:List Int) {buf:Array Value} (hb:buf=(cO q).toArray) (sn rc:Nat):Bv (w.setChan ch ni buf false sn rc false) bi di bf df bw ch N ni ⟨s.inn,s.fnd,q⟩:=by
 obtain⟨_,_,hc⟩:=h.chn;refine⟨h.ci.of_block (heap_setChan_ne _ _ _ _ _ _ _ _ ap.a3),h.cf.of_block (heap_setChan_ne _ _ _ _ _ _ _ _ ap.a6),h.cw.of_block (heap_setChan_ne _ _ _ _ _ _ _ _ ap.a9),h.ri.of_block (heap_setChan_ne _ _ _ _ _ _ _ _ ap.b2),h.rf.of_block (heap_setChan_ne _ _ _ _ _ _ _ _ ap.b3),sn,rc,?_⟩;rw[Go.Conc.heap_setChan _ _ _ _ _ _ _ _ (Array.getElem?_eq_some_iff.1 hc).1,hb]
end
theorem Wrote.setChan {K:Ac} {a w:World} (h:Wrote K a w) {c:Nat} (hp:K c) (cap:Nat) (buf:Array Value) (cl:Bool) (s r:Nat) (tm:Bool):Wrote K a (w.setChan c cap buf cl s r tm) :=
 ⟨h.os,h.tape,h.output,by rw[Go.Conc.size_setChan]; exact h.size,fun i hi hn=>(heap_setChan_ne _ _ _ _ _ _ _ _ (fun e=>hn (by rw[e]; exact hp))).trans (h.block i hi hn)⟩
theorem put_any (g:Gm) (par last:List Int) (sets:List (List Int)) (bi di bf df bw ch bv:Nat) (ap:BQ bi di bf df bw ch bv) (F:Ac) (hF:∀ k,F k→k≠di∧k≠df∧k≠ch) (hin:AZ g) (hN:g.nodes.length≤1000) (hni:g.infos.length≤1000)
  (hll:last.length=g.nodes.length) (hla:∀ x∈last,x < (g.nodes.length:Int)) (w:World) (s:Cl) (r:Int) (vn vi vp vl vs:Value) (hbx:Row w bv 98 [.int .i64 g.aj,vn,vi,vp,vl,vs]) (hn:AB w F vn g.nodes) (hl:Ae w F vl last)
  (hcl:Bv w bi di bf df bw ch g.nodes.length g.infos.length s) (hok:Cl.Ok g.nodes.length g.infos.length s) (hr:0≤r∧r < (g.nodes.length:Int)) :
  Calls Tryz.prog 148 (#[.int .i64 r] ++ #[.pointer (some ⟨bi,0,none⟩),.pointer (some ⟨bv,0,none⟩),.pointer (some ⟨bf,0,none⟩),.pointer (some ⟨bw,0,none⟩)]) w
   fun e w'=>e = .returned (.tuple #[])∧Bv w' bi di bf df bw ch g.nodes.length g.infos.length (iI g.nodes last s r)∧Wrote (fun k=>k=di∨k=df∨k=ch) w w':=by
 obtain⟨q,rfl⟩:=Int.eq_ofNat_of_zero_le hr.1;have hqN:q < g.nodes.length:=by omega
 obtain⟨A,c,rfl,hc,hNN⟩:=hn;obtain⟨b,o,rfl,hbF,hb,hxx⟩:=hNN (by omega);have HX:=Aa hxx; clear hxx hNN;obtain⟨Al,cl,rfl,hcl',hLL⟩:=hl;have hll':=hll;obtain⟨bl,ol,rfl,hblF,hbl,hxl⟩:=hLL (by omega);obtain⟨y,hy⟩:=au (l:=last) (k:=q) (by omega);have el:=hxl q y hy;unfold iH at el;rw[Nat.mul_one] at el;have hyN:=hla y (List.mem_of_getElem? hy);have hql:q < last.length:=by omega
 have HPL:=Aa (show iI g.nodes last s (q:Int)=if s.inn.getD q false then s else jr g.nodes s q (y+1 - q).toNat by unfold iI; simp[List.getD_eq_getElem?_getD,hy]);have HLL:=Aa hll; clear hll hll' hla hy hxl hLL hr;have HF:=Aa hF; clear hF;have HIN:=Aa hin; clear hin;have HOK:=Aa hok;have HCL:=Aa hcl;have zb:=HF.out b hbF;have zl:=HF.out bl hblF;have z0:=hcl.ci.cell (i:=0) rfl;obtain⟨z,hz⟩:=au (l:=s.inn) (k:=q) (by rw[hok.inn]; exact hqN);have ez:=hcl.ri.cell (i:=q) (v:=.bool z) (by simp[eU,hz]);have HZ:=Aa (show s.inn.getD q false=z by simp[List.getD_eq_getElem?_getD,hz]);clear hz hok hcl;show Calls Tryz.prog _ #[.int .i64 q,.pointer (some ⟨bi,0,none⟩),.pointer (some ⟨bv,0,none⟩),.pointer (some ⟨bf,0,none⟩),.pointer (some ⟨bw,0,none⟩)] w _;cases z
 ·have HP2:=Aa (show iI g.nodes last s (q:Int)=jr g.nodes s q (y+1 - q).toNat by rw[HPL.out,HZ.out]; rfl);go_enter Tryz.func148,Tryz.ntmps148;go_wp2
  go_loopw [6,7] (fun i _ wr=>∃ j:Nat,(q:Int)+j≤max (y+1) q∧i = .int .i64 ((q+j:Nat):Int)∧Bv wr bi di bf df bw ch g.nodes.length g.infos.length (jr g.nodes s q j)∧Wrote (fun k=>k=di∨k=df∨k=ch) w wr) (fun i _ _=>(y+1 - intOf i).toNat)
  case atStart=>exact⟨0,by omega,rfl,HCL.out,Wrote.refl _ _⟩
  case round =>
   obtain⟨j,hj,rfl,hcl,hwr⟩:=hrel;have nM:=hbx.wrote hwr (by rintro(h | h | h); exact ap.v1 h; exact ap.v2 h; exact ap.v3 h);have x1:=nM.cell (i:=1) rfl;have x4:=nM.cell (i:=4) rfl;have el':=el;rw[← hwr.cell bl _ hbl (by rintro(h | h | h) <;> simp_all)] at el';have HOJ:=Aa (HOK.out.jr HIN.out q j);by_cases hjy:((q+j:Nat):Int)≤y
   ·obtain⟨n,hn'⟩:=au (l:=g.nodes) (k:=q+j) (by omega);obtain⟨e0,e1,e2,⟨v3,e3,A3,c3,rfl,hc3,i3⟩,⟨v4,e4,A4,c4,rfl,hc4,i4⟩,⟨v5,e5,A5,c5,rfl,hc5,i5⟩⟩:=HX.out (q+j) n hn';clear i3 i4 i5;have hbK:¬ (b=di∨b=df∨b=ch):=by rintro(h | h | h) <;> simp_all
    rw[← hwr.cell b _ hb hbK] at e0 e1 e2 e3 e4 e5;have HPN:=Aa (show jr g.nodes s q (j+1)=if n.kind=2∧(jr g.nodes s q j).fnd.getD n.info.toNat false=false then ⟨(jr g.nodes s q j).inn.set (q+j) true,(jr g.nodes s q j).fnd.set n.info.toNat true,(jr g.nodes s q j).q ++ [n.info]⟩ else ⟨(jr g.nodes s q j).inn.set (q+j) true,(jr g.nodes s q j).fnd,(jr g.nodes s q j).q⟩ by
     rw[jr,putAt,hn'])
    have hqj:q+j < g.nodes.length:=by omega
    have HM:=Aa (List.mem_of_getElem? hn'); clear hn';generalize jr g.nodes s q j=t at *;have ni0:=hcl.ci.cell (i:=0) rfl;have nf0:=hcl.cf.cell (i:=0) rfl;obtain⟨zz,hzz⟩:=au (l:=t.inn) (k:=q+j) (by rw[HOJ.out.inn]; exact hqj);have ei:=hcl.ri.cell (i:=q+j) (v:=.bool zz) (by simp[eU,hzz]);have fi:=hcl.ri.frozen (q+j);clear hzz;have hdy:decide (((q+j:Nat):Int)≤y)=true:=decide_eq_true hjy;have hC1:=Aa (hcl.setI ap (q+j));have hWlt:=nM.lt;have hbw:b < wr.heap.size:=Nat.lt_of_lt_of_le hb hwr.size;have p1:=ap.a1;have p2:=ap.v1;have p3:=ap.a4;have p4:=ap.b1;have HW:=Aa hwr; clear hwr;have HB:=Aa nM; clear nM;by_cases hkd:n.kind=2
    ·obtain⟨hi0,hi1⟩:=HIN.out n HM.out hkd;have hd:(n.kind==2)=true:=by simp[hkd]
     obtain⟨fv,hfv⟩:=au (l:=t.fnd) (k:=n.info.toNat) (by rw[HOJ.out.fnd]; omega);have ef:=hcl.rf.cell (i:=n.info.toNat) (v:=.bool fv) (by simp[eU,hfv]);have ff:=hcl.rf.frozen n.info.toNat;have hcl_lt:=hcl.rf.lt;have hci_lt:=hcl.ri.lt;cases fv
     ·have HPM:=Aa (show jr g.nodes s q (j+1)=⟨t.inn.set (q+j) true,t.fnd.set n.info.toNat true,t.q ++ [n.info]⟩ by
       rw[HPN.out,if_pos ⟨hkd,by simp[List.getD_eq_getElem?_getD,hfv]⟩])
      have HCT:=Aa (ad3 hfv);have hbf:=hcl.cf.lt;have HC:=Aa hcl; clear hcl hkd hfv;go_upto_region 8 with fail
      have hC2:=(hC1.out.setF ap n.info.toNat).alloc (.cells #[.int .i64 n.kind,.int .i64 n.ak,.int .i64 n.info,.slice A3 n.next.length c3,.slice A4 n.weights.length c4,.slice A5 n.pay.length c5] 61);have hW2:=((HW.out.setCell (p:=⟨di,q+j,none⟩) (.inl (.inl rfl)) (.bool true)).setCell (p:=⟨df,n.info.toNat,none⟩) (.inl (.inr (.inl rfl))) (.bool true)).alloc (.cells #[.int .i64 n.kind,.int .i64 n.ak,.int .i64 n.info,.slice A3 n.next.length c3,.slice A4 n.weights.length c4,.slice A5 n.pay.length c5] 61);have hnb:=(Row.new ((wr.setCell ⟨di,q+j,none⟩ (.bool true)).setCell ⟨df,n.info.toNat,none⟩ (.bool true)) 61 #[.int .i64 n.kind,.int .i64 n.ak,.int .i64 n.info,.slice A3 n.next.length c3,.slice A4 n.weights.length c4,.slice A5 n.pay.length c5]).cell (i:=2) rfl;simp only[World.size_setCell] at hnb;generalize ((wr.setCell ⟨di,q+j,none⟩ (.bool true)).setCell ⟨df,n.info.toNat,none⟩ (.bool true)).alloc (.cells #[.int .i64 n.kind,.int .i64 n.ak,.int .i64 n.info,.slice A3 n.next.length c3,.slice A4 n.weights.length c4,.slice A5 n.pay.length c5] 61)=W at *;have cw0:=hC2.cw.cell (i:=0) rfl;obtain⟨sn,rc,hch⟩:=hC2.chn;have HCH:=Aa hch; clear hch;have hroom:(cO t.q).toArray.size < g.infos.length:=by have h1:=HCT.out; have h2:=HOJ.out.few; have h3:=HOJ.out.fnd; simp[cO]; omega
      have HR:=Aa hroom; clear hroom;refine wp_region_list ?_;show nH _ _ _ [0,1,2,3] _ _;refine pY (w':=W) rfl (by rfl) (by go_simp; try (with_reducible rfl)) ?_;try simp only[Act.put,lq1,lq2,lq3,lq4,lq5,lq6]
      refine pY (w':=W) rfl (by rfl) (by go_simp; try (with_reducible rfl)) ?_;try simp only[Act.put,lq1,lq2,lq3,lq4,lq5,lq6]
      refine pY (w':=W) rfl (by rfl) (by go_simp; try (with_reducible rfl)) ?_;try simp only[Act.put,lq1,lq2,lq3,lq4,lq5,lq6]
      refine adl (v:=.int .i64 n.info) (z:=.tuple #[]) rfl (by rfl) (by simp[execOp,Go.Conc.scase,Act.eval]) HCH.out HR.out ?_;try simp only[Act.put,lq1,lq2,lq3,lq4,lq5,lq6]
      have hC3:=Aa (hC2.setC ap (t.q ++ [n.info]) (buf:=(cO t.q).toArray.push (.int .i64 n.info)) (by simp[cO]) (sn+1) rc);have hW3:=Aa (hW2.setChan (c:=ch) (.inr (.inr rfl)) g.infos.length ((cO t.q).toArray.push (.int .i64 n.info)) false (sn+1) rc false);generalize W.setChan ch g.infos.length ((cO t.q).toArray.push (.int .i64 n.info)) false (sn+1) rc false=W3 at *;show Exit.inBlock _ _ _ _ _;go_wp2
      go_roundw
      case rel=>exact⟨j+1,by omega,by go_num,by rw[HPM.out]; exact hC3.out,hW3.out⟩
      case measure=>simp[intOf] <;> omega
     ·have HPM:=Aa (show jr g.nodes s q (j+1)=⟨t.inn.set (q+j) true,t.fnd,t.q⟩ by
       rw[HPN.out,if_neg (by simp[List.getD_eq_getElem?_getD,hfv])])
      have hbf:=hcl.cf.lt;clear hkd hfv hcl;go_wp2
      go_roundw
      case rel=>exact⟨j+1,by omega,by go_num,by rw[HPM.out]; exact hC1.out.alloc _,(HW.out.setCell (.inl (.inl rfl)) _).alloc _⟩
      case measure=>simp[intOf] <;> omega
    ·have HPM:=Aa (show jr g.nodes s q (j+1)=⟨t.inn.set (q+j) true,t.fnd,t.q⟩ by
      rw[HPN.out,if_neg (by simp[hkd])])
     have hd:(n.kind==2)=false:=by simp[hkd]
     clear hkd hcl;go_wp2
     go_roundw
     case rel=>exact⟨j+1,by omega,by go_num,by rw[HPM.out]; exact hC1.out.alloc _,(HW.out.setCell (.inl (.inl rfl)) _).alloc _⟩
     case measure=>simp[intOf] <;> omega
   ·have hdy:decide (((q+j:Nat):Int)≤y)=false:=decide_eq_false hjy;have HJ:=Aa (show(y+1 - q).toNat=j by omega);go_wp2
    go_end0
    exact⟨rfl,by rw[HP2.out,HJ.out]; exact hcl,hwr⟩
 ·have HP2:=Aa (show iI g.nodes last s (q:Int)=s by rw[HPL.out,HZ.out]; rfl);go_enter Tryz.func148,Tryz.ntmps148;go_wp2
  exact bodyPost_ret (v:=.tuple #[]) (by simp[results,Tryz.results148,go_sem]) rfl ⟨rfl,by rw[HP2.out]; exact HCL.out,Wrote.refl _ _⟩
theorem ad4 (g:Gm) (last:List Int) (bi di bf df bw ch bv:Nat) (ap:BQ bi di bf df bw ch bv) (F:Ac) (hF:∀ k,F k→k≠di∧k≠df∧k≠ch) (hin:AZ g) (hN:g.nodes.length≤1000) (hni:g.infos.length≤1000)
  (hll:last.length=g.nodes.length) (hla:∀ x∈last,x < (g.nodes.length:Int)) (w:World) (s:Cl) (r:Int) (vn vi vp vl vs:Value) (hbx:Row w bv 98 [.int .i64 g.aj,vn,vi,vp,vl,vs]) (hn:AB w F vn g.nodes) (hl:Ae w F vl last)
  (hcl:Bv w bi di bf df bw ch g.nodes.length g.infos.length s) (hok:Cl.Ok g.nodes.length g.infos.length s) (hr:0≤r∧r < (g.nodes.length:Int)) :
  Calls Tryz.prog 148 #[.int .i64 r,.pointer (some ⟨bi,0,none⟩),.pointer (some ⟨bv,0,none⟩),.pointer (some ⟨bf,0,none⟩),.pointer (some ⟨bw,0,none⟩)] w
   fun e w'=>e = .returned (.tuple #[])∧Bv w' bi di bf df bw ch g.nodes.length g.infos.length (iI g.nodes last s r)∧Wrote (fun k=>k=di∨k=df∨k=ch) w w' :=
 put_any g [] last [] bi di bf df bw ch bv ap F hF hin hN hni hll hla w s r vn vi vp vl vs hbx hn hl hcl hok hr
def ig (nodes:List Nd) (last:List Int) (sets:List (List Int)):Nat→Cl→Cl
 | 0,s=>s
 | f+1,s=>match s.q with
  | []=>s
  | x :: q=>ig nodes last sets f ((sets.getD x.toNat []).foldl (iI nodes last) ⟨s.inn,s.fnd,q⟩)
def iO (nodes:List Nd) (last:List Int) (sets:List (List Int)) (ni:Nat) (node:Int):List Bool :=
 (ig nodes last sets ni (iI nodes last ⟨List.replicate nodes.length false,List.replicate ni false,[]⟩ node)).inn
def Cl.left (ni:Nat) (s:Cl):Nat:=s.q.length+(ni - s.fnd.countP id)
theorem yJ {nodes:List Nd} {last:List Int} {sets:List (List Int)} {f:Nat} {s:Cl} (h:s.q = []):ig nodes last sets f s=s:=by
 cases f with
 | zero=>rfl
 | succ f=>rw[ig,h]
theorem wB {nodes:List Nd} {last:List Int} {sets:List (List Int)} {f:Nat} {s:Cl} {x:Int} {q:List Int} (h:s.q=x :: q):ig nodes last sets (f+1) s=ig nodes last sets f ((sets.getD x.toNat []).foldl (iI nodes last) ⟨s.inn,s.fnd,q⟩):=by
 rw[ig,h]
theorem afo {N ni:Nat} {s:Cl} (h:Cl.Ok N ni s) {nodes:List Nd} (hin:∀ n∈nodes,n.kind=2→0≤n.info∧n.info < (ni:Int)) (i:Nat):(putAt nodes s i).left ni=s.left ni:=by
 unfold putAt;split
 ·rename_i n hn
  split
  ·rename_i hc
   have hb:=hin n (List.mem_of_getElem? hn) hc.1;have hf:s.fnd[n.info.toNat]? = some false:=by
    obtain⟨b,hb'⟩:=au (l:=s.fnd) (k:=n.info.toNat) (by rw[h.fnd]; omega);have:=hc.2;simp[List.getD_eq_getElem?_getD,hb'] at this;rw[hb',this]
   have h1:=ad3 hf;have h2:=h.fnd;unfold Cl.left;simp only[List.length_append,List.length_cons,List.length_nil];rw[count_set hf];omega
  ·rfl
 ·rfl
theorem xE {N ni:Nat} {s:Cl} (h:Cl.Ok N ni s) {nodes:List Nd} (hin:∀ n∈nodes,n.kind=2→0≤n.info∧n.info < (ni:Int)) (last:List Int) (r:Int):(iI nodes last s r).left ni=s.left ni:=by
 unfold iI;split
 ·rfl
 ·generalize (last.getD r.toNat 0+1 - r).toNat=j;induction j with
  | zero=>rfl
  | succ j ih =>
   show(putAt nodes (jr nodes s r.toNat j) (r.toNat+j)).left ni=_;rw[afo (h.jr hin _ _) hin,ih]
theorem sV {N ni:Nat} {nodes:List Nd} (hin:∀ n∈nodes,n.kind=2→0≤n.info∧n.info < (ni:Int)) (last:List Int):∀ (l:List Int) (s:Cl),Cl.Ok N ni s→Cl.Ok N ni (l.foldl (iI nodes last) s)∧(l.foldl (iI nodes last) s).left ni=s.left ni
 | [],s,h=>⟨h,rfl⟩
 | x :: l,s,h=>by
  obtain⟨h1,h2⟩:=sV hin last l (iI nodes last s x) (h.iI hin last x);exact⟨h1,by rw[List.foldl_cons,h2,xE h hin]⟩
theorem Cl.Ok.pop {N ni:Nat} {s:Cl} {x:Int} {q:List Int} (h:Cl.Ok N ni s) (hq:s.q=x :: q):Cl.Ok N ni ⟨s.inn,s.fnd,q⟩∧0≤x∧x < (ni:Int)∧Cl.left ni ⟨s.inn,s.fnd,q⟩+1=s.left ni:=by
 have h1:=h.few;rw[hq] at h1;refine⟨⟨h.inn,h.fnd,?_,fun y hy=>h.q y (by rw[hq]; exact List.mem_cons_of_mem _ hy)⟩,(h.q x (by rw[hq]; simp)).1,(h.q x (by rw[hq]; simp)).2,?_⟩
 ·simp at h1; simp; omega
 ·unfold Cl.left; rw[hq]; simp; omega
theorem Cl.Ok.start (N ni:Nat):Cl.Ok N ni ⟨List.replicate N false,List.replicate ni false,[]⟩:=⟨by simp,by simp,by simp,by simp⟩
theorem aib:∃ i,Tryz.prog.info? 3=some i∧i.bytes=8:=by
 have h:(Tryz.prog.info? 3).map (·.bytes)=some 8:=by kernel_rfl
 obtain⟨i,hi,hb⟩:=Option.map_eq_some_iff.1 h;exact⟨i,hi,hb⟩
theorem acN (n:Nat) (hn:n≤1000) (w:World):(Instr.makeChan 195 (.int .i64 n)).run Tryz.prog w = .ok (.chan (some w.heap.size)) (w.alloc (.chan n #[] false 0 0 false)):=by
 obtain⟨i,hi,hb⟩:=aib;exact Go.Conc.run_makeChan (P:=Tryz.prog) (w:=w) Tryz.underlying195 hi .i64 n (by omega) (by rw[hb]; omega)
def dJ (B n m:Nat):Says where
 uses i:=match i with | 11=>[9,4] | _=>[]
 F i l:=match i with
  | 4=>Hold.made B 4 n (List.replicate n (.bool false)) (l.getD 0 undef)
  | 8=>Hold.made B 4 m (List.replicate m (.bool false)) (l.getD 0 undef)
  | 9=>Hold.box B 70 (l.getD 0 undef)
  | 10=>Hold.box B 70 (l.getD 0 undef)
  | 11=>Hold.boxed B 70 (l.getD 1 undef) (l.getD 2 undef)
  | _=>Hold.tt
 cu:=[11]
 G j l w w':=match j with | 11=>∃ b,l.getD 1 undef = .pointer (some ⟨b,0,none⟩)∧w'=w.setCell ⟨b,0,none⟩ (l.getD 2 undef) | _=>False
 mks:=[4,8,9,10]
theorem agY (B n m:Nat):∀ k∈(dJ B n m).mks,∀ e w,(dJ B n m).R k e w→∀ b,lU (e k)=some b→b < w.heap.size:=by
 intro k hk e w h;simp only[dJ,List.mem_cons,List.not_mem_nil,or_false] at hk;rcases hk with rfl | rfl | rfl | rfl
 ·exact oG (show(Hold.made B 4 n (List.replicate n (.bool false)) (e 4)).p w from h)
 ·exact oG (show(Hold.made B 4 m (List.replicate m (.bool false)) (e 8)).p w from h)
 ·exact ahI (show(Hold.box B 70 (e 9)).p w from h)
 ·exact ahI (show(Hold.box B 70 (e 10)).p w from h)
theorem acO {B n m x:Nat} {u v:Value} {w0:World} (j:Nat) (hj:j∈(dJ B n m).cu) {E:List Nat} {e:Nat→Value} {w w':World} (hE:∀ k∈E,k∈[4,8,9,10,11]) (hu:∀ k∈(dJ B n m).uses j,k∈E) (hnE:j ∉ E)
  (hf:∀ i∈E,(dJ B n m).R i e w) (hA:(dJ B n m).Apart E e) (hS:((Hold.cell x 1 u).and ((Hold.cell x 5 v).and (Hold.below B w0))).p w) (hx:x < B) (hG:(dJ B n m).G j ((j :: (dJ B n m).uses j).map e) w w') :
  ((Hold.cell x 1 u).and ((Hold.cell x 5 v).and (Hold.below B w0))).p w'∧∀ i∈E,(dJ B n m).R i e w':=by
 simp only[dJ,List.mem_cons,List.not_mem_nil,or_false] at hj;subst hj;obtain⟨b,hb,rfl⟩:∃ b,e 9 = .pointer (some ⟨b,0,none⟩)∧w'=w.setCell ⟨b,0,none⟩ (e 4):=hG;have h9:=hu 9 (by simp[dJ]);obtain⟨b',y,hb',hBb,r9⟩:(Hold.box B 70 (e 9)).p w:=hf 9 h9;rw[hb] at hb';cases hb'
 have ake:lU (e 9)=some b:=by rw[hb]; rfl
 obtain⟨s1,s2,s3,s4⟩:=hS;refine⟨⟨?_,?_,?_,?_⟩,fun i hi=>?_⟩
 ·exact(World.cell?_of_block (Below.heap_setCell _ _ _ _ (show x≠b by omega))).trans s1
 ·exact(World.cell?_of_block (Below.heap_setCell _ _ _ _ (show x≠b by omega))).trans s2
 ·simpa using s3
 ·exact s4.setCell (p:=⟨b,0,none⟩) hBb _
 ·have hi':=hE i hi;simp only[List.mem_cons,List.not_mem_nil,or_false] at hi';rcases hi' with rfl | rfl | rfl | rfl | rfl
  ·obtain⟨c,h1,h2,h3⟩:(Hold.made B 4 n (List.replicate n (.bool false)) (e 4)).p w:=hf 4 hi;have hne:=jo hA hi h9 (by simp[dJ]) (by simp[dJ]) (by decide) (show lU (e 4)=some c by rw[h1]; rfl) ake;exact⟨c,h1,h2,h3.other (a:=⟨b,0,none⟩) hne _⟩
  ·obtain⟨c,h1,h2,h3⟩:(Hold.made B 4 m (List.replicate m (.bool false)) (e 8)).p w:=hf 8 hi;have hne:=jo hA hi h9 (by simp[dJ]) (by simp[dJ]) (by decide) (show lU (e 8)=some c by rw[h1]; rfl) ake;exact⟨c,h1,h2,h3.other (a:=⟨b,0,none⟩) hne _⟩
  ·exact⟨b,e 4,hb,hBb,r9.set 0 _⟩
  ·obtain⟨c,y',h1,h2,h3⟩:(Hold.box B 70 (e 10)).p w:=hf 10 hi;have hne:=jo hA hi h9 (by simp[dJ]) (by simp[dJ]) (by decide) (show lU (e 10)=some c by rw[h1]; rfl) ake;exact⟨c,y',h1,h2,h3.other (a:=⟨b,0,none⟩) hne _⟩
  ·exact absurd hi hnE
theorem ad5 (w:World) (F:Ac) (u:Value) (r:Int) (g:Gm) (par last:List Int) (sets:List (List Int)) (hv:Bg w F u g par last sets) (hin:AZ g) (hN:g.nodes.length≤1000) (hni:g.infos.length≤1000)
  (hll:last.length=g.nodes.length) (hla:∀ x∈last,x < (g.nodes.length:Int)) (hsl:sets.length=g.infos.length) (hsm:∀ l∈sets,l.length≤1000) (hsx:∀ l∈sets,∀ x∈l,0≤x∧x < (g.nodes.length:Int)) (hr:0≤r∧r < (g.nodes.length:Int)) :
  Calls Tryz.prog 92 #[u,.int .i64 r] w (Ret w fun v w'=>AO w' (fun b=>w.heap.size≤b) v (iO g.nodes last sets g.infos.length r)):=by
 have HV:=Aa (hv.keep (G:=fun b=>F b∧b < w.heap.size) (fun b hb hl=>⟨hb,hl⟩) (Same.refl _ _));obtain⟨vn,vi,vp,vl,vs,rfl,⟨A,c,rfl,hc,hN'⟩,⟨Ai,ci,rfl,hci,hI⟩,⟨Ap,cp,rfl,hcp,hP⟩,⟨Al,cl,rfl,hcl,hL⟩,⟨As,cs,rfl,hcs,hS⟩⟩:=hv;have HNO:=Aa (show AB w (fun b=>F b∧b < w.heap.size) (.slice A g.nodes.length c) g.nodes from AB.keep ⟨_,_,rfl,hc,hN'⟩ (fun b hb hl=>⟨hb,hl⟩) (Same.refl F w));have HLO:=Aa (show Ae w (fun b=>F b∧b < w.heap.size) (.slice Al last.length cl) last from Ae.keep ⟨_,_,rfl,hcl,hL⟩ (fun b hb hl=>⟨hb,hl⟩) (Same.refl F w));clear hN' hI hP hL;rw[hsl] at hS hcs ⊢;have HS:=Aa hS; clear hS;have HLL:=Aa hll; clear hll;have HLA:=Aa hla; clear hla;have HIN:=Aa hin; clear hin;have HSL:=Aa hsl; clear hsl;have HSM:=Aa hsm; clear hsm;have HSX:=Aa hsx; clear hsx;have hmf:∀ (fn:Fn) (first cap:Array Value) (w:World),(Instr.makeFunc fn first cap).run Tryz.prog w = .ok (.func fn first cap) w:=fun _ _ _ _=>rfl
 have hmc:=acN g.infos.length hni;have hcf:=enters Tryz.func148 (by decide +kernel) (by decide +kernel);go_enter Tryz.func92,Tryz.ntmps92;go_upto_region 1 with fail
 obtain⟨w1,hw1,hbx,hb1,hz1⟩:=aH w 98 #[.int .i64 g.aj,.slice A g.nodes.length c,.slice Ai g.infos.length ci,.slice Ap par.length cp,.slice Al last.length cl,.slice As g.infos.length cs];rw[← hw1];clear hw1 hz1;go_cut [5,6] from 11 to 19 (fun v5 v6 wx=>∃ bi di bf df,v5 = .pointer (some ⟨bi,0,none⟩)∧v6 = .pointer (some ⟨bf,0,none⟩)∧Row wx w.heap.size 98 [.int .i64 g.aj,.slice A g.nodes.length c,.slice Ai g.infos.length ci,.slice Ap par.length cp,.slice Al last.length cl,.slice As g.infos.length cs]∧Row wx bi 70 [.slice (some ⟨di,0,none⟩) g.nodes.length g.nodes.length]∧Row wx bf 70 [.slice (some ⟨df,0,none⟩) g.infos.length g.infos.length]∧Row wx di 4 (List.replicate g.nodes.length (.bool false))∧Row wx df 4 (List.replicate g.infos.length (.bool false))∧Below w.heap.size w wx∧w.heap.size < bi∧w.heap.size < di∧w.heap.size < bf∧w.heap.size < df∧bi≠di∧bi≠df∧bf≠di∧bf≠df∧di≠df)
 case first =>
  refine bK (fun w'=>w'.cell? ⟨w.heap.size,1,none⟩=some (.slice A g.nodes.length c)∧w'.cell? ⟨w.heap.size,5,none⟩=some (.slice As g.infos.length cs)) 12 1 (by kernel_rfl) rfl (by kernel_rfl) ?_;have hHeld:(fun w':World=>w'.cell? ⟨w.heap.size,1,none⟩=some (.slice A g.nodes.length c)∧w'.cell? ⟨w.heap.size,5,none⟩=some (.slice As g.infos.length cs)) w1.drew:=⟨hbx.cell rfl,hbx.cell rfl⟩;simp only[List.take_succ_cons,List.take_zero];refine tk0 [0,1,2,3,5,6,7] ?_;iterate 7 (refine tk (v:=?_) rfl (by kernel_rfl) (by kernel_rfl) (by kernel_rfl) (fun _ _ _ h=>h) (Or.inl ⟨by rfl,?_⟩) hHeld ?_;rotate_left;(focus intro wx hSx;(try dsimp only at hSx);go_split_ands;go_simp;try with_reducible rfl);try simp only[Act.put,lq1,lq2,lq3,lq4,lq5,lq6])
  refine tk1 ?_;obtain⟨w0,hw0⟩:∃ W,W=w1.drew:=⟨_,rfl⟩;have hbx0:Row w0 _ _ _:=hw0▸hbx.drew;have hB0:Below w.heap.size w w0:=hw0▸hb1.drew;rw[← hw0] at hHeld ⊢;clear hw0 hbx hb1;have hz0:=hbx0.lt;refine qh (js:=[4,8,9,10,11]) ((Hold.cell (w.heap.size) 1 (.slice A g.nodes.length c)).and ((Hold.cell (w.heap.size) 5 (.slice As g.infos.length cs)).and (Hold.below w0.heap.size w0))) (dJ w0.heap.size g.nodes.length g.infos.length) (by kernel_rfl) (by kernel_rfl) ⟨hHeld.1,hHeld.2,Nat.le_refl _,Below.refl _ _⟩ (fun _ h=>⟨h.1,h.2.1⟩) (agY _ _ _) (fun j hj E e _ w' hE hu hn hf hA hS hG=>acO j hj hE hu hn hf hA hS hz0 hG) ?_;refine AA.cons (o:=_) rfl (fun wk hS hf K hK=>?_) (fun v4=>?_)
  ·refine ifA rfl ?_;refine ku _ _ _ 70 rfl 4 (.bool false) 1 Tryz.underlying70 Tryz.infoBool rfl g.nodes.length rfl rfl (by omega) (by omega) ?_;intro W1 hb hz hr;exact hK.out _ _ ⟨hb,⟨_,rfl,hS.2.2.1,hr⟩,fun _ b hb=>by cases hb; exact Nat.le_refl _⟩
  try simp only[Act.put,lq1,lq2,lq3,lq4,lq5,lq6]
  refine AA.cons (o:=_) rfl (fun wk hS hf K hK=>?_) (fun v8=>?_)
  ·refine ifA rfl ?_;refine ku _ _ _ 70 rfl 4 (.bool false) 1 Tryz.underlying70 Tryz.infoBool rfl g.infos.length rfl rfl (by omega) (by omega) ?_;intro W1 hb hz hr;exact hK.out _ _ ⟨hb,⟨_,rfl,hS.2.2.1,hr⟩,fun _ b hb=>by cases hb; exact Nat.le_refl _⟩
  try simp only[Act.put,lq1,lq2,lq3,lq4,lq5,lq6]
  refine AA.cons (o:=_) rfl (fun wk hS hf K hK=>?_) (fun v9=>?_)
  ·go_simp;obtain⟨W1,hw,hr,hb,hz⟩:=aH wk 70 #[.slice none 0 0];rw[← hw];exact hK.out _ _ ⟨hb,⟨_,_,rfl,hS.2.2.1,hr⟩,fun _ b hb=>by cases hb; exact Nat.le_refl _⟩
  try simp only[Act.put,lq1,lq2,lq3,lq4,lq5,lq6]
  refine AA.cons (o:=_) rfl (fun wk hS hf K hK=>?_) (fun v10=>?_)
  ·go_simp;obtain⟨W1,hw,hr,hb,hz⟩:=aH wk 70 #[.slice none 0 0];rw[← hw];exact hK.out _ _ ⟨hb,⟨_,_,rfl,hS.2.2.1,hr⟩,fun _ b hb=>by cases hb; exact Nat.le_refl _⟩
  try simp only[Act.put,lq1,lq2,lq3,lq4,lq5,lq6]
  refine AA.cons (o:=_) rfl (fun wk hS hf K hK=>?_) (fun v11=>?_)
  ·have f9:Hold.p (Hold.box w0.heap.size 70 v9) wk:=hf 9 (by simp) (by kernel_rfl);have f4:Hold.p (Hold.made w0.heap.size 4 g.nodes.length (List.replicate g.nodes.length (.bool false)) v4) wk:=hf 4 (by simp) (by kernel_rfl);obtain⟨b9,x9,rfl,g9,r9⟩:=f9;obtain⟨b4,rfl,g4,r4⟩:=f4;have yy:=r9.cell (i:=0) rfl;have ff:=r9.frozen 0;go_simp;exact hK.out undef (wk.setCell ⟨b9,0,none⟩ (.slice (some ⟨b4,0,none⟩) g.nodes.length g.nodes.length)) ⟨⟨b9,rfl,rfl⟩,⟨b9,rfl,g9,r9.set 0 _⟩,fun h=>(by simp[dJ] at h)⟩
  try simp only[Act.put,lq1,lq2,lq3,lq4,lq5,lq6]
  refine AA.nil (fun wE hS hf hA=>?_);have f4:Hold.p (Hold.made w0.heap.size 4 g.nodes.length (List.replicate g.nodes.length (.bool false)) v4) wE:=hf 4 (by simp);have f8:Hold.p (Hold.made w0.heap.size 4 g.infos.length (List.replicate g.infos.length (.bool false)) v8) wE:=hf 8 (by simp);have f10:Hold.p (Hold.box w0.heap.size 70 v10) wE:=hf 10 (by simp);have f11:Hold.p (Hold.boxed w0.heap.size 70 v9 v4) wE:=hf 11 (by simp);obtain⟨b4,rfl,g4,r4⟩:=f4; obtain⟨b8,rfl,g8,r8⟩:=f8; obtain⟨b10,x10,rfl,g10,r10⟩:=f10; obtain⟨b9,rfl,g9,r9⟩:=f11;have ajV:=jo hA (i:=4) (k:=8) (by simp) (by simp) (by simp[dJ]) (by simp[dJ]) (by decide) rfl rfl;have n4_9:=jo hA (i:=4) (k:=9) (by simp) (by simp) (by simp[dJ]) (by simp[dJ]) (by decide) rfl rfl;have akB:=jo hA (i:=4) (k:=10) (by simp) (by simp) (by simp[dJ]) (by simp[dJ]) (by decide) rfl rfl;have n8_9:=jo hA (i:=8) (k:=9) (by simp) (by simp) (by simp[dJ]) (by simp[dJ]) (by decide) rfl rfl;have akC:=jo hA (i:=8) (k:=10) (by simp) (by simp) (by simp[dJ]) (by simp[dJ]) (by decide) rfl rfl;have n9_10:=jo hA (i:=9) (k:=10) (by simp) (by simp) (by simp[dJ]) (by simp[dJ]) (by decide) rfl rfl;have hV:=hS.2.2;have adH:=hbx0.below hV.2 hbx0.lt;have hBE:=hB0.trans (hV.2.mono hB0.size);clear hS hV hHeld hbx0 hB0 hf hA;obtain⟨W,hW,c1,c2,c3,c4,c5,c6⟩:∃ W,W=wE.setCell ⟨b10,0,none⟩ (.slice (some ⟨b8,0,none⟩) g.infos.length g.infos.length)∧Row W w.heap.size _ _∧Row W b9 _ _∧Row W b10 _ _∧Row W b4 _ _∧Row W b8 _ _∧Below w.heap.size w W :=
   ⟨_,rfl,adH.other (a:=⟨b10,0,none⟩) (by simp; omega) _,r9.other (a:=⟨b10,0,none⟩) (by simp; omega) _,r10.set 0 _,r4.other (a:=⟨b10,0,none⟩) (by simp; omega) _,r8.other (a:=⟨b10,0,none⟩) (by simp; omega) _,hBE.setCell (p:=⟨b10,0,none⟩) (by simp; omega) _⟩
  have y10:=r10.cell (i:=0) rfl; have z10:=r10.frozen 0;have HR:=Aa (And.intro c1 (And.intro c2 (And.intro c3 (And.intro c4 (And.intro c5 c6)))));clear c1 c2 c3 c4 c5 c6 r4 r8 r9 r10 adH hBE;show wpList _ _ _ _ _ _;go_wp2_with fail
  rw[← hW];clear hW y10 z10;show Exit.then _ _ .normal _ _;go_wp2_with fail
  go_meet
  exact⟨b9,b4,b10,b8,rfl,rfl,HR.out.1,HR.out.2.1,HR.out.2.2.1,HR.out.2.2.2.1,HR.out.2.2.2.2.1,HR.out.2.2.2.2.2,by omega,by omega,by omega,by omega,Ne.symm n4_9,Ne.symm n8_9,Ne.symm akB,Ne.symm akC,ajV⟩
 case rest =>
  obtain⟨bi,di,bf,df,rfl,rfl,nM,ai7,ai8,hri,hrf,hB,g1,g2,g3,g4,g5,g6,g7,g8,g9⟩:=hcut;clear hbx hb1;have x5:=nM.cell (i:=5) rfl;have hlt:=nM.lt;go_wp2_with fail
  have hW1:Below wc.heap.size wc ((wc.alloc (.chan g.infos.length #[] false 0 0 false)).alloc (.cells #[.chan (some wc.heap.size)] 195)):=dh wc _ _ 0;have hbw:Row ((wc.alloc (.chan g.infos.length #[] false 0 0 false)).alloc (.cells #[.chan (some wc.heap.size)] 195)) (wc.heap.size+1) 195 [.chan (some wc.heap.size)]:=by
   have:=Row.new (wc.alloc (.chan g.infos.length #[] false 0 0 false)) 195 #[.chan (some wc.heap.size)];simpa using this
  have hchn:((wc.alloc (.chan g.infos.length #[] false 0 0 false)).alloc (.cells #[.chan (some wc.heap.size)] 195)).heap[wc.heap.size]? = some (.chan g.infos.length #[] false 0 0 false):=by
   rw[Below.heap_alloc _ _ _ (by simp)]; exact heap_alloc_new _ _
  generalize (wc.alloc (.chan g.infos.length #[] false 0 0 false)).alloc (.cells #[.chan (some wc.heap.size)] 195)=W at *;have hcl0:Bv W bi di bf df (wc.heap.size+1) wc.heap.size g.nodes.length g.infos.length ⟨List.replicate g.nodes.length false,List.replicate g.infos.length false,[]⟩ :=
   ⟨ai7.below hW1 ai7.lt,ai8.below hW1 ai8.lt,hbw,by simpa [eU] using hri.below hW1 hri.lt,by simpa [eU] using hrf.below hW1 hrf.lt,0,0,by simpa [cO] using hchn⟩
  have l1:=ai7.lt;have l2:=ai8.lt;have l3:=hri.lt;have l4:=hrf.lt;have hap:BQ bi di bf df (wc.heap.size+1) wc.heap.size w.heap.size:=⟨g5,g6,by omega,g7,g8,by omega,by omega,by omega,by omega,g9,by omega,by omega,by omega,by omega,by omega⟩;have HAP:=Aa hap; clear hap;have HFF:=Aa (show ∀ k,(F k∧k < w.heap.size)→k≠di∧k≠df∧k≠wc.heap.size from fun k hk=>by omega);have dS:=nM.below hW1 nM.lt;have hBW:=hB.trans (hW1.mono hB.size);have hws:w.heap.size < wc.heap.size:=hlt;clear ai7 ai8 hri hrf hbw hchn hW1 nM hB x5 hlt;generalize wc.heap.size=ch at *;refine(ad4 g last bi di bf df (ch+1) ch w.heap.size HAP.out _ HFF.out HIN.out hN hni HLL.out HLA.out W _ r _ _ _ _ _ dS (HNO.out.on (Below.same' hBW _)) (HLO.out.on (Below.same' hBW _)) hcl0 (Cl.Ok.start _ _) hr).mono ?_;rintro e w2 ⟨rfl,ai9,hwr2⟩;have HOK:=Aa ((Cl.Ok.start g.nodes.length g.infos.length).iI HIN.out last r);have HLF:=Aa (xE (Cl.Ok.start g.nodes.length g.infos.length) HIN.out last r);have HCL:=Aa (show iO g.nodes last sets g.infos.length r=(ig g.nodes last sets g.infos.length (iI g.nodes last ⟨List.replicate g.nodes.length false,List.replicate g.infos.length false,[]⟩ r)).inn from rfl);generalize iI g.nodes last ⟨List.replicate g.nodes.length false,List.replicate g.infos.length false,[]⟩ r=s1 at *;have hbx2:=dS.wrote hwr2 (by rintro(h | h | h) <;> omega);have hB2:Below w.heap.size w w2:=Wrote.below hBW hwr2 (fun k hk=>by omega) hBW.size;clear hcl0 hwr2 dS hBW;dsimp only;go_wp2_with fail
  go_loopg [10] g.infos.length (fun f _ wr=>∃ s:Cl,s.left g.infos.length≤f∧Cl.Ok g.nodes.length g.infos.length s∧iO g.nodes last sets g.infos.length r=(ig g.nodes last sets f s).inn∧Bv wr bi di bf df (ch+1) ch g.nodes.length g.infos.length s∧Row wr w.heap.size 98 [.int .i64 g.aj,.slice A g.nodes.length c,.slice Ai g.infos.length ci,.slice Ap par.length cp,.slice Al last.length cl,.slice As g.infos.length cs]∧Below w.heap.size w wr)
  case atStart=>exact⟨s1,by rw[HLF.out]; unfold Cl.left; simp,HOK.out,HCL.out,ai9,hbx2,hB2⟩
  case round =>
   clear ai9 hbx2 hB2;obtain⟨s,hleft,hok,hval,hcl,hbx,hB⟩:=hrel;have HV2:=Aa hval; clear hval;have HO:=Aa hok; clear hok;have HC:=Aa hcl;have cw0:=hcl.cw.cell (i:=0) rfl;obtain⟨sn,rc,hch⟩:=hcl.chn;have HCH:=Aa hch;have hlen:=fun ty=>Go.Conc.run_len_chan (P:=Tryz.prog) (w:=wr) 195 ty Tryz.underlying195 hch
   clear hch;simp only[List.size_toArray,cO,List.length_map] at hlen;cases hq:s.q with
   | nil =>
    rw[hq] at hlen;have HQ:=Aa hq; clear hq;have ci0:=hcl.ci.cell (i:=0) rfl;go_wp2
    go_ret;have h1:=Row.bools (F:=fun b=>w.heap.size≤b) HC.out.ri (by omega) (c:=g.nodes.length) (by rw[HO.out.inn]; omega);rw[HO.out.inn] at h1;refine⟨_,rfl,hB,?_⟩;rw[HV2.out,yJ HQ.out];exact h1
   | cons x q =>
    rw[hq] at hlen;obtain⟨hok2,hx0,hx1,hlf⟩:=HO.out.pop hq;have HQ:=Aa hq; clear hq;have HOK2:=Aa hok2; clear hok2;obtain⟨z,rfl⟩:=Int.eq_ofNat_of_zero_le hx0;have hz:z < g.infos.length:=by omega
    have x5:=hbx.cell (i:=5) rfl;obtain⟨f,rfl⟩:∃ f,gk=f+1:=⟨gk - 1,by omega⟩;have HV3:=Aa (show iO g.nodes last sets g.infos.length r=(ig g.nodes last sets f ((sets.getD z []).foldl (iI g.nodes last) ⟨s.inn,s.fnd,q⟩)).inn by
     rw[HV2.out,wB HQ.out]; simp)
    obtain⟨l,hl'⟩:=au (l:=sets) (k:=z) (by rw[HSL.out]; exact hz);have hs0:=HSL.out;obtain⟨bs,os,hAs,_,hbs,hxs⟩:=HS.out (by omega);subst hAs;obtain⟨vl',el,Av,cv,rfl,hcv,hAv⟩:=hxs z l hl';rw[Nat.mul_one,← aA hB _ _ hbs] at el;have hl1:=HSM.out l (List.mem_of_getElem? hl');have HLX:=Aa (HSX.out l (List.mem_of_getElem? hl'));have HGD:=Aa (show sets.getD z []=l by simp[List.getD_eq_getElem?_getD,hl']);have HAV:=Aa hAv;have HLF2:=Aa hlf;clear hl' hxs hAv hs0 hlf;go_upto_region 6 with fail
    go_cut [36,37,38] from 28 to 45 (fun v36 v37 v38 wx=>v36 = .slice Av l.length cv∧v37 = .int .i64 l.length∧v38 = .int .i64 0∧Bv wx bi di bf df (ch+1) ch g.nodes.length g.infos.length ⟨s.inn,s.fnd,q⟩∧Row wx w.heap.size 98 [.int .i64 g.aj,.slice A g.nodes.length c,.slice Ai g.infos.length ci,.slice Ap par.length cp,.slice Al last.length cl,.slice (some ⟨bs,os,none⟩) g.infos.length cs]∧Below w.heap.size w wx)
    case first =>
     have aiE:wr.drew.heap[ch]? = some (.chan g.infos.length (Value.int .i64 (z:Int) :: cO q).toArray false sn rc false):=by
      have:=HCH.out; rw[HQ.out] at this; exact this
     have hcl0:Bv wr.drew bi di bf df (ch+1) ch g.nodes.length g.infos.length s:=hcl.drew;have hbx0:Row wr.drew w.heap.size _ _:=hbx.drew;have hB0:Below w.heap.size w wr.drew:=hB.drew;have el0:wr.drew.cell? ⟨bs,os+z,none⟩=some (.slice Av l.length cv):=el;clear el x5 hlen cw0 HC HCH hbx hB hcl;refine wR (js:=[0,1,2,3,4,5,6,7]) (c:=3) (W1:=wr.drew.setChan ch g.infos.length (cO q).toArray false sn (rc+1) false) (by kernel_rfl) (by kernel_rfl) (by decide) ?_;generalize wr.drew=W0 at *;have aja:=hcl0.setC HAP.out q (buf:=(cO q).toArray) rfl sn (rc+1);have dS:Row (W0.setChan ch g.infos.length (cO q).toArray false sn (rc+1) false) w.heap.size _ _:=hbx0.of_block (heap_setChan_ne _ _ _ _ _ _ _ _ (by omega));have hB1:Below w.heap.size w (W0.setChan ch g.infos.length (cO q).toArray false sn (rc+1) false):=Go.Conc.below_setChan hB0 (by omega) _ _ _ _ _ _;have el1:(W0.setChan ch g.infos.length (cO q).toArray false sn (rc+1) false).cell? ⟨bs,os+z,none⟩=some (.slice Av l.length cv):=by
      rw[World.cell?_of_block (w:=W0) (heap_setChan_ne _ _ _ _ _ _ _ _ (show bs≠ch by omega))]; exact el0
     obtain⟨W1,hW1⟩:∃ W1,W1=W0.setChan ch g.infos.length (cO q).toArray false sn (rc+1) false:=⟨_,rfl⟩;rw[← hW1] at aja dS hB1 el1 ⊢;have HW1:=Aa hW1; clear hW1;have HCH0:=Aa aiE; clear aiE;have x5:=hbx0.cell (i:=5) rfl;have x51:=dS.cell (i:=5) rfl;have cw0:=hcl0.cw.cell (i:=0) rfl;have cw1:=aja.cw.cell (i:=0) rfl;have HHH:=Aa (And.intro aja (And.intro dS hB1));clear hcl0 aja hbx0 dS hB0 hB1;refine AU.val (by decide) rfl (by rfl) (by go_simp; try (with_reducible rfl)) (by go_simp; try (with_reducible rfl)) ?_;try simp only[Act.put,lq1,lq2,lq3,lq4,lq5,lq6]
     refine AU.val (by decide) rfl (by rfl) (by go_simp; try (with_reducible rfl)) (by go_simp; try (with_reducible rfl)) ?_;try simp only[Act.put,lq1,lq2,lq3,lq4,lq5,lq6]
     refine AU.val (by decide) rfl (by rfl) (by go_simp; try (with_reducible rfl)) (by go_simp; try (with_reducible rfl)) ?_;try simp only[Act.put,lq1,lq2,lq3,lq4,lq5,lq6]
     refine AU.recv (z:=.int .i64 0) rfl (by rfl) (by simp[go_sem,Go.Conc.rcase]) HCH0.out HW1.out ?_;try simp only[Act.put,lq1,lq2,lq3,lq4,lq5,lq6]
     refine AU.val (by decide) rfl (by rfl) (by go_simp; try (with_reducible rfl)) (by go_simp; try (with_reducible rfl)) ?_;try simp only[Act.put,lq1,lq2,lq3,lq4,lq5,lq6]
     refine AU.val (by decide) rfl (by rfl) (by go_simp; try (with_reducible rfl)) (by go_simp; try (with_reducible rfl)) ?_;try simp only[Act.put,lq1,lq2,lq3,lq4,lq5,lq6]
     refine AU.val (by decide) rfl (by rfl) (by go_simp; try (with_reducible rfl)) (by go_simp; try (with_reducible rfl)) ?_;try simp only[Act.put,lq1,lq2,lq3,lq4,lq5,lq6]
     refine AU.val (by decide) rfl (by rfl) (by go_simp; try (with_reducible rfl)) (by go_simp; try (with_reducible rfl)) ?_;try simp only[Act.put,lq1,lq2,lq3,lq4,lq5,lq6]
     unfold AU;go_wp2_with fail
     go_meet
     exact⟨rfl,rfl,rfl,HHH.out.1,HHH.out.2.1,HHH.out.2.2⟩
    case rest =>
     obtain⟨rfl,rfl,rfl,hcl3,uK,hB3⟩:=hcut;clear el x5 hlen cw0 HC HCH hbx hB hcl;go_wp2
     go_loopg [10,38] l.length (fun k _ i wi=>∃ j:Nat,j≤l.length∧k=l.length - j∧i = .int .i64 j∧Bv wi bi di bf df (ch+1) ch g.nodes.length g.infos.length ((l.take j).foldl (iI g.nodes last) ⟨s.inn,s.fnd,q⟩)∧Row wi w.heap.size 98 [.int .i64 g.aj,.slice A g.nodes.length c,.slice Ai g.infos.length ci,.slice Ap par.length cp,.slice Al last.length cl,.slice (some ⟨bs,os,none⟩) g.infos.length cs]∧Below w.heap.size w wi)
     case atStart=>exact⟨0,by omega,by omega,rfl,hcl3,uK,hB3⟩
     case round =>
      clear hcl3 uK hB3;obtain⟨j,hj,hgk,rfl,hcl,hbx,hB⟩:=hrel;have HGK:=Aa hgk; clear hgk;have HOJ:=Aa (sV HIN.out last (l.take j) _ HOK2.out).1;by_cases hjt:j < l.length
      ·obtain⟨bv,ov,rfl,_,hbv,hxv⟩:=HAV.out (by omega);obtain⟨h,hh⟩:=au hjt;have eh:=hxv j h hh;unfold iH at eh;rw[Nat.mul_one,← aA hB _ _ hbv] at eh;have hhr:=HLX.out h (List.mem_of_getElem? hh);have HTK:=Aa (show(l.take (j+1)).foldl (iI g.nodes last) ⟨s.inn,s.fnd,q⟩=iI g.nodes last ((l.take j).foldl (iI g.nodes last) ⟨s.inn,s.fnd,q⟩) h by rw[take_snoc hh]; simp[List.foldl_append]);clear hh hxv;generalize (l.take j).foldl (iI g.nodes last) ⟨s.inn,s.fnd,q⟩=t at *;go_wp2_with fail
       refine(ad4 g last bi di bf df (ch+1) ch w.heap.size HAP.out _ HFF.out HIN.out hN hni HLL.out HLA.out _ _ h _ _ _ _ _ hbx (HNO.out.on (Below.same' hB _)) (HLO.out.on (Below.same' hB _)) hcl HOJ.out hhr).mono ?_;rintro e w5 ⟨rfl,hcl5,akf⟩;have hbx5:=hbx.wrote akf (by rintro(h | h | h) <;> omega);have hB5:Below w.heap.size w w5:=Wrote.below hB akf (fun k hk=>by omega) hB.size;clear hcl hbx hB akf eh;dsimp only;go_wp2
       go_roundg (l.length - (j+1))
       case measure=>rw[HGK.out]; omega
       case rel=>exact⟨j+1,by omega,rfl,by go_num,by rw[HTK.out]; exact hcl5,hbx5,hB5⟩
      ·have HTK:=Aa (show l.take j=l from List.take_of_length_le (by omega));rw[HTK.out] at HOJ hcl;go_wp2
       go_roundg f
       case measure=>omega
       case rel =>
        refine⟨_,?_,HOJ.out,by rw[HV3.out,HGD.out],hcl,hbx,hB⟩;rw[(sV HIN.out last l _ HOK2.out).2];have:=HLF2.out;omega
def lC (inn:List Bool) (par:List Int) (i:Nat):Bool:=inn.getD i false&&(decide (i=0) || !inn.getD (par.getD i 0).toNat false)
def jc (inn:List Bool) (par:List Int) (k:Nat):List Int:=((List.range k).filter (lC inn par)).map fun i:Nat=>(i:Int)
theorem acP (inn:List Bool) (par:List Int) (k:Nat):jc inn par (k+1)=jc inn par k++(if lC inn par k then [(k:Int)] else []):=by
 unfold jc;rw[List.range_succ,List.filter_append,List.map_append];cases h:lC inn par k <;> simp[h]
theorem aaL (inn:List Bool) (par:List Int) (k:Nat):(jc inn par k).length≤k:=by
 unfold jc;rw[List.length_map];refine Nat.le_trans (List.length_filter_le _ _) ?_;simp
theorem agZ (nodes:List Nd) (s:Cl) (i:Nat):(putAt nodes s i).inn.length=s.inn.length:=by
 unfold putAt;split
 ·split <;> simp
 ·rfl
theorem ad6 (nodes:List Nd) (last:List Int) (s:Cl) (r:Int):(iI nodes last s r).inn.length=s.inn.length:=by
 unfold iI;split
 ·rfl
 ·generalize (last.getD r.toNat 0+1 - r).toNat=j;induction j with
  | zero=>rfl
  | succ j ih=>show(putAt nodes (jr nodes s r.toNat j) (r.toNat+j)).inn.length=_; rw[agZ,ih]
theorem yK (nodes:List Nd) (last:List Int) (sets:List (List Int)):∀ (f:Nat) (s:Cl),(ig nodes last sets f s).inn.length=s.inn.length
 | 0,s=>rfl
 | f+1,s=>by
  rw[ig];split
  ·rfl
  ·rename_i x q _
   rw[yK nodes last sets f];suffices ∀ (l:List Int) (t:Cl),(l.foldl (iI nodes last) t).inn.length=t.inn.length by rw[this]
   intro l;induction l with
   | nil=>intro t; rfl
   | cons y l ih=>intro t; rw[List.foldl_cons,ih,ad6]
theorem qO (nodes:List Nd) (last:List Int) (sets:List (List Int)) (ni:Nat) (r:Int):(iO nodes last sets ni r).length=nodes.length:=by
 unfold iO; rw[yK,ad6]; simp
theorem rU {N:Nat} (q:Nat) (hq:q < N):∀ (cs:List Int) (s:List Int×List Int),(∀ i x,s.1[i]? = some x→i≠0→0≤x∧x < (N:Int))→∀ i x,(dD q cs s).1[i]? = some x→i≠0→0≤x∧x < (N:Int)
 | [],s,h=>h
 | c :: cs,s,h=>by
  show ∀ i x,(dD q cs _).1[i]? = some x→_;refine rU q hq cs _ fun i x hi h0=>?_
  simp only at hi;rw[List.getElem?_set] at hi;split at hi
  ·split at hi
   ·cases hi; omega
   ·cases hi
  ·exact h i x hi h0
theorem acQ (nodes:List Nd) (h0:0 < nodes.length) (m:Nat):∀ i x,(fD nodes m).1[i]? = some x→i≠0→0≤x∧x < (nodes.length:Int):=by
 induction m with
 | zero =>
  intro i x hi hne;unfold fD at hi;simp only at hi;rw[List.getElem?_set_ne (by omega)] at hi;have:=aB hi;simp at this;simp[this] at hi;omega
 | succ m ih =>
  unfold fD o8;split
  ·exact rU _ (by omega) _ _ ih
  ·exact ih
def gG (g:Gm) (node:Int):Int:=if bg g≠0 then bg g else if hasB g.nodes.length node then 0 else 2
def jd (g:Gm) (node:Int):List Int:=if gG g node=0 then jc (iO g.nodes (aF g.nodes).2 (aN g) g.infos.length node) (aF g.nodes).1 g.nodes.length else []
def DI (B:Nat) (e:Int) (l:List Int) (v:Value) (w':World):Prop:=∃ v1,v = .tuple #[v1,.int .i64 e]∧Ae w' (fun b=>B≤b) v1 l
theorem sW (w:World) (F:Ac) (u:Value) (node:Int) (g:Gm) (hg:Az w F u g) (hsm:Small g) (iQ:Cm g) :
  Calls Tryz.prog 44 #[u,.int .i64 node] w (Ret w (DI w.heap.size (gG g node) (jd g node))):=by
 have HG:=Aa hg;obtain⟨vn,vi,rfl,⟨A,c,rfl,hc,hN⟩,⟨Ai,ci,rfl,hci,hI⟩⟩:=hg;clear hN hI;have hn:=hsm.nodes;have hni:=hsm.infos;have HS:=Aa hsm; clear hsm;have HFI:=Aa iQ; clear iQ;go_enter Tryz.func44,Tryz.ntmps44;go_wp2_with fail
 refine(vW _ F _ g (HG.out.on (Same.alloc _ _ _)) HS.out).mono ?_;rintro e w1 ⟨_,rfl,hb1,vv,rfl,hv1,hv2⟩;have hB:Below w.heap.size w w1:=((Below.refl w.heap.size w).alloc (Nat.le_refl _) _).trans (hb1.mono (by simp));simp only[World.size_alloc] at hv2;clear hb1;have HV1:=Aa hv1; have HV2:=Aa hv2; clear hv1 hv2;have HLE:=Aa (show gG g node=if bg g≠0 then bg g else if hasB g.nodes.length node then 0 else 2 from rfl);have HLP:=Aa (show jd g node=if gG g node=0 then jc (iO g.nodes (aF g.nodes).2 (aN g) g.infos.length node) (aF g.nodes).1 g.nodes.length else [] from rfl);have HGD:=Aa (fun h:bg g=0=>And.intro (dZ h) (HFI.out h));generalize bg g=er at *;dsimp only;by_cases he:er=0
 ·have HVX:=Aa (HV2.out he);obtain⟨hgd,hfl⟩:=HGD.out he;have HE2:=Aa (show gG g node=if hasB g.nodes.length node then 0 else 2 by rw[HLE.out,if_neg (by simpa using he)]);have HFL:=Aa hfl.last;have HIN:=Aa hgd.infos;have HPR:=Aa (acQ g.nodes hgd.pos g.nodes.length);have hp:=hgd.pos;subst he;clear hgd hfl HV1 HV2 HGD HFI;have HVY:=Aa HVX.out;obtain⟨vn',vi',vp,vl,vs,rfl,⟨An,cn,rfl,hcn,hN'⟩,⟨Ax,cx,rfl,hcx,hI'⟩,⟨Ap,cp,rfl,hcp,hP'⟩,⟨Al,cl,rfl,hcl,hL'⟩,⟨As,cs,rfl,hcs,hS'⟩⟩:=HVX.out;clear hN' hI' hL' hS' HVX;have HPP:=Aa hP'; clear hP';go_wp2_with fail
  obtain⟨W,hW,hbx,hWb,hWz⟩:=aH w1 98 #[.int .i64 g.aj,.slice An g.nodes.length cn,.slice Ax g.infos.length cx,.slice Ap (aF g.nodes).1.length cp,.slice Al (aF g.nodes).2.length cl,.slice As (aN g).length cs];rw[← hW];clear hW hWz;have hBW:=hB.trans (hWb.mono hB.size);have hlt1:=hbx.lt;refine(acG _ (fun b=>F b∨w.heap.size+1≤b) _ node g (aF g.nodes).1 (aF g.nodes).2 (aN g) (HVY.out.on (Below.same' hWb _))).mono ?_;rintro e w2 ⟨_,rfl,hb2,rfl⟩;have hbx2:=hbx.below hb2 hbx.lt;have hB2:=hBW.trans (hb2.mono hBW.size);have h12:=hWb.trans (hb2.mono hWb.size);have hlt2:=hbx2.lt;clear hbx hBW hb2 hB hWb;have HHB:=Aa (show hasB g.nodes.length node=(decide (0≤node)&&decide (node < (g.nodes.length:Int))) from rfl);generalize hasB g.nodes.length node=hb at *;dsimp only;cases hb
  ·have HF:=Aa (show gG g node=2 by rw[HE2.out]; rfl);go_wp2
   go_ret2;exact⟨_,rfl,hB2,.slice none 0 0,by rw[HF.out]; rfl,by rw[HLP.out,HF.out]; exact nK _ _⟩
  ·have HF:=Aa (show gG g node=0 by rw[HE2.out]; rfl);have hnr:0≤node∧node < (g.nodes.length:Int):=by have:=HHB.out; simp at this; omega
   have x0:=hbx2.cell (i:=0) rfl;have x1:=hbx2.cell (i:=1) rfl;have x2:=hbx2.cell (i:=2) rfl;have x3:=hbx2.cell (i:=3) rfl;have x4:=hbx2.cell (i:=4) rfl;have x5:=hbx2.cell (i:=5) rfl;go_wp2_with fail
   refine(ad5 _ (fun b=>F b∨w.heap.size+1≤b) _ node g (aF g.nodes).1 (aF g.nodes).2 (aN g) (HVY.out.on (Below.same' h12 _)) HIN.out (by omega) (by omega) (dO _ _).2 HFL.out (bF _ _ _) (bU HS.out).2 (fun l hl x hx=>lg (Nat.le_refl _) l hl x hx) hnr).mono ?_;rintro e w3 ⟨vb,rfl,hb3,hvb⟩;have uK:=hbx2.below hb3 hbx2.lt;have hB3:=hB2.trans (hb3.mono hB2.size);have h13:=h12.trans (hb3.mono h12.size);have hil:=qO g.nodes (aF g.nodes).2 (aN g) g.infos.length node;have HLP2:=Aa (show jd g node=jc (iO g.nodes (aF g.nodes).2 (aN g) g.infos.length node) (aF g.nodes).1 g.nodes.length by rw[HLP.out,HF.out]; rfl);have hpl:=(dO g.nodes g.nodes.length).1;have HPR2:=Aa (show ∀ i x,(aF g.nodes).1[i]? = some x→i≠0→0≤x∧x < (g.nodes.length:Int) from HPR.out);have hpl:(aF g.nodes).1.length=g.nodes.length:=hpl;clear x0 x1 x2 x3 x4 x5 hbx2 hB2 h12 hb3 HHB hnr;generalize iO g.nodes (aF g.nodes).2 (aN g) g.infos.length node=inn at *;obtain⟨Ab,cb,rfl,hcb,hBb⟩:=hvb;have HBB:=Aa hBb; clear hBb;have hlt3:=uK.lt;have HIL:=Aa hil; have HPL:=Aa hpl; clear hil hpl;dsimp only;go_wp2
   have hi100:inn.length≤100:=by have:=HIL.out; omega
   go_loopw [9,10,11,29] (fun vo _ _ i wr=>∃ k:Nat,k≤inn.length∧i = .int .i64 k∧wr.ownsRow w3.heap.size 3 1 vo (jc inn (aF g.nodes).1 k).length ((jc inn (aF g.nodes).1 k).map (Value.int .i64))∧Below w3.heap.size w3 wr) (fun _ _ _ i _=>inn.length - (intOf i).toNat)
   case atStart=>exact⟨0,by omega,rfl,World.ownsRow_nil _ _ _ _,Below.refl _ _⟩
   case round =>
    obtain⟨k,hk,rfl,hown,hbel⟩:=hrel;have HO:=Aa hown; clear hown;have hlen:=aaL inn (aF g.nodes).1 k;have HST:=Aa (acP inn (aF g.nodes).1 k);by_cases hlt:k < inn.length
    ·obtain⟨bu,ou,rfl,_,hbu,hxu⟩:=HBB.out (by omega);obtain⟨y,hy⟩:=au hlt;have ey:=hxu k y hy;unfold tC at ey;rw[Nat.mul_one,← aA hbel _ _ hbu] at ey;have HY:=Aa (show inn.getD k false=y by simp[List.getD_eq_getElem?_getD,hy]);clear hy;cases y
     ·have HR:=Aa (show lC inn (aF g.nodes).1 k=false by unfold lC; rw[HY.out]; rfl);go_wp2
      go_roundw
      case rel=>exact⟨k+1,by omega,by go_num,by rw[HST.out,HR.out]; simpa using HO.out,hbel⟩
      case measure=>simp[intOf] <;> omega
     ·by_cases hk0:k=0
      ·have HR:=Aa (show lC inn (aF g.nodes).1 k=true by unfold lC; rw[HY.out]; simp[hk0]);have hd0:((k:Int)==0)=true:=by simp[hk0]
       clear hk0 hxu;go_wp2_with (at_builtin; refine jZ rfl _ _ rfl w3.heap.size _ (jc inn (aF g.nodes).1 k) rfl (HO.out.alloc _) wr.heap.size k rfl (heap_alloc_new _ _) (by omega) (by have:=hbel.size; simp; omega) ?_; intro gg cap w4 hown4 hgrow hat hlt4; have aaM:Below w3.heap.size w3 w4:=(hbel.alloc hbel.size _).grown hgrow (by have:=hbel.size; simp; omega) (fun k hk=>(HO.out.lt k hk).1); have HO4:=Aa hown4; clear hown4 hgrow hat hlt4)
       go_roundw
       case rel=>exact⟨k+1,by omega,by go_num,by rw[HST.out,HR.out]; simpa using HO4.out,aaM⟩
       case measure=>simp[intOf] <;> omega
      ·have hd0:((k:Int)==0)=false:=by simp; omega
       obtain⟨x,hx⟩:=au (l:=(aF g.nodes).1) (k:=k) (by have:=HPL.out; have:=HIL.out; omega);obtain⟨bp,op,rfl,_,hbp,hxp⟩:=HPP.out (by have:=HPL.out; omega);have ep:=hxp k x hx;unfold iH at ep;rw[Nat.mul_one,← aA h13 _ _ hbp,← aA hbel _ _ (by have:=h13.size; omega)] at ep;obtain⟨hx0,hx1⟩:=HPR2.out k x hx hk0;obtain⟨z,rfl⟩:=Int.eq_ofNat_of_zero_le hx0;have hzi:z < inn.length:=by have:=HIL.out; omega
       have hkp:k < (aF g.nodes).1.length:=by have:=HPL.out; have:=HIL.out; omega
       obtain⟨y2,hy2⟩:=au hzi;have ez:=hxu z y2 hy2;unfold tC at ez;rw[Nat.mul_one,← aA hbel _ _ hbu] at ez;have HRR:=Aa (show lC inn (aF g.nodes).1 k = !y2 by unfold lC; rw[HY.out]; simp[List.getD_eq_getElem?_getD,hx,hy2,hk0]);have x3:=(uK.below hbel uK.lt).cell (i:=3) rfl;clear hx hxp hy2 hxu hk0;cases y2
       ·have HR:=Aa (show lC inn (aF g.nodes).1 k=true by rw[HRR.out]; rfl);go_wp2_with (at_builtin; refine jZ rfl _ _ rfl w3.heap.size _ (jc inn (aF g.nodes).1 k) rfl (HO.out.alloc _) wr.heap.size k rfl (heap_alloc_new _ _) (by omega) (by have:=hbel.size; simp; omega) ?_; intro gg cap w4 hown4 hgrow hat hlt4; have aaM:Below w3.heap.size w3 w4:=(hbel.alloc hbel.size _).grown hgrow (by have:=hbel.size; simp; omega) (fun k hk=>(HO.out.lt k hk).1); have HO4:=Aa hown4; clear hown4 hgrow hat hlt4)
        go_roundw
        case rel=>exact⟨k+1,by omega,by go_num,by rw[HST.out,HR.out]; simpa using HO4.out,aaM⟩
        case measure=>simp[intOf] <;> omega
       ·have HR:=Aa (show lC inn (aF g.nodes).1 k=false by rw[HRR.out]; rfl);go_wp2
        go_roundw
        case rel=>exact⟨k+1,by omega,by go_num,by rw[HST.out,HR.out]; simpa using HO.out,hbel⟩
        case measure=>simp[intOf] <;> omega
    ·go_wp2
     go_ret2;have hke:k=g.nodes.length:=by have:=HIL.out; omega
     have z3:=hB3.size;refine⟨_,rfl,hB3.trans (hbel.mono z3),u9,by rw[HF.out]; rfl,?_⟩;rw[HLP2.out,← hke];exact Own.ints (by simpa [Own] using HO.out) (fun b hb=>by have:=(HO.out.lt b hb).1; omega)
 ·have hd:(er != 0)=true:=by simp[he]
  have HF:=Aa (show gG g node=er by rw[HLE.out,if_pos he]);obtain rfl:=HV1.out he;have HNZ:=Aa he; clear he;unfold noView;go_wp2
  go_ret2;exact⟨_,rfl,hB.alloc hB.size _,.slice none 0 0,by rw[HF.out]; rfl,by rw[HLP.out,HF.out,if_neg HNZ.out]; exact nK _ _⟩
def je (a b h:Int):Bool:=decide (a≤h)&&decide (h≤b)
def zk (a b:Int) (l:List Int):Bool:=decide (0 < l.countP (je a b))&&decide (l.countP (je a b) < l.length)
def kM (last:List Int) (sets:List (List Int)) (node:Int):Bool:=sets.all fun l=>!zk node (last.getD node.toNat 0) l
theorem afp {l:List Int} {p:Int→Bool} {k:Nat} {x:Int} (h:l[k]? = some x):(l.take (k+1)).countP p=(l.take k).countP p+(if p x then 1 else 0):=by
 rw[take_snoc h,List.countP_append];cases hx:p x <;> simp[hx]
theorem abT (w:World) (F:Ac) (u:Value) (r:Int) (g:Gm) (par last:List Int) (sets:List (List Int)) (hv:Bg w F u g par last sets) (hs:sets.length≤1000) (hsl:∀ l∈sets,l.length≤1000) (hll:last.length=g.nodes.length) (hr:0≤r∧r < (g.nodes.length:Int)) :
  Calls Tryz.prog 84 #[u,.int .i64 r] w (Ret w fun v _=>v = .bool (kM last sets r)):=by
 obtain⟨vn,vi,vp,vl,vs,rfl,⟨A,c,rfl,hc,hN'⟩,⟨Ai,ci,rfl,hci,hI⟩,⟨Ap,cp,rfl,hcp,hP⟩,⟨Al,cl,rfl,hcl,hL⟩,⟨As,cs,rfl,hcs,hS⟩⟩:=hv;clear hN' hI hP;obtain⟨q,rfl⟩:=Int.eq_ofNat_of_zero_le hr.1;obtain⟨bl,ol,rfl,_,hbl,hxl⟩:=hL (by omega);obtain⟨y,hy⟩:=au (l:=last) (k:=q) (by omega);have el:=hxl q y hy;unfold iH at el;rw[Nat.mul_one] at el;have hql:q < last.length:=by omega
 have HAL:=Aa (show kM last sets (q:Int)=sets.all fun l=>!zk q y l by unfold kM; simp[List.getD_eq_getElem?_getD,hy]);have HS:=Aa hS; clear hS hL hxl hy hll hr;have HSL:=Aa hsl; clear hsl;go_enter Tryz.func84,Tryz.ntmps84;go_wp2
 obtain⟨W,hW,hbx,hWb,hWz⟩:=aH w 98 #[.int .i64 g.aj,.slice A g.nodes.length c,.slice Ai g.infos.length ci,.slice Ap par.length cp,.slice (some ⟨bl,ol,none⟩) last.length cl,.slice As sets.length cs];rw[← hW];clear hW hWz;have x4:=hbx.cell (i:=4) rfl;rw[← aA hWb _ _ hbl] at el;go_loop [6,7,9,13] (fun _ _ _ i=>∃ k:Nat,k≤sets.length∧i = .int .i64 k∧(sets.take k).all (fun l=>!zk q y l)=true) (fun _ _ _ i=>sets.length - (intOf i).toNat)
 case atStart=>exact⟨0,by omega,rfl,rfl⟩
 case round =>
  obtain⟨k,hk,rfl,hpre⟩:=hrel;have HP:=Aa hpre; clear hpre;by_cases hlt:k < sets.length
  ·obtain⟨bs,os,rfl,_,hbs,hxs⟩:=HS.out (by omega);obtain⟨l,hl'⟩:=au hlt;obtain⟨vl',ev,Av,cv,rfl,hcv,hAv⟩:=hxs k l hl';rw[Nat.mul_one,← aA hWb _ _ hbs] at ev;have hl1:=HSL.out l (List.mem_of_getElem? hl');have HLK:=Aa hl';have HAV:=Aa hAv;clear hl' hxs hAv;go_wp2
   go_loop [7,9,19] (fun n _ i=>∃ j:Nat,j≤l.length∧i = .int .i64 j∧n = .int .i64 (((l.take j).countP (je q y):Nat):Int)) (fun _ _ i=>l.length - (intOf i).toNat)
   case atStart=>exact⟨0,by omega,rfl,rfl⟩
   case round =>
    obtain⟨j,hj,rfl,rfl⟩:=hrel;have ai9:(l.take j).countP (je q y)≤j:=Nat.le_trans List.countP_le_length (by simp; omega);by_cases hjt:j < l.length
    ·obtain⟨bv,ov,rfl,_,hbv,hxv⟩:=HAV.out (by omega);obtain⟨h,hh⟩:=au hjt;have eh:=hxv j h hh;unfold iH at eh;rw[Nat.mul_one,← aA hWb _ _ hbv] at eh;have HCS:=Aa (afp (p:=je q y) hh);clear hh hxv;generalize (l.take j).countP (je q y)=cn at *;by_cases q1:(q:Int)≤h
     ·by_cases q2:h≤y
      ·have HC:=Aa (show(l.take (j+1)).countP (je q y)=cn+1 by rw[HCS.out]; simp[je,q1,q2]);go_wp2
       go_round
       case rel=>exact⟨j+1,by omega,by go_num,by rw[HC.out]; go_num⟩
       case measure=>simp[intOf] <;> omega
      ·have HC:=Aa (show(l.take (j+1)).countP (je q y)=cn by rw[HCS.out]; simp[je,q2]);have d2:decide (h≤y)=false:=decide_eq_false q2;go_wp2
       go_round
       case rel=>exact⟨j+1,by omega,by go_num,by rw[HC.out]⟩
       case measure=>simp[intOf] <;> omega
     ·have HC:=Aa (show(l.take (j+1)).countP (je q y)=cn by rw[HCS.out]; simp[je,q1]);have d1:decide ((q:Int)≤h)=false:=decide_eq_false q1;go_wp2
      go_round
      case rel=>exact⟨j+1,by omega,by go_num,by rw[HC.out]⟩
      case measure=>simp[intOf] <;> omega
    ·have HTK:=Aa (show l.take j=l from List.take_of_length_le (by omega));rw[HTK.out] at ai9 ⊢;have HMX:=Aa (show zk q y l=(decide (0 < l.countP (je q y))&&decide (l.countP (je q y) < l.length)) from rfl);generalize l.countP (je q y)=cn at *;by_cases q1:0 < cn
     ·by_cases q2:cn < l.length
      ·have HF:=Aa (show kM last sets (q:Int)=false by
        rw[HAL.out]; exact all_false (List.mem_of_getElem? HLK.out) (by rw[HMX.out]; simp[q1,q2]))
       go_wp2
       go_ret;exact⟨_,rfl,hWb,by rw[HF.out]; rfl⟩
      ·have d2:decide (cn < l.length)=false:=decide_eq_false q2;go_wp2
       go_round
       case rel=>exact⟨k+1,by omega,by go_num,vX HLK.out HP.out (by rw[HMX.out]; simp[q2])⟩
       case measure=>simp[intOf] <;> omega
     ·obtain rfl:cn=0:=by omega
      go_wp2
      go_round
      case rel=>exact⟨k+1,by omega,by go_num,vX HLK.out HP.out (by rw[HMX.out]; simp)⟩
      case measure=>simp[intOf] <;> omega
  ·have HF:=Aa (show kM last sets (q:Int)=true by rw[HAL.out]; have:=HP.out; rwa [List.take_of_length_le (by omega)] at this);go_wp2
   go_ret;exact⟨_,rfl,hWb,by rw[HF.out]; rfl⟩
def nS (nodes:List Nd) (last:List Int) (sets:List (List Int)) (i:Nat):Bool:=match nodes[i]? with | some n=>decide (n.kind≠3)&&kM last sets i | none=>false
def gI (nodes:List Nd) (last:List Int) (sets:List (List Int)) (k:Nat):List Int:=((List.range k).filter (nS nodes last sets)).map fun i:Nat=>(i:Int)
theorem abm (nodes:List Nd) (last:List Int) (sets:List (List Int)) (k:Nat):gI nodes last sets (k+1)=gI nodes last sets k++(if nS nodes last sets k then [(k:Int)] else []):=by
 unfold gI;rw[List.range_succ,List.filter_append,List.map_append];cases h:nS nodes last sets k <;> simp[h]
theorem yV (nodes:List Nd) (last:List Int) (sets:List (List Int)) (k:Nat):(gI nodes last sets k).length≤k:=by
 unfold gI;rw[List.length_map];refine Nat.le_trans (List.length_filter_le _ _) ?_;simp
def rV (g:Gm):List Int:=if bg g=0 then gI g.nodes (aF g.nodes).2 (aN g) g.nodes.length else []
theorem aaN (w:World) (F:Ac) (u:Value) (g:Gm) (hg:Az w F u g) (hsm:Small g) :
  Calls Tryz.prog 38 #[u] w (Ret w (DI w.heap.size (bg g) (rV g))):=by
 have HG:=Aa hg;obtain⟨vn,vi,rfl,⟨A,c,rfl,hc,hN⟩,⟨Ai,ci,rfl,hci,hI⟩⟩:=hg;clear hI;have HN:=Aa hN; clear hN;have hn:=hsm.nodes;have hni:=hsm.infos;have HS:=Aa hsm; clear hsm;go_enter Tryz.func38,Tryz.ntmps38;go_wp2_with fail
 refine(vW _ F _ g (HG.out.on (Same.alloc _ _ _)) HS.out).mono ?_;rintro e w1 ⟨_,rfl,hb1,vv,rfl,hv1,hv2⟩;have hgx:=(Row.new w 25 #[.int .i64 g.aj,.slice A g.nodes.length c,.slice Ai g.infos.length ci]).below hb1 (by simp);have hB:Below w.heap.size w w1:=((Below.refl w.heap.size w).alloc (Nat.le_refl _) _).trans (hb1.mono (by simp));simp only[World.size_alloc] at hv2;clear hb1;have HV1:=Aa hv1; have HV2:=Aa hv2; clear hv1 hv2;have HPP:=Aa (show rV g=if bg g=0 then gI g.nodes (aF g.nodes).2 (aN g) g.nodes.length else [] from rfl);generalize hfe:bg g=er at *;have HFE:=Aa hfe; clear hfe;dsimp only;by_cases he:er=0
 ·have HVX:=Aa (HV2.out he);have HP2:=Aa (show rV g=gI g.nodes (aF g.nodes).2 (aN g) g.nodes.length by rw[HPP.out,if_pos he]);subst he;clear HV1 HV2;have HVY:=Aa HVX.out;obtain⟨vn',vi',vp,vl,vs,rfl,⟨An,cn,rfl,hcn,hN'⟩,⟨Ax,cx,rfl,hcx,hI'⟩,⟨Ap,cp,rfl,hcp,hP'⟩,⟨Al,cl,rfl,hcl,hL'⟩,⟨As,cs,rfl,hcs,hS'⟩⟩:=HVX.out;clear hN' hI' hL' hS' hP' HVX;have g1:=hgx.cell (i:=1) rfl;have hlt1:=hgx.lt;go_wp2_with fail
  obtain⟨W,hW,hbx,hWb,hWz⟩:=aH w1 98 #[.int .i64 g.aj,.slice An g.nodes.length cn,.slice Ax g.infos.length cx,.slice Ap (aF g.nodes).1.length cp,.slice Al (aF g.nodes).2.length cl,.slice As (aN g).length cs];rw[← hW];clear hW hWz;have hBW:=hB.trans (hWb.mono hB.size);have hltW:=hbx.lt;clear hgx g1;go_loopw [6,7,8,20] (fun vo _ _ i wr=>∃ k:Nat,k≤g.nodes.length∧i = .int .i64 k∧wr.ownsRow W.heap.size 3 1 vo (gI g.nodes (aF g.nodes).2 (aN g) k).length ((gI g.nodes (aF g.nodes).2 (aN g) k).map (Value.int .i64))∧Below W.heap.size W wr) (fun _ _ _ i _=>g.nodes.length - (intOf i).toNat)
  case atStart=>exact⟨0,by omega,rfl,World.ownsRow_nil _ _ _ _,Below.refl _ _⟩
  case round =>
   obtain⟨k,hk,rfl,hown,hbel⟩:=hrel;have HO:=Aa hown; clear hown;have hlen:=yV g.nodes (aF g.nodes).2 (aN g) k;have HST:=Aa (abm g.nodes (aF g.nodes).2 (aN g) k);by_cases hlt:k < g.nodes.length
   ·obtain⟨b,o,rfl,_,hb,hcell⟩:=HN.out (by omega);obtain⟨n,hn'⟩:=au hlt;obtain⟨e0,e1,e2,⟨v3,e3,A3,c3,rfl,hc3,i3⟩,⟨v4,e4,A4,c4,rfl,hc4,i4⟩,⟨v5,e5,A5,c5,rfl,hc5,i5⟩⟩:=hcell k n hn';clear i3 i4 i5 hcell;have hwr:=hBW.trans (hbel.mono hBW.size);rw[← aA hwr _ _ hb] at e0 e1 e2 e3 e4 e5;have HPA:=Aa (show nS g.nodes (aF g.nodes).2 (aN g) k=(decide (n.kind≠3)&&kM (aF g.nodes).2 (aN g) k) by unfold nS; rw[hn']);clear hn';by_cases hkd:n.kind=3
    ·have HR:=Aa (show nS g.nodes (aF g.nodes).2 (aN g) k=false by rw[HPA.out]; simp[hkd]);have hd:(n.kind != 3)=false:=by simp[hkd]
     clear hkd;go_wp2
     go_roundw
     case rel=>exact⟨k+1,by omega,by go_num,by rw[HST.out,HR.out]; simpa using HO.out.alloc _,hbel.alloc hbel.size _⟩
     case measure=>simp[intOf] <;> omega
    ·have hd:(n.kind != 3)=true:=by simp[hkd]
     have HR:=Aa (show nS g.nodes (aF g.nodes).2 (aN g) k=kM (aF g.nodes).2 (aN g) k by rw[HPA.out]; simp[hkd]);clear hkd;have hbx2:=hbx.below hbel hbx.lt;have x0:=hbx2.cell (i:=0) rfl;have x1:=hbx2.cell (i:=1) rfl;have x2:=hbx2.cell (i:=2) rfl;have x3:=hbx2.cell (i:=3) rfl;have x4:=hbx2.cell (i:=4) rfl;have x5:=hbx2.cell (i:=5) rfl;have hlt2:=hbx2.lt;go_wp2_with fail
     obtain⟨W2,hW2,hbn,mJ,ae5⟩:=aH wr 61 #[.int .i64 n.kind,.int .i64 n.ak,.int .i64 n.info,.slice A3 n.next.length c3,.slice A4 n.weights.length c4,.slice A5 n.pay.length c5];rw[← hW2];have HO2:=Aa (show W2.ownsRow W.heap.size 3 1 u6 (gI g.nodes (aF g.nodes).2 (aN g) k).length ((gI g.nodes (aF g.nodes).2 (aN g) k).map (Value.int .i64)) by rw[hW2]; exact HO.out.alloc _);clear hW2 ae5 HO;have dR:=hbel.trans (mJ.mono hbel.size);have h12:=hWb.trans (dR.mono hWb.size);refine(abT _ (fun b=>F b∨w.heap.size+1≤b) _ k g (aF g.nodes).1 (aF g.nodes).2 (aN g) (HVY.out.on (Below.same' h12 _)) (bU HS.out).1 (bU HS.out).2 (dO _ _).2 (by omega)).mono ?_;rintro e w3 ⟨_,rfl,hb3,rfl⟩;have qM:=dR.trans (hb3.mono dR.size);have HO3:=Aa (show w3.ownsRow W.heap.size 3 1 u6 (gI g.nodes (aF g.nodes).2 (aN g) k).length ((gI g.nodes (aF g.nodes).2 (aN g) k).map (Value.int .i64)) from⟨HO2.out.1,HO2.out.2.imp id (fun ⟨gg,cap,cur,h1,h2,h3,h4⟩=>⟨gg,cap,cur,h1,h2,by rw[hb3.block gg (Array.getElem?_eq_some_iff.1 h3).1]; exact h3,h4⟩)⟩);clear HO2 dR h12 hb3 mJ hbn x0 x1 x2 x3 x4 x5 hbx2 e0 e1 e2 e3 e4 e5 hwr hbel;generalize kM (aF g.nodes).2 (aN g) k=al at *;dsimp only;cases al
     ·go_wp2
      go_roundw
      case rel=>exact⟨k+1,by omega,by go_num,by rw[HST.out,HR.out]; simpa using HO3.out,qM⟩
      case measure=>simp[intOf] <;> omega
     ·go_wp2_with (at_builtin; refine jZ rfl _ _ rfl W.heap.size _ (gI g.nodes (aF g.nodes).2 (aN g) k) rfl (HO3.out.alloc _) w3.heap.size k rfl (heap_alloc_new _ _) (by omega) (by have:=qM.size; simp; omega) ?_; intro gg cap w4 hown4 hgrow hat hlt4; have aaM:Below W.heap.size W w4:=(qM.alloc qM.size _).grown hgrow (by have:=qM.size; simp; omega) (fun k hk=>(HO3.out.lt k hk).1); have HO4:=Aa hown4; clear hown4 hgrow hat hlt4)
      go_roundw
      case rel=>exact⟨k+1,by omega,by go_num,by rw[HST.out,HR.out]; simpa using HO4.out,aaM⟩
      case measure=>simp[intOf] <;> omega
   ·go_wp2
    go_ret2;have hke:k=g.nodes.length:=by omega
    have zW:=hBW.size;refine⟨_,rfl,hBW.trans (hbel.mono zW),u6,by first | rfl | (rw[HFE.out]; rfl),?_⟩;rw[HP2.out,← hke];exact Own.ints (by simpa [Own] using HO.out) (fun b hb=>by have:=(HO.out.lt b hb).1; omega)
 ·have hd:(er != 0)=true:=by simp[he]
  obtain rfl:=HV1.out he;have HNZ:=Aa he; clear he;unfold noView;go_wp2
  go_ret2;exact⟨_,rfl,hB.alloc hB.size _,.slice none 0 0,by first | rfl | (rw[HFE.out]; rfl),by rw[HPP.out,if_neg HNZ.out]; exact nK _ _⟩
def nT (g:Gm) (roots:List Int):List Int:=(acy g roots).flatMap fun s=>(aN g).getD s.toNat []
def lX (g:Gm) (roots:List Int):List Bool:=dV (nT g roots) (fK g.nodes roots)
def mZ (g:Gm) (roots:List Int):List Int:=gq (aW g.nodes) (lX g roots) g.nodes.length
def lM (g:Gm):Nat→List Int→List Int
 | 0,r=>r
 | f+1,r=>if jS g r then r else lM g f (mZ g r)
def CW (g:Gm) (roots:List Int):Prop:=roots.length≤1000∧∀ r∈roots,0≤r∧r < (g.nodes.length:Int)
theorem qG {g:Gm} (hsm:Small g) (roots:List Int):CW g (mZ g roots):=by
 refine⟨Nat.le_trans (uf _ _ _) (by have:=hsm.nodes; omega),fun r hr=>?_⟩;unfold mZ gq at hr;rw[List.mem_map] at hr;obtain⟨i,hi,rfl⟩:=hr;rw[List.mem_filter,List.mem_range] at hi;omega
theorem yX (g:Gm) (roots:List Int):(lX g roots).length=g.nodes.length:=by unfold lX; rw[iV,fQ]
theorem uX {g:Gm} (hg:Good g) (m:List Bool):∀ i:Nat,i < g.nodes.length→m.getD i false=true→In g.nodes (gq (aW g.nodes) m g.nodes.length) i:=by
 have hl:=gU g.nodes;have hf:=lJ hg;have mem:∀ i:Nat,i < g.nodes.length→pF (aW g.nodes) m i=true→(i:Int)∈gq (aW g.nodes) m g.nodes.length:=fun i hi ht=>by
  unfold gq;rw[List.mem_map];exact⟨i,by rw[List.mem_filter,List.mem_range]; exact⟨hi,ht⟩,rfl⟩
 have down:∀ i:Nat,0 < i→i < g.nodes.length→∃ p:Nat,p < i∧(aW g.nodes)[i]? = some (p:Int)∧(In g.nodes (gq (aW g.nodes) m g.nodes.length) p→In g.nodes (gq (aW g.nodes) m g.nodes.length) i):=by
  intro i h0 hi;obtain⟨p,n,h1,h2,h3⟩:=jD hg h0 hi;exact⟨p,h1,lV hg hi h2 h3,fun h=>(mM hg hi h2 h3).2 (.inr h)⟩
 have chain:∀ B:Nat,(∀ q:Nat,q < B→q < g.nodes.length→m.getD q false=true→In g.nodes (gq (aW g.nodes) m g.nodes.length) q) →
   ∀ p:Nat,p < B→p < g.nodes.length→jq (aW g.nodes) m (p:Int)=true→In g.nodes (gq (aW g.nodes) m g.nodes.length) p:=by
  intro B hB p;induction p using Nat.strongRecOn with
  | _ p ih =>
   intro hpB hp ha;by_cases h0:0 < p
   ·obtain⟨q,hq1,hq2,hq3⟩:=down p h0 hp;rw[qB hl hf hp hq2,Bool.or_eq_true] at ha;rcases ha with ha | ha
    ·exact hB p hpB hp ha
    ·exact hq3 (ih q hq1 (by omega) (by omega) ha)
   ·obtain rfl:p=0:=by omega
    obtain⟨x,hx⟩:=au (l:=aW g.nodes) (k:=0) (by rw[hl]; exact hp);rw[qB hl hf hp hx,Bool.or_eq_true] at ha;have:=hf 0 x hp hx;rw[uT (show x < 0 by omega)] at ha;rcases ha with ha | ha
    ·exact hB 0 hpB hp ha
    ·cases ha
 intro i;induction i using Nat.strongRecOn with
 | _ i ih =>
  intro hi hm;by_cases ht:pF (aW g.nodes) m i=true
  ·exact jT hg hi (mem i hi ht)
  ·obtain⟨x,hx⟩:=au (l:=aW g.nodes) (k:=i) (by rw[hl]; exact hi);have ha:jq (aW g.nodes) m x=true:=by
    unfold pF at ht;simp only[hm,Bool.true_and,List.getD_eq_getElem?_getD,hx,Option.getD_some,Bool.not_eq_true',Bool.not_eq_false] at ht;exact ht
   by_cases h0:0 < i
   ·obtain⟨p,hp1,hp2,hp3⟩:=down i h0 hi;rw[hx] at hp2; cases hp2;exact hp3 (chain i (fun q hq hqN hqm=>ih q hq hqN hqm) p hp1 (by omega) ha)
   ·obtain rfl:i=0:=by omega
    have:=hf 0 x hi hx;rw[uT (show x < 0 by omega)] at ha;cases ha
theorem count_le {l m:List Bool} (hl:l.length=m.length) (h:∀ i,l.getD i false=true→m.getD i false=true):l.countP id≤m.countP id:=by
 induction l generalizing m with
 | nil=>simp
 | cons b l ih =>
  cases m with
  | nil=>simp at hl
  | cons c m =>
   have h1:=ih (m:=m) (by simpa using hl) (fun i hi=>by simpa using h (i+1) (by simpa using hi));have h0:=h 0;simp at h0;cases b <;> cases c <;> simp_all <;> omega
theorem aic {l m:List Bool} (hl:l.length=m.length) (h:∀ i,l.getD i false=true→m.getD i false=true) {k:Nat} (hk:l.getD k false=false) (hm:m.getD k false=true):l.countP id < m.countP id:=by
 have hkl:k < l.length:=by
  rcases Nat.lt_or_ge k m.length with h1 | h1
  ·omega
  ·simp[List.getD_eq_getElem?_getD,List.getElem?_eq_none h1] at hm
 have h1:=count_set (l:=l) (i:=k) (by
  obtain⟨b,hb⟩:=au hkl;simp[List.getD_eq_getElem?_getD,hb] at hk;rw[hb,hk])
 have h2:=count_le (l:=l.set k true) (m:=m) (by simpa using hl) (fun i hi=>by
  by_cases hik:k=i
  ·subst hik; exact hm
  ·simp only[List.getD_eq_getElem?_getD,List.getElem?_set_ne hik] at hi;exact h i (by simpa [List.getD_eq_getElem?_getD] using hi))
 omega
theorem lD {g:Gm} (hg:Good g) {roots:List Int} (hr:∀ r∈roots,0≤r∧r < (g.nodes.length:Int)) (i:Nat):(fK g.nodes roots).getD i false=true↔i < g.nodes.length∧In g.nodes roots i:=by
 by_cases hi:i < g.nodes.length
 ·obtain⟨b,h1,h2⟩:=wX hg (fun r h=>(hr r h).1) hi;simp only[List.getD_eq_getElem?_getD,h1,Option.getD_some,h2,hi,true_and]
 ·rw[List.getD_eq_getElem?_getD,List.getElem?_eq_none (by rw[fQ]; omega)];simp[hi]
theorem qH {roots:List Int} {l:List Bool} (hr:∀ r∈roots,0≤r∧r < (l.length:Int)) (i:Nat):(dV roots l).getD i false=true↔(i:Int)∈roots∨l.getD i false=true:=by
 by_cases hi:i < l.length
 ·rw[List.getD_eq_getElem?_getD,sQ hi (fun r h=>(hr r h).1)];split
  ·rename_i h; simp[h]
  ·rename_i h; simp[h,List.getD_eq_getElem?_getD]
 ·rw[List.getD_eq_getElem?_getD,List.getElem?_eq_none (by rw[iV]; omega),List.getD_eq_getElem?_getD,List.getElem?_eq_none (by omega)];simp
  intro h;have:=hr _ h;omega
theorem yL {g:Gm} (roots:List Int):∀ x∈nT g roots,0≤x∧x < (g.nodes.length:Int):=by
 intro x hx;unfold nT at hx;rw[List.mem_flatMap] at hx;obtain⟨s,_,hx⟩:=hx;rcases Nat.lt_or_ge s.toNat (aN g).length with h | h
 ·obtain⟨l,hl⟩:=au h;simp only[List.getD_eq_getElem?_getD,hl,Option.getD_some] at hx;exact lg (Nat.le_refl _) l (List.mem_of_getElem? hl) x hx
 ·simp[List.getD_eq_getElem?_getD,List.getElem?_eq_none h] at hx
theorem aaO {g:Gm} {roots:List Int} {s:Int}:s∈acy g roots↔∃ (q:Nat) (l:List Int),s=q∧(aN g)[q]? = some l∧l.any (jh (fK g.nodes roots))=true:=by
 have hl:(aN g).length=g.infos.length:=bF _ _ _;unfold acy;rw[← agM,← hl];exact wY
theorem ad7 {g:Gm} (hg:Good g) (hsm:Small g) {roots:List Int} (hr:∀ r∈roots,0≤r∧r < (g.nodes.length:Int)) (hc:jS g roots=false):(fK g.nodes roots).countP id < (fK g.nodes (mZ g roots)).countP id:=by
 have hr2:=(qG hsm roots).2;have hmk:∀ i,(lX g roots).getD i false=true↔(i:Int)∈nT g roots∨(fK g.nodes roots).getD i false=true:=fun i=>by
  unfold lX;exact qH (by rw[fQ]; exact yL roots) i
 have hcov:∀ i,(lX g roots).getD i false=true→(fK g.nodes (mZ g roots)).getD i false=true:=fun i hi=>by
  have hiN:i < g.nodes.length:=by
   rcases Nat.lt_or_ge i g.nodes.length with h | h
   ·exact h
   ·rw[List.getD_eq_getElem?_getD,List.getElem?_eq_none (by rw[yX]; exact h)] at hi; simp at hi
  rw[lD hg hr2];exact⟨hiN,uX hg _ i hiN hi⟩
 unfold jS sK at hc;rw[List.all_eq_false] at hc;obtain⟨l,hl,hb⟩:=hc;have hl':=List.mem_of_mem_take hl;rw[pz,rP] at hb;simp only[Bool.or_eq_true,Bool.not_eq_true',not_or,Bool.not_eq_false,Bool.not_eq_true] at hb;obtain⟨q,hq⟩:=List.getElem?_of_mem hl';rw[List.all_eq_false] at hb;obtain⟨ha,x,hx,hxn⟩:=hb;have hx2:=lg (Nat.le_refl _) l hl' x hx;obtain⟨z,rfl⟩:=Int.eq_ofNat_of_zero_le hx2.1;refine aic (by rw[fQ,fQ]) (fun i hi=>hcov i ((hmk i).2 (.inr hi))) (k:=z) ?_ (hcov z ((hmk z).2 (.inl ?_)))
 ·unfold jh at hxn; simpa using hxn
 ·unfold nT;rw[List.mem_flatMap];exact⟨q,aaO.2 ⟨q,l,rfl,hq,ha⟩,by simp[List.getD_eq_getElem?_getD,hq]; exact hx⟩
def ng (g:Gm) (node:Int):Int:=if bg g≠0 then bg g else if node < 0∨(g.nodes.length:Int)≤node then 2 else 0
def acR (g:Gm) (node:Int):List Int:=if ng g node=0 then lM g (g.nodes.length+1) [node] else []
theorem abU (l m:List Int) (b:List Bool):dV (l++m) b=dV m (dV l b):=by unfold dV; rw[List.foldl_append]
theorem wC (q:Nat):∀ (cs:List Int) (s:List Int×List Int),(dD q cs s).1=iT cs q s.1
 | [],s=>rfl
 | c :: cs,s=>by
  show(dD q cs _).1=iT cs q _;rw[wC q cs]
theorem afq {g:Gm} (hg:Good g) {j p:Nat} {n:Nd} (hj:j < g.nodes.length) (hp:g.nodes[p]? = some n) (hc:(j:Int)∈n.next) (m:Nat):m≤g.nodes.length→g.nodes.length - m≤p→(fD g.nodes m).1[j]? = some (p:Int):=by
 have hpl:=aB hp;induction m with
 | zero=>intro _ h; omega
 | succ m ih =>
  intro hm hle;obtain⟨k,hk⟩:=au (l:=g.nodes) (k:=g.nodes.length - 1 - m) (by omega);have hlen:=dO g.nodes m;have hst:(fD g.nodes (m+1)).1=iT k.next ((g.nodes.length - 1 - m:Nat):Int) (fD g.nodes m).1:=by
   rw[fD,o8,hk]; exact wC _ _ _
  rw[hst,rF (by rw[hlen.1]; exact hj) (fun c hc=>(hg.uM k (List.mem_of_getElem? hk) c hc).1)];by_cases h1:(j:Int)∈k.next
  ·have:p=g.nodes.length - 1 - m:=hg.span.once.2 _ p _ n k (by omega) hpl (by omega) (by omega) hp hk hc h1;rw[if_pos h1,← this]
  ·rw[if_neg h1];by_cases h2:p=g.nodes.length - 1 - m
   ·subst h2; rw[hp] at hk; cases hk; exact absurd hc h1
   ·exact ih (by omega) (by omega)
theorem aie {g:Gm} (hg:Good g) {j p:Nat} {n:Nd} (hj:j < g.nodes.length) (hp:g.nodes[p]? = some n) (hc:(j:Int)∈n.next):(aF g.nodes).1[j]? = some (p:Int) :=
 afq hg hj hp hc _ (Nat.le_refl _) (by omega)
structure Shut (g:Gm) (X:Nat→Prop):Prop where
 kids:∀ (p:Nat) (n:Nd) (c:Nat),g.nodes[p]? = some n→X p→(c:Int)∈n.next→X c
 sets:∀ s i j,mv g.nodes s i=true→mv g.nodes s j=true→X i→X j
theorem ad8 {nodes:List Nd} {s i:Nat} (h:mv nodes s i=true):i < nodes.length:=by
 unfold mv at h;cases hn:nodes[i]? with
 | none=>rw[hn] at h; cases h
 | some n=>exact aB hn
theorem ajb {g:Gm} (hin:AZ g) {s i:Nat} (h:mv g.nodes s i=true):s < g.infos.length:=by
 unfold mv at h;cases hn:g.nodes[i]? with
 | none=>rw[hn] at h; cases h
 | some n =>
  rw[hn] at h;simp at h;have:=hin n (List.mem_of_getElem? hn) h.1;omega
theorem xG {g:Gm} {r i:Nat}:In g.nodes [(r:Int)] i↔∃ e,Span g.nodes [(r:Int)] r e∧r≤i∧i < e:=by
 constructor
 ·rintro⟨q,hq,h⟩;simp at hq;have:q=r:=by omega
  subst this; exact h
 ·intro h; exact⟨r,by simp,h⟩
theorem xH {g:Gm} {roots:List Int} {i:Nat}:In g.nodes roots i↔∃ r:Nat,(r:Int)∈roots∧In g.nodes [(r:Int)] i:=by
 constructor
 ·rintro⟨r,h1,h2⟩; exact⟨r,h1,r,by simp,h2⟩
 ·rintro⟨r,h1,h2⟩; exact⟨r,h1,xG.1 h2⟩
theorem in_lt {g:Gm} (hg:Good g) {roots:List Int} (hr:∀ r∈roots,0≤r∧r < (g.nodes.length:Int)) {i:Nat} (h:In g.nodes roots i):i < g.nodes.length:=by
 obtain⟨r,h1,e,h2,h3,h4⟩:=h;have:=hr _ h1;have:=h2.bound (by omega);omega
theorem Shut.sub {g:Gm} (hg:Good g) {X:Nat→Prop} (hX:Shut g X) {r:Nat} (hr:r < g.nodes.length) (h:X r):∀ i,i < g.nodes.length→In g.nodes [(r:Int)] i→X i:=by
 intro i;induction i using Nat.strongRecOn with
 | _ i ih =>
  intro hi hin;by_cases hir:i=r
  ·subst hir; exact h
  ·have hle:r≤i:=by obtain⟨e,_,h1,_⟩:=xG.1 hin; exact h1
   obtain⟨p,n,hp1,hp2,hp3⟩:=jD hg (show 0 < i by omega) hi;rcases (mM hg hi hp2 hp3).1 hin with h1 | h1
   ·simp at h1; omega
   ·exact hX.kids p n i hp2 (ih p hp1 (by omega) h1) hp3
structure Tidy (g:Gm) (R:List Int):Prop where
 asc:R.Pairwise (· < ·)
 apart:∀ r r':Nat,(r:Int)∈R→(r':Int)∈R→In g.nodes [(r':Int)] r→r'=r
theorem aaP (p:Nat→Bool) (N:Nat):(((List.range N).filter p).map fun i:Nat=>(i:Int)).Pairwise (· < ·):=by
 rw[List.pairwise_map];refine List.Pairwise.filter p ?_;have:=List.pairwise_lt_range (n:=N);exact this.imp (fun h=>by omega)
theorem afZ:∀ {l m:List Int},l.Pairwise (· < ·)→m.Pairwise (· < ·)→(∀ x,x∈l↔x∈m)→l=m
 | [],[],_,_,_=>rfl
 | [],y :: m,_,_,h=>by have:=(h y).2 (by simp); cases this
 | x :: l,[],_,_,h=>by have:=(h x).1 (by simp); cases this
 | x :: l,y :: m,hl,hm,h=>by
  rw[List.pairwise_cons] at hl hm;have hxy:x=y:=by
   rcases List.mem_cons.1 ((h x).1 (by simp)) with h1 | h1
   ·exact h1
   ·rcases List.mem_cons.1 ((h y).2 (by simp)) with h2 | h2
    ·exact h2.symm
    ·have:=hm.1 x h1; have:=hl.1 y h2; omega
  subst hxy;congr 1
  refine afZ hl.2 hm.2 fun z=>?_
  constructor
  ·intro hz;rcases List.mem_cons.1 ((h z).1 (List.mem_cons_of_mem _ hz)) with h1 | h1
   ·have:=hl.1 z hz; omega
   ·exact h1
  ·intro hz;rcases List.mem_cons.1 ((h z).2 (List.mem_cons_of_mem _ hz)) with h1 | h1
   ·have:=hm.1 z hz; omega
   ·exact h1
theorem wF {par:List Int} {m:List Bool} {N i:Nat}:(i:Int)∈gq par m N↔i < N∧pF par m i=true:=by
 unfold gq;rw[List.mem_map];constructor
 ·rintro⟨k,hk,he⟩;rw[List.mem_filter,List.mem_range] at hk;have:k=i:=by omega
  subst this; exact hk
 ·rintro⟨h1,h2⟩; exact⟨i,by rw[List.mem_filter,List.mem_range]; exact⟨h1,h2⟩,rfl⟩
theorem aif {g:Gm} (hg:Good g) {m:List Bool} {r':Nat} (hm:m.getD r' false=true):∀ r:Nat,r < g.nodes.length→In g.nodes [(r':Int)] r→r'≠r→∀ x,(aW g.nodes)[r]? = some x→jq (aW g.nodes) m x=true:=by
 intro r;induction r using Nat.strongRecOn with
 | _ r ih =>
  intro hr hin hne x hx;have hle:r'≤r:=by obtain⟨e,_,h1,_⟩:=xG.1 hin; exact h1
  obtain⟨p,n,hp1,hp2,hp3⟩:=jD hg (show 0 < r by omega) hr;rw[lV hg hr hp2 hp3] at hx;cases hx
  have hpN:p < g.nodes.length:=by omega
  obtain⟨y,hy⟩:=au (l:=aW g.nodes) (k:=p) (by rw[gU]; exact hpN);rw[qB (gU _) (lJ hg) hpN hy,Bool.or_eq_true];rcases (mM hg hr hp2 hp3).1 hin with h1 | h1
  ·simp at h1; omega
  ·by_cases hpe:r'=p
   ·subst hpe; exact .inl hm
   ·exact .inr (ih p hp1 hpN h1 hpe y hy)
theorem abV {g:Gm} (hg:Good g) (m:List Bool):Tidy g (gq (aW g.nodes) m g.nodes.length):=by
 refine⟨aaP _ _,fun r r' h1 h2 h3=>?_⟩;obtain⟨a1,a2⟩:=wF.1 h1;obtain⟨b1,b2⟩:=wF.1 h2;apply Classical.byContradiction
 intro hne;unfold pF at a2 b2;simp only[Bool.and_eq_true,Bool.not_eq_true'] at a2 b2;obtain⟨x,hx⟩:=au (l:=aW g.nodes) (k:=r) (by rw[gU]; exact a1);have:=aif hg b2.1 r a1 h3 hne x hx;have e:(aW g.nodes).getD r 0=x:=by simp[List.getD_eq_getElem?_getD,hx]
 rw[e,this] at a2;simp at a2
theorem rW {g:Gm} (hg:Good g) {R:List Int} (hr:∀ r∈R,0≤r∧r < (g.nodes.length:Int)) (hc:jS g R=true):Shut g (In g.nodes R):=by
 refine⟨fun p n c hp hX hcn=>?_,fun s i j hi hj hX=>?_⟩
 ·have hcl:=(hg.uM n (List.mem_of_getElem? hp) c hcn);exact(mM hg (by omega) hp hcn).2 (.inr hX)
 ·have hs:=ajb hg.infos hi;have hget:=fB hg.infos hs;unfold jS sK at hc;rw[List.all_eq_true] at hc;have hsl:(aN g).length=g.infos.length:=bF _ _ _;have h1:=hc _ (by rw[← hsl,List.take_length]; exact List.mem_of_getElem? hget);rw[pz,rP] at h1;have mem:∀ k,mv g.nodes s k=true→(k:Int)∈bH g.nodes s g.nodes.length:=fun k hk=>gZ.2 ⟨k,rfl,ad8 hk,hk⟩
  have inn:∀ k:Nat,jh (fK g.nodes R) (k:Int)=true↔k < g.nodes.length∧In g.nodes R k:=fun k=>by unfold jh; rw[Int.toNat_natCast]; exact lD hg hr k
  have ha:(bH g.nodes s g.nodes.length).any (jh (fK g.nodes R))=true:=List.any_eq_true.2 ⟨i,mem i hi,(inn i).2 ⟨ad8 hi,hX⟩⟩;rw[ha] at h1;simp only[Bool.not_true,Bool.false_or] at h1;exact((inn j).1 (List.all_eq_true.1 h1 j (mem j hj))).2
theorem qI {g:Gm} (hg:Good g) (hsm:Small g):∀ (f:Nat) (roots:List Int),CW g roots→Tidy g roots→g.nodes.length < f+(fK g.nodes roots).countP id →
  CW g (lM g f roots)∧Tidy g (lM g f roots)∧jS g (lM g f roots)=true∧(∀ i,In g.nodes roots i→In g.nodes (lM g f roots) i) ∧
  ∀ X,Shut g X→(∀ i,In g.nodes roots i→X i)→∀ i,In g.nodes (lM g f roots) i→X i
 | 0,roots,_,_,h=>by
  have h1:(fK g.nodes roots).countP id≤(fK g.nodes roots).length:=List.countP_le_length;rw[fQ] at h1;omega
 | f+1,roots,hr,ht,h=>by
  unfold lM;cases hc:jS g roots with
  | true=>simp only[if_true]; exact⟨hr,ht,hc,fun _ h=>h,fun X _ h=>h⟩
  | false =>
   simp only[Bool.false_eq_true,if_false];have hgr:=ad7 hg hsm hr.2 hc;obtain⟨h1,h2,h3,h4,h5⟩:=qI hg hsm f (mZ g roots) (qG hsm roots) (abV hg _) (by omega);have hmk:∀ i,(lX g roots).getD i false=true↔(i:Int)∈nT g roots∨(fK g.nodes roots).getD i false=true:=fun i=>by
    unfold lX;exact qH (by rw[fQ]; exact yL roots) i
   refine⟨h1,h2,h3,fun i hi=>h4 i ?_,fun X hX hs=>h5 X hX fun i hi=>?_⟩
   ·have hiN:=in_lt hg hr.2 hi;exact uX hg _ i hiN ((hmk i).2 (.inr ((lD hg hr.2 i).2 ⟨hiN,hi⟩)))
   ·have hiN:=in_lt hg (qG hsm roots).2 hi;obtain⟨r,hrm,hri⟩:=xH.1 hi;obtain⟨hrN,hrt⟩:=wF.1 hrm;refine hX.sub hg hrN ?_ i hiN hri;unfold pF at hrt;simp only[Bool.and_eq_true] at hrt;rcases (hmk r).1 hrt.1 with h6 | h6
    ·unfold nT at h6;rw[List.mem_flatMap] at h6;obtain⟨s,hs1,hs2⟩:=h6;obtain⟨q,l,rfl,hq,ha⟩:=aaO.1 hs1;have hqs:q < g.infos.length:=by have:=aB hq; rwa [show(aN g).length=g.infos.length from bF _ _ _] at this
     rw[fB hg.infos hqs] at hq;cases hq
     simp only[Int.toNat_natCast,List.getD_eq_getElem?_getD,fB hg.infos hqs,Option.getD_some] at hs2;obtain⟨k,hk1,hk2,hk3⟩:=gZ.1 hs2;obtain⟨x,hx1,hx2⟩:=List.any_eq_true.1 ha;obtain⟨z,rfl,hz2,hz3⟩:=gZ.1 hx1;have hrk:r=k:=by omega
     subst hrk;refine hX.sets q z r hz3 hk3 (hs z ?_);unfold jh at hx2;rw[Int.toNat_natCast] at hx2;exact((lD hg hr.2 z).1 hx2).2
    ·exact hs r ((lD hg hr.2 r).1 h6).2
def Inn (s:Cl) (i:Nat):Prop:=s.inn.getD i false=true
def Fnd (s:Cl) (k:Nat):Prop:=s.fnd.getD k false=true
structure Cb (g:Gm) (node:Nat) (E:Nat→Prop) (s:Cl):Prop where
 ok:Cl.Ok g.nodes.length g.infos.length s
 kids:∀ (p:Nat) (n:Nd) (c:Nat),g.nodes[p]? = some n→Inn s p→(c:Int)∈n.next→Inn s c
 found:∀ k i,mv g.nodes k i=true→Inn s i→Fnd s k
 why:∀ k,Fnd s k→∃ i,mv g.nodes k i=true∧Inn s i
 q:∀ k,Fnd s k→(k:Int)∈s.q∨E k∨∀ j,mv g.nodes k j=true→Inn s j
 qf:∀ k:Nat,(k:Int)∈s.q→Fnd s k
 min:∀ X,Shut g X→X node→∀ i,Inn s i→X i
theorem afr {g:Gm} (hin:AZ g) {s:Cl} (hok:Cl.Ok g.nodes.length g.infos.length s) {i:Nat} (hi:i < g.nodes.length) :
  (∀ k,Inn (putAt g.nodes s i) k↔Inn s k∨k=i)∧(∀ k,Fnd (putAt g.nodes s i) k↔Fnd s k∨mv g.nodes k i=true)∧(∀ x∈s.q,x∈(putAt g.nodes s i).q) ∧
  (∀ k:Nat,(k:Int)∈(putAt g.nodes s i).q→(k:Int)∈s.q∨mv g.nodes k i=true)∧∀ k:Nat,mv g.nodes k i=true→Fnd s k∨(k:Int)∈(putAt g.nodes s i).q:=by
 obtain⟨n,hn⟩:=au hi;have inn:∀ k,(s.inn.set i true).getD k false=true↔s.inn.getD k false=true∨k=i:=fun k=>by
  simp only[List.getD_eq_getElem?_getD,List.getElem?_set];by_cases h:i=k
  ·subst h; simp[hok.inn,hi]
  ·simp[h,Ne.symm h]
 have mvi:∀ k,mv g.nodes k i=true↔n.kind=2∧n.info.toNat=k:=fun k=>by simp[mv,hn]
 unfold Inn Fnd putAt;rw[hn];simp only;split
 ·rename_i hc
  have hb:=hin n (List.mem_of_getElem? hn) hc.1;have hlt:n.info.toNat < s.fnd.length:=by rw[hok.fnd]; omega
  have fnd:∀ k,(s.fnd.set n.info.toNat true).getD k false=true↔s.fnd.getD k false=true∨n.info.toNat=k:=fun k=>by
   simp only[List.getD_eq_getElem?_getD,List.getElem?_set];by_cases h:n.info.toNat=k
   ·subst h; simp[hlt]
   ·simp[h]
  refine⟨inn,fun k=>?_,fun x hx=>List.mem_append.2 (.inl hx),fun k hk=>?_,fun k hk=>?_⟩
  ·rw[mvi];simp only;rw[fnd]; simp[hc.1]
  ·rcases List.mem_append.1 hk with h | h
   ·exact .inl h
   ·right; rw[mvi]; simp at h; exact⟨hc.1,by omega⟩
  ·right
   rw[mvi] at hk;exact List.mem_append.2 (.inr (by simp; omega))
 ·rename_i hc
  refine⟨inn,fun k=>?_,fun x hx=>hx,fun k hk=>.inl hk,fun k hk=>.inl ?_⟩
  ·rw[mvi];constructor
   ·exact .inl
   ·rintro(h | ⟨h1,h2⟩)
    ·exact h
    ·subst h2;cases hf:s.fnd.getD n.info.toNat false with
     | true=>rfl
     | false=>exact absurd ⟨h1,hf⟩ hc
  ·rw[mvi] at hk;obtain⟨h1,h2⟩:=hk;subst h2;cases hf:s.fnd.getD n.info.toNat false with
   | true=>rfl
   | false=>exact absurd ⟨h1,hf⟩ hc
theorem ag0 {g:Gm} (hin:AZ g) {s:Cl} (hok:Cl.Ok g.nodes.length g.infos.length s) {a:Nat}:∀ j:Nat,a+j≤g.nodes.length →
  (∀ k,Inn (jr g.nodes s a j) k↔Inn s k∨(a≤k∧k < a+j))∧(∀ k,Fnd (jr g.nodes s a j) k↔Fnd s k∨∃ i,a≤i∧i < a+j∧mv g.nodes k i=true)∧(∀ x∈s.q,x∈(jr g.nodes s a j).q) ∧
  (∀ k:Nat,(k:Int)∈(jr g.nodes s a j).q→(k:Int)∈s.q∨∃ i,a≤i∧i < a+j∧mv g.nodes k i=true)∧∀ k i:Nat,a≤i→i < a+j→mv g.nodes k i=true→Fnd s k∨(k:Int)∈(jr g.nodes s a j).q:=by
 intro j;induction j with
 | zero =>
  intro _;refine⟨fun k=>⟨.inl,fun h=>h.elim id (fun h=>by omega)⟩,fun k=>⟨.inl,fun h=>h.elim id (fun ⟨i,h1,h2,_⟩=>by omega)⟩,fun x hx=>hx,fun k hk=>.inl hk,fun k i h1 h2=>by omega⟩
 | succ j ih =>
  intro hj;obtain⟨i1,i2,i3,i4,i5⟩:=ih (by omega);obtain⟨p1,p2,p3,p4,p5⟩:=afr hin (hok.jr hin a j) (i:=a+j) (by omega);have hpn:jr g.nodes s a (j+1)=putAt g.nodes (jr g.nodes s a j) (a+j):=rfl;rw[hpn];refine⟨fun k=>?_,fun k=>?_,fun x hx=>p3 x (i3 x hx),fun k hk=>?_,fun k i h1 h2 h3=>?_⟩
  ·rw[p1,i1];constructor
   ·rintro((h | h) | h)
    ·exact .inl h
    ·exact .inr (by omega)
    ·exact .inr (by omega)
   ·rintro(h | h)
    ·exact .inl (.inl h)
    ·by_cases hk:k=a+j
     ·exact .inr hk
     ·exact .inl (.inr (by omega))
  ·rw[p2,i2];constructor
   ·rintro((h | ⟨i,h1,h2,h3⟩) | h)
    ·exact .inl h
    ·exact .inr ⟨i,h1,by omega,h3⟩
    ·exact .inr ⟨a+j,by omega,by omega,h⟩
   ·rintro(h | ⟨i,h1,h2,h3⟩)
    ·exact .inl (.inl h)
    ·by_cases hk:i=a+j
     ·subst hk; exact .inr h3
     ·exact .inl (.inr ⟨i,h1,by omega,h3⟩)
  ·rcases p4 k hk with h | h
   ·rcases i4 k h with h | ⟨i,h1,h2,h3⟩
    ·exact .inl h
    ·exact .inr ⟨i,h1,by omega,h3⟩
   ·exact .inr ⟨a+j,by omega,by omega,h⟩
  ·by_cases hk:i=a+j
   ·subst hk;rcases p5 k h3 with h | h
    ·rcases (i2 k).1 h with h | ⟨i',h4,h5,h6⟩
     ·exact .inl h
     ·rcases i5 k i' h4 h5 h6 with h | h
      ·exact .inl h
      ·exact .inr (p3 _ h)
    ·exact .inr h
   ·rcases i5 k i h1 (by omega) h3 with h | h
    ·exact .inl h
    ·exact .inr (p3 _ h)
theorem ad9 {g:Gm} (hg:Good g) {node:Nat} {E:Nat→Prop} {s:Cl} (h:Cb g node E s) {r:Nat} (hr:r < g.nodes.length) (hX:∀ X,Shut g X→X node→X r) :
  Cb g node E (iI g.nodes (aF g.nodes).2 s (r:Int))∧Inn (iI g.nodes (aF g.nodes).2 s (r:Int)) r∧∀ i,Inn s i→Inn (iI g.nodes (aF g.nodes).2 s (r:Int)) i:=by
 obtain⟨e,hs,he1,he2,hv⟩:=pq hg hr;have hpl:iI g.nodes (aF g.nodes).2 s (r:Int)=if s.inn.getD r false then s else jr g.nodes s r (e - r):=by
  unfold iI;simp only[Int.toNat_natCast,List.getD_eq_getElem?_getD,hv,Option.getD_some];rw[show((e:Int) - 1+1 - (r:Int)).toNat=e - r by omega]
 rw[hpl];cases hin:s.inn.getD r false with
 | true=>simp only[if_true]; exact⟨h,hin,fun _ h=>h⟩
 | false =>
  simp only[Bool.false_eq_true,if_false];obtain⟨p1,p2,p3,p4,p5⟩:=ag0 hg.infos h.ok (a:=r) (e - r) (by omega);have ee:r+(e - r)=e:=by omega
  rw[ee] at p1 p2 p4 p5;refine⟨⟨h.ok.jr hg.infos _ _,fun p n c hp hi hc=>?_,fun k i hm hi=>?_,fun k hk=>?_,fun k hk=>?_,fun k hk=>?_,fun X hS hn i hi=>?_⟩,(p1 r).2 (.inr (by omega)),fun i hi=>(p1 i).2 (.inl hi)⟩
  ·rw[p1] at hi ⊢;rcases hi with hi | hi
   ·exact .inl (h.kids p n c hp hi hc)
   ·have:=hs.kids p n hi.1 hi.2 hp _ hc;exact .inr (by omega)
  ·rw[p2];rcases (p1 i).1 hi with hi | hi
   ·exact .inl (h.found k i hm hi)
   ·exact .inr ⟨i,hi.1,hi.2,hm⟩
  ·rcases (p2 k).1 hk with hk | ⟨i,h1,h2,h3⟩
   ·obtain⟨i,h1,h2⟩:=h.why k hk;exact⟨i,h1,(p1 i).2 (.inl h2)⟩
   ·exact⟨i,h3,(p1 i).2 (.inr ⟨h1,h2⟩)⟩
  ·have old:Fnd s k→(k:Int)∈(jr g.nodes s r (e - r)).q∨E k∨∀ j,mv g.nodes k j=true→Inn (jr g.nodes s r (e - r)) j:=fun hk=>by
    rcases h.q k hk with hq | hq | hq
    ·exact .inl (p3 _ hq)
    ·exact .inr (.inl hq)
    ·exact .inr (.inr fun j hj=>(p1 j).2 (.inl (hq j hj)))
   rcases (p2 k).1 hk with hk | ⟨i,h1,h2,h3⟩
   ·exact old hk
   ·rcases p5 k i h1 h2 h3 with h4 | h4
    ·exact old h4
    ·exact .inl h4
  ·rw[p2];rcases p4 k hk with hk | hk
   ·exact .inl (h.qf k hk)
   ·exact .inr hk
  ·rcases (p1 i).1 hi with hi | hi
   ·exact h.min X hS hn i hi
   ·exact hS.sub hg hr (hX X hS hn) i (by omega) (xG.2 ⟨e,hs,hi⟩)
theorem aaQ {g:Gm} (hg:Good g) {node:Nat} {E:Nat→Prop}:∀ (l:List Int) (s:Cl),Cb g node E s→(∀ x∈l,∃ r:Nat,x=r∧r < g.nodes.length∧∀ X,Shut g X→X node→X r) →
  Cb g node E (l.foldl (iI g.nodes (aF g.nodes).2) s)∧(∀ r:Nat,(r:Int)∈l→Inn (l.foldl (iI g.nodes (aF g.nodes).2) s) r)∧∀ i,Inn s i→Inn (l.foldl (iI g.nodes (aF g.nodes).2) s) i
 | [],s,h,_=>⟨h,fun r hr=>(by cases hr),fun _ h=>h⟩
 | x :: l,s,h,hl=>by
  obtain⟨r,rfl,hr,hX⟩:=hl x (by simp);obtain⟨h1,h2,h3⟩:=ad9 hg h hr hX;obtain⟨k1,k2,k3⟩:=aaQ hg l _ h1 (fun y hy=>hl y (List.mem_cons_of_mem _ hy));refine⟨k1,fun q hq=>?_,fun i hi=>k3 i (h3 i hi)⟩;rcases List.mem_cons.1 hq with hq | hq
  ·have:q=r:=by omega
   subst this; exact k3 _ h2
  ·exact k2 q hq
theorem aea {g:Gm} (hg:Good g) {node:Nat}:∀ (f:Nat) (s:Cl),Cb g node (fun _=>False) s→s.left g.infos.length≤f →
  Cb g node (fun _=>False) (ig g.nodes (aF g.nodes).2 (aN g) f s)∧(ig g.nodes (aF g.nodes).2 (aN g) f s).q = []∧∀ i,Inn s i→Inn (ig g.nodes (aF g.nodes).2 (aN g) f s) i:=by
 intro f;induction f with
 | zero =>
  intro s h hl;have hq:s.q = []:=List.eq_nil_of_length_eq_zero (by unfold Cl.left at hl; omega);exact⟨h,hq,fun _ h=>h⟩
 | succ f ih =>
  intro s h hl;cases hq:s.q with
  | nil=>rw[yJ hq]; exact⟨h,hq,fun _ h=>h⟩
  | cons x q =>
   rw[wB hq];obtain⟨hok,hx0,hx1,hlf⟩:=h.ok.pop hq;obtain⟨z,rfl⟩:=Int.eq_ofNat_of_zero_le hx0;have hzs:z < g.infos.length:=by omega
   have hset:(aN g).getD (z:Int).toNat []=bH g.nodes z g.nodes.length:=by
    simp[List.getD_eq_getElem?_getD,fB hg.infos hzs]
   rw[hset];have h0:Cb g node (fun k=>k=z) ⟨s.inn,s.fnd,q⟩:=by
    refine⟨hok,h.kids,h.found,h.why,fun k hk=>?_,fun k hk=>h.qf k (by rw[hq]; exact List.mem_cons_of_mem _ hk),h.min⟩;rcases h.q k hk with h1 | h1 | h1
    ·rw[hq] at h1;rcases List.mem_cons.1 h1 with h2 | h2
     ·exact .inr (.inl (by omega))
     ·exact .inl h2
    ·exact h1.elim
    ·exact .inr (.inr h1)
   have hfz:Fnd s z:=h.qf z (by rw[hq]; simp);obtain⟨i0,hi1,hi2⟩:=h.why z hfz;obtain⟨k1,k2,k3⟩:=aaQ hg (bH g.nodes z g.nodes.length) _ h0 (fun y hy=>by
    obtain⟨r,rfl,hr,hm⟩:=gZ.1 hy;exact⟨r,rfl,hr,fun X hS hn=>hS.sets z i0 r hi1 hm (h.min X hS hn i0 hi2)⟩)
   have h1:Cb g node (fun _=>False) ((bH g.nodes z g.nodes.length).foldl (iI g.nodes (aF g.nodes).2) ⟨s.inn,s.fnd,q⟩):=by
    refine⟨k1.ok,k1.kids,k1.found,k1.why,fun k hk=>?_,k1.qf,k1.min⟩;rcases k1.q k hk with h2 | h2 | h2
    ·exact .inl h2
    ·subst h2;exact .inr (.inr fun j hj=>k2 j (gZ.2 ⟨j,rfl,ad8 hj,hj⟩))
    ·exact .inr (.inr h2)
   obtain⟨r1,r2,r3⟩:=ih _ h1 (by rw[(sV hg.infos (aF g.nodes).2 _ _ hok).2]; omega);exact⟨r1,r2,fun i hi=>r3 i (k3 i hi)⟩
theorem aii {g:Gm} (hsm:Small g) (hf:bg g=0) {node:Nat} (hn:node < g.nodes.length) :
  jc (iO g.nodes (aF g.nodes).2 (aN g) g.infos.length (node:Int)) (aF g.nodes).1 g.nodes.length=lM g (g.nodes.length+1) [(node:Int)]:=by
 have hg:=dZ hf;have hst:Cb g node (fun _=>False) ⟨List.replicate g.nodes.length false,List.replicate g.infos.length false,[]⟩:=by
  have no:∀ i:Nat,¬ Inn ⟨List.replicate g.nodes.length false,List.replicate g.infos.length false,[]⟩ i:=fun i hi=>by
   unfold Inn at hi;simp only[List.getD_eq_getElem?_getD,List.getElem?_replicate] at hi;split at hi <;> simp at hi
  have no2:∀ i:Nat,¬ Fnd ⟨List.replicate g.nodes.length false,List.replicate g.infos.length false,[]⟩ i:=fun i hi=>by
   unfold Fnd at hi;simp only[List.getD_eq_getElem?_getD,List.getElem?_replicate] at hi;split at hi <;> simp at hi
  exact⟨Cl.Ok.start _ _,fun p n c hp hi=>(no p hi).elim,fun k i _ hi=>(no i hi).elim,fun k hk=>(no2 k hk).elim,fun k hk=>(no2 k hk).elim,fun k hk=>(by cases hk),fun X _ _ i hi=>(no i hi).elim⟩
 obtain⟨s1,s2,s3⟩:=ad9 hg hst hn (fun X _ h=>h);have hleft:(iI g.nodes (aF g.nodes).2 ⟨List.replicate g.nodes.length false,List.replicate g.infos.length false,[]⟩ (node:Int)).left g.infos.length≤g.infos.length:=by
  rw[xE (Cl.Ok.start _ _) hg.infos]; unfold Cl.left; simp
 obtain⟨c1,c2,c3⟩:=aea hg g.infos.length _ s1 hleft;have hI:∀ i,(iO g.nodes (aF g.nodes).2 (aN g) g.infos.length (node:Int)).getD i false=true↔Inn (ig g.nodes (aF g.nodes).2 (aN g) g.infos.length (iI g.nodes (aF g.nodes).2 ⟨List.replicate g.nodes.length false,List.replicate g.infos.length false,[]⟩ (node:Int))) i:=fun i=>Iff.rfl
 have hlen:=qO g.nodes (aF g.nodes).2 (aN g) g.infos.length (node:Int);generalize iO g.nodes (aF g.nodes).2 (aN g) g.infos.length (node:Int)=inn at *;generalize ig g.nodes (aF g.nodes).2 (aN g) g.infos.length (iI g.nodes (aF g.nodes).2 ⟨List.replicate g.nodes.length false,List.replicate g.infos.length false,[]⟩ (node:Int))=S at *;have hshut:Shut g (Inn S):=by
  refine⟨c1.kids,fun k i j hi hj hx=>?_⟩;rcases c1.q k (c1.found k i hi hx) with h1 | h1 | h1
  ·rw[c2] at h1; cases h1
  ·exact h1.elim
  ·exact h1 j hj
 have afH:Inn S node:=c3 node s2;have ht:Tidy g [(node:Int)]:=⟨by simp,fun r r' h1 h2 _=>by simp at h1 h2; omega⟩;obtain⟨r1,r2,r3,r4,r5⟩:=qI hg hsm (g.nodes.length+1) [(node:Int)] ⟨by simp,fun r hr=>by simp at hr; omega⟩ ht (by omega);generalize lM g (g.nodes.length+1) [(node:Int)]=R at *;have hnR:In g.nodes R node:=r4 node (jT hg hn (by simp));have same:∀ i,i < g.nodes.length→(inn.getD i false=true↔In g.nodes R i):=fun i hi=>by
  rw[hI];constructor
  ·exact fun h=>c1.min _ (rW hg r1.2 r3) hnR i h
  ·exact fun h=>r5 (fun k=>k < g.nodes.length→Inn S k) ⟨fun p n c hp hX hc hcl=>hshut.kids p n c hp (hX (aB hp)) hc,fun k a b ha hb hX _=>hshut.sets k a b ha hb (hX (ad8 ha))⟩
    (fun k hk hkN=>hshut.sub hg hn afH k hkN hk) i h hi
 refine afZ (aaP _ _) r2.asc fun x=>?_
 have hroot:∀ i:Nat,i < g.nodes.length→(lC inn (aF g.nodes).1 i=true↔(i:Int)∈R):=by
  intro i hi;unfold lC;simp only[Bool.and_eq_true,Bool.or_eq_true,decide_eq_true_eq,Bool.not_eq_true'];rw[same i hi];by_cases h0:i=0
  ·subst h0;simp only[true_or,and_true];constructor
   ·rintro⟨r,h1,e,h2,h3,h4⟩;have:r=0:=by omega
    subst this; exact h1
   ·exact fun h=>jT hg hi h
  ·obtain⟨p,n,hp1,hp2,hp3⟩:=jD hg (show 0 < i by omega) hi;have hpar:=aie hg hi hp2 hp3;have hpg:((aF g.nodes).1.getD i 0).toNat=p:=by simp[List.getD_eq_getElem?_getD,hpar]
   rw[hpg];simp only[h0,false_or];have hsp:=same p (by omega);constructor
   ·rintro⟨h1,h2⟩;have hnp:¬ In g.nodes R p:=fun h=>by rw[hsp.2 h] at h2; cases h2
    rcases (mM hg hi hp2 hp3).1 h1 with h3 | h3
    ·exact h3
    ·exact absurd h3 hnp
   ·intro h;refine⟨jT hg hi h,?_⟩;cases hb:inn.getD p false with
    | false=>rfl
    | true =>
     obtain⟨r,hr1,hr2⟩:=xH.1 (hsp.1 hb);have hri:In g.nodes [(r:Int)] i:=(mM hg hi hp2 hp3).2 (.inr hr2);have:=r2.apart i r h hr1 hri;subst this;obtain⟨e,_,h5,_⟩:=xG.1 hr2;omega
 constructor
 ·intro hx;unfold jc at hx;rw[List.mem_map] at hx;obtain⟨i,hi,rfl⟩:=hx;rw[List.mem_filter,List.mem_range] at hi;exact(hroot i hi.1).1 hi.2
 ·intro hx;obtain⟨h0,h1⟩:=r1.2 x hx;obtain⟨i,rfl⟩:=Int.eq_ofNat_of_zero_le h0;unfold jc;rw[List.mem_map];exact⟨i,by rw[List.mem_filter,List.mem_range]; exact⟨by omega,(hroot i (by omega)).2 hx⟩,rfl⟩
theorem yM (g:Gm) (node:Int):gG g node=ng g node:=by
 unfold gG ng hasB;split
 ·rfl
 ·by_cases h:0≤node∧node < (g.nodes.length:Int)
  ·rw[if_pos (by simp; omega),if_neg (by omega)]
  ·rw[if_neg (by simp; omega),if_pos (by omega)]
theorem ag1 {g:Gm} (hsm:Small g) (node:Int):jd g node=acR g node:=by
 unfold jd acR;rw[yM];split
 ·rename_i h
  unfold ng at h;split at h
  ·rename_i h1; exact absurd h h1
  ·rename_i h1
   split at h
   ·omega
   ·rename_i h2
    obtain⟨i,rfl⟩:=Int.eq_ofNat_of_zero_le (show 0≤node by omega);exact aii hsm (by simpa using h1) (by omega)
 ·rfl
theorem aij {g:Gm} (hg:Good g) {X:Nat→Prop} (hk:∀ (p:Nat) (n:Nd) (c:Nat),g.nodes[p]? = some n→X p→(c:Int)∈n.next→X c) {r:Nat} (h:X r):∀ i,i < g.nodes.length→In g.nodes [(r:Int)] i→X i:=by
 intro i;induction i using Nat.strongRecOn with
 | _ i ih =>
  intro hi hin;by_cases hir:i=r
  ·subst hir; exact h
  ·have hle:r≤i:=by obtain⟨e,_,h1,_⟩:=xG.1 hin; exact h1
   obtain⟨p,n,hp1,hp2,hp3⟩:=jD hg (show 0 < i by omega) hi;rcases (mM hg hi hp2 hp3).1 hin with h1 | h1
   ·simp at h1; omega
   ·exact hk p n i hp2 (ih p hp1 (by omega) h1) hp3
theorem aik {g:Gm} (hg:Good g) (R:List Int) (p:Nat) (n:Nd) (c:Nat) (hp:g.nodes[p]? = some n) (hX:In g.nodes R p) (hc:(c:Int)∈n.next):In g.nodes R c :=
 (mM hg (by have:=hg.uM n (List.mem_of_getElem? hp) c hc; omega) hp hc).2 (.inr hX)
theorem rX {g:Gm} (hg:Good g) {R:List Int} {r j:Nat} (hj:j < g.nodes.length) (h:In g.nodes R r) (h2:In g.nodes [(r:Int)] j):In g.nodes R j :=
 aij hg (fun p n c hp hX hc=>aik hg R p n c hp hX hc) h j hj h2
theorem akg {g:Gm} (hg:Good g) {j:Nat} (hj:j < g.nodes.length):In g.nodes [(0:Int)] j:=⟨0,by simp,_,hg.span,Nat.zero_le _,hj⟩
theorem yN {g:Gm} (hg:Good g) {R:List Int} (hr:∀ r∈R,0≤r∧r < (g.nodes.length:Int)) (h:∀ s i j,mv g.nodes s i=true→mv g.nodes s j=true→In g.nodes R i→In g.nodes R j):jS g R=true:=by
 unfold jS sK;rw[List.all_eq_true];intro l hl;have hl:=List.mem_of_mem_take hl;obtain⟨q,hq⟩:=List.getElem?_of_mem hl;have hqs:q < g.infos.length:=by have:=aB hq; rwa [show(aN g).length=g.infos.length from bF _ _ _] at this
 rw[fB hg.infos hqs] at hq;cases hq
 rw[pz,rP];cases ha:(bH g.nodes q g.nodes.length).any (jh (fK g.nodes R)) with
 | false=>rfl
 | true =>
  obtain⟨x,hx1,hx2⟩:=List.any_eq_true.1 ha;obtain⟨z,rfl,hz2,hz3⟩:=gZ.1 hx1;have inn:∀ k:Nat,jh (fK g.nodes R) (k:Int)=true↔k < g.nodes.length∧In g.nodes R k:=fun k=>by unfold jh; rw[Int.toNat_natCast]; exact lD hg hr k
  rw[Bool.not_true,Bool.false_or,List.all_eq_true];intro y hy;obtain⟨k,rfl,hk2,hk3⟩:=gZ.1 hy;exact(inn k).2 ⟨hk2,h q z k hz3 hk3 ((inn z).1 hx2).2⟩
theorem aaR {g:Gm} (hg:Good g) {R:List Int} (hr:∀ r∈R,0≤r∧r < (g.nodes.length:Int)) (ht:Tidy g R) (hn:R≠[]):uO g.nodes R=0:=by
 unfold uO;rw[if_neg hn];have h1:jP g.nodes.length R=false:=by
  unfold jP;rw[List.any_eq_false];intro r h; have:=hr r h; simp; omega
 rw[h1,if_neg (by decide)];have h2:nJ g.nodes R R.length=false:=by
  unfold nJ;rw[List.any_eq_false];intro i hi;rw[List.mem_range'_1] at hi;obtain⟨x,hx⟩:=au (l:=R) (k:=i) (by omega);obtain⟨y,hy⟩:=au (l:=R) (k:=i - 1) (by omega);have hlt:∀ j z,j < i→R[j]? = some z→z < x:=fun j z hj hz=>by
   obtain⟨hj',rfl⟩:=List.getElem?_eq_some_iff.1 hz;obtain⟨hi',rfl⟩:=List.getElem?_eq_some_iff.1 hx;exact List.pairwise_iff_getElem.1 ht.asc j i hj' hi' hj
  have h3:=hlt (i - 1) y (by omega) hy;unfold qx;simp only[List.getD_eq_getElem?_getD,hx,hy,Option.getD_some];rw[Bool.not_eq_true,Bool.or_eq_false_iff];refine⟨by simp; omega,?_⟩;have hx0:=hr x (List.mem_of_getElem? hx);obtain⟨q,rfl⟩:=Int.eq_ofNat_of_zero_le hx0.1;rw[Int.toNat_natCast,← List.getD_eq_getElem?_getD];cases hu:(fK g.nodes (R.take i)).getD q false with
  | false=>rfl
  | true =>
   obtain⟨_,h4⟩:=(lD hg (fun r h=>hr r (List.mem_of_mem_take h)) q).1 hu;obtain⟨r,hr1,hr2⟩:=xH.1 h4;have:=ht.apart q r (List.mem_of_getElem? hx) (List.mem_of_mem_take hr1) hr2;subst this;obtain⟨j,hj⟩:=List.getElem?_of_mem hr1;rw[List.getElem?_take] at hj;split at hj
   ·rename_i hji
    have:=hlt j _ hji hj;omega
   ·cases hj
 rw[h2]; rfl
structure Whole (g:Gm) (R:List Int):Prop where
 form:bg g=0
 range:∀ r∈R,0≤r∧r < (g.nodes.length:Int)
 err:aZ g R=0
 closed:fE g R=true
theorem aaS {g:Gm} (hf:bg g=0) {R:List Int} (hr:∀ r∈R,0≤r∧r < (g.nodes.length:Int)) (ht:Tidy g R) (hn:R≠[]) (hc:jS g R=true):Whole g R:=by
 have hk:qy g R=0:=by unfold qy; rw[if_neg (by simpa using hf)]; exact aaR (dZ hf) hr ht hn
 refine⟨hf,hr,by rw[uS]; exact hk,?_⟩;rw[wZ]; unfold oW;rw[hk,hc]; rfl
theorem aaT (g:Gm) (i:Nat):Tidy g [(i:Int)]:=⟨List.pairwise_singleton _ _,fun r r' h1 h2 _=>by simp at h1 h2; omega⟩
theorem afs {g:Gm} (hf:bg g=0):Whole g [0] :=
 have hg:=dZ hf;have hp:=hg.pos;aaS hf (fun r h=>by simp at h; omega) (aaT g 0) (by simp) (yN hg (fun r h=>by simp at h; omega) fun s i j hi hj _=>akg hg (ad8 hj))
theorem aeb {g:Gm} (hf:bg g=0) {i:Nat} (hi:i < g.nodes.length):aZ g [(i:Int)]=0:=by
 rw[uS]; unfold qy; rw[if_neg (by simpa using hf)];exact aaR (dZ hf) (fun r h=>by simp at h; omega) (aaT g i) (by simp)
theorem wG {g:Gm} {R:List Int} (ho:aZ g R=0) {x:Int}:x∈fV g R↔∃ i:Nat,x=i∧i < g.nodes.length∧In g.nodes R i:=by
 obtain⟨hf,hr⟩:=qA ho;have hg:=dZ hf;unfold fV;rw[if_pos ho];unfold aaq kK;rw[List.take_of_length_le (Nat.le_refl _),List.mem_map];constructor
 ·rintro⟨⟨b,i⟩,h1,rfl⟩;rw[List.mem_filter] at h1;have h2:=List.mem_zipIdx h1.1;have hb:b=true:=h1.2;subst hb;simp at h2;obtain⟨hi,he⟩:=h2;rw[fU] at hi;obtain⟨b,hb1,hb2⟩:=acH hg hr hi;refine⟨i,rfl,hi,hb2.1 ?_⟩;rw[List.getElem?_eq_getElem (by rw[fU]; exact hi)] at hb1;rw[← Option.some.inj hb1]; exact he
 ·rintro⟨i,rfl,hi,hin⟩;obtain⟨b,hb1,hb2⟩:=acH hg hr hi;have hb:=hb2.2 hin;subst hb;exact⟨(true,i),List.mem_filter.2 ⟨List.mem_zipIdx_iff_getElem?.2 hb1,rfl⟩,rfl⟩
structure Bz (g:Gm) (i:Nat) (R:List Int):Prop where
 err:gG g i=0
 whole:Whole g R
 tidy:Tidy g R
 has:In g.nodes R i
 min:∀ X,Shut g X→X i→∀ j,In g.nodes R j→X j
 len:R.length≤1000
theorem aaU {g:Gm} (hsm:Small g) (hf:bg g=0) {i:Nat} (hi:i < g.nodes.length):Bz g i (jd g i):=by
 have hg:=dZ hf;have he:ng g i=0:=by unfold ng; rw[if_neg (by simpa using hf),if_neg (by omega)]
 have hn:=hsm.nodes;rw[ag1 hsm];unfold acR;rw[if_pos he];have hr1:CW g [(i:Int)]:=⟨by simp,fun r h=>by simp at h; omega⟩;obtain⟨h1,h2,h3,h4,h5⟩:=qI hg hsm (g.nodes.length+1) [(i:Int)] hr1 (aaT g i) (by omega);have h6:=h4 i (jT hg hi (by simp));refine⟨by rw[yM]; exact he,aaS hf h1.2 h2 (fun e=>?_) h3,h2,h6,fun X hX hx=>h5 X hX fun j hj=>hX.sub hg hi hx j (in_lt hg hr1.2 hj) hj,h1.1⟩;rw[e] at h6;obtain⟨r,hr,_⟩:=h6;cases hr
theorem Bz.shut {g:Gm} {i:Nat} {R:List Int} (h:Bz g i R):Shut g (In g.nodes R):=by
 have hg:=dZ h.whole.form;refine rW hg h.whole.range ?_;have:=h.whole.closed;rw[wZ] at this;unfold oW at this;rw[Bool.and_eq_true] at this;exact this.2
def yO (n:Nat) (a b:List Int):List Bool:=dV b (dV a (List.replicate n false))
def uh (g:Gm) (a b:List Int):List Int:=gq (aW g.nodes) (yO g.nodes.length a b) g.nodes.length
theorem ag2 {n:Nat} {a b:List Int} (ha:∀ r∈a,0≤r∧r < (n:Int)) (hb:∀ r∈b,0≤r∧r < (n:Int)) (i:Nat):(yO n a b).getD i false=true↔(i:Int)∈a∨(i:Int)∈b:=by
 unfold yO;rw[qH (by rw[iV,List.length_replicate]; exact hb),qH (by rw[List.length_replicate]; exact ha)];constructor
 ·rintro(h | h | h)
  ·exact .inr h
  ·exact .inl h
  ·rw[List.getD_eq_getElem?_getD,List.getElem?_replicate] at h;split at h <;> cases h
 ·rintro(h | h)
  ·exact .inr (.inl h)
  ·exact .inl h
theorem aft {g:Gm} (hsm:Small g) {i k:Nat} {a b:List Int} (ha:Bz g i a) (hb:Bz g k b):Whole g (uh g a b):=by
 have hf:=ha.whole.form;have hg:=dZ hf;have ra:=ha.whole.range;have rb:=hb.whole.range;have hm:=ag2 ra rb;have hrange:∀ r∈uh g a b,0≤r∧r < (g.nodes.length:Int):=fun r h=>by
  unfold uh gq at h;obtain⟨q,hq,rfl⟩:=List.mem_map.1 h;rw[List.mem_filter,List.mem_range] at hq;omega
 have cov:∀ q:Nat,(q:Int)∈a∨(q:Int)∈b→In g.nodes (uh g a b) q:=fun q h=>by
  have hq:q < g.nodes.length:=by
   rcases h with h | h
   ·have:=ra _ h; omega
   ·have:=rb _ h; omega
  exact uX hg _ q hq ((hm q).2 h)
 have ina:∀ j,In g.nodes a j→In g.nodes (uh g a b) j:=fun j h=>by
  obtain⟨r,hr,h2⟩:=xH.1 h;exact rX hg (in_lt hg ra h) (cov r (.inl hr)) h2
 have inb:∀ j,In g.nodes b j→In g.nodes (uh g a b) j:=fun j h=>by
  obtain⟨r,hr,h2⟩:=xH.1 h;exact rX hg (in_lt hg rb h) (cov r (.inr hr)) h2
 have out:∀ j,In g.nodes (uh g a b) j→In g.nodes a j∨In g.nodes b j:=fun j h=>by
  obtain⟨r,hr,h2⟩:=xH.1 h;obtain⟨hrN,hrt⟩:=wF.1 hr;unfold pF at hrt;rw[Bool.and_eq_true] at hrt;rcases (hm r).1 hrt.1 with h3 | h3
  ·exact .inl (rX hg (in_lt hg hrange h) (jT hg hrN h3) h2)
  ·exact .inr (rX hg (in_lt hg hrange h) (jT hg hrN h3) h2)
 refine aaS hf hrange (abV hg _) (fun e=>?_) (yN hg hrange fun s x y hx hy h=>?_)
 ·have h6:=ina i ha.has;rw[e] at h6;obtain⟨r,hr,_⟩:=h6;cases hr
 ·rcases out x h with h1 | h1
  ·exact ina y (ha.shut.sets s x y hx hy h1)
  ·exact inb y (hb.shut.sets s x y hx hy h1)
theorem ag3 {g:Gm} {i:Nat} {R:List Int} (h:Bz g i R) (hi:i < g.nodes.length):mV (fV g R) [(i:Int)]=true :=
 contains_of fun x hx=>by simp at hx; exact(wG h.whole.err).2 ⟨i,hx,hi,h.has⟩
theorem ail {g:Gm} {i k:Nat} {R S:List Int} (h:Bz g i R) (hk:In g.nodes R k) (hS:Bz g k S):mV (fV g R) S=true :=
 contains_of fun x hx=>by
  have:=hS.whole.range x hx;obtain⟨q,rfl⟩:=Int.eq_ofNat_of_zero_le this.1;exact(wG h.whole.err).2 ⟨q,rfl,by omega,hS.min _ h.shut hk q (jT (dZ h.whole.form) (by omega) hx)⟩
theorem ain {g:Gm} {i p:Nat} {R:List Int} (h:Bz g i R) (hp:p < g.nodes.length) (hi:i < g.nodes.length) (hpi:In g.nodes [(p:Int)] i) (hc:fE g [(p:Int)]=true):mV (fV g [(p:Int)]) (fV g R)=true :=
 contains_of fun x hx=>by
  have hf:=h.whole.form;have hg:=dZ hf;obtain⟨q,rfl,hq,hin⟩:=(wG h.whole.err).1 hx;rw[wZ] at hc;unfold oW at hc;rw[Bool.and_eq_true] at hc;exact(wG (aeb hf hp)).2 ⟨q,rfl,hq,h.min _ (rW hg (fun r h=>by simp at h; omega) hc.2) hpi q hin⟩
end Go.Proofs.YthmklhapjegfdaaGreatDoor
