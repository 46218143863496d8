/- subgame.view.closure's inner function: a subtree is put inside, and the sets found there wait in the channel. -/
import Derived.Test.YthmklhapjegfdaaGreatDoorV24
import Derived.Test.YthmklhapjegfdaaGreatDoorV12
import Derived.Deep.CutRange
import Derived.Deep.LoopGhost
set_option linter.all false
set_option maxRecDepth 100000
set_option maxHeartbeats 12800000
namespace Go.Proofs.YthmklhapjegfdaaGreatDoor
open Lib renaming hid → Ac
open List renaming getElem_toArray → lq1, getElem_cons_zero → lq2, getElem_cons_succ → lq3, setIfInBounds_toArray → lq4, set_cons_zero → lq5, set_cons_succ → lq6
open Go.RowKit
structure Cl where
 inn:List Bool
 fnd:List Bool
 q:List Int
 deriving Inhabited,DecidableEq
def putAt (nodes:List Nd) (s:Cl) (i:Nat):Cl:=match nodes[i]? with
 | some n=>if n.kind=2∧s.fnd.getD n.info.toNat false=false then ⟨s.inn.set i true,s.fnd.set n.info.toNat true,s.q ++ [n.info]⟩ else ⟨s.inn.set i true,s.fnd,s.q⟩
 | none=>s
def nN (nodes:List Nd) (s:Cl) (a:Nat):Nat→Cl
 | 0=>s
 | j+1=>putAt nodes (nN nodes s a j) (a+j)
def lK (nodes:List Nd) (last:List Int) (s:Cl) (r:Int):Cl:=if s.inn.getD r.toNat false then s else nN nodes s r.toNat (last.getD r.toNat 0+1 - r).toNat
structure Cl.Ok (N ni:Nat) (s:Cl):Prop where
 inn:s.inn.length=N
 fnd:s.fnd.length=ni
 few:s.q.length≤s.fnd.countP id
 q:∀ x∈s.q,0≤x∧x < (ni:Int)
theorem count_set {l:List Bool} {i:Nat} (h:l[i]? = some false):(l.set i true).countP id=l.countP id+1:=by
 induction l generalizing i with
 | nil=>cases h
 | cons b l ih =>
  cases i with
  | zero=>simp at h; subst h; simp
  | succ i =>
   simp only[List.getElem?_cons_succ] at h;simp only[List.set_cons_succ,List.countP_cons,ih h];omega
theorem aeO {l:List Bool} {i:Nat} (h:l[i]? = some false):l.countP id < l.length:=by
 have h1:=count_set h;have h2:(l.set i true).countP id≤(l.set i true).length:=List.countP_le_length;simp at h2;omega
theorem Cl.Ok.put {N ni:Nat} {s:Cl} (h:Cl.Ok N ni s) {nodes:List Nd} (hin:∀ n∈nodes,n.kind=2→0≤n.info∧n.info < (ni:Int)) (i:Nat):Cl.Ok N ni (putAt nodes s i):=by
 unfold putAt;split
 ·rename_i n hn
  split
  ·rename_i hc
   have hb:=hin n (List.mem_of_getElem? hn) hc.1;have hf:s.fnd[n.info.toNat]? = some false:=by
    obtain⟨b,hb'⟩:=aC (l:=s.fnd) (k:=n.info.toNat) (by rw[h.fnd]; omega);have:=hc.2;simp[List.getD_eq_getElem?_getD,hb'] at this;rw[hb',this]
   refine⟨by simp[h.inn],by simp[h.fnd],?_,fun x hx=>?_⟩
   ·rw[count_set hf];have:=h.few;simp;omega
   ·rcases List.mem_append.1 hx with hx | hx
    ·exact h.q x hx
    ·simp at hx;subst hx;exact hb
  ·exact⟨by simp[h.inn],h.fnd,h.few,h.q⟩
 ·exact h
theorem Cl.Ok.nN {N ni:Nat} {s:Cl} (h:Cl.Ok N ni s) {nodes:List Nd} (hin:∀ n∈nodes,n.kind=2→0≤n.info∧n.info < (ni:Int)) (a j:Nat):Cl.Ok N ni (nN nodes s a j):=by
 induction j with
 | zero=>exact h
 | succ j ih=>exact ih.put hin _
theorem Cl.Ok.lK {N ni:Nat} {s:Cl} (h:Cl.Ok N ni s) {nodes:List Nd} (hin:∀ n∈nodes,n.kind=2→0≤n.info∧n.info < (ni:Int)) (last:List Int) (r:Int):Cl.Ok N ni (lK nodes last s r):=by
 unfold Go.Proofs.YthmklhapjegfdaaGreatDoor.lK;split
 ·exact h
 ·exact h.nN hin _ _
structure BK (w:World) (bi di bf df bw ch N ni:Nat) (s:Cl):Prop where
 ci:Row w bi 70 [.slice (some ⟨di,0,none⟩) N N]
 cf:Row w bf 70 [.slice (some ⟨df,0,none⟩) ni ni]
 cw:Row w bw 195 [.chan (some ch)]
 ri:Row w di 4 (lV s.inn)
 rf:Row w df 4 (lV s.fnd)
 chn:∃ sn rc,w.heap[ch]? = some (.chan ni (dX s.q).toArray false sn rc false)
structure Cb (bi di bf df bw ch bv:Nat):Prop where
 a1:bi≠di
 a2:bi≠df
 a3:bi≠ch
 a4:bf≠di
 a5:bf≠df
 a6:bf≠ch
 a7:bw≠di
 a8:bw≠df
 a9:bw≠ch
 b1:di≠df
 b2:di≠ch
 b3:df≠ch
 v1:bv≠di
 v2:bv≠df
 v3:bv≠ch
theorem heap_setChan_ne (w:World) (c cap:Nat) (buf:Array Value) (cl:Bool) (s r:Nat) (tm:Bool) {k:Nat} (h:k≠c):(w.setChan c cap buf cl s r tm).heap[k]? = w.heap[k]?:=by
 simp[World.setChan,Array.getElem?_setIfInBounds,Ne.symm h]
section
variable {w:World} {bi di bf df bw ch N ni:Nat} {s:Cl} {bv:Nat}
theorem BK.alloc (h:BK w bi di bf df bw ch N ni s) (o:Obj):BK (w.alloc o) bi di bf df bw ch N ni s:=by
 obtain⟨sn,rc,hc⟩:=h.chn;exact⟨h.ci.alloc _,h.cf.alloc _,h.cw.alloc _,h.ri.alloc _,h.rf.alloc _,sn,rc,by rw[Below.heap_alloc _ _ _ (Array.getElem?_eq_some_iff.1 hc).1]; exact hc⟩
theorem BK.drew (h:BK w bi di bf df bw ch N ni s):BK w.drew bi di bf df bw ch N ni s:=⟨h.ci,h.cf,h.cw,h.ri,h.rf,h.chn⟩
theorem BK.setI (h:BK w bi di bf df bw ch N ni s) (ap:Cb bi di bf df bw ch bv) (i:Nat):BK (w.setCell ⟨di,i,none⟩ (.bool true)) bi di bf df bw ch N ni ⟨s.inn.set i true,s.fnd,s.q⟩:=by
 obtain⟨sn,rc,hc⟩:=h.chn;exact⟨h.ci.other ap.a1 _,h.cf.other ap.a4 _,h.cw.other ap.a7 _,by simpa [lV,List.map_set] using h.ri.set i (.bool true),h.rf.other ap.b1.symm _,sn,rc,by rw[Below.heap_setCell _ _ _ _ ap.b2.symm]; exact hc⟩
theorem BK.setF (h:BK w bi di bf df bw ch N ni s) (ap:Cb bi di bf df bw ch bv) (i:Nat):BK (w.setCell ⟨df,i,none⟩ (.bool true)) bi di bf df bw ch N ni ⟨s.inn,s.fnd.set i true,s.q⟩:=by
 obtain⟨sn,rc,hc⟩:=h.chn;exact⟨h.ci.other ap.a2 _,h.cf.other ap.a5 _,h.cw.other ap.a8 _,h.ri.other ap.b1 _,by simpa [lV,List.map_set] using h.rf.set i (.bool true),sn,rc,by rw[Below.heap_setCell _ _ _ _ ap.b3.symm]; exact hc⟩
theorem BK.setC (h:BK w bi di bf df bw ch N ni s) (ap:Cb bi di bf df bw ch bv) (q:List Int) {buf:Array Value} (hb:buf=(dX q).toArray) (sn rc:Nat):BK (w.setChan ch ni buf false sn rc false) bi di bf df bw ch N ni ⟨s.inn,s.fnd,q⟩:=by
 obtain⟨_,_,hc⟩:=h.chn;refine⟨h.ci.of_block (heap_setChan_ne _ _ _ _ _ _ _ _ ap.a3),h.cf.of_block (heap_setChan_ne _ _ _ _ _ _ _ _ ap.a6),h.cw.of_block (heap_setChan_ne _ _ _ _ _ _ _ _ ap.a9),h.ri.of_block (heap_setChan_ne _ _ _ _ _ _ _ _ ap.b2),h.rf.of_block (heap_setChan_ne _ _ _ _ _ _ _ _ ap.b3),sn,rc,?_⟩;rw[Go.Conc.heap_setChan _ _ _ _ _ _ _ _ (Array.getElem?_eq_some_iff.1 hc).1,hb]
end
theorem Wrote.setChan {K:Ag} {a w:World} (h:Wrote K a w) {c:Nat} (hp:K c) (cap:Nat) (buf:Array Value) (cl:Bool) (s r:Nat) (tm:Bool):Wrote K a (w.setChan c cap buf cl s r tm) :=
 ⟨h.os,h.tape,h.output,by rw[Go.Conc.size_setChan]; exact h.size,fun i hi hn=>(heap_setChan_ne _ _ _ _ _ _ _ _ (fun e=>hn (by rw[e]; exact hp))).trans (h.block i hi hn)⟩
theorem put_any (g:Gm) (par last:List Int) (sets:List (List Int)) (bi di bf df bw ch bv:Nat) (ap:Cb bi di bf df bw ch bv) (F:Ag) (hF:∀ k,F k→k≠di∧k≠df∧k≠ch) (hin:Bg g) (hN:g.nodes.length≤1000) (hni:g.infos.length≤1000)
  (hll:last.length=g.nodes.length) (hla:∀ x∈last,x < (g.nodes.length:Int)) (w:World) (s:Cl) (r:Int) (vn vi vp vl vs:Value) (hbx:Row w bv 98 [.int .i64 g.au,vn,vi,vp,vl,vs]) (hn:AP w F vn g.nodes) (hl:Ah w F vl last)
  (hcl:BK w bi di bf df bw ch g.nodes.length g.infos.length s) (hok:Cl.Ok g.nodes.length g.infos.length s) (hr:0≤r∧r < (g.nodes.length:Int)) :
  Calls Tryz.prog 148 (#[.int .i64 r] ++ #[.pointer (some ⟨bi,0,none⟩),.pointer (some ⟨bv,0,none⟩),.pointer (some ⟨bf,0,none⟩),.pointer (some ⟨bw,0,none⟩)]) w
   fun e w'=>e = .returned (.tuple #[])∧BK w' bi di bf df bw ch g.nodes.length g.infos.length (lK g.nodes last s r)∧Wrote (fun k=>k=di∨k=df∨k=ch) w w':=by
 obtain⟨q,rfl⟩:=Int.eq_ofNat_of_zero_le hr.1;have hqN:q < g.nodes.length:=byOmega;obtain⟨A,c,rfl,hc,hNN⟩:=hn;obtain⟨b,o,rfl,hbF,hb,hxx⟩:=hNN byOmega;have HX:=Ac hxx;clear hxx hNN;obtain⟨Al,cl,rfl,hcl',hLL⟩:=hl;have hll':=hll;obtain⟨bl,ol,rfl,hblF,hbl,hxl⟩:=hLL byOmega;obtain⟨y,hy⟩:=aC (l:=last) (k:=q) byOmega;have el:=hxl q y hy;unfold iE at el;rw[Nat.mul_one] at el;have hyN:=hla y (List.mem_of_getElem? hy);have hql:q < last.length:=byOmega;have HPL:=Ac (show lK g.nodes last s (q:Int)=if s.inn.getD q false then s else nN g.nodes s q (y+1 - q).toNat by unfold lK; simp[List.getD_eq_getElem?_getD,hy]);have HLL:=Ac hll;clear hll hll' hla hy hxl hLL hr;have HF:=Ac hF;clear hF;have HIN:=Ac hin;clear hin;have HOK:=Ac hok;have HCL:=Ac hcl;have zb:=HF.out b hbF;have zl:=HF.out bl hblF;have z0:=hcl.ci.cell (i:=0) rfl;obtain⟨z,hz⟩:=aC (l:=s.inn) (k:=q) (by rw[hok.inn]; exact hqN);have ez:=hcl.ri.cell (i:=q) (v:=.bool z) (by simp[lV,hz]);have HZ:=Ac (show s.inn.getD q false=z by simp[List.getD_eq_getElem?_getD,hz]);clear hz hok hcl;show Calls Tryz.prog _ #[.int .i64 q,.pointer (some ⟨bi,0,none⟩),.pointer (some ⟨bv,0,none⟩),.pointer (some ⟨bf,0,none⟩),.pointer (some ⟨bw,0,none⟩)] w _;cases z
 ·have HP2:=Ac (show lK g.nodes last s (q:Int)=nN g.nodes s q (y+1 - q).toNat by rw[HPL.out,HZ.out]; rfl);go_in;go_wp2
  go_loopw [6,7] (fun i _ wr=>∃ j:Nat,(q:Int)+j≤max (y+1) q∧i = .int .i64 ((q+j:Nat):Int)∧BK wr bi di bf df bw ch g.nodes.length g.infos.length (nN g.nodes s q j)∧Wrote (fun k=>k=di∨k=df∨k=ch) w wr) (fun i _ _=>(y+1 - intOf i).toNat)
  case atStart=>exact⟨0,byOmega,rfl,HCL.out,Wrote.refl _ _⟩
  case round =>
   obtain⟨j,hj,rfl,hcl,hwr⟩:=hrel;have mF:=hbx.wrote hwr (by rintro(h | h | h); exact ap.v1 h; exact ap.v2 h; exact ap.v3 h);have x1:=mF.cell (i:=1) rfl;have x4:=mF.cell (i:=4) rfl;have el':=el;rw[← hwr.cell bl _ hbl (by rintro(h | h | h) <;> simp_all)] at el';have HOJ:=Ac (HOK.out.nN HIN.out q j);by_cases hjy:((q+j:Nat):Int)≤y
   ·obtain⟨n,hn'⟩:=aC (l:=g.nodes) (k:=q+j) byOmega;obtain⟨e0,e1,e2,⟨v3,e3,A3,c3,rfl,hc3,i3⟩,⟨v4,e4,A4,c4,rfl,hc4,i4⟩,⟨v5,e5,A5,c5,rfl,hc5,i5⟩⟩:=HX.out (q+j) n hn';clear i3 i4 i5;have hbK:¬ (b=di∨b=df∨b=ch):=by rintro(h | h | h) <;> simp_all
    rw[← hwr.cell b _ hb hbK] at e0 e1 e2 e3 e4 e5;have HPN:=Ac (show nN g.nodes s q (j+1)=if n.kind=2∧(nN g.nodes s q j).fnd.getD n.info.toNat false=false then ⟨(nN g.nodes s q j).inn.set (q+j) true,(nN g.nodes s q j).fnd.set n.info.toNat true,(nN g.nodes s q j).q ++ [n.info]⟩ else ⟨(nN g.nodes s q j).inn.set (q+j) true,(nN g.nodes s q j).fnd,(nN g.nodes s q j).q⟩ by
     rw[nN,putAt,hn'])
    have hqj:q+j < g.nodes.length:=byOmega;have HM:=Ac (List.mem_of_getElem? hn');clear hn';generalize nN g.nodes s q j=t at *;have ni0:=hcl.ci.cell (i:=0) rfl;have nf0:=hcl.cf.cell (i:=0) rfl;obtain⟨zz,hzz⟩:=aC (l:=t.inn) (k:=q+j) (by rw[HOJ.out.inn]; exact hqj);have ei:=hcl.ri.cell (i:=q+j) (v:=.bool zz) (by simp[lV,hzz]);have fi:=hcl.ri.frozen (q+j);clear hzz;have hdy:decide (((q+j:Nat):Int)≤y)=true:=decide_eq_true hjy;have hC1:=Ac (hcl.setI ap (q+j));have hWlt:=mF.lt;have hbw:b < wr.heap.size:=Nat.lt_of_lt_of_le hb hwr.size;have p1:=ap.a1;have p2:=ap.v1;have p3:=ap.a4;have p4:=ap.b1;have HW:=Ac hwr;clear hwr;have HB:=Ac mF;clear mF;by_cases hkd:n.kind=2
    ·obtain⟨hi0,hi1⟩:=HIN.out n HM.out hkd;have hd:(n.kind==2)=true:=by simp[hkd]
     obtain⟨fv,hfv⟩:=aC (l:=t.fnd) (k:=n.info.toNat) (by rw[HOJ.out.fnd]; omega);have ef:=hcl.rf.cell (i:=n.info.toNat) (v:=.bool fv) (by simp[lV,hfv]);have ff:=hcl.rf.frozen n.info.toNat;have hcl_lt:=hcl.rf.lt;have hci_lt:=hcl.ri.lt;cases fv
     ·have HPM:=Ac (show nN g.nodes s q (j+1)=⟨t.inn.set (q+j) true,t.fnd.set n.info.toNat true,t.q ++ [n.info]⟩ by
       rw[HPN.out,if_pos ⟨hkd,by simp[List.getD_eq_getElem?_getD,hfv]⟩])
      have HCT:=Ac (aeO hfv);have hbf:=hcl.cf.lt;have HC:=Ac hcl;clear hcl hkd hfv;go_upto_region 8 with fail
      have hC2:=(hC1.out.setF ap n.info.toNat).alloc (.cells #[.int .i64 n.kind,.int .i64 n.aF,.int .i64 n.info,.slice A3 n.next.length c3,.slice A4 n.weights.length c4,.slice A5 n.pay.length c5] 61);have hW2:=((HW.out.setCell (p:=⟨di,q+j,none⟩) (.inl (.inl rfl)) (.bool true)).setCell (p:=⟨df,n.info.toNat,none⟩) (.inl (.inr (.inl rfl))) (.bool true)).alloc (.cells #[.int .i64 n.kind,.int .i64 n.aF,.int .i64 n.info,.slice A3 n.next.length c3,.slice A4 n.weights.length c4,.slice A5 n.pay.length c5] 61);have hnb:=(Row.new ((wr.setCell ⟨di,q+j,none⟩ (.bool true)).setCell ⟨df,n.info.toNat,none⟩ (.bool true)) 61 #[.int .i64 n.kind,.int .i64 n.aF,.int .i64 n.info,.slice A3 n.next.length c3,.slice A4 n.weights.length c4,.slice A5 n.pay.length c5]).cell (i:=2) rfl;simp only[World.size_setCell] at hnb;generalize ((wr.setCell ⟨di,q+j,none⟩ (.bool true)).setCell ⟨df,n.info.toNat,none⟩ (.bool true)).alloc (.cells #[.int .i64 n.kind,.int .i64 n.aF,.int .i64 n.info,.slice A3 n.next.length c3,.slice A4 n.weights.length c4,.slice A5 n.pay.length c5] 61)=W at *;have cw0:=hC2.cw.cell (i:=0) rfl;obtain⟨sn,rc,hch⟩:=hC2.chn;have HCH:=Ac hch;clear hch;have hroom:(dX t.q).toArray.size < g.infos.length:=by have h1:=HCT.out;have h2:=HOJ.out.few;have h3:=HOJ.out.fnd;simp[dX];omega
      have HR:=Ac hroom;clear hroom;refine wp_region_list ?_;show oO _ _ _ [0,1,2,3] _ _;refine qV (w':=W) rfl (by rfl) (by go_simp; try (with_reducible rfl)) ?_;refine Zc ?_;refine qV (w':=W) rfl (by rfl) (by go_simp; try (with_reducible rfl)) ?_;refine Zc ?_;refine qV (w':=W) rfl (by rfl) (by go_simp; try (with_reducible rfl)) ?_;refine Zc ?_;refine ad2 (v:=.int .i64 n.info) (z:=.tuple #[]) rfl (by rfl) (by simp[execOp,Go.Conc.scase,Act.eval]) HCH.out HR.out ?_;refine Zc ?_;have hC3:=Ac (hC2.setC ap (t.q ++ [n.info]) (buf:=(dX t.q).toArray.push (.int .i64 n.info)) (by simp[dX]) (sn+1) rc);have hW3:=Ac (hW2.setChan (c:=ch) (.inr (.inr rfl)) g.infos.length ((dX t.q).toArray.push (.int .i64 n.info)) false (sn+1) rc false);generalize W.setChan ch g.infos.length ((dX t.q).toArray.push (.int .i64 n.info)) false (sn+1) rc false=W3 at *;show Exit.inBlock _ _ _ _ _;go_wp2
      go_roundw
      case rel=>exact⟨j+1,byOmega,by go_num,by rw[HPM.out]; exact hC3.out,hW3.out⟩
      case measure=>simp[intOf] <;> omega
     ·have HPM:=Ac (show nN g.nodes s q (j+1)=⟨t.inn.set (q+j) true,t.fnd,t.q⟩ by
       rw[HPN.out,if_neg (by simp[List.getD_eq_getElem?_getD,hfv])])
      have hbf:=hcl.cf.lt;clear hkd hfv hcl;go_wp2
      go_roundw
      case rel=>exact⟨j+1,byOmega,by go_num,by rw[HPM.out]; exact hC1.out.alloc _,(HW.out.setCell (.inl (.inl rfl)) _).alloc _⟩
      case measure=>simp[intOf] <;> omega
    ·have HPM:=Ac (show nN g.nodes s q (j+1)=⟨t.inn.set (q+j) true,t.fnd,t.q⟩ by
      rw[HPN.out,if_neg (by simp[hkd])])
     have hd:(n.kind==2)=false:=by simp[hkd]
     clear hkd hcl;go_wp2
     go_roundw
     case rel=>exact⟨j+1,byOmega,by go_num,by rw[HPM.out]; exact hC1.out.alloc _,(HW.out.setCell (.inl (.inl rfl)) _).alloc _⟩
     case measure=>simp[intOf] <;> omega
   ·have hdy:decide (((q+j:Nat):Int)≤y)=false:=decide_eq_false hjy;have HJ:=Ac (show(y+1 - q).toNat=j by omega);go_wp2
    go_end0
    exact⟨rfl,by rw[HP2.out,HJ.out]; exact hcl,hwr⟩
 ·have HP2:=Ac (show lK g.nodes last s (q:Int)=s by rw[HPL.out,HZ.out]; rfl);go_in;go_wp2
  exact bodyPost_ret (v:=.tuple #[]) (by simp[results,Tryz.results148,go_sem]) rfl ⟨rfl,by rw[HP2.out]; exact HCL.out,Wrote.refl _ _⟩
theorem aeP (g:Gm) (last:List Int) (bi di bf df bw ch bv:Nat) (ap:Cb bi di bf df bw ch bv) (F:Ag) (hF:∀ k,F k→k≠di∧k≠df∧k≠ch) (hin:Bg g) (hN:g.nodes.length≤1000) (hni:g.infos.length≤1000)
  (hll:last.length=g.nodes.length) (hla:∀ x∈last,x < (g.nodes.length:Int)) (w:World) (s:Cl) (r:Int) (vn vi vp vl vs:Value) (hbx:Row w bv 98 [.int .i64 g.au,vn,vi,vp,vl,vs]) (hn:AP w F vn g.nodes) (hl:Ah w F vl last)
  (hcl:BK w bi di bf df bw ch g.nodes.length g.infos.length s) (hok:Cl.Ok g.nodes.length g.infos.length s) (hr:0≤r∧r < (g.nodes.length:Int)) :
  Calls Tryz.prog 148 #[.int .i64 r,.pointer (some ⟨bi,0,none⟩),.pointer (some ⟨bv,0,none⟩),.pointer (some ⟨bf,0,none⟩),.pointer (some ⟨bw,0,none⟩)] w
   fun e w'=>e = .returned (.tuple #[])∧BK w' bi di bf df bw ch g.nodes.length g.infos.length (lK g.nodes last s r)∧Wrote (fun k=>k=di∨k=df∨k=ch) w w' :=
 put_any g [] last [] bi di bf df bw ch bv ap F hF hin hN hni hll hla w s r vn vi vp vl vs hbx hn hl hcl hok hr
theorem uG {g:Gm} (hg:Good g) {roots:List Int} (hr:∀ r∈roots,0≤r∧r < (g.nodes.length:Int)) (i:Nat):(iR g.nodes roots).getD i false=true↔i < g.nodes.length∧In g.nodes roots i:=by
 by_cases hi:i < g.nodes.length
 ·obtain⟨b,h1,h2⟩:=ahV hg (fun r h=>(hr r h).1) hi;simp only[List.getD_eq_getElem?_getD,h1,Option.getD_some,h2,hi,true_and]
 ·rw[List.getD_eq_getElem?_getD,List.getElem?_eq_none (by rw[uT]; omega)];simp[hi]
theorem agt {g:Gm} {roots:List Int} {s:Int}:s∈uh g roots↔∃ (q:Nat) (l:List Int),s=q∧(aW g)[q]? = some l∧l.any (jr (iR g.nodes roots))=true:=by
 have hl:(aW g).length=g.infos.length:=bC _ _ _;unfold uh;rw[← ahW,← hl];exact ahX
end Go.Proofs.YthmklhapjegfdaaGreatDoor
