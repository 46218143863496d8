/- subgame.view.closure's inner function: a subtree is put inside, and the sets found there wait in the channel. -/
import Derived.Test.YthmklhapjegfdaaGreatDoorK33
import Derived.Deep.CutRange
import Derived.Test.YthmklhapjegfdaaGreatDoorK23
import Derived.Deep.LoopGhost
set_option linter.all false
set_option maxRecDepth 100000
set_option maxHeartbeats 12800000
namespace Go.Proofs.YthmklhapjegfdaaGreatDoor
open Lib renaming hid → Ac
open List renaming getElem_toArray → lq1, getElem_cons_zero → lq2, getElem_cons_succ → lq3, setIfInBounds_toArray → lq4, set_cons_zero → lq5, set_cons_succ → lq6
open Go.RowKit
structure Cl where
 inn:List Bool
 fnd:List Bool
 q:List Int
 deriving Inhabited,DecidableEq
def putAt (nodes:List Nd) (s:Cl) (i:Nat):Cl:=match nodes[i]? with
 | some n=>if n.kind=2∧s.fnd.getD n.info.toNat false=false then ⟨s.inn.set i true,s.fnd.set n.info.toNat true,s.q ++ [n.info]⟩ else ⟨s.inn.set i true,s.fnd,s.q⟩
 | none=>s
def lN (nodes:List Nd) (s:Cl) (a:Nat):Nat→Cl
 | 0=>s
 | j+1=>putAt nodes (lN nodes s a j) (a+j)
def jT (nodes:List Nd) (last:List Int) (s:Cl) (r:Int):Cl:=if s.inn.getD r.toNat false then s else lN nodes s r.toNat (last.getD r.toNat 0+1 - r).toNat
structure Cl.Ok (N ni:Nat) (s:Cl):Prop where
 inn:s.inn.length=N
 fnd:s.fnd.length=ni
 few:s.q.length≤s.fnd.countP id
 q:∀ x∈s.q,0≤x∧x < (ni:Int)
theorem count_set {l:List Bool} {i:Nat} (h:l[i]? = some false):(l.set i true).countP id=l.countP id+1:=by
 induction l generalizing i with
 | nil=>cases h
 | cons b l ih =>
  cases i with
  | zero=>simp at h; subst h; simp
  | succ i =>
   simp only[List.getElem?_cons_succ] at h;simp only[List.set_cons_succ,List.countP_cons,ih h];omega
theorem ads {l:List Bool} {i:Nat} (h:l[i]? = some false):l.countP id < l.length:=by
 have h1:=count_set h;have h2:(l.set i true).countP id≤(l.set i true).length:=List.countP_le_length;simp at h2;omega
theorem Cl.Ok.put {N ni:Nat} {s:Cl} (h:Cl.Ok N ni s) {nodes:List Nd} (hin:∀ n∈nodes,n.kind=2→0≤n.info∧n.info < (ni:Int)) (i:Nat):Cl.Ok N ni (putAt nodes s i):=by
 unfold putAt;split
 ·rename_i n hn
  split
  ·rename_i hc
   have hb:=hin n (List.mem_of_getElem? hn) hc.1;have hf:s.fnd[n.info.toNat]? = some false:=by
    obtain⟨b,hb'⟩:=ak (l:=s.fnd) (k:=n.info.toNat) (by rw[h.fnd]; omega);have:=hc.2;simp[List.getD_eq_getElem?_getD,hb'] at this;rw[hb',this]
   refine⟨by simp[h.inn],by simp[h.fnd],?_,fun x hx=>?_⟩
   ·rw[count_set hf]; have:=h.few; simp; omega
   ·rcases List.mem_append.1 hx with hx | hx
    ·exact h.q x hx
    ·simp at hx; subst hx; exact hb
  ·exact⟨by simp[h.inn],h.fnd,h.few,h.q⟩
 ·exact h
theorem Cl.Ok.lN {N ni:Nat} {s:Cl} (h:Cl.Ok N ni s) {nodes:List Nd} (hin:∀ n∈nodes,n.kind=2→0≤n.info∧n.info < (ni:Int)) (a j:Nat):Cl.Ok N ni (lN nodes s a j):=by
 induction j with
 | zero=>exact h
 | succ j ih=>exact ih.put hin _
theorem Cl.Ok.jT {N ni:Nat} {s:Cl} (h:Cl.Ok N ni s) {nodes:List Nd} (hin:∀ n∈nodes,n.kind=2→0≤n.info∧n.info < (ni:Int)) (last:List Int) (r:Int):Cl.Ok N ni (jT nodes last s r):=by
 unfold Go.Proofs.YthmklhapjegfdaaGreatDoor.jT;split
 ·exact h
 ·exact h.lN hin _ _
structure Bz (w:World) (bi di bf df bw ch N ni:Nat) (s:Cl):Prop where
 ci:Row w bi 70 [.slice (some ⟨di,0,none⟩) N N]
 cf:Row w bf 70 [.slice (some ⟨df,0,none⟩) ni ni]
 cw:Row w bw 195 [.chan (some ch)]
 ri:Row w di 4 (kG s.inn)
 rf:Row w df 4 (kG s.fnd)
 chn:∃ sn rc,w.heap[ch]? = some (.chan ni (dA s.q).toArray false sn rc false)
structure BN (bi di bf df bw ch bv:Nat):Prop where
 a1:bi≠di
 a2:bi≠df
 a3:bi≠ch
 a4:bf≠di
 a5:bf≠df
 a6:bf≠ch
 a7:bw≠di
 a8:bw≠df
 a9:bw≠ch
 b1:di≠df
 b2:di≠ch
 b3:df≠ch
 v1:bv≠di
 v2:bv≠df
 v3:bv≠ch
theorem heap_setChan_ne (w:World) (c cap:Nat) (buf:Array Value) (cl:Bool) (s r:Nat) (tm:Bool) {k:Nat} (h:k≠c):(w.setChan c cap buf cl s r tm).heap[k]? = w.heap[k]?:=by
 simp[World.setChan,Array.getElem?_setIfInBounds,Ne.symm h]
section
variable {w:World} {bi di bf df bw ch N ni:Nat} {s:Cl} {bv:Nat}
theorem Bz.alloc (h:Bz w bi di bf df bw ch N ni s) (o:Obj):Bz (w.alloc o) bi di bf df bw ch N ni s:=by
 obtain⟨sn,rc,hc⟩:=h.chn;exact⟨h.ci.alloc _,h.cf.alloc _,h.cw.alloc _,h.ri.alloc _,h.rf.alloc _,sn,rc,by rw[Below.heap_alloc _ _ _ (Array.getElem?_eq_some_iff.1 hc).1]; exact hc⟩
theorem Bz.drew (h:Bz w bi di bf df bw ch N ni s):Bz w.drew bi di bf df bw ch N ni s:=⟨h.ci,h.cf,h.cw,h.ri,h.rf,h.chn⟩
theorem Bz.setI (h:Bz w bi di bf df bw ch N ni s) (ap:BN bi di bf df bw ch bv) (i:Nat):Bz (w.setCell ⟨di,i,none⟩ (.bool true)) bi di bf df bw ch N ni ⟨s.inn.set i true,s.fnd,s.q⟩:=by
 obtain⟨sn,rc,hc⟩:=h.chn;exact⟨h.ci.other ap.a1 _,h.cf.other ap.a4 _,h.cw.other ap.a7 _,by simpa [kG,List.map_set] using h.ri.set i (.bool true),h.rf.other ap.b1.symm _,sn,rc,by rw[Below.heap_setCell _ _ _ _ ap.b2.symm]; exact hc⟩
theorem Bz.setF (h:Bz w bi di bf df bw ch N ni s) (ap:BN bi di bf df bw ch bv) (i:Nat):Bz (w.setCell ⟨df,i,none⟩ (.bool true)) bi di bf df bw ch N ni ⟨s.inn,s.fnd.set i true,s.q⟩:=by
 obtain⟨sn,rc,hc⟩:=h.chn;exact⟨h.ci.other ap.a2 _,h.cf.other ap.a5 _,h.cw.other ap.a8 _,h.ri.other ap.b1 _,by simpa [kG,List.map_set] using h.rf.set i (.bool true),sn,rc,by rw[Below.heap_setCell _ _ _ _ ap.b3.symm]; exact hc⟩
theorem Bz.setC (h:Bz w bi di bf df bw ch N ni s) (ap:BN bi di bf df bw ch bv) (q:List Int) {buf:Array Value} (hb:buf=(dA q).toArray) (sn rc:Nat):Bz (w.setChan ch ni buf false sn rc false) bi di bf df bw ch N ni ⟨s.inn,s.fnd,q⟩:=by
 obtain⟨_,_,hc⟩:=h.chn;refine⟨h.ci.of_block (heap_setChan_ne _ _ _ _ _ _ _ _ ap.a3),h.cf.of_block (heap_setChan_ne _ _ _ _ _ _ _ _ ap.a6),h.cw.of_block (heap_setChan_ne _ _ _ _ _ _ _ _ ap.a9),h.ri.of_block (heap_setChan_ne _ _ _ _ _ _ _ _ ap.b2),h.rf.of_block (heap_setChan_ne _ _ _ _ _ _ _ _ ap.b3),sn,rc,?_⟩;rw[Go.Conc.heap_setChan _ _ _ _ _ _ _ _ (Array.getElem?_eq_some_iff.1 hc).1,hb]
end
theorem Wrote.setChan {K:Ag} {a w:World} (h:Wrote K a w) {c:Nat} (hp:K c) (cap:Nat) (buf:Array Value) (cl:Bool) (s r:Nat) (tm:Bool):Wrote K a (w.setChan c cap buf cl s r tm) :=
 ⟨h.os,h.tape,h.output,by rw[Go.Conc.size_setChan]; exact h.size,fun i hi hn=>(heap_setChan_ne _ _ _ _ _ _ _ _ (fun e=>hn (by rw[e]; exact hp))).trans (h.block i hi hn)⟩
theorem put_any (g:Gm) (par last:List Int) (sets:List (List Int)) (bi di bf df bw ch bv:Nat) (ap:BN bi di bf df bw ch bv) (F:Ag) (hF:∀ k,F k→k≠di∧k≠df∧k≠ch) (hin:Bd g) (hN:g.nodes.length≤1000) (hni:g.infos.length≤1000)
  (hll:last.length=g.nodes.length) (hla:∀ x∈last,x < (g.nodes.length:Int)) (w:World) (s:Cl) (r:Int) (vn vi vp vl vs:Value) (hbx:Row w bv 98 [.int .i64 g.aj,vn,vi,vp,vl,vs]) (hn:AO w F vn g.nodes) (hl:Ak w F vl last)
  (hcl:Bz w bi di bf df bw ch g.nodes.length g.infos.length s) (hok:Cl.Ok g.nodes.length g.infos.length s) (hr:0≤r∧r < (g.nodes.length:Int)) :
  Calls Tryz.prog 148 (#[.int .i64 r] ++ #[.pointer (some ⟨bi,0,none⟩),.pointer (some ⟨bv,0,none⟩),.pointer (some ⟨bf,0,none⟩),.pointer (some ⟨bw,0,none⟩)]) w
   fun e w'=>e = .returned (.tuple #[])∧Bz w' bi di bf df bw ch g.nodes.length g.infos.length (jT g.nodes last s r)∧Wrote (fun k=>k=di∨k=df∨k=ch) w w':=by
 obtain⟨q,rfl⟩:=Int.eq_ofNat_of_zero_le hr.1;have hqN:q < g.nodes.length:=by omega
 obtain⟨A,c,rfl,hc,hNN⟩:=hn;obtain⟨b,o,rfl,hbF,hb,hxx⟩:=hNN (by omega);have HX:=Ac hxx; clear hxx hNN;obtain⟨Al,cl,rfl,hcl',hLL⟩:=hl;have hll':=hll;obtain⟨bl,ol,rfl,hblF,hbl,hxl⟩:=hLL (by omega);obtain⟨y,hy⟩:=ak (l:=last) (k:=q) (by omega);have el:=hxl q y hy;unfold fF at el;rw[Nat.mul_one] at el;have hyN:=hla y (List.mem_of_getElem? hy);have hql:q < last.length:=by omega
 have HPL:=Ac (show jT g.nodes last s (q:Int)=if s.inn.getD q false then s else lN g.nodes s q (y+1 - q).toNat by unfold jT; simp[List.getD_eq_getElem?_getD,hy]);have HLL:=Ac hll; clear hll hll' hla hy hxl hLL hr;have HF:=Ac hF; clear hF;have HIN:=Ac hin; clear hin;have HOK:=Ac hok;have HCL:=Ac hcl;have zb:=HF.out b hbF;have zl:=HF.out bl hblF;have z0:=hcl.ci.cell (i:=0) rfl;obtain⟨z,hz⟩:=ak (l:=s.inn) (k:=q) (by rw[hok.inn]; exact hqN);have ez:=hcl.ri.cell (i:=q) (v:=.bool z) (by simp[kG,hz]);have HZ:=Ac (show s.inn.getD q false=z by simp[List.getD_eq_getElem?_getD,hz]);clear hz hok hcl;show Calls Tryz.prog _ #[.int .i64 q,.pointer (some ⟨bi,0,none⟩),.pointer (some ⟨bv,0,none⟩),.pointer (some ⟨bf,0,none⟩),.pointer (some ⟨bw,0,none⟩)] w _;cases z
 ·have HP2:=Ac (show jT g.nodes last s (q:Int)=lN g.nodes s q (y+1 - q).toNat by rw[HPL.out,HZ.out]; rfl);go_enter Tryz.func148,Tryz.ntmps148;go_wp2
  go_loopw [6,7] (fun i _ wr=>∃ j:Nat,(q:Int)+j≤max (y+1) q∧i = .int .i64 ((q+j:Nat):Int)∧Bz wr bi di bf df bw ch g.nodes.length g.infos.length (lN g.nodes s q j)∧Wrote (fun k=>k=di∨k=df∨k=ch) w wr) (fun i _ _=>(y+1 - intOf i).toNat)
  case atStart=>exact⟨0,by omega,rfl,HCL.out,Wrote.refl _ _⟩
  case round =>
   obtain⟨j,hj,rfl,hcl,hwr⟩:=hrel;have kT:=hbx.wrote hwr (by rintro(h | h | h); exact ap.v1 h; exact ap.v2 h; exact ap.v3 h);have x1:=kT.cell (i:=1) rfl;have x4:=kT.cell (i:=4) rfl;have el':=el;rw[← hwr.cell bl _ hbl (by rintro(h | h | h) <;> simp_all)] at el';have HOJ:=Ac (HOK.out.lN HIN.out q j);by_cases hjy:((q+j:Nat):Int)≤y
   ·obtain⟨n,hn'⟩:=ak (l:=g.nodes) (k:=q+j) (by omega);obtain⟨e0,e1,e2,⟨v3,e3,A3,c3,rfl,hc3,i3⟩,⟨v4,e4,A4,c4,rfl,hc4,i4⟩,⟨v5,e5,A5,c5,rfl,hc5,i5⟩⟩:=HX.out (q+j) n hn';clear i3 i4 i5;have hbK:¬ (b=di∨b=df∨b=ch):=by rintro(h | h | h) <;> simp_all
    rw[← hwr.cell b _ hb hbK] at e0 e1 e2 e3 e4 e5;have HPN:=Ac (show lN g.nodes s q (j+1)=if n.kind=2∧(lN g.nodes s q j).fnd.getD n.info.toNat false=false then ⟨(lN g.nodes s q j).inn.set (q+j) true,(lN g.nodes s q j).fnd.set n.info.toNat true,(lN g.nodes s q j).q ++ [n.info]⟩ else ⟨(lN g.nodes s q j).inn.set (q+j) true,(lN g.nodes s q j).fnd,(lN g.nodes s q j).q⟩ by
     rw[lN,putAt,hn'])
    have hqj:q+j < g.nodes.length:=by omega
    have HM:=Ac (List.mem_of_getElem? hn'); clear hn';generalize lN g.nodes s q j=t at *;have ni0:=hcl.ci.cell (i:=0) rfl;have nf0:=hcl.cf.cell (i:=0) rfl;obtain⟨zz,hzz⟩:=ak (l:=t.inn) (k:=q+j) (by rw[HOJ.out.inn]; exact hqj);have ei:=hcl.ri.cell (i:=q+j) (v:=.bool zz) (by simp[kG,hzz]);have fi:=hcl.ri.frozen (q+j);clear hzz;have hdy:decide (((q+j:Nat):Int)≤y)=true:=decide_eq_true hjy;have hC1:=Ac (hcl.setI ap (q+j));have hWlt:=kT.lt;have hbw:b < wr.heap.size:=Nat.lt_of_lt_of_le hb hwr.size;have p1:=ap.a1;have p2:=ap.v1;have p3:=ap.a4;have p4:=ap.b1;have HW:=Ac hwr; clear hwr;have HB:=Ac kT; clear kT;by_cases hkd:n.kind=2
    ·obtain⟨hi0,hi1⟩:=HIN.out n HM.out hkd;have hd:(n.kind==2)=true:=by simp[hkd]
     obtain⟨fv,hfv⟩:=ak (l:=t.fnd) (k:=n.info.toNat) (by rw[HOJ.out.fnd]; omega);have ef:=hcl.rf.cell (i:=n.info.toNat) (v:=.bool fv) (by simp[kG,hfv]);have ff:=hcl.rf.frozen n.info.toNat;have hcl_lt:=hcl.rf.lt;have hci_lt:=hcl.ri.lt;cases fv
     ·have HPM:=Ac (show lN g.nodes s q (j+1)=⟨t.inn.set (q+j) true,t.fnd.set n.info.toNat true,t.q ++ [n.info]⟩ by
       rw[HPN.out,if_pos ⟨hkd,by simp[List.getD_eq_getElem?_getD,hfv]⟩])
      have HCT:=Ac (ads hfv);have hbf:=hcl.cf.lt;have HC:=Ac hcl; clear hcl hkd hfv;go_upto_region 8 with fail
      have hC2:=(hC1.out.setF ap n.info.toNat).alloc (.cells #[.int .i64 n.kind,.int .i64 n.aI,.int .i64 n.info,.slice A3 n.next.length c3,.slice A4 n.weights.length c4,.slice A5 n.pay.length c5] 61);have hW2:=((HW.out.setCell (p:=⟨di,q+j,none⟩) (.inl (.inl rfl)) (.bool true)).setCell (p:=⟨df,n.info.toNat,none⟩) (.inl (.inr (.inl rfl))) (.bool true)).alloc (.cells #[.int .i64 n.kind,.int .i64 n.aI,.int .i64 n.info,.slice A3 n.next.length c3,.slice A4 n.weights.length c4,.slice A5 n.pay.length c5] 61);have hnb:=(Row.new ((wr.setCell ⟨di,q+j,none⟩ (.bool true)).setCell ⟨df,n.info.toNat,none⟩ (.bool true)) 61 #[.int .i64 n.kind,.int .i64 n.aI,.int .i64 n.info,.slice A3 n.next.length c3,.slice A4 n.weights.length c4,.slice A5 n.pay.length c5]).cell (i:=2) rfl;simp only[World.size_setCell] at hnb;generalize ((wr.setCell ⟨di,q+j,none⟩ (.bool true)).setCell ⟨df,n.info.toNat,none⟩ (.bool true)).alloc (.cells #[.int .i64 n.kind,.int .i64 n.aI,.int .i64 n.info,.slice A3 n.next.length c3,.slice A4 n.weights.length c4,.slice A5 n.pay.length c5] 61)=W at *;have cw0:=hC2.cw.cell (i:=0) rfl;obtain⟨sn,rc,hch⟩:=hC2.chn;have HCH:=Ac hch; clear hch;have hroom:(dA t.q).toArray.size < g.infos.length:=by have h1:=HCT.out; have h2:=HOJ.out.few; have h3:=HOJ.out.fnd; simp[dA]; omega
      have HR:=Ac hroom; clear hroom;refine wp_region_list ?_;show mX _ _ _ [0,1,2,3] _ _;refine pF (w':=W) rfl (by rfl) (by go_simp; try (with_reducible rfl)) ?_;try simp only[Act.put,lq1,lq2,lq3,lq4,lq5,lq6]
      refine pF (w':=W) rfl (by rfl) (by go_simp; try (with_reducible rfl)) ?_;try simp only[Act.put,lq1,lq2,lq3,lq4,lq5,lq6]
      refine pF (w':=W) rfl (by rfl) (by go_simp; try (with_reducible rfl)) ?_;try simp only[Act.put,lq1,lq2,lq3,lq4,lq5,lq6]
      refine acC (v:=.int .i64 n.info) (z:=.tuple #[]) rfl (by rfl) (by simp[execOp,Go.Conc.scase,Act.eval]) HCH.out HR.out ?_;try simp only[Act.put,lq1,lq2,lq3,lq4,lq5,lq6]
      have hC3:=Ac (hC2.setC ap (t.q ++ [n.info]) (buf:=(dA t.q).toArray.push (.int .i64 n.info)) (by simp[dA]) (sn+1) rc);have hW3:=Ac (hW2.setChan (c:=ch) (.inr (.inr rfl)) g.infos.length ((dA t.q).toArray.push (.int .i64 n.info)) false (sn+1) rc false);generalize W.setChan ch g.infos.length ((dA t.q).toArray.push (.int .i64 n.info)) false (sn+1) rc false=W3 at *;show Exit.inBlock _ _ _ _ _;go_wp2
      go_roundw
      case rel=>exact⟨j+1,by omega,by go_num,by rw[HPM.out]; exact hC3.out,hW3.out⟩
      case measure=>simp[intOf] <;> omega
     ·have HPM:=Ac (show lN g.nodes s q (j+1)=⟨t.inn.set (q+j) true,t.fnd,t.q⟩ by
       rw[HPN.out,if_neg (by simp[List.getD_eq_getElem?_getD,hfv])])
      have hbf:=hcl.cf.lt;clear hkd hfv hcl;go_wp2
      go_roundw
      case rel=>exact⟨j+1,by omega,by go_num,by rw[HPM.out]; exact hC1.out.alloc _,(HW.out.setCell (.inl (.inl rfl)) _).alloc _⟩
      case measure=>simp[intOf] <;> omega
    ·have HPM:=Ac (show lN g.nodes s q (j+1)=⟨t.inn.set (q+j) true,t.fnd,t.q⟩ by
      rw[HPN.out,if_neg (by simp[hkd])])
     have hd:(n.kind==2)=false:=by simp[hkd]
     clear hkd hcl;go_wp2
     go_roundw
     case rel=>exact⟨j+1,by omega,by go_num,by rw[HPM.out]; exact hC1.out.alloc _,(HW.out.setCell (.inl (.inl rfl)) _).alloc _⟩
     case measure=>simp[intOf] <;> omega
   ·have hdy:decide (((q+j:Nat):Int)≤y)=false:=decide_eq_false hjy;have HJ:=Ac (show(y+1 - q).toNat=j by omega);go_wp2
    go_end0
    exact⟨rfl,by rw[HP2.out,HJ.out]; exact hcl,hwr⟩
 ·have HP2:=Ac (show jT g.nodes last s (q:Int)=s by rw[HPL.out,HZ.out]; rfl);go_enter Tryz.func148,Tryz.ntmps148;go_wp2
  exact bodyPost_ret (v:=.tuple #[]) (by simp[results,Tryz.results148,go_sem]) rfl ⟨rfl,by rw[HP2.out]; exact HCL.out,Wrote.refl _ _⟩
theorem adt (g:Gm) (last:List Int) (bi di bf df bw ch bv:Nat) (ap:BN bi di bf df bw ch bv) (F:Ag) (hF:∀ k,F k→k≠di∧k≠df∧k≠ch) (hin:Bd g) (hN:g.nodes.length≤1000) (hni:g.infos.length≤1000)
  (hll:last.length=g.nodes.length) (hla:∀ x∈last,x < (g.nodes.length:Int)) (w:World) (s:Cl) (r:Int) (vn vi vp vl vs:Value) (hbx:Row w bv 98 [.int .i64 g.aj,vn,vi,vp,vl,vs]) (hn:AO w F vn g.nodes) (hl:Ak w F vl last)
  (hcl:Bz w bi di bf df bw ch g.nodes.length g.infos.length s) (hok:Cl.Ok g.nodes.length g.infos.length s) (hr:0≤r∧r < (g.nodes.length:Int)) :
  Calls Tryz.prog 148 #[.int .i64 r,.pointer (some ⟨bi,0,none⟩),.pointer (some ⟨bv,0,none⟩),.pointer (some ⟨bf,0,none⟩),.pointer (some ⟨bw,0,none⟩)] w
   fun e w'=>e = .returned (.tuple #[])∧Bz w' bi di bf df bw ch g.nodes.length g.infos.length (jT g.nodes last s r)∧Wrote (fun k=>k=di∨k=df∨k=ch) w w' :=
 put_any g [] last [] bi di bf df bw ch bv ap F hF hin hN hni hll hla w s r vn vi vp vl vs hbx hn hl hcl hok hr
def jB (nodes:List Nd) (last:List Int) (sets:List (List Int)):Nat→Cl→Cl
 | 0,s=>s
 | f+1,s=>match s.q with
  | []=>s
  | x :: q=>jB nodes last sets f ((sets.getD x.toNat []).foldl (jT nodes last) ⟨s.inn,s.fnd,q⟩)
def jv (nodes:List Nd) (last:List Int) (sets:List (List Int)) (ni:Nat) (node:Int):List Bool :=
 (jB nodes last sets ni (jT nodes last ⟨List.replicate nodes.length false,List.replicate ni false,[]⟩ node)).inn
def Cl.left (ni:Nat) (s:Cl):Nat:=s.q.length+(ni - s.fnd.countP id)
theorem adu {nodes:List Nd} {last:List Int} {sets:List (List Int)} {f:Nat} {s:Cl} (h:s.q = []):jB nodes last sets f s=s:=by
 cases f with
 | zero=>rfl
 | succ f=>rw[jB,h]
theorem abU {nodes:List Nd} {last:List Int} {sets:List (List Int)} {f:Nat} {s:Cl} {x:Int} {q:List Int} (h:s.q=x :: q):jB nodes last sets (f+1) s=jB nodes last sets f ((sets.getD x.toNat []).foldl (jT nodes last) ⟨s.inn,s.fnd,q⟩):=by
 rw[jB,h]
theorem aeA {N ni:Nat} {s:Cl} (h:Cl.Ok N ni s) {nodes:List Nd} (hin:∀ n∈nodes,n.kind=2→0≤n.info∧n.info < (ni:Int)) (i:Nat):(putAt nodes s i).left ni=s.left ni:=by
 unfold putAt;split
 ·rename_i n hn
  split
  ·rename_i hc
   have hb:=hin n (List.mem_of_getElem? hn) hc.1;have hf:s.fnd[n.info.toNat]? = some false:=by
    obtain⟨b,hb'⟩:=ak (l:=s.fnd) (k:=n.info.toNat) (by rw[h.fnd]; omega);have:=hc.2;simp[List.getD_eq_getElem?_getD,hb'] at this;rw[hb',this]
   have h1:=ads hf;have h2:=h.fnd;unfold Cl.left;simp only[List.length_append,List.length_cons,List.length_nil];rw[count_set hf];omega
  ·rfl
 ·rfl
theorem abd {N ni:Nat} {s:Cl} (h:Cl.Ok N ni s) {nodes:List Nd} (hin:∀ n∈nodes,n.kind=2→0≤n.info∧n.info < (ni:Int)) (last:List Int) (r:Int):(jT nodes last s r).left ni=s.left ni:=by
 unfold jT;split
 ·rfl
 ·generalize (last.getD r.toNat 0+1 - r).toNat=j;induction j with
  | zero=>rfl
  | succ j ih =>
   show(putAt nodes (lN nodes s r.toNat j) (r.toNat+j)).left ni=_;rw[aeA (h.lN hin _ _) hin,ih]
theorem wG {N ni:Nat} {nodes:List Nd} (hin:∀ n∈nodes,n.kind=2→0≤n.info∧n.info < (ni:Int)) (last:List Int):∀ (l:List Int) (s:Cl),Cl.Ok N ni s→Cl.Ok N ni (l.foldl (jT nodes last) s)∧(l.foldl (jT nodes last) s).left ni=s.left ni
 | [],s,h=>⟨h,rfl⟩
 | x :: l,s,h=>by
  obtain⟨h1,h2⟩:=wG hin last l (jT nodes last s x) (h.jT hin last x);exact⟨h1,by rw[List.foldl_cons,h2,abd h hin]⟩
theorem Cl.Ok.pop {N ni:Nat} {s:Cl} {x:Int} {q:List Int} (h:Cl.Ok N ni s) (hq:s.q=x :: q):Cl.Ok N ni ⟨s.inn,s.fnd,q⟩∧0≤x∧x < (ni:Int)∧Cl.left ni ⟨s.inn,s.fnd,q⟩+1=s.left ni:=by
 have h1:=h.few;rw[hq] at h1;refine⟨⟨h.inn,h.fnd,?_,fun y hy=>h.q y (by rw[hq]; exact List.mem_cons_of_mem _ hy)⟩,(h.q x (by rw[hq]; simp)).1,(h.q x (by rw[hq]; simp)).2,?_⟩
 ·simp at h1; simp; omega
 ·unfold Cl.left; rw[hq]; simp; omega
theorem Cl.Ok.start (N ni:Nat):Cl.Ok N ni ⟨List.replicate N false,List.replicate ni false,[]⟩:=⟨by simp,by simp,by simp,by simp⟩
theorem aho:∃ i,Tryz.prog.info? 3=some i∧i.bytes=8:=by
 have h:(Tryz.prog.info? 3).map (·.bytes)=some 8:=by kernel_rfl
 obtain⟨i,hi,hb⟩:=Option.map_eq_some_iff.1 h;exact⟨i,hi,hb⟩
theorem abV (n:Nat) (hn:n≤1000) (w:World):(Instr.makeChan 195 (.int .i64 n)).run Tryz.prog w = .ok (.chan (some w.heap.size)) (w.alloc (.chan n #[] false 0 0 false)):=by
 obtain⟨i,hi,hb⟩:=aho;exact Go.Conc.run_makeChan (P:=Tryz.prog) (w:=w) Tryz.underlying195 hi .i64 n (by omega) (by rw[hb]; omega)
def dM (B n m:Nat):Says where
 uses i:=match i with | 11=>[9,4] | _=>[]
 F i l:=match i with
  | 4=>Hold.made B 4 n (List.replicate n (.bool false)) (l.getD 0 undef)
  | 8=>Hold.made B 4 m (List.replicate m (.bool false)) (l.getD 0 undef)
  | 9=>Hold.box B 70 (l.getD 0 undef)
  | 10=>Hold.box B 70 (l.getD 0 undef)
  | 11=>Hold.boxed B 70 (l.getD 1 undef) (l.getD 2 undef)
  | _=>Hold.tt
 cu:=[11]
 G j l w w':=match j with | 11=>∃ b,l.getD 1 undef = .pointer (some ⟨b,0,none⟩)∧w'=w.setCell ⟨b,0,none⟩ (l.getD 2 undef) | _=>False
 mks:=[4,8,9,10]
theorem af6 (B n m:Nat):∀ k∈(dM B n m).mks,∀ e w,(dM B n m).R k e w→∀ b,lM (e k)=some b→b < w.heap.size:=by
 intro k hk e w h;simp only[dM,List.mem_cons,List.not_mem_nil,or_false] at hk;rcases hk with rfl | rfl | rfl | rfl
 ·exact nU (show(Hold.made B 4 n (List.replicate n (.bool false)) (e 4)).p w from h)
 ·exact nU (show(Hold.made B 4 m (List.replicate m (.bool false)) (e 8)).p w from h)
 ·exact agY (show(Hold.box B 70 (e 9)).p w from h)
 ·exact agY (show(Hold.box B 70 (e 10)).p w from h)
theorem abW {B n m x:Nat} {u v:Value} {w0:World} (j:Nat) (hj:j∈(dM B n m).cu) {E:List Nat} {e:Nat→Value} {w w':World} (hE:∀ k∈E,k∈[4,8,9,10,11]) (hu:∀ k∈(dM B n m).uses j,k∈E) (hnE:j ∉ E)
  (hf:∀ i∈E,(dM B n m).R i e w) (hA:(dM B n m).Apart E e) (hS:((Hold.cell x 1 u).and ((Hold.cell x 5 v).and (Hold.below B w0))).p w) (hx:x < B) (hG:(dM B n m).G j ((j :: (dM B n m).uses j).map e) w w') :
  ((Hold.cell x 1 u).and ((Hold.cell x 5 v).and (Hold.below B w0))).p w'∧∀ i∈E,(dM B n m).R i e w':=by
 simp only[dM,List.mem_cons,List.not_mem_nil,or_false] at hj;subst hj;obtain⟨b,hb,rfl⟩:∃ b,e 9 = .pointer (some ⟨b,0,none⟩)∧w'=w.setCell ⟨b,0,none⟩ (e 4):=hG;have h9:=hu 9 (by simp[dM]);obtain⟨b',y,hb',hBb,r9⟩:(Hold.box B 70 (e 9)).p w:=hf 9 h9;rw[hb] at hb';cases hb'
 have aiY:lM (e 9)=some b:=by rw[hb]; rfl
 obtain⟨s1,s2,s3,s4⟩:=hS;refine⟨⟨?_,?_,?_,?_⟩,fun i hi=>?_⟩
 ·exact(World.cell?_of_block (Below.heap_setCell _ _ _ _ (show x≠b by omega))).trans s1
 ·exact(World.cell?_of_block (Below.heap_setCell _ _ _ _ (show x≠b by omega))).trans s2
 ·simpa using s3
 ·exact s4.setCell (p:=⟨b,0,none⟩) hBb _
 ·have hi':=hE i hi;simp only[List.mem_cons,List.not_mem_nil,or_false] at hi';rcases hi' with rfl | rfl | rfl | rfl | rfl
  ·obtain⟨c,h1,h2,h3⟩:(Hold.made B 4 n (List.replicate n (.bool false)) (e 4)).p w:=hf 4 hi;have hne:=iT hA hi h9 (by simp[dM]) (by simp[dM]) (by decide) (show lM (e 4)=some c by rw[h1]; rfl) aiY;exact⟨c,h1,h2,h3.other (a:=⟨b,0,none⟩) hne _⟩
  ·obtain⟨c,h1,h2,h3⟩:(Hold.made B 4 m (List.replicate m (.bool false)) (e 8)).p w:=hf 8 hi;have hne:=iT hA hi h9 (by simp[dM]) (by simp[dM]) (by decide) (show lM (e 8)=some c by rw[h1]; rfl) aiY;exact⟨c,h1,h2,h3.other (a:=⟨b,0,none⟩) hne _⟩
  ·exact⟨b,e 4,hb,hBb,r9.set 0 _⟩
  ·obtain⟨c,y',h1,h2,h3⟩:(Hold.box B 70 (e 10)).p w:=hf 10 hi;have hne:=iT hA hi h9 (by simp[dM]) (by simp[dM]) (by decide) (show lM (e 10)=some c by rw[h1]; rfl) aiY;exact⟨c,y',h1,h2,h3.other (a:=⟨b,0,none⟩) hne _⟩
  ·exact absurd hi hnE
theorem adv (w:World) (F:Ag) (u:Value) (r:Int) (g:Gm) (par last:List Int) (sets:List (List Int)) (hv:Bo w F u g par last sets) (hin:Bd g) (hN:g.nodes.length≤1000) (hni:g.infos.length≤1000)
  (hll:last.length=g.nodes.length) (hla:∀ x∈last,x < (g.nodes.length:Int)) (hsl:sets.length=g.infos.length) (hsm:∀ l∈sets,l.length≤1000) (hsx:∀ l∈sets,∀ x∈l,0≤x∧x < (g.nodes.length:Int)) (hr:0≤r∧r < (g.nodes.length:Int)) :
  Calls Tryz.prog 92 #[u,.int .i64 r] w (Ret w fun v w'=>AQ w' (fun b=>w.heap.size≤b) v (jv g.nodes last sets g.infos.length r)):=by
 have HV:=Ac (hv.keep (G:=fun b=>F b∧b < w.heap.size) (fun b hb hl=>⟨hb,hl⟩) (Same.refl _ _));obtain⟨vn,vi,vp,vl,vs,rfl,⟨A,c,rfl,hc,hN'⟩,⟨Ai,ci,rfl,hci,hI⟩,⟨Ap,cp,rfl,hcp,hP⟩,⟨Al,cl,rfl,hcl,hL⟩,⟨As,cs,rfl,hcs,hS⟩⟩:=hv;have HNO:=Ac (show AO w (fun b=>F b∧b < w.heap.size) (.slice A g.nodes.length c) g.nodes from AO.keep ⟨_,_,rfl,hc,hN'⟩ (fun b hb hl=>⟨hb,hl⟩) (Same.refl F w));have HLO:=Ac (show Ak w (fun b=>F b∧b < w.heap.size) (.slice Al last.length cl) last from Ak.keep ⟨_,_,rfl,hcl,hL⟩ (fun b hb hl=>⟨hb,hl⟩) (Same.refl F w));clear hN' hI hP hL;rw[hsl] at hS hcs ⊢;have HS:=Ac hS; clear hS;have HLL:=Ac hll; clear hll;have HLA:=Ac hla; clear hla;have HIN:=Ac hin; clear hin;have HSL:=Ac hsl; clear hsl;have HSM:=Ac hsm; clear hsm;have HSX:=Ac hsx; clear hsx;have hmf:∀ (fn:Fn) (first cap:Array Value) (w:World),(Instr.makeFunc fn first cap).run Tryz.prog w = .ok (.func fn first cap) w:=fun _ _ _ _=>rfl
 have hmc:=abV g.infos.length hni;have hcf:=enters Tryz.func148 (by decide +kernel) (by decide +kernel);go_enter Tryz.func92,Tryz.ntmps92;go_upto_region 1 with fail
 obtain⟨w1,hw1,hbx,hb1,hz1⟩:=aJ w 98 #[.int .i64 g.aj,.slice A g.nodes.length c,.slice Ai g.infos.length ci,.slice Ap par.length cp,.slice Al last.length cl,.slice As g.infos.length cs];rw[← hw1];clear hw1 hz1;go_cut [5,6] from 11 to 19 (fun v5 v6 wx=>∃ bi di bf df,v5 = .pointer (some ⟨bi,0,none⟩)∧v6 = .pointer (some ⟨bf,0,none⟩)∧Row wx w.heap.size 98 [.int .i64 g.aj,.slice A g.nodes.length c,.slice Ai g.infos.length ci,.slice Ap par.length cp,.slice Al last.length cl,.slice As g.infos.length cs]∧Row wx bi 70 [.slice (some ⟨di,0,none⟩) g.nodes.length g.nodes.length]∧Row wx bf 70 [.slice (some ⟨df,0,none⟩) g.infos.length g.infos.length]∧Row wx di 4 (List.replicate g.nodes.length (.bool false))∧Row wx df 4 (List.replicate g.infos.length (.bool false))∧Below w.heap.size w wx∧w.heap.size < bi∧w.heap.size < di∧w.heap.size < bf∧w.heap.size < df∧bi≠di∧bi≠df∧bf≠di∧bf≠df∧di≠df)
 case first =>
  refine dQ (fun w'=>w'.cell? ⟨w.heap.size,1,none⟩=some (.slice A g.nodes.length c)∧w'.cell? ⟨w.heap.size,5,none⟩=some (.slice As g.infos.length cs)) 12 1 (by kernel_rfl) rfl (by kernel_rfl) ?_;have hHeld:(fun w':World=>w'.cell? ⟨w.heap.size,1,none⟩=some (.slice A g.nodes.length c)∧w'.cell? ⟨w.heap.size,5,none⟩=some (.slice As g.infos.length cs)) w1.drew:=⟨hbx.cell rfl,hbx.cell rfl⟩;simp only[List.take_succ_cons,List.take_zero];refine tk0 [0,1,2,3,5,6,7] ?_;iterate 7 (refine tk (v:=?_) rfl (by kernel_rfl) (by kernel_rfl) (by kernel_rfl) (fun _ _ _ h=>h) (Or.inl ⟨by rfl,?_⟩) hHeld ?_;rotate_left;(focus intro wx hSx;(try dsimp only at hSx);go_split_ands;go_simp;try with_reducible rfl);try simp only[Act.put,lq1,lq2,lq3,lq4,lq5,lq6])
  refine tk1 ?_;obtain⟨w0,hw0⟩:∃ W,W=w1.drew:=⟨_,rfl⟩;have hbx0:Row w0 _ _ _:=hw0▸hbx.drew;have hB0:Below w.heap.size w w0:=hw0▸hb1.drew;rw[← hw0] at hHeld ⊢;clear hw0 hbx hb1;have hz0:=hbx0.lt;refine pI (js:=[4,8,9,10,11]) ((Hold.cell (w.heap.size) 1 (.slice A g.nodes.length c)).and ((Hold.cell (w.heap.size) 5 (.slice As g.infos.length cs)).and (Hold.below w0.heap.size w0))) (dM w0.heap.size g.nodes.length g.infos.length) (by kernel_rfl) (by kernel_rfl) ⟨hHeld.1,hHeld.2,Nat.le_refl _,Below.refl _ _⟩ (fun _ h=>⟨h.1,h.2.1⟩) (af6 _ _ _) (fun j hj E e _ w' hE hu hn hf hA hS hG=>abW j hj hE hu hn hf hA hS hz0 hG) ?_;refine AL.cons (o:=_) rfl (fun wk hS hf K hK=>?_) (fun v4=>?_)
  ·refine ifA rfl ?_;refine jR _ _ _ 70 rfl 4 (.bool false) 1 Tryz.underlying70 Tryz.infoBool rfl g.nodes.length rfl rfl (by omega) (by omega) ?_;intro W1 hb hz hr;exact hK.out _ _ ⟨hb,⟨_,rfl,hS.2.2.1,hr⟩,fun _ b hb=>by cases hb; exact Nat.le_refl _⟩
  try simp only[Act.put,lq1,lq2,lq3,lq4,lq5,lq6]
  refine AL.cons (o:=_) rfl (fun wk hS hf K hK=>?_) (fun v8=>?_)
  ·refine ifA rfl ?_;refine jR _ _ _ 70 rfl 4 (.bool false) 1 Tryz.underlying70 Tryz.infoBool rfl g.infos.length rfl rfl (by omega) (by omega) ?_;intro W1 hb hz hr;exact hK.out _ _ ⟨hb,⟨_,rfl,hS.2.2.1,hr⟩,fun _ b hb=>by cases hb; exact Nat.le_refl _⟩
  try simp only[Act.put,lq1,lq2,lq3,lq4,lq5,lq6]
  refine AL.cons (o:=_) rfl (fun wk hS hf K hK=>?_) (fun v9=>?_)
  ·go_simp;obtain⟨W1,hw,hr,hb,hz⟩:=aJ wk 70 #[.slice none 0 0];rw[← hw];exact hK.out _ _ ⟨hb,⟨_,_,rfl,hS.2.2.1,hr⟩,fun _ b hb=>by cases hb; exact Nat.le_refl _⟩
  try simp only[Act.put,lq1,lq2,lq3,lq4,lq5,lq6]
  refine AL.cons (o:=_) rfl (fun wk hS hf K hK=>?_) (fun v10=>?_)
  ·go_simp;obtain⟨W1,hw,hr,hb,hz⟩:=aJ wk 70 #[.slice none 0 0];rw[← hw];exact hK.out _ _ ⟨hb,⟨_,_,rfl,hS.2.2.1,hr⟩,fun _ b hb=>by cases hb; exact Nat.le_refl _⟩
  try simp only[Act.put,lq1,lq2,lq3,lq4,lq5,lq6]
  refine AL.cons (o:=_) rfl (fun wk hS hf K hK=>?_) (fun v11=>?_)
  ·have f9:Hold.p (Hold.box w0.heap.size 70 v9) wk:=hf 9 (by simp) (by kernel_rfl);have f4:Hold.p (Hold.made w0.heap.size 4 g.nodes.length (List.replicate g.nodes.length (.bool false)) v4) wk:=hf 4 (by simp) (by kernel_rfl);obtain⟨b9,x9,rfl,g9,r9⟩:=f9;obtain⟨b4,rfl,g4,r4⟩:=f4;have yy:=r9.cell (i:=0) rfl;have ff:=r9.frozen 0;go_simp;exact hK.out undef (wk.setCell ⟨b9,0,none⟩ (.slice (some ⟨b4,0,none⟩) g.nodes.length g.nodes.length)) ⟨⟨b9,rfl,rfl⟩,⟨b9,rfl,g9,r9.set 0 _⟩,fun h=>(by simp[dM] at h)⟩
  try simp only[Act.put,lq1,lq2,lq3,lq4,lq5,lq6]
  refine AL.nil (fun wE hS hf hA=>?_);have f4:Hold.p (Hold.made w0.heap.size 4 g.nodes.length (List.replicate g.nodes.length (.bool false)) v4) wE:=hf 4 (by simp);have f8:Hold.p (Hold.made w0.heap.size 4 g.infos.length (List.replicate g.infos.length (.bool false)) v8) wE:=hf 8 (by simp);have f10:Hold.p (Hold.box w0.heap.size 70 v10) wE:=hf 10 (by simp);have f11:Hold.p (Hold.boxed w0.heap.size 70 v9 v4) wE:=hf 11 (by simp);obtain⟨b4,rfl,g4,r4⟩:=f4; obtain⟨b8,rfl,g8,r8⟩:=f8; obtain⟨b10,x10,rfl,g10,r10⟩:=f10; obtain⟨b9,rfl,g9,r9⟩:=f11;have aiW:=iT hA (i:=4) (k:=8) (by simp) (by simp) (by simp[dM]) (by simp[dM]) (by decide) rfl rfl;have n4_9:=iT hA (i:=4) (k:=9) (by simp) (by simp) (by simp[dM]) (by simp[dM]) (by decide) rfl rfl;have ajh:=iT hA (i:=4) (k:=10) (by simp) (by simp) (by simp[dM]) (by simp[dM]) (by decide) rfl rfl;have n8_9:=iT hA (i:=8) (k:=9) (by simp) (by simp) (by simp[dM]) (by simp[dM]) (by decide) rfl rfl;have aji:=iT hA (i:=8) (k:=10) (by simp) (by simp) (by simp[dM]) (by simp[dM]) (by decide) rfl rfl;have n9_10:=iT hA (i:=9) (k:=10) (by simp) (by simp) (by simp[dM]) (by simp[dM]) (by decide) rfl rfl;have hV:=hS.2.2;have ac8:=hbx0.below hV.2 hbx0.lt;have hBE:=hB0.trans (hV.2.mono hB0.size);clear hS hV hHeld hbx0 hB0 hf hA;obtain⟨W,hW,c1,c2,c3,c4,c5,c6⟩:∃ W,W=wE.setCell ⟨b10,0,none⟩ (.slice (some ⟨b8,0,none⟩) g.infos.length g.infos.length)∧Row W w.heap.size _ _∧Row W b9 _ _∧Row W b10 _ _∧Row W b4 _ _∧Row W b8 _ _∧Below w.heap.size w W :=
   ⟨_,rfl,ac8.other (a:=⟨b10,0,none⟩) (by simp; omega) _,r9.other (a:=⟨b10,0,none⟩) (by simp; omega) _,r10.set 0 _,r4.other (a:=⟨b10,0,none⟩) (by simp; omega) _,r8.other (a:=⟨b10,0,none⟩) (by simp; omega) _,hBE.setCell (p:=⟨b10,0,none⟩) (by simp; omega) _⟩
  have y10:=r10.cell (i:=0) rfl; have z10:=r10.frozen 0;have HR:=Ac (And.intro c1 (And.intro c2 (And.intro c3 (And.intro c4 (And.intro c5 c6)))));clear c1 c2 c3 c4 c5 c6 r4 r8 r9 r10 ac8 hBE;show wpList _ _ _ _ _ _;go_wp2_with fail
  rw[← hW];clear hW y10 z10;show Exit.then _ _ .normal _ _;go_wp2_with fail
  go_meet
  exact⟨b9,b4,b10,b8,rfl,rfl,HR.out.1,HR.out.2.1,HR.out.2.2.1,HR.out.2.2.2.1,HR.out.2.2.2.2.1,HR.out.2.2.2.2.2,by omega,by omega,by omega,by omega,Ne.symm n4_9,Ne.symm n8_9,Ne.symm ajh,Ne.symm aji,aiW⟩
 case rest =>
  obtain⟨bi,di,bf,df,rfl,rfl,kT,ah2,ah3,hri,hrf,hB,g1,g2,g3,g4,g5,g6,g7,g8,g9⟩:=hcut;clear hbx hb1;have x5:=kT.cell (i:=5) rfl;have hlt:=kT.lt;go_wp2_with fail
  have hW1:Below wc.heap.size wc ((wc.alloc (.chan g.infos.length #[] false 0 0 false)).alloc (.cells #[.chan (some wc.heap.size)] 195)):=aS wc _ _ 0;have hbw:Row ((wc.alloc (.chan g.infos.length #[] false 0 0 false)).alloc (.cells #[.chan (some wc.heap.size)] 195)) (wc.heap.size+1) 195 [.chan (some wc.heap.size)]:=by
   have:=Row.new (wc.alloc (.chan g.infos.length #[] false 0 0 false)) 195 #[.chan (some wc.heap.size)];simpa using this
  have hchn:((wc.alloc (.chan g.infos.length #[] false 0 0 false)).alloc (.cells #[.chan (some wc.heap.size)] 195)).heap[wc.heap.size]? = some (.chan g.infos.length #[] false 0 0 false):=by
   rw[Below.heap_alloc _ _ _ (by simp)]; exact heap_alloc_new _ _
  generalize (wc.alloc (.chan g.infos.length #[] false 0 0 false)).alloc (.cells #[.chan (some wc.heap.size)] 195)=W at *;have hcl0:Bz W bi di bf df (wc.heap.size+1) wc.heap.size g.nodes.length g.infos.length ⟨List.replicate g.nodes.length false,List.replicate g.infos.length false,[]⟩ :=
   ⟨ah2.below hW1 ah2.lt,ah3.below hW1 ah3.lt,hbw,by simpa [kG] using hri.below hW1 hri.lt,by simpa [kG] using hrf.below hW1 hrf.lt,0,0,by simpa [dA] using hchn⟩
  have l1:=ah2.lt;have l2:=ah3.lt;have l3:=hri.lt;have l4:=hrf.lt;have hap:BN bi di bf df (wc.heap.size+1) wc.heap.size w.heap.size:=⟨g5,g6,by omega,g7,g8,by omega,by omega,by omega,by omega,g9,by omega,by omega,by omega,by omega,by omega⟩;have HAP:=Ac hap; clear hap;have HFF:=Ac (show ∀ k,(F k∧k < w.heap.size)→k≠di∧k≠df∧k≠wc.heap.size from fun k hk=>by omega);have dL:=kT.below hW1 kT.lt;have hBW:=hB.trans (hW1.mono hB.size);have hws:w.heap.size < wc.heap.size:=hlt;clear ah2 ah3 hri hrf hbw hchn hW1 kT hB x5 hlt;generalize wc.heap.size=ch at *;refine(adt g last bi di bf df (ch+1) ch w.heap.size HAP.out _ HFF.out HIN.out hN hni HLL.out HLA.out W _ r _ _ _ _ _ dL (HNO.out.on (Below.same' hBW _)) (HLO.out.on (Below.same' hBW _)) hcl0 (Cl.Ok.start _ _) hr).mono ?_;rintro e w2 ⟨rfl,ah4,hwr2⟩;have HOK:=Ac ((Cl.Ok.start g.nodes.length g.infos.length).jT HIN.out last r);have HLF:=Ac (abd (Cl.Ok.start g.nodes.length g.infos.length) HIN.out last r);have HCL:=Ac (show jv g.nodes last sets g.infos.length r=(jB g.nodes last sets g.infos.length (jT g.nodes last ⟨List.replicate g.nodes.length false,List.replicate g.infos.length false,[]⟩ r)).inn from rfl);generalize jT g.nodes last ⟨List.replicate g.nodes.length false,List.replicate g.infos.length false,[]⟩ r=s1 at *;have hbx2:=dL.wrote hwr2 (by rintro(h | h | h) <;> omega);have hB2:Below w.heap.size w w2:=Wrote.below hBW hwr2 (fun k hk=>by omega) hBW.size;clear hcl0 hwr2 dL hBW;dsimp only;go_wp2_with fail
  go_loopg [10] g.infos.length (fun f _ wr=>∃ s:Cl,s.left g.infos.length≤f∧Cl.Ok g.nodes.length g.infos.length s∧jv g.nodes last sets g.infos.length r=(jB g.nodes last sets f s).inn∧Bz wr bi di bf df (ch+1) ch g.nodes.length g.infos.length s∧Row wr w.heap.size 98 [.int .i64 g.aj,.slice A g.nodes.length c,.slice Ai g.infos.length ci,.slice Ap par.length cp,.slice Al last.length cl,.slice As g.infos.length cs]∧Below w.heap.size w wr)
  case atStart=>exact⟨s1,by rw[HLF.out]; unfold Cl.left; simp,HOK.out,HCL.out,ah4,hbx2,hB2⟩
  case round =>
   clear ah4 hbx2 hB2;obtain⟨s,hleft,hok,hval,hcl,hbx,hB⟩:=hrel;have HV2:=Ac hval; clear hval;have HO:=Ac hok; clear hok;have HC:=Ac hcl;have cw0:=hcl.cw.cell (i:=0) rfl;obtain⟨sn,rc,hch⟩:=hcl.chn;have HCH:=Ac hch;have hlen:=fun ty=>Go.Conc.run_len_chan (P:=Tryz.prog) (w:=wr) 195 ty Tryz.underlying195 hch
   clear hch;simp only[List.size_toArray,dA,List.length_map] at hlen;cases hq:s.q with
   | nil =>
    rw[hq] at hlen;have HQ:=Ac hq; clear hq;have ci0:=hcl.ci.cell (i:=0) rfl;go_wp2
    go_ret;have h1:=Row.bools (F:=fun b=>w.heap.size≤b) HC.out.ri (by omega) (c:=g.nodes.length) (by rw[HO.out.inn]; omega);rw[HO.out.inn] at h1;refine⟨_,rfl,hB,?_⟩;rw[HV2.out,adu HQ.out];exact h1
   | cons x q =>
    rw[hq] at hlen;obtain⟨hok2,hx0,hx1,hlf⟩:=HO.out.pop hq;have HQ:=Ac hq; clear hq;have HOK2:=Ac hok2; clear hok2;obtain⟨z,rfl⟩:=Int.eq_ofNat_of_zero_le hx0;have hz:z < g.infos.length:=by omega
    have x5:=hbx.cell (i:=5) rfl;obtain⟨f,rfl⟩:∃ f,gk=f+1:=⟨gk - 1,by omega⟩;have HV3:=Ac (show jv g.nodes last sets g.infos.length r=(jB g.nodes last sets f ((sets.getD z []).foldl (jT g.nodes last) ⟨s.inn,s.fnd,q⟩)).inn by
     rw[HV2.out,abU HQ.out]; simp)
    obtain⟨l,hl'⟩:=ak (l:=sets) (k:=z) (by rw[HSL.out]; exact hz);have hs0:=HSL.out;obtain⟨bs,os,hAs,_,hbs,hxs⟩:=HS.out (by omega);subst hAs;obtain⟨vl',el,Av,cv,rfl,hcv,hAv⟩:=hxs z l hl';rw[Nat.mul_one,← aA hB _ _ hbs] at el;have hl1:=HSM.out l (List.mem_of_getElem? hl');have HLX:=Ac (HSX.out l (List.mem_of_getElem? hl'));have HGD:=Ac (show sets.getD z []=l by simp[List.getD_eq_getElem?_getD,hl']);have HAV:=Ac hAv;have HLF2:=Ac hlf;clear hl' hxs hAv hs0 hlf;go_upto_region 6 with fail
    go_cut [36,37,38] from 28 to 45 (fun v36 v37 v38 wx=>v36 = .slice Av l.length cv∧v37 = .int .i64 l.length∧v38 = .int .i64 0∧Bz wx bi di bf df (ch+1) ch g.nodes.length g.infos.length ⟨s.inn,s.fnd,q⟩∧Row wx w.heap.size 98 [.int .i64 g.aj,.slice A g.nodes.length c,.slice Ai g.infos.length ci,.slice Ap par.length cp,.slice Al last.length cl,.slice (some ⟨bs,os,none⟩) g.infos.length cs]∧Below w.heap.size w wx)
    case first =>
     have ahC:wr.drew.heap[ch]? = some (.chan g.infos.length (Value.int .i64 (z:Int) :: dA q).toArray false sn rc false):=by
      have:=HCH.out; rw[HQ.out] at this; exact this
     have hcl0:Bz wr.drew bi di bf df (ch+1) ch g.nodes.length g.infos.length s:=hcl.drew;have hbx0:Row wr.drew w.heap.size _ _:=hbx.drew;have hB0:Below w.heap.size w wr.drew:=hB.drew;have el0:wr.drew.cell? ⟨bs,os+z,none⟩=some (.slice Av l.length cv):=el;clear el x5 hlen cw0 HC HCH hbx hB hcl;refine vV (js:=[0,1,2,3,4,5,6,7]) (c:=3) (W1:=wr.drew.setChan ch g.infos.length (dA q).toArray false sn (rc+1) false) (by kernel_rfl) (by kernel_rfl) (by decide) ?_;generalize wr.drew=W0 at *;have ah5:=hcl0.setC HAP.out q (buf:=(dA q).toArray) rfl sn (rc+1);have dL:Row (W0.setChan ch g.infos.length (dA q).toArray false sn (rc+1) false) w.heap.size _ _:=hbx0.of_block (heap_setChan_ne _ _ _ _ _ _ _ _ (by omega));have hB1:Below w.heap.size w (W0.setChan ch g.infos.length (dA q).toArray false sn (rc+1) false):=Go.Conc.below_setChan hB0 (by omega) _ _ _ _ _ _;have el1:(W0.setChan ch g.infos.length (dA q).toArray false sn (rc+1) false).cell? ⟨bs,os+z,none⟩=some (.slice Av l.length cv):=by
      rw[World.cell?_of_block (w:=W0) (heap_setChan_ne _ _ _ _ _ _ _ _ (show bs≠ch by omega))]; exact el0
     obtain⟨W1,hW1⟩:∃ W1,W1=W0.setChan ch g.infos.length (dA q).toArray false sn (rc+1) false:=⟨_,rfl⟩;rw[← hW1] at ah5 dL hB1 el1 ⊢;have HW1:=Ac hW1; clear hW1;have HCH0:=Ac ahC; clear ahC;have x5:=hbx0.cell (i:=5) rfl;have x51:=dL.cell (i:=5) rfl;have cw0:=hcl0.cw.cell (i:=0) rfl;have cw1:=ah5.cw.cell (i:=0) rfl;have HHH:=Ac (And.intro ah5 (And.intro dL hB1));clear hcl0 ah5 hbx0 dL hB0 hB1;refine AV.val (by decide) rfl (by rfl) (by go_simp; try (with_reducible rfl)) (by go_simp; try (with_reducible rfl)) ?_;try simp only[Act.put,lq1,lq2,lq3,lq4,lq5,lq6]
     refine AV.val (by decide) rfl (by rfl) (by go_simp; try (with_reducible rfl)) (by go_simp; try (with_reducible rfl)) ?_;try simp only[Act.put,lq1,lq2,lq3,lq4,lq5,lq6]
     refine AV.val (by decide) rfl (by rfl) (by go_simp; try (with_reducible rfl)) (by go_simp; try (with_reducible rfl)) ?_;try simp only[Act.put,lq1,lq2,lq3,lq4,lq5,lq6]
     refine AV.recv (z:=.int .i64 0) rfl (by rfl) (by simp[go_sem,Go.Conc.rcase]) HCH0.out HW1.out ?_;try simp only[Act.put,lq1,lq2,lq3,lq4,lq5,lq6]
     refine AV.val (by decide) rfl (by rfl) (by go_simp; try (with_reducible rfl)) (by go_simp; try (with_reducible rfl)) ?_;try simp only[Act.put,lq1,lq2,lq3,lq4,lq5,lq6]
     refine AV.val (by decide) rfl (by rfl) (by go_simp; try (with_reducible rfl)) (by go_simp; try (with_reducible rfl)) ?_;try simp only[Act.put,lq1,lq2,lq3,lq4,lq5,lq6]
     refine AV.val (by decide) rfl (by rfl) (by go_simp; try (with_reducible rfl)) (by go_simp; try (with_reducible rfl)) ?_;try simp only[Act.put,lq1,lq2,lq3,lq4,lq5,lq6]
     refine AV.val (by decide) rfl (by rfl) (by go_simp; try (with_reducible rfl)) (by go_simp; try (with_reducible rfl)) ?_;try simp only[Act.put,lq1,lq2,lq3,lq4,lq5,lq6]
     unfold AV;go_wp2_with fail
     go_meet
     exact⟨rfl,rfl,rfl,HHH.out.1,HHH.out.2.1,HHH.out.2.2⟩
    case rest =>
     obtain⟨rfl,rfl,rfl,hcl3,nK,hB3⟩:=hcut;clear el x5 hlen cw0 HC HCH hbx hB hcl;go_wp2
     go_loopg [10,38] l.length (fun k _ i wi=>∃ j:Nat,j≤l.length∧k=l.length - j∧i = .int .i64 j∧Bz wi bi di bf df (ch+1) ch g.nodes.length g.infos.length ((l.take j).foldl (jT g.nodes last) ⟨s.inn,s.fnd,q⟩)∧Row wi w.heap.size 98 [.int .i64 g.aj,.slice A g.nodes.length c,.slice Ai g.infos.length ci,.slice Ap par.length cp,.slice Al last.length cl,.slice (some ⟨bs,os,none⟩) g.infos.length cs]∧Below w.heap.size w wi)
     case atStart=>exact⟨0,by omega,by omega,rfl,hcl3,nK,hB3⟩
     case round =>
      clear hcl3 nK hB3;obtain⟨j,hj,hgk,rfl,hcl,hbx,hB⟩:=hrel;have HGK:=Ac hgk; clear hgk;have HOJ:=Ac (wG HIN.out last (l.take j) _ HOK2.out).1;by_cases hjt:j < l.length
      ·obtain⟨bv,ov,rfl,_,hbv,hxv⟩:=HAV.out (by omega);obtain⟨h,hh⟩:=ak hjt;have eh:=hxv j h hh;unfold fF at eh;rw[Nat.mul_one,← aA hB _ _ hbv] at eh;have hhr:=HLX.out h (List.mem_of_getElem? hh);have HTK:=Ac (show(l.take (j+1)).foldl (jT g.nodes last) ⟨s.inn,s.fnd,q⟩=jT g.nodes last ((l.take j).foldl (jT g.nodes last) ⟨s.inn,s.fnd,q⟩) h by rw[take_snoc hh]; simp[List.foldl_append]);clear hh hxv;generalize (l.take j).foldl (jT g.nodes last) ⟨s.inn,s.fnd,q⟩=t at *;go_wp2_with fail
       refine(adt g last bi di bf df (ch+1) ch w.heap.size HAP.out _ HFF.out HIN.out hN hni HLL.out HLA.out _ _ h _ _ _ _ _ hbx (HNO.out.on (Below.same' hB _)) (HLO.out.on (Below.same' hB _)) hcl HOJ.out hhr).mono ?_;rintro e w5 ⟨rfl,hcl5,aiZ⟩;have hbx5:=hbx.wrote aiZ (by rintro(h | h | h) <;> omega);have hB5:Below w.heap.size w w5:=Wrote.below hB aiZ (fun k hk=>by omega) hB.size;clear hcl hbx hB aiZ eh;dsimp only;go_wp2
       go_roundg (l.length - (j+1))
       case measure=>rw[HGK.out]; omega
       case rel=>exact⟨j+1,by omega,rfl,by go_num,by rw[HTK.out]; exact hcl5,hbx5,hB5⟩
      ·have HTK:=Ac (show l.take j=l from List.take_of_length_le (by omega));rw[HTK.out] at HOJ hcl;go_wp2
       go_roundg f
       case measure=>omega
       case rel =>
        refine⟨_,?_,HOJ.out,by rw[HV3.out,HGD.out],hcl,hbx,hB⟩;rw[(wG HIN.out last l _ HOK2.out).2];have:=HLF2.out;omega
def nG (inn:List Bool) (par:List Int) (i:Nat):Bool:=inn.getD i false&&(decide (i=0) || !inn.getD (par.getD i 0).toNat false)
def jC (inn:List Bool) (par:List Int) (k:Nat):List Int:=((List.range k).filter (nG inn par)).map fun i:Nat=>(i:Int)
theorem abX (inn:List Bool) (par:List Int) (k:Nat):jC inn par (k+1)=jC inn par k++(if nG inn par k then [(k:Int)] else []):=by
 unfold jC;rw[List.range_succ,List.filter_append,List.map_append];cases h:nG inn par k <;> simp[h]
theorem zQ (inn:List Bool) (par:List Int) (k:Nat):(jC inn par k).length≤k:=by
 unfold jC;rw[List.length_map];refine Nat.le_trans (List.length_filter_le _ _) ?_;simp
theorem af7 (nodes:List Nd) (s:Cl) (i:Nat):(putAt nodes s i).inn.length=s.inn.length:=by
 unfold putAt;split
 ·split <;> simp
 ·rfl
theorem adw (nodes:List Nd) (last:List Int) (s:Cl) (r:Int):(jT nodes last s r).inn.length=s.inn.length:=by
 unfold jT;split
 ·rfl
 ·generalize (last.getD r.toNat 0+1 - r).toNat=j;induction j with
  | zero=>rfl
  | succ j ih=>show(putAt nodes (lN nodes s r.toNat j) (r.toNat+j)).inn.length=_; rw[af7,ih]
theorem xE (nodes:List Nd) (last:List Int) (sets:List (List Int)):∀ (f:Nat) (s:Cl),(jB nodes last sets f s).inn.length=s.inn.length
 | 0,s=>rfl
 | f+1,s=>by
  rw[jB];split
  ·rfl
  ·rename_i x q _
   rw[xE nodes last sets f];suffices ∀ (l:List Int) (t:Cl),(l.foldl (jT nodes last) t).inn.length=t.inn.length by rw[this]
   intro l;induction l with
   | nil=>intro t; rfl
   | cons y l ih=>intro t; rw[List.foldl_cons,ih,adw]
theorem xU (nodes:List Nd) (last:List Int) (sets:List (List Int)) (ni:Nat) (r:Int):(jv nodes last sets ni r).length=nodes.length:=by
 unfold jv; rw[xE,adw]; simp
theorem rD {N:Nat} (q:Nat) (hq:q < N):∀ (cs:List Int) (s:List Int×List Int),(∀ i x,s.1[i]? = some x→i≠0→0≤x∧x < (N:Int))→∀ i x,(dR q cs s).1[i]? = some x→i≠0→0≤x∧x < (N:Int)
 | [],s,h=>h
 | c :: cs,s,h=>by
  show ∀ i x,(dR q cs _).1[i]? = some x→_;refine rD q hq cs _ fun i x hi h0=>?_
  simp only at hi;rw[List.getElem?_set] at hi;split at hi
  ·split at hi
   ·cases hi; omega
   ·cases hi
  ·exact h i x hi h0
theorem abY (nodes:List Nd) (h0:0 < nodes.length) (m:Nat):∀ i x,(gI nodes m).1[i]? = some x→i≠0→0≤x∧x < (nodes.length:Int):=by
 induction m with
 | zero =>
  intro i x hi hne;unfold gI at hi;simp only at hi;rw[List.getElem?_set_ne (by omega)] at hi;have:=aG hi;simp at this;simp[this] at hi;omega
 | succ m ih =>
  unfold gI qX;split
  ·exact rD _ (by omega) _ _ ih
  ·exact ih
def iI (g:Gm) (node:Int):Int:=if bD g≠0 then bD g else if hasB g.nodes.length node then 0 else 2
def qc (g:Gm) (node:Int):List Int:=if iI g node=0 then jC (jv g.nodes (aH g.nodes).2 (aT g) g.infos.length node) (aH g.nodes).1 g.nodes.length else []
def Dv (B:Nat) (e:Int) (l:List Int) (v:Value) (w':World):Prop:=∃ v1,v = .tuple #[v1,.int .i64 e]∧Ak w' (fun b=>B≤b) v1 l
theorem af8 (w:World) (F:Ag) (u:Value) (node:Int) (g:Gm) (hg:Az w F u g) (hsm:Small g) (fM:Cc g) :
  Calls Tryz.prog 44 #[u,.int .i64 node] w (Ret w (Dv w.heap.size (iI g node) (qc g node))):=by
 have HG:=Ac hg;obtain⟨vn,vi,rfl,⟨A,c,rfl,hc,hN⟩,⟨Ai,ci,rfl,hci,hI⟩⟩:=hg;clear hN hI;have hn:=hsm.nodes;have hni:=hsm.infos;have HS:=Ac hsm; clear hsm;have HFI:=Ac fM; clear fM;go_enter Tryz.func44,Tryz.ntmps44;go_wp2_with fail
 refine(vG _ F _ g (HG.out.on (Same.alloc _ _ _)) HS.out).mono ?_;rintro e w1 ⟨_,rfl,hb1,vv,rfl,hv1,hv2⟩;have hB:Below w.heap.size w w1:=((Below.refl w.heap.size w).alloc (Nat.le_refl _) _).trans (hb1.mono (by simp));simp only[World.size_alloc] at hv2;clear hb1;have HV1:=Ac hv1; have HV2:=Ac hv2; clear hv1 hv2;have HLE:=Ac (show iI g node=if bD g≠0 then bD g else if hasB g.nodes.length node then 0 else 2 from rfl);have HLP:=Ac (show qc g node=if iI g node=0 then jC (jv g.nodes (aH g.nodes).2 (aT g) g.infos.length node) (aH g.nodes).1 g.nodes.length else [] from rfl);have HGD:=Ac (fun h:bD g=0=>And.intro (ku h) (HFI.out h));generalize bD g=er at *;dsimp only;by_cases he:er=0
 ·have HVX:=Ac (HV2.out he);obtain⟨hgd,hfl⟩:=HGD.out he;have HE2:=Ac (show iI g node=if hasB g.nodes.length node then 0 else 2 by rw[HLE.out,if_neg (by simpa using he)]);have HFL:=Ac hfl.last;have HIN:=Ac hgd.infos;have HPR:=Ac (abY g.nodes hgd.pos g.nodes.length);have hp:=hgd.pos;subst he;clear hgd hfl HV1 HV2 HGD HFI;have HVY:=Ac HVX.out;obtain⟨vn',vi',vp,vl,vs,rfl,⟨An,cn,rfl,hcn,hN'⟩,⟨Ax,cx,rfl,hcx,hI'⟩,⟨Ap,cp,rfl,hcp,hP'⟩,⟨Al,cl,rfl,hcl,hL'⟩,⟨As,cs,rfl,hcs,hS'⟩⟩:=HVX.out;clear hN' hI' hL' hS' HVX;have HPP:=Ac hP'; clear hP';go_wp2_with fail
  obtain⟨W,hW,hbx,hWb,hWz⟩:=aJ w1 98 #[.int .i64 g.aj,.slice An g.nodes.length cn,.slice Ax g.infos.length cx,.slice Ap (aH g.nodes).1.length cp,.slice Al (aH g.nodes).2.length cl,.slice As (aT g).length cs];rw[← hW];clear hW hWz;have hBW:=hB.trans (hWb.mono hB.size);have hlt1:=hbx.lt;refine(abP _ (fun b=>F b∨w.heap.size+1≤b) _ node g (aH g.nodes).1 (aH g.nodes).2 (aT g) (HVY.out.on (Below.same' hWb _))).mono ?_;rintro e w2 ⟨_,rfl,hb2,rfl⟩;have hbx2:=hbx.below hb2 hbx.lt;have hB2:=hBW.trans (hb2.mono hBW.size);have h12:=hWb.trans (hb2.mono hWb.size);have hlt2:=hbx2.lt;clear hbx hBW hb2 hB hWb;have HHB:=Ac (show hasB g.nodes.length node=(decide (0≤node)&&decide (node < (g.nodes.length:Int))) from rfl);generalize hasB g.nodes.length node=hb at *;dsimp only;cases hb
  ·have HF:=Ac (show iI g node=2 by rw[HE2.out]; rfl);go_wp2
   go_ret2;exact⟨_,rfl,hB2,.slice none 0 0,by rw[HF.out]; rfl,by rw[HLP.out,HF.out]; exact nC _ _⟩
  ·have HF:=Ac (show iI g node=0 by rw[HE2.out]; rfl);have hnr:0≤node∧node < (g.nodes.length:Int):=by have:=HHB.out; simp at this; omega
   have x0:=hbx2.cell (i:=0) rfl;have x1:=hbx2.cell (i:=1) rfl;have x2:=hbx2.cell (i:=2) rfl;have x3:=hbx2.cell (i:=3) rfl;have x4:=hbx2.cell (i:=4) rfl;have x5:=hbx2.cell (i:=5) rfl;go_wp2_with fail
   refine(adv _ (fun b=>F b∨w.heap.size+1≤b) _ node g (aH g.nodes).1 (aH g.nodes).2 (aT g) (HVY.out.on (Below.same' h12 _)) HIN.out (by omega) (by omega) (dX _ _).2 HFL.out (bC _ _ _) (bZ HS.out).2 (fun l hl x hx=>mF (Nat.le_refl _) l hl x hx) hnr).mono ?_;rintro e w3 ⟨vb,rfl,hb3,hvb⟩;have nK:=hbx2.below hb3 hbx2.lt;have hB3:=hB2.trans (hb3.mono hB2.size);have h13:=h12.trans (hb3.mono h12.size);have hil:=xU g.nodes (aH g.nodes).2 (aT g) g.infos.length node;have HLP2:=Ac (show qc g node=jC (jv g.nodes (aH g.nodes).2 (aT g) g.infos.length node) (aH g.nodes).1 g.nodes.length by rw[HLP.out,HF.out]; rfl);have hpl:=(dX g.nodes g.nodes.length).1;have HPR2:=Ac (show ∀ i x,(aH g.nodes).1[i]? = some x→i≠0→0≤x∧x < (g.nodes.length:Int) from HPR.out);have hpl:(aH g.nodes).1.length=g.nodes.length:=hpl;clear x0 x1 x2 x3 x4 x5 hbx2 hB2 h12 hb3 HHB hnr;generalize jv g.nodes (aH g.nodes).2 (aT g) g.infos.length node=inn at *;obtain⟨Ab,cb,rfl,hcb,hBb⟩:=hvb;have HBB:=Ac hBb; clear hBb;have hlt3:=nK.lt;have HIL:=Ac hil; have HPL:=Ac hpl; clear hil hpl;dsimp only;go_wp2
   have hi100:inn.length≤100:=by have:=HIL.out; omega
   go_loopw [9,10,11,29] (fun vo _ _ i wr=>∃ k:Nat,k≤inn.length∧i = .int .i64 k∧wr.ownsRow w3.heap.size 3 1 vo (jC inn (aH g.nodes).1 k).length ((jC inn (aH g.nodes).1 k).map (Value.int .i64))∧Below w3.heap.size w3 wr) (fun _ _ _ i _=>inn.length - (intOf i).toNat)
   case atStart=>exact⟨0,by omega,rfl,World.ownsRow_nil _ _ _ _,Below.refl _ _⟩
   case round =>
    obtain⟨k,hk,rfl,hown,hbel⟩:=hrel;have HO:=Ac hown; clear hown;have hlen:=zQ inn (aH g.nodes).1 k;have HST:=Ac (abX inn (aH g.nodes).1 k);by_cases hlt:k < inn.length
    ·obtain⟨bu,ou,rfl,_,hbu,hxu⟩:=HBB.out (by omega);obtain⟨y,hy⟩:=ak hlt;have ey:=hxu k y hy;unfold qm at ey;rw[Nat.mul_one,← aA hbel _ _ hbu] at ey;have HY:=Ac (show inn.getD k false=y by simp[List.getD_eq_getElem?_getD,hy]);clear hy;cases y
     ·have HR:=Ac (show nG inn (aH g.nodes).1 k=false by unfold nG; rw[HY.out]; rfl);go_wp2
      go_roundw
      case rel=>exact⟨k+1,by omega,by go_num,by rw[HST.out,HR.out]; simpa using HO.out,hbel⟩
      case measure=>simp[intOf] <;> omega
     ·by_cases hk0:k=0
      ·have HR:=Ac (show nG inn (aH g.nodes).1 k=true by unfold nG; rw[HY.out]; simp[hk0]);have hd0:((k:Int)==0)=true:=by simp[hk0]
       clear hk0 hxu;go_wp2_with (at_builtin; refine gX rfl _ _ rfl w3.heap.size _ (jC inn (aH g.nodes).1 k) rfl (HO.out.alloc _) wr.heap.size k rfl (heap_alloc_new _ _) (by omega) (by have:=hbel.size; simp; omega) ?_; intro gg cap w4 hown4 hgrow hat hlt4; have adx:Below w3.heap.size w3 w4:=(hbel.alloc hbel.size _).grown hgrow (by have:=hbel.size; simp; omega) (fun k hk=>(HO.out.lt k hk).1); have HO4:=Ac hown4; clear hown4 hgrow hat hlt4)
       go_roundw
       case rel=>exact⟨k+1,by omega,by go_num,by rw[HST.out,HR.out]; simpa using HO4.out,adx⟩
       case measure=>simp[intOf] <;> omega
      ·have hd0:((k:Int)==0)=false:=by simp; omega
       obtain⟨x,hx⟩:=ak (l:=(aH g.nodes).1) (k:=k) (by have:=HPL.out; have:=HIL.out; omega);obtain⟨bp,op,rfl,_,hbp,hxp⟩:=HPP.out (by have:=HPL.out; omega);have ep:=hxp k x hx;unfold fF at ep;rw[Nat.mul_one,← aA h13 _ _ hbp,← aA hbel _ _ (by have:=h13.size; omega)] at ep;obtain⟨hx0,hx1⟩:=HPR2.out k x hx hk0;obtain⟨z,rfl⟩:=Int.eq_ofNat_of_zero_le hx0;have hzi:z < inn.length:=by have:=HIL.out; omega
       have hkp:k < (aH g.nodes).1.length:=by have:=HPL.out; have:=HIL.out; omega
       obtain⟨y2,hy2⟩:=ak hzi;have ez:=hxu z y2 hy2;unfold qm at ez;rw[Nat.mul_one,← aA hbel _ _ hbu] at ez;have HRR:=Ac (show nG inn (aH g.nodes).1 k = !y2 by unfold nG; rw[HY.out]; simp[List.getD_eq_getElem?_getD,hx,hy2,hk0]);have x3:=(nK.below hbel nK.lt).cell (i:=3) rfl;clear hx hxp hy2 hxu hk0;cases y2
       ·have HR:=Ac (show nG inn (aH g.nodes).1 k=true by rw[HRR.out]; rfl);go_wp2_with (at_builtin; refine gX rfl _ _ rfl w3.heap.size _ (jC inn (aH g.nodes).1 k) rfl (HO.out.alloc _) wr.heap.size k rfl (heap_alloc_new _ _) (by omega) (by have:=hbel.size; simp; omega) ?_; intro gg cap w4 hown4 hgrow hat hlt4; have adx:Below w3.heap.size w3 w4:=(hbel.alloc hbel.size _).grown hgrow (by have:=hbel.size; simp; omega) (fun k hk=>(HO.out.lt k hk).1); have HO4:=Ac hown4; clear hown4 hgrow hat hlt4)
        go_roundw
        case rel=>exact⟨k+1,by omega,by go_num,by rw[HST.out,HR.out]; simpa using HO4.out,adx⟩
        case measure=>simp[intOf] <;> omega
       ·have HR:=Ac (show nG inn (aH g.nodes).1 k=false by rw[HRR.out]; rfl);go_wp2
        go_roundw
        case rel=>exact⟨k+1,by omega,by go_num,by rw[HST.out,HR.out]; simpa using HO.out,hbel⟩
        case measure=>simp[intOf] <;> omega
    ·go_wp2
     go_ret2;have hke:k=g.nodes.length:=by have:=HIL.out; omega
     have z3:=hB3.size;refine⟨_,rfl,hB3.trans (hbel.mono z3),u9,by rw[HF.out]; rfl,?_⟩;rw[HLP2.out,← hke];exact Own.ints (by simpa [Own] using HO.out) (fun b hb=>by have:=(HO.out.lt b hb).1; omega)
 ·have hd:(er != 0)=true:=by simp[he]
  have HF:=Ac (show iI g node=er by rw[HLE.out,if_pos he]);obtain rfl:=HV1.out he;have HNZ:=Ac he; clear he;unfold noView;go_wp2
  go_ret2;exact⟨_,rfl,hB.alloc hB.size _,.slice none 0 0,by rw[HF.out]; rfl,by rw[HLP.out,HF.out,if_neg HNZ.out]; exact nC _ _⟩
def iE (a b h:Int):Bool:=decide (a≤h)&&decide (h≤b)
def yh (a b:Int) (l:List Int):Bool:=decide (0 < l.countP (iE a b))&&decide (l.countP (iE a b) < l.length)
def kK (last:List Int) (sets:List (List Int)) (node:Int):Bool:=sets.all fun l=>!yh node (last.getD node.toNat 0) l
theorem aeB {l:List Int} {p:Int→Bool} {k:Nat} {x:Int} (h:l[k]? = some x):(l.take (k+1)).countP p=(l.take k).countP p+(if p x then 1 else 0):=by
 rw[take_snoc h,List.countP_append];cases hx:p x <;> simp[hx]
theorem abe (w:World) (F:Ag) (u:Value) (r:Int) (g:Gm) (par last:List Int) (sets:List (List Int)) (hv:Bo w F u g par last sets) (hs:sets.length≤1000) (hsl:∀ l∈sets,l.length≤1000) (hll:last.length=g.nodes.length) (hr:0≤r∧r < (g.nodes.length:Int)) :
  Calls Tryz.prog 84 #[u,.int .i64 r] w (Ret w fun v _=>v = .bool (kK last sets r)):=by
 obtain⟨vn,vi,vp,vl,vs,rfl,⟨A,c,rfl,hc,hN'⟩,⟨Ai,ci,rfl,hci,hI⟩,⟨Ap,cp,rfl,hcp,hP⟩,⟨Al,cl,rfl,hcl,hL⟩,⟨As,cs,rfl,hcs,hS⟩⟩:=hv;clear hN' hI hP;obtain⟨q,rfl⟩:=Int.eq_ofNat_of_zero_le hr.1;obtain⟨bl,ol,rfl,_,hbl,hxl⟩:=hL (by omega);obtain⟨y,hy⟩:=ak (l:=last) (k:=q) (by omega);have el:=hxl q y hy;unfold fF at el;rw[Nat.mul_one] at el;have hql:q < last.length:=by omega
 have HAL:=Ac (show kK last sets (q:Int)=sets.all fun l=>!yh q y l by unfold kK; simp[List.getD_eq_getElem?_getD,hy]);have HS:=Ac hS; clear hS hL hxl hy hll hr;have HSL:=Ac hsl; clear hsl;go_enter Tryz.func84,Tryz.ntmps84;go_wp2
 obtain⟨W,hW,hbx,hWb,hWz⟩:=aJ w 98 #[.int .i64 g.aj,.slice A g.nodes.length c,.slice Ai g.infos.length ci,.slice Ap par.length cp,.slice (some ⟨bl,ol,none⟩) last.length cl,.slice As sets.length cs];rw[← hW];clear hW hWz;have x4:=hbx.cell (i:=4) rfl;rw[← aA hWb _ _ hbl] at el;go_loop [6,7,9,13] (fun _ _ _ i=>∃ k:Nat,k≤sets.length∧i = .int .i64 k∧(sets.take k).all (fun l=>!yh q y l)=true) (fun _ _ _ i=>sets.length - (intOf i).toNat)
 case atStart=>exact⟨0,by omega,rfl,rfl⟩
 case round =>
  obtain⟨k,hk,rfl,hpre⟩:=hrel;have HP:=Ac hpre; clear hpre;by_cases hlt:k < sets.length
  ·obtain⟨bs,os,rfl,_,hbs,hxs⟩:=HS.out (by omega);obtain⟨l,hl'⟩:=ak hlt;obtain⟨vl',ev,Av,cv,rfl,hcv,hAv⟩:=hxs k l hl';rw[Nat.mul_one,← aA hWb _ _ hbs] at ev;have hl1:=HSL.out l (List.mem_of_getElem? hl');have HLK:=Ac hl';have HAV:=Ac hAv;clear hl' hxs hAv;go_wp2
   go_loop [7,9,19] (fun n _ i=>∃ j:Nat,j≤l.length∧i = .int .i64 j∧n = .int .i64 (((l.take j).countP (iE q y):Nat):Int)) (fun _ _ i=>l.length - (intOf i).toNat)
   case atStart=>exact⟨0,by omega,rfl,rfl⟩
   case round =>
    obtain⟨j,hj,rfl,rfl⟩:=hrel;have ah4:(l.take j).countP (iE q y)≤j:=Nat.le_trans List.countP_le_length (by simp; omega);by_cases hjt:j < l.length
    ·obtain⟨bv,ov,rfl,_,hbv,hxv⟩:=HAV.out (by omega);obtain⟨h,hh⟩:=ak hjt;have eh:=hxv j h hh;unfold fF at eh;rw[Nat.mul_one,← aA hWb _ _ hbv] at eh;have HCS:=Ac (aeB (p:=iE q y) hh);clear hh hxv;generalize (l.take j).countP (iE q y)=cn at *;by_cases q1:(q:Int)≤h
     ·by_cases q2:h≤y
      ·have HC:=Ac (show(l.take (j+1)).countP (iE q y)=cn+1 by rw[HCS.out]; simp[iE,q1,q2]);go_wp2
       go_round
       case rel=>exact⟨j+1,by omega,by go_num,by rw[HC.out]; go_num⟩
       case measure=>simp[intOf] <;> omega
      ·have HC:=Ac (show(l.take (j+1)).countP (iE q y)=cn by rw[HCS.out]; simp[iE,q2]);have d2:decide (h≤y)=false:=decide_eq_false q2;go_wp2
       go_round
       case rel=>exact⟨j+1,by omega,by go_num,by rw[HC.out]⟩
       case measure=>simp[intOf] <;> omega
     ·have HC:=Ac (show(l.take (j+1)).countP (iE q y)=cn by rw[HCS.out]; simp[iE,q1]);have d1:decide ((q:Int)≤h)=false:=decide_eq_false q1;go_wp2
      go_round
      case rel=>exact⟨j+1,by omega,by go_num,by rw[HC.out]⟩
      case measure=>simp[intOf] <;> omega
    ·have HTK:=Ac (show l.take j=l from List.take_of_length_le (by omega));rw[HTK.out] at ah4 ⊢;have HMX:=Ac (show yh q y l=(decide (0 < l.countP (iE q y))&&decide (l.countP (iE q y) < l.length)) from rfl);generalize l.countP (iE q y)=cn at *;by_cases q1:0 < cn
     ·by_cases q2:cn < l.length
      ·have HF:=Ac (show kK last sets (q:Int)=false by
        rw[HAL.out]; exact all_false (List.mem_of_getElem? HLK.out) (by rw[HMX.out]; simp[q1,q2]))
       go_wp2
       go_ret;exact⟨_,rfl,hWb,by rw[HF.out]; rfl⟩
      ·have d2:decide (cn < l.length)=false:=decide_eq_false q2;go_wp2
       go_round
       case rel=>exact⟨k+1,by omega,by go_num,vH HLK.out HP.out (by rw[HMX.out]; simp[q2])⟩
       case measure=>simp[intOf] <;> omega
     ·obtain rfl:cn=0:=by omega
      go_wp2
      go_round
      case rel=>exact⟨k+1,by omega,by go_num,vH HLK.out HP.out (by rw[HMX.out]; simp)⟩
      case measure=>simp[intOf] <;> omega
  ·have HF:=Ac (show kK last sets (q:Int)=true by rw[HAL.out]; have:=HP.out; rwa [List.take_of_length_le (by omega)] at this);go_wp2
   go_ret;exact⟨_,rfl,hWb,by rw[HF.out]; rfl⟩
def nH (nodes:List Nd) (last:List Int) (sets:List (List Int)) (i:Nat):Bool:=match nodes[i]? with | some n=>decide (n.kind≠3)&&kK last sets i | none=>false
def fH (nodes:List Nd) (last:List Int) (sets:List (List Int)) (k:Nat):List Int:=((List.range k).filter (nH nodes last sets)).map fun i:Nat=>(i:Int)
theorem aaB (nodes:List Nd) (last:List Int) (sets:List (List Int)) (k:Nat):fH nodes last sets (k+1)=fH nodes last sets k++(if nH nodes last sets k then [(k:Int)] else []):=by
 unfold fH;rw[List.range_succ,List.filter_append,List.map_append];cases h:nH nodes last sets k <;> simp[h]
theorem xW (nodes:List Nd) (last:List Int) (sets:List (List Int)) (k:Nat):(fH nodes last sets k).length≤k:=by
 unfold fH;rw[List.length_map];refine Nat.le_trans (List.length_filter_le _ _) ?_;simp
def rE (g:Gm):List Int:=if bD g=0 then fH g.nodes (aH g.nodes).2 (aT g) g.nodes.length else []
theorem zS (w:World) (F:Ag) (u:Value) (g:Gm) (hg:Az w F u g) (hsm:Small g) :
  Calls Tryz.prog 38 #[u] w (Ret w (Dv w.heap.size (bD g) (rE g))):=by
 have HG:=Ac hg;obtain⟨vn,vi,rfl,⟨A,c,rfl,hc,hN⟩,⟨Ai,ci,rfl,hci,hI⟩⟩:=hg;clear hI;have HN:=Ac hN; clear hN;have hn:=hsm.nodes;have hni:=hsm.infos;have HS:=Ac hsm; clear hsm;go_enter Tryz.func38,Tryz.ntmps38;go_wp2_with fail
 refine(vG _ F _ g (HG.out.on (Same.alloc _ _ _)) HS.out).mono ?_;rintro e w1 ⟨_,rfl,hb1,vv,rfl,hv1,hv2⟩;have hgx:=(Row.new w 25 #[.int .i64 g.aj,.slice A g.nodes.length c,.slice Ai g.infos.length ci]).below hb1 (by simp);have hB:Below w.heap.size w w1:=((Below.refl w.heap.size w).alloc (Nat.le_refl _) _).trans (hb1.mono (by simp));simp only[World.size_alloc] at hv2;clear hb1;have HV1:=Ac hv1; have HV2:=Ac hv2; clear hv1 hv2;have HPP:=Ac (show rE g=if bD g=0 then fH g.nodes (aH g.nodes).2 (aT g) g.nodes.length else [] from rfl);generalize hfe:bD g=er at *;have HFE:=Ac hfe; clear hfe;dsimp only;by_cases he:er=0
 ·have HVX:=Ac (HV2.out he);have HP2:=Ac (show rE g=fH g.nodes (aH g.nodes).2 (aT g) g.nodes.length by rw[HPP.out,if_pos he]);subst he;clear HV1 HV2;have HVY:=Ac HVX.out;obtain⟨vn',vi',vp,vl,vs,rfl,⟨An,cn,rfl,hcn,hN'⟩,⟨Ax,cx,rfl,hcx,hI'⟩,⟨Ap,cp,rfl,hcp,hP'⟩,⟨Al,cl,rfl,hcl,hL'⟩,⟨As,cs,rfl,hcs,hS'⟩⟩:=HVX.out;clear hN' hI' hL' hS' hP' HVX;have g1:=hgx.cell (i:=1) rfl;have hlt1:=hgx.lt;go_wp2_with fail
  obtain⟨W,hW,hbx,hWb,hWz⟩:=aJ w1 98 #[.int .i64 g.aj,.slice An g.nodes.length cn,.slice Ax g.infos.length cx,.slice Ap (aH g.nodes).1.length cp,.slice Al (aH g.nodes).2.length cl,.slice As (aT g).length cs];rw[← hW];clear hW hWz;have hBW:=hB.trans (hWb.mono hB.size);have hltW:=hbx.lt;clear hgx g1;go_loopw [6,7,8,20] (fun vo _ _ i wr=>∃ k:Nat,k≤g.nodes.length∧i = .int .i64 k∧wr.ownsRow W.heap.size 3 1 vo (fH g.nodes (aH g.nodes).2 (aT g) k).length ((fH g.nodes (aH g.nodes).2 (aT g) k).map (Value.int .i64))∧Below W.heap.size W wr) (fun _ _ _ i _=>g.nodes.length - (intOf i).toNat)
  case atStart=>exact⟨0,by omega,rfl,World.ownsRow_nil _ _ _ _,Below.refl _ _⟩
  case round =>
   obtain⟨k,hk,rfl,hown,hbel⟩:=hrel;have HO:=Ac hown; clear hown;have hlen:=xW g.nodes (aH g.nodes).2 (aT g) k;have HST:=Ac (aaB g.nodes (aH g.nodes).2 (aT g) k);by_cases hlt:k < g.nodes.length
   ·obtain⟨b,o,rfl,_,hb,hcell⟩:=HN.out (by omega);obtain⟨n,hn'⟩:=ak hlt;obtain⟨e0,e1,e2,⟨v3,e3,A3,c3,rfl,hc3,i3⟩,⟨v4,e4,A4,c4,rfl,hc4,i4⟩,⟨v5,e5,A5,c5,rfl,hc5,i5⟩⟩:=hcell k n hn';clear i3 i4 i5 hcell;have hwr:=hBW.trans (hbel.mono hBW.size);rw[← aA hwr _ _ hb] at e0 e1 e2 e3 e4 e5;have HPA:=Ac (show nH g.nodes (aH g.nodes).2 (aT g) k=(decide (n.kind≠3)&&kK (aH g.nodes).2 (aT g) k) by unfold nH; rw[hn']);clear hn';by_cases hkd:n.kind=3
    ·have HR:=Ac (show nH g.nodes (aH g.nodes).2 (aT g) k=false by rw[HPA.out]; simp[hkd]);have hd:(n.kind != 3)=false:=by simp[hkd]
     clear hkd;go_wp2
     go_roundw
     case rel=>exact⟨k+1,by omega,by go_num,by rw[HST.out,HR.out]; simpa using HO.out.alloc _,hbel.alloc hbel.size _⟩
     case measure=>simp[intOf] <;> omega
    ·have hd:(n.kind != 3)=true:=by simp[hkd]
     have HR:=Ac (show nH g.nodes (aH g.nodes).2 (aT g) k=kK (aH g.nodes).2 (aT g) k by rw[HPA.out]; simp[hkd]);clear hkd;have hbx2:=hbx.below hbel hbx.lt;have x0:=hbx2.cell (i:=0) rfl;have x1:=hbx2.cell (i:=1) rfl;have x2:=hbx2.cell (i:=2) rfl;have x3:=hbx2.cell (i:=3) rfl;have x4:=hbx2.cell (i:=4) rfl;have x5:=hbx2.cell (i:=5) rfl;have hlt2:=hbx2.lt;go_wp2_with fail
     obtain⟨W2,hW2,hbn,lZ,aep⟩:=aJ wr 61 #[.int .i64 n.kind,.int .i64 n.aI,.int .i64 n.info,.slice A3 n.next.length c3,.slice A4 n.weights.length c4,.slice A5 n.pay.length c5];rw[← hW2];have HO2:=Ac (show W2.ownsRow W.heap.size 3 1 u6 (fH g.nodes (aH g.nodes).2 (aT g) k).length ((fH g.nodes (aH g.nodes).2 (aT g) k).map (Value.int .i64)) by rw[hW2]; exact HO.out.alloc _);clear hW2 aep HO;have dJ:=hbel.trans (lZ.mono hbel.size);have h12:=hWb.trans (dJ.mono hWb.size);refine(abe _ (fun b=>F b∨w.heap.size+1≤b) _ k g (aH g.nodes).1 (aH g.nodes).2 (aT g) (HVY.out.on (Below.same' h12 _)) (bZ HS.out).1 (bZ HS.out).2 (dX _ _).2 (by omega)).mono ?_;rintro e w3 ⟨_,rfl,hb3,rfl⟩;have jr:=dJ.trans (hb3.mono dJ.size);have HO3:=Ac (show w3.ownsRow W.heap.size 3 1 u6 (fH g.nodes (aH g.nodes).2 (aT g) k).length ((fH g.nodes (aH g.nodes).2 (aT g) k).map (Value.int .i64)) from⟨HO2.out.1,HO2.out.2.imp id (fun ⟨gg,cap,cur,h1,h2,h3,h4⟩=>⟨gg,cap,cur,h1,h2,by rw[hb3.block gg (Array.getElem?_eq_some_iff.1 h3).1]; exact h3,h4⟩)⟩);clear HO2 dJ h12 hb3 lZ hbn x0 x1 x2 x3 x4 x5 hbx2 e0 e1 e2 e3 e4 e5 hwr hbel;generalize kK (aH g.nodes).2 (aT g) k=al at *;dsimp only;cases al
     ·go_wp2
      go_roundw
      case rel=>exact⟨k+1,by omega,by go_num,by rw[HST.out,HR.out]; simpa using HO3.out,jr⟩
      case measure=>simp[intOf] <;> omega
     ·go_wp2_with (at_builtin; refine gX rfl _ _ rfl W.heap.size _ (fH g.nodes (aH g.nodes).2 (aT g) k) rfl (HO3.out.alloc _) w3.heap.size k rfl (heap_alloc_new _ _) (by omega) (by have:=jr.size; simp; omega) ?_; intro gg cap w4 hown4 hgrow hat hlt4; have adx:Below W.heap.size W w4:=(jr.alloc jr.size _).grown hgrow (by have:=jr.size; simp; omega) (fun k hk=>(HO3.out.lt k hk).1); have HO4:=Ac hown4; clear hown4 hgrow hat hlt4)
      go_roundw
      case rel=>exact⟨k+1,by omega,by go_num,by rw[HST.out,HR.out]; simpa using HO4.out,adx⟩
      case measure=>simp[intOf] <;> omega
   ·go_wp2
    go_ret2;have hke:k=g.nodes.length:=by omega
    have zW:=hBW.size;refine⟨_,rfl,hBW.trans (hbel.mono zW),u6,by first | rfl | (rw[HFE.out]; rfl),?_⟩;rw[HP2.out,← hke];exact Own.ints (by simpa [Own] using HO.out) (fun b hb=>by have:=(HO.out.lt b hb).1; omega)
 ·have hd:(er != 0)=true:=by simp[he]
  obtain rfl:=HV1.out he;have HNZ:=Ac he; clear he;unfold noView;go_wp2
  go_ret2;exact⟨_,rfl,hB.alloc hB.size _,.slice none 0 0,by first | rfl | (rw[HFE.out]; rfl),by rw[HPP.out,if_neg HNZ.out]; exact nC _ _⟩
end Go.Proofs.YthmklhapjegfdaaGreatDoor
