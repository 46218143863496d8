/- Lists of lists of numbers that came in, opened. -/
import Derived.Test.YthmklhapjegfdaaGreatDoorX10
import Derived.Test.YthmklhapjegfdaaGreatDoorX19
set_option linter.all false
set_option maxRecDepth 100000
set_option maxHeartbeats 12800000
namespace Go.Proofs.YthmklhapjegfdaaGreatDoor
open Go.ChangeShapes Go.WideShapes Go.ChangeAt Go.RowKit Go.Joins Go.Deep
theorem aiG:Tryz.prog.cellsOf 166=1:=aj
theorem ael:Tryz.prog.cellsOf 83=3:=aj
theorem aiH:Tryz.prog.cellsOf 64=1:=aj
def U32s (l:List Nat):Prop:=∀ x∈l,x < 4294967296
section
variable {H:Type} {enc:TypeId×Value→H} {w:World} {base:Nat} {spare:Nat→Bool} {held:Bool}
theorem qm {fuel:Nat} {v:Value} {x:DataW H×List MemPlace} (h:DataW.trod enc Tryz.prog w base spare held fuel 81 [v]=some x):∃ l,AB w All v l∧U32s l:=by
 rcases open_ints Tryz.underlying81 Tryz.underlying166 aiG h with⟨hcs,_⟩ | ⟨a,len,cap,zs,hcs,_,hl,hm,hz,_,hcell,hwf⟩
 ·injection hcs with hv _
  subst hv;exact zbw
 ·injection hcs with hv _
  subst hv;have hzl:len≤zs.length:=by rw[hz];split <;> omega
  have hll:((zs.take len).map Int.toNat).length=len:=by rw[List.length_map,List.length_take,Nat.min_eq_left hzl]
  have hb:∀ z∈zs,0≤z∧z≤4294967295:=fun z hz'=>bounds_u32 (hwf z hz')
  refine⟨(zs.take len).map Int.toNat,⟨some a,cap,by rw[hll],by rw[hll]; exact hl,fun h0=>?_⟩,?_⟩
  ·rw[hll] at h0;obtain⟨b,off,rfl,hc⟩:=ints_at hcell byOmega;refine⟨b,off,rfl,trivial,cell_lt (hc 0 byOmega),fun k y hk=>?_⟩;unfold dw;rw[List.getElem?_map,List.getElem?_take] at hk;split at hk
   ·obtain⟨z,hz2,rfl⟩:=Option.map_eq_some_iff.1 hk;have hkl:=aK hz2;have hzb:=hb z (List.mem_of_getElem? hz2);rw[Nat.mul_one,hc k hkl,List.getD_eq_getElem?_getD,hz2];simp;omega
   ·cases hk
  ·intro y hy;obtain⟨z,hz2,rfl⟩:=List.mem_map.1 hy;have:=hb z (List.mem_of_mem_take hz2);omega
theorem afH {fuel:Nat} {v:Value} {x:DataW H×List MemPlace} (h:DataW.trod enc Tryz.prog w base spare held fuel 64 [v]=some x):∃ l,AL w All v l∧∀ r∈l,U32 r:=by
 rcases qG Tryz.underlying64 Tryz.underlying83 aj ael h with hcs | ⟨a,len,cap,hcs,hl,hi⟩
 ·injection hcs with hv _
  subst hv;exact zbw
 ·injection hcs with hv _
  subst hv;by_cases h0:0 < len
  ·obtain⟨n0,hf0⟩:=hi 0 h0;obtain⟨v0,_,hc0,_⟩:=hf0 0 _ rfl;obtain⟨b,off,spot⟩:=a;have hspot:spot=none:=by simpa [Addr.add] using World.cell?_spot hc0
   subst hspot;have hrat:∀ i,i < len→∃ r:Raw,CS w All b (off+i*3) r∧U32 r:=by
    intro i hil;obtain⟨n,hf⟩:=hi i hil;have cell:∀ (j:Nat) (u:Value),w.cell? ((⟨b,off,none⟩:Addr).add (i*3+j))=some u→w.cell? ⟨b,off+i*3+j,none⟩=some u:=fun j u hu=>by
     exact zdS
    obtain⟨u0,_,c0,t0⟩:=hf 0 _ rfl;obtain⟨u1,_,c1,t1⟩:=hf 1 _ rfl;obtain⟨u2,_,c2,t2⟩:=hf 2 _ rfl;obtain⟨x0,e0,_⟩:=DataW.trod_bool aj t0;injection e0 with e0 _
    subst e0;obtain⟨l1,i1,b1⟩:=qm t1;obtain⟨l2,i2,b2⟩:=qm t2;exact⟨⟨x0,l1,l2⟩,⟨cell 0 _ c0,⟨_,cell 1 _ c1,i1⟩,⟨_,cell 2 _ c2,i2⟩⟩,b1,b2⟩
   obtain⟨l,hll,hp⟩:=xM _ len hrat;refine⟨l,⟨_,cap,by rw[hll],by rw[hll]; exact hl,fun _=>⟨b,off,rfl,trivial,?_,fun k n hk=>(hp k n hk).1⟩⟩,fun r hr=>?_⟩
   ·exact zaV
   ·obtain⟨k,hk⟩:=List.getElem?_of_mem hr;exact(hp k r hk).2
  ·exact zde
theorem zI {v:Value} {d:DataW H} {p:List MemPlace} {r:Reach} {b0:Nat} (hv:Value.okWide Tryz.prog w r b0 28 v) (h:DataW.Trod enc Tryz.prog w base spare held 28 v d p):∃ m,Ah w All v m∧∀ l∈m,∀ q∈l,U32 q:=by
 obtain⟨a0,len0,cap0,rfl⟩:=okWide_slice Tryz.underlying28 hv;obtain⟨fuel,hf⟩:=h;have hf':DataW.trod enc Tryz.prog w base spare held fuel 28 [.slice a0 len0 cap0]=some (d,p):=by simpa [Value.cells] using hf
 rcases open_slice Tryz.underlying28 hf' with⟨hcs,_⟩ | ⟨a,len,cap,m,n,D,Pl,hcs,hb,hl,hm,hmm,hx,hi⟩
 ·injection hcs with hv' _
  rw[hv'];exact zbw
 ·injection hcs with hv' _
  rw[hv'];by_cases h0:0 < len
  ·have row:∀ i,i < len→∃ u y,w.cell? (a.add i)=some u∧DataW.trod enc Tryz.prog w base spare held n 64 [u]=some y:=by
    intro i hil;obtain⟨cs',hc,ht'⟩:=hi i (by rw[hmm]; split <;> omega);rw[aiH,Nat.mul_one] at hc;obtain⟨_,hcl,hat⟩:=World.cells?_some hc;obtain⟨u,rfl⟩:∃ u,cs' = [u]:=List.length_eq_one_iff.1 hcl;have:=hat 0 byOmega;exact⟨u,_,by simpa [Addr.add] using this,ht'⟩
   obtain⟨u0,_,hc0,_⟩:=row 0 h0;obtain⟨b,off,spot⟩:=a;have hspot:spot=none:=by simpa [Addr.add] using World.cell?_spot hc0
   subst hspot;have hrow:∀ i,i < len→∃ l:List Raw,xk AL w All b (off+i*1) l∧∀ r∈l,U32 r:=by
    intro i hil;obtain⟨u,y,hc,ht⟩:=row i hil;obtain⟨l,h1,h2⟩:=afH ht;exact⟨l,⟨u,by rw[Addr.add_lit] at hc; rw[Nat.mul_one]; exact hc,h1⟩,h2⟩
   obtain⟨l,hll,hp⟩:=xM _ len hrow;refine⟨l,⟨_,cap,by rw[hll],by rw[hll]; exact hl,fun _=>⟨b,off,rfl,trivial,?_,fun k n hk=>(hp k n hk).1⟩⟩,fun r hr=>?_⟩
   ·exact zaV
   ·obtain⟨k,hk⟩:=List.getElem?_of_mem hr;exact(hp k r hk).2
  ·exact zde
end
theorem ahk {H:Type} {enc:TypeId×Value→H} {w:World} {base:Nat} {spare:Nat→Bool} {held:Bool} {r:Reach} {b0:Nat} {v:Value} {d:DataW H} {p:List MemPlace} (hv:Value.okWide Tryz.prog w r b0 83 v) (h:DataW.Trod enc Tryz.prog w base spare held 83 v d p):∃ q,AA w All v q∧U32 q:=by
 obtain⟨v0,v1,v2,y0,y1,y2,n,rfl,_,_,h0,h1,h2⟩:=open_agg3 Tryz.underlying83 aj ael hv h;obtain⟨x0,e0,_⟩:=DataW.trod_bool aj h0;injection e0 with e0 _
 subst e0;obtain⟨l1,i1,b1⟩:=qm h1;obtain⟨l2,i2,b2⟩:=qm h2;exact⟨⟨x0,l1,l2⟩,AA.make rfl i1 i2,b1,b2⟩
end Go.Proofs.YthmklhapjegfdaaGreatDoor
