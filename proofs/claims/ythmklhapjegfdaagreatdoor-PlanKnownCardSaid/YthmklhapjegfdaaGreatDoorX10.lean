/- The arguments of the statements, opened: a game and a list of numbers that came in. -/
import Derived.Test.YthmklhapjegfdaaGreatDoorX04
import Derived.ProofKit
import Derived.Lib.SmallJoins
import Derived.Deep.Slices
import Derived.Deep.Fields
import Derived.ChangeSame
import Derived.OpenShut
set_option linter.all false
set_option maxRecDepth 100000
set_option maxHeartbeats 12800000
namespace Go.Proofs.YthmklhapjegfdaaGreatDoor
open Go.ChangeShapes Go.WideShapes Go.ChangeAt Go.RowKit Go.Joins Go.Deep
section
variable {H:Type} {enc:TypeId×Value→H} {P:Program} {w:World} {base:Nat} {spare:Nat→Bool} {held:Bool}
theorem qG {t e:TypeId} {fs:Array Field} {fuel:Nat} {cs:List Value} {x:DataW H×List MemPlace} (ht:P.underlying t=some (.slice e)) (he:P.underlying e=some (.struct fs)) (hone:oneCellFields P fs=true) (hC:P.cellsOf e=fs.size)
  (h:DataW.trod enc P w base spare held fuel t cs=some x) :
  cs = [.slice none 0 0]∨∃ (a:Addr) (len cap:Nat),cs = [.slice (some a) len cap]∧len≤cap∧∀ i,i < len→∃ n,∀ (j:Nat) (f:Field),fs[j]? = some f→∃ (v:Value) (y:DataW H×List MemPlace),w.cell? (a.add (i*fs.size+j))=some v∧DataW.trod enc P w base spare held n f.type [v]=some y:=by
 rcases open_slice ht h with h0 | ⟨a,len,cap,m,n,D,Pl,hcs,hb,hl,hm,hmm,hx,hi⟩
 ·exact .inl h0.1
 ·refine .inr ⟨a,len,cap,hcs,hl,fun i hil=>?_⟩;obtain⟨cs',hc,ht'⟩:=hi i (by rw[hmm]; split <;> omega);rw[hC] at hc;obtain⟨ys,n',_,hy,_,hyl,hf⟩:=DataW.trod_struct he ht';obtain⟨_,hcl,hat⟩:=World.cells?_some hc;refine⟨n',fun j f hj=>?_⟩;obtain⟨ho,hk⟩:=hone_of hone j f hj;have hjl:j < fs.size:=(Array.getElem?_eq_some_iff.1 hj).1;have hcell:=hat j hjl;have h1:=hf j f hj;rw[ho,hk] at h1;have hone':(cs'.drop j).take 1 = [cs'[j]'byOmega]:=by
   rw[List.drop_eq_getElem_cons byOmega];rfl
  rw[hone'] at h1;have hys:ys[j]? = some (ys[j]'byOmega):=List.getElem?_eq_getElem byOmega;exact⟨_,_,by rw[← Go.Deep.add_add,hcell]; exact List.getElem?_eq_getElem byOmega,h1.trans hys⟩
end
theorem ah7:Tryz.prog.cellsOf 3=1:=aj
theorem agV:Tryz.prog.cellsOf 61=6:=aj
theorem agW:Tryz.prog.cellsOf 59=2:=aj
theorem agX:Tryz.prog.cellsOf 25=3:=aj
abbrev All:Aj:=fun _=>True
section
variable {H:Type} {enc:TypeId×Value→H} {w:World} {base:Nat} {spare:Nat→Bool} {held:Bool}
theorem cell_lt {a:Addr} {v:Value} (h:w.cell? a=some v):a.block < w.heap.size:=World.block_lt_of_cell? w a h
theorem wG {fuel:Nat} {v:Value} {x:DataW H×List MemPlace} (h:DataW.trod enc Tryz.prog w base spare held fuel 26 [v]=some x):∃ l,AQ w All v l:=by
 rcases open_ints Tryz.underlying26 Tryz.underlying3 ah7 h with⟨hcs,_⟩ | ⟨a,len,cap,zs,hcs,_,hl,hm,hz,_,hcell,_⟩
 ·exact zbl
 ·injection hcs with hv _
  subst hv;have hzl:len≤zs.length:=by rw[hz];split <;> omega
  refine⟨zs.take len,some a,cap,by rw[List.length_take,Nat.min_eq_left hzl],by rw[List.length_take,Nat.min_eq_left hzl]; exact hl,fun h0=>?_⟩;rw[List.length_take,Nat.min_eq_left hzl] at h0;obtain⟨b,off,rfl,hc⟩:=ints_at hcell byOmega;refine⟨b,off,rfl,trivial,cell_lt (hc 0 byOmega),fun k y hk=>?_⟩;unfold kX;rw[List.getElem?_take] at hk;split at hk
  ·have hkl:=aK hk;rw[Nat.mul_one,hc k hkl];simp[List.getD_eq_getElem?_getD,hk]
  ·cases hk
theorem oh {fuel:Nat} {v:Value} {x:DataW H×List MemPlace} (h:DataW.trod enc Tryz.prog w base spare held fuel 3 [v]=some x):∃ n,v = .int .i64 n:=by
 obtain⟨n,e,_⟩:=DataW.trod_int Tryz.underlying3 h;injection e with e _
 exact⟨n,e⟩
theorem xM {α:Type} (p:Nat→α→Prop):∀ n,(∀ i,i < n→∃ x,p i x)→∃ l:List α,l.length=n∧∀ i x,l[i]? = some x→p i x
 | 0,_=>⟨[],rfl,fun i x h=>by cases h⟩
 | n+1,h=>by
  obtain⟨l,hl,hp⟩:=xM p n (fun i hi=>h i byOmega);obtain⟨x,hx⟩:=h n byOmega;refine⟨l ++ [x],by simp[hl],fun i y hi=>?_⟩;by_cases hin:i < n
  ·rw[List.getElem?_append_left byOmega] at hi; exact hp i y hi
  ·have hlt:=aK hi;simp at hlt;have:i=n:=byOmega;subst this;rw[List.getElem?_append_right byOmega,hl] at hi;simp at hi;subst hi; exact hx
theorem adQ {fuel:Nat} {v:Value} {x:DataW H×List MemPlace} (h:DataW.trod enc Tryz.prog w base spare held fuel 22 [v]=some x):∃ l,Bh w All v l:=by
 rcases qG Tryz.underlying22 Tryz.underlying61 aj agV h with hcs | ⟨a,len,cap,hcs,hl,hi⟩
 ·exact zbl
 ·injection hcs with hv _
  subst hv;by_cases h0:0 < len
  ·obtain⟨n0,hf0⟩:=hi 0 h0;obtain⟨v0,_,hc0,_⟩:=hf0 0 _ rfl;obtain⟨b,off,spot⟩:=a;have hspot:spot=none:=by simpa [Addr.add] using World.cell?_spot hc0
   subst hspot;have af5:∀ i,i < len→∃ n:Nd,CY w All b (off+i*6) n:=by
    intro i hil;obtain⟨n,hf⟩:=hi i hil;have cell:∀ (j:Nat) (u:Value),w.cell? ((⟨b,off,none⟩:Addr).add (i*6+j))=some u→w.cell? ⟨b,off+i*6+j,none⟩=some u:=fun j u hu=>by
     exact zdS
    obtain⟨u0,_,c0,t0⟩:=hf 0 _ rfl;obtain⟨u1,_,c1,t1⟩:=hf 1 _ rfl;obtain⟨u2,_,c2,t2⟩:=hf 2 _ rfl;obtain⟨u3,_,c3,t3⟩:=hf 3 _ rfl;obtain⟨u4,_,c4,t4⟩:=hf 4 _ rfl;obtain⟨u5,_,c5,t5⟩:=hf 5 _ rfl;obtain⟨x0,rfl⟩:=oh t0;obtain⟨x1,rfl⟩:=oh t1;obtain⟨x2,rfl⟩:=oh t2;obtain⟨l3,i3⟩:=wG t3;obtain⟨l4,i4⟩:=wG t4;obtain⟨l5,i5⟩:=wG t5;exact⟨⟨x0,x1,x2,l3,l4,l5⟩,cell 0 _ c0,cell 1 _ c1,cell 2 _ c2,⟨_,cell 3 _ c3,i3⟩,⟨_,cell 4 _ c4,i4⟩,⟨_,cell 5 _ c5,i5⟩⟩
   obtain⟨l,hll,hp⟩:=xM _ len af5;exact zcG
  ·obtain rfl:len=0:=byOmega;exact⟨[],some a,cap,rfl,aA,fun h=>absurd h aA⟩
theorem adR {fuel:Nat} {v:Value} {x:DataW H×List MemPlace} (h:DataW.trod enc Tryz.prog w base spare held fuel 23 [v]=some x):∃ l,Bj w All v l:=by
 rcases qG Tryz.underlying23 Tryz.underlying59 aj agW h with hcs | ⟨a,len,cap,hcs,hl,hi⟩
 ·exact zbl
 ·injection hcs with hv _
  subst hv;by_cases h0:0 < len
  ·obtain⟨n0,hf0⟩:=hi 0 h0;obtain⟨v0,_,hc0,_⟩:=hf0 0 _ rfl;obtain⟨b,off,spot⟩:=a;have hspot:spot=none:=by simpa [Addr.add] using World.cell?_spot hc0
   subst hspot;have fB:∀ i,i < len→∃ n:Inf,DF w All b (off+i*2) n:=by
    intro i hil;obtain⟨n,hf⟩:=hi i hil;have cell:∀ (j:Nat) (u:Value),w.cell? ((⟨b,off,none⟩:Addr).add (i*2+j))=some u→w.cell? ⟨b,off+i*2+j,none⟩=some u:=fun j u hu=>by
     exact zdS
    obtain⟨u0,_,c0,t0⟩:=hf 0 _ rfl;obtain⟨u1,_,c1,t1⟩:=hf 1 _ rfl;obtain⟨x0,rfl⟩:=oh t0;obtain⟨x1,rfl⟩:=oh t1;exact⟨⟨x0,x1⟩,cell 0 _ c0,cell 1 _ c1⟩
   obtain⟨l,hll,hp⟩:=xM _ len fB;exact zcG
  ·obtain rfl:len=0:=byOmega;exact⟨[],some a,cap,rfl,aA,fun h=>absurd h aA⟩
theorem afe {r:Reach} {b0:Nat} {v:Value} {d:DataW H} {p:List MemPlace} (hv:Value.okWide Tryz.prog w r b0 25 v) (h:DataW.Trod enc Tryz.prog w base spare held 25 v d p):∃ g,AU w All v g:=by
 obtain⟨v0,v1,v2,y0,y1,y2,n,rfl,_,_,h0,h1,h2⟩:=open_agg3 Tryz.underlying25 aj agX hv h;obtain⟨pl,rfl⟩:=oh h0;obtain⟨ns,hns⟩:=adQ h1;obtain⟨is,his⟩:=adR h2;exact⟨⟨pl,ns,is⟩,v1,v2,rfl,hns,his⟩
end
end Go.Proofs.YthmklhapjegfdaaGreatDoor
