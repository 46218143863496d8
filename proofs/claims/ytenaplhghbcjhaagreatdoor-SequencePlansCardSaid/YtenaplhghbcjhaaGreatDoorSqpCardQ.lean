/- The tied card: the statement returns true for every input. -/
import Derived.Test.YtenaplhghbcjhaaGreatDoorRows
import Derived.OpenShut
import Derived.ChangeVars
import Derived.ProofKit
import Derived.Lib.SmallJoins
import Derived.Deep.Slices
import Derived.Deep.Fields
import Derived.ChangeSame
import Derived.LaidLaws
import Derived.JoinedOf
import Derived.Test.YtenaplhghbcjhaaGreatDoorQ39
import Derived.Test.YtenaplhghbcjhaaGreatDoorCards
import Derived.Test.YtenaplhghbcjhaaGreatDoorTie
import Derived.SevenTiedAt
set_option linter.all false
set_option maxRecDepth 100000
set_option maxHeartbeats 0
namespace Go.Proofs.YtenaplhghbcjhaaGreatDoor
open Go renaming Value->GN,World->GK
open Go.Value renaming slice->Gw
open List renaming append_assoc->IU,append_nil->IV,getElem?_eq_getElem->Jr,getElem?_map->GY,getElem?_take->KF,length_take->Ik
open Nat renaming min_eq_left->Ji,mul_one->Ho
open Option.some renaming inj->IE
open Go.Proofs.Tryz renaming prog->GI,underlying27->KA,underlying29->KR,underlying3->Kv
open Go.World renaming cell?_spot->JM
open Go.ChangeShapes Go.WideShapes Go.RowKit
variable {b0 fuel:Nat} {t:TypeId}
theorem Tryz.tabName:Tryz.prog.globalNamed "math/bits.deBruijn64tab" = some 0:=aj
theorem Tryz.tabType:(Tryz.prog.globals[0]?).map (·.type)=some 234:=aj
theorem Tryz.tabUnder:Tryz.prog.underlying 234=some (.array 64 5):=aj
theorem Tryz.tabCells:Tryz.prog.cellsOf 5=1:=aj
theorem am1:(Rows.laid_math_bits_deBruijn64tab:DataW Unit) = .agg (Lib.deBruijn64tab.map λx:Nat=>.lit (.int .u8 (x:Int))):=by rfl
theorem am2 {H:Type} {enc:TypeId×GN->H} {P:Program} {w:GK} {base:Nat} {sp:Nat->Bool} {held:Bool} {k:IntKind} {cs:List GN} {y:DataW H×List MemPlace}
  (ht:P.underlying t=some (.int k)) (h:DataW.trod enc P w base sp held fuel t cs=some y):∃ n,cs = [.int k n]/\y.1 = .lit (.int k n):=by
 obtain⟨n,h1,h2,_⟩:=DataW.trod_int ht h;grind
theorem ahy {W:GK} (h:laidMet GI [("math/bits.deBruijn64tab",Rows.laid_math_bits_deBruijn64tab)] W):BF W:=by
 obtain⟨ps,⟨g,t,cs,fuel,p,q,hg,ht,hvar,hd,_,_⟩,_⟩:=h;obtain rfl:=IE (Tryz.tabName.symm.trans hg);obtain rfl:=IE (Tryz.tabType.symm.trans ht);obtain⟨xs,m,_,hx,hlen,hxl,hat⟩:=DataW.trod_array Tryz.tabUnder hd;intro j hj;have hj64:j < 64:=hj;have h1:=hat j hj64;rw[Tryz.tabCells] at h1;obtain⟨y,hy⟩:∃ y,xs[j]? = some y:=⟨_,Jr FI⟩;rw[hy] at h1;obtain⟨n,hn,hyn⟩:=am2 (k:=.u8) aj h1;rw[am1] at hx;injection hx with hx1 _
 injection hx1 with hx2
 have h2:(xs.map (·.1))[j]? = some (.lit (.int .u8 ((Lib.deBruijn64tab.getD j 0:Nat):Int))):=by
  rw[<-hx2,GY,List.getD_eq_getElem?_getD];rw[Jr hj];rfl
 rw[GY,hy] at h2;have h3:y.1 = .lit (.int .u8 ((Lib.deBruijn64tab.getD j 0:Nat):Int)):=by simpa using h2
 rw[hyn] at h3;injection h3 with h4
 injection h4 with _ h5
 have hc:cs[j]? = some (.int .u8 n):=by
  have:=congrArg (λl=>l[0]?) hn;simpa [KF,List.getElem?_drop] using this
 have h6:=World.var?_cell Tryz.tabName hvar j;rw[h6,hc,h5]
open Go.ChangeShapes Go.WideShapes Go.ChangeAt Go.RowKit Go.Joins Go.Deep
section
variable {H:Type} {enc:TypeId×GN->H} {P:Program} {w:GK} {base:Nat} {spare:Nat->Bool} {held:Bool}
theorem o7 {e:TypeId} {fs:Array Field} {cs:List GN} {x:DataW H×List MemPlace} (ht:P.underlying t=some (.slice e)) (he:P.underlying e=some (.struct fs)) (hone:oneCellFields P fs=true) (hC:P.cellsOf e=fs.size)
  (h:DataW.trod enc P w base spare held fuel t cs=some x) :
  cs = [Gw none 0 0]\/∃ (a:Addr) (len cap:Nat),cs = [.slice (some a) len cap]/\len<=cap/\∀ i,i < len->∃ n,∀ (j:Nat) (f:Field),fs[j]? = some f->∃ (v:GN) (y:DataW H×List MemPlace),w.cell? (a.add (i*fs.size+j))=some v/\DataW.trod enc P w base spare held n f.type [v]=some y:=by
 rcases open_slice ht h with h0 | ⟨a,len,cap,m,n,D,Pl,hcs,hb,hl,hm,hmm,hx,hi⟩
 ·grind
 ·refine .inr ⟨a,len,cap,hcs,hl,λi hil=>?_⟩;obtain⟨cs',hc,ht'⟩:=hi i (by rw[hmm]; split <;> omega);rw[hC] at hc;obtain⟨ys,n',_,hy,_,hyl,hf⟩:=DataW.trod_struct he ht';obtain⟨_,hcl,hat⟩:=World.cells?_some hc;refine⟨n',λj f hj=>?_⟩;obtain⟨ho,hk⟩:=hone_of hone j f hj;have hjl:j < fs.size:=(Array.getElem?_eq_some_iff.1 hj).1;have hcell:=hat j hjl;have h1:=hf j f hj;rw[ho,hk] at h1;have hone':(cs'.drop j).take 1 = [cs'[j]'FI]:=by grind [List.drop_eq_getElem_cons]
  rw[hone'] at h1;have hys:ys[j]? = some (ys[j]'FI):=Jr FI;exact⟨_,_,by rw[<-Go.Deep.add_add,hcell]; exact Jr FI,h1.trans hys⟩
end
theorem am3:Tryz.prog.cellsOf 3=1:=aj
theorem ak7:Tryz.prog.cellsOf 51=6:=aj
theorem ak8:Tryz.prog.cellsOf 83=2:=aj
theorem ak9:Tryz.prog.cellsOf 25=3:=aj
abbrev All:Gq:=λ_=>True
section
variable {H:Type} {enc:TypeId×GN->H} {w:GK} {base:Nat} {spare:Nat->Bool} {held:Bool}
theorem cell_lt {a:Addr} {v:GN} (h:w.cell? a=some v):a.block < w.heap.size:=World.block_lt_of_cell? w a h
theorem zZ {v:GN} {x:DataW H×List MemPlace} (h:DataW.trod enc GI w base spare held fuel 49 [v]=some x):∃ l,AL w All v l:=by
 rcases open_ints Tryz.underlying49 Kv am3 h with⟨hcs,_⟩ | ⟨a,len,cap,zs,hcs,_,hl,hm,hz,_,hcell,_⟩
 ·exact zbA
 ·injection hcs with hv _
  subst hv;have hzl:len<=zs.length:=by rw[hz];split <;> omega
  refine⟨zs.take len,some a,cap,by rw[Ik,Ji hzl],by rw[Ik,Ji hzl]; exact hl,λh0=>?_⟩;rw[Ik,Ji hzl] at h0;obtain⟨b,off,rfl,hc⟩:=ints_at hcell FI;refine⟨b,off,rfl,trivial,cell_lt (hc 0 FI),λk y hk=>?_⟩;grind [lU]
theorem qU {v:GN} {x:DataW H×List MemPlace} (h:DataW.trod enc GI w base spare held fuel 3 [v]=some x):∃ n,v = .int .i64 n:=by
 obtain⟨n,e,_⟩:=DataW.trod_int Kv h;grind
theorem yO {α:Type} (p:Nat->α->Prop):∀ n,(∀ i,i < n->∃ x,p i x)->∃ l:List α,l.length=n/\∀ i x,l[i]? = some x->p i x
 | 0,_=>⟨[],rfl,λi x h=>by cases h⟩
 | n+1,h=>by
  obtain⟨l,hl,hp⟩:=yO p n (λi hi=>h i FI);obtain⟨x,hx⟩:=h n FI;refine⟨l ++ [x],by simp[hl],λi y hi=>?_⟩;by_cases hin:i < n
  ·rw[List.getElem?_append_left FI] at hi; exact hp i y hi
  ·have hlt:=Gn hi;simp at hlt;have:i=n:=FI;subst this;rw[List.getElem?_append_right FI,hl] at hi;simp at hi;subst hi; exact hx
theorem ahz {v:GN} {x:DataW H×List MemPlace} (h:DataW.trod enc GI w base spare held fuel 22 [v]=some x):∃ l,Bz w All v l:=by
 rcases o7 Tryz.underlying22 Tryz.underlying51 aj ak7 h with hcs | ⟨a,len,cap,hcs,hl,hi⟩
 ·exact zbA
 ·injection hcs with hv _
  subst hv;by_cases h0:0 < len
  ·obtain⟨n0,hf0⟩:=hi 0 h0;obtain⟨v0,_,hc0,_⟩:=hf0 0 _ rfl;obtain⟨b,off,spot⟩:=a;have hspot:spot=none:=by simpa [Addr.add] using JM hc0
   subst hspot;have aja:∀ i,i < len->∃ n:Nd,DW w All b (off+i*6) n:=by
    intro i hil;obtain⟨n,hf⟩:=hi i hil;have cell:∀ (j:Nat) (u:GN),w.cell? ((⟨b,off,none⟩:Addr).add (i*6+j))=some u->w.cell? ⟨b,off+i*6+j,none⟩=some u:=λj u hu=>by
     exact zcJ
    obtain⟨u0,_,c0,t0⟩:=hf 0 _ rfl;obtain⟨u1,_,c1,t1⟩:=hf 1 _ rfl;obtain⟨u2,_,c2,t2⟩:=hf 2 _ rfl;obtain⟨u3,_,c3,t3⟩:=hf 3 _ rfl;obtain⟨u4,_,c4,t4⟩:=hf 4 _ rfl;obtain⟨u5,_,c5,t5⟩:=hf 5 _ rfl;obtain⟨x0,rfl⟩:=qU t0;obtain⟨x1,rfl⟩:=qU t1;obtain⟨x2,rfl⟩:=qU t2;obtain⟨l3,i3⟩:=zZ t3;obtain⟨l4,i4⟩:=zZ t4;obtain⟨l5,i5⟩:=zZ t5;exact⟨⟨x0,x1,x2,l3,l4,l5⟩,cell 0 _ c0,cell 1 _ c1,cell 2 _ c2,⟨_,cell 3 _ c3,i3⟩,⟨_,cell 4 _ c4,i4⟩,⟨_,cell 5 _ c5,i5⟩⟩
   obtain⟨l,hll,hp⟩:=yO _ len aja;exact zcZ
  ·obtain rfl:len=0:=FI;exact⟨[],some a,cap,rfl,aA,λh=>absurd h aA⟩
theorem ahA {v:GN} {x:DataW H×List MemPlace} (h:DataW.trod enc GI w base spare held fuel 23 [v]=some x):∃ l,BA w All v l:=by
 rcases o7 Tryz.underlying23 Tryz.underlying83 aj ak8 h with hcs | ⟨a,len,cap,hcs,hl,hi⟩
 ·exact zbA
 ·injection hcs with hv _
  subst hv;by_cases h0:0 < len
  ·obtain⟨n0,hf0⟩:=hi 0 h0;obtain⟨v0,_,hc0,_⟩:=hf0 0 _ rfl;obtain⟨b,off,spot⟩:=a;have hspot:spot=none:=by simpa [Addr.add] using JM hc0
   subst hspot;have bU:∀ i,i < len->∃ n:Inf,Ep w All b (off+i*2) n:=by
    intro i hil;obtain⟨n,hf⟩:=hi i hil;have cell:∀ (j:Nat) (u:GN),w.cell? ((⟨b,off,none⟩:Addr).add (i*2+j))=some u->w.cell? ⟨b,off+i*2+j,none⟩=some u:=λj u hu=>by
     exact zcJ
    obtain⟨u0,_,c0,t0⟩:=hf 0 _ rfl;obtain⟨u1,_,c1,t1⟩:=hf 1 _ rfl;obtain⟨x0,rfl⟩:=qU t0;obtain⟨x1,rfl⟩:=qU t1;exact⟨⟨x0,x1⟩,cell 0 _ c0,cell 1 _ c1⟩
   obtain⟨l,hll,hp⟩:=yO _ len bU;exact zcZ
  ·obtain rfl:len=0:=FI;exact⟨[],some a,cap,rfl,aA,λh=>absurd h aA⟩
theorem ai4 {r:Reach} {v:GN} {d:DataW H} {p:List MemPlace} (hv:Value.okWide GI w r b0 25 v) (h:DataW.Trod enc GI w base spare held 25 v d p):∃ g,AB w All v g:=by
 obtain⟨v0,v1,v2,y0,y1,y2,n,rfl,_,_,h0,h1,h2⟩:=open_agg3 Tryz.underlying25 aj ak9 hv h;obtain⟨pl,rfl⟩:=qU h0;obtain⟨ns,hns⟩:=ahz h1;obtain⟨is,his⟩:=ahA h2;exact⟨⟨pl,ns,is⟩,v1,v2,rfl,hns,his⟩
end
theorem am4:Tryz.prog.cellsOf 103=1:=aj
theorem ahB:Tryz.prog.cellsOf 42=3:=aj
theorem am5:Tryz.prog.cellsOf 28=1:=aj
def U32s (l:List Nat):Prop:=∀ x∈l,x < 4294967296
section
variable {H:Type} {enc:TypeId×GN->H} {w:GK} {base:Nat} {spare:Nat->Bool} {held:Bool}
theorem uf {v:GN} {x:DataW H×List MemPlace} (h:DataW.trod enc GI w base spare held fuel 40 [v]=some x):∃ l,Aj w All v l/\U32s l:=by
 rcases open_ints Tryz.underlying40 Tryz.underlying103 am4 h with⟨hcs,_⟩ | ⟨a,len,cap,zs,hcs,_,hl,hm,hz,_,hcell,hwf⟩
 ·injection hcs with hv _
  subst hv;exact zaC
 ·injection hcs with hv _
  subst hv;have hzl:len<=zs.length:=by rw[hz];split <;> omega
  have hll:((zs.take len).map Int.toNat).length=len:=by rw[List.length_map,Ik,Ji hzl]
  have hb:∀ z∈zs,0<=z/\z<=4294967295:=λz hz'=>bounds_u32 (hwf z hz')
  refine⟨(zs.take len).map Int.toNat,⟨some a,cap,by rw[hll],by rw[hll]; exact hl,λh0=>?_⟩,?_⟩
  ·rw[hll] at h0;obtain⟨b,off,rfl,hc⟩:=ints_at hcell FI;refine⟨b,off,rfl,trivial,cell_lt (hc 0 FI),λk y hk=>?_⟩;unfold bY;rw[GY,KF] at hk;split at hk
   ·obtain⟨z,hz2,rfl⟩:=Option.map_eq_some_iff.1 hk;have hkl:=Gn hz2;have hzb:=hb z (List.mem_of_getElem? hz2);grind
   ·cases hk
  ·intro y hy;grind
theorem ai5 {v:GN} {x:DataW H×List MemPlace} (h:DataW.trod enc GI w base spare held fuel 28 [v]=some x):∃ l,Gs w All v l/\∀ r∈l,U32 r:=by
 rcases o7 Tryz.underlying28 Tryz.underlying42 aj ahB h with hcs | ⟨a,len,cap,hcs,hl,hi⟩
 ·injection hcs with hv _
  subst hv;exact zaC
 ·injection hcs with hv _
  subst hv;by_cases h0:0 < len
  ·obtain⟨n0,hf0⟩:=hi 0 h0;obtain⟨v0,_,hc0,_⟩:=hf0 0 _ rfl;obtain⟨b,off,spot⟩:=a;have hspot:spot=none:=by simpa [Addr.add] using JM hc0
   subst hspot;have aoX:∀ i,i < len->∃ r:Raw,DY w All b (off+i*3) r/\U32 r:=by
    intro i hil;obtain⟨n,hf⟩:=hi i hil;have cell:∀ (j:Nat) (u:GN),w.cell? ((⟨b,off,none⟩:Addr).add (i*3+j))=some u->w.cell? ⟨b,off+i*3+j,none⟩=some u:=λj u hu=>by
     exact zcJ
    exact YT
   obtain⟨l,hll,hp⟩:=yO _ len aoX;refine⟨l,⟨_,cap,by rw[hll],by rw[hll]; exact hl,λ_=>⟨b,off,rfl,trivial,?_,λk n hk=>(hp k n hk).1⟩⟩,λr hr=>?_⟩
   ·exact zav
   ·exact zde
  ·exact za3
theorem ahC {v:GN} {d:DataW H} {p:List MemPlace} {r:Reach} (hv:Value.okWide GI w r b0 27 v) (h:DataW.Trod enc GI w base spare held 27 v d p):∃ m,Gt w All v m/\∀ l∈m,∀ q∈l,U32 q:=by
 obtain⟨a0,len0,cap0,rfl⟩:=okWide_slice KA hv;obtain⟨fuel,hf⟩:=h;have hf':DataW.trod enc GI w base spare held fuel 27 [Gw a0 len0 cap0]=some (d,p):=by simpa [Value.cells] using hf
 rcases open_slice KA hf' with⟨hcs,_⟩ | ⟨a,len,cap,m,n,D,Pl,hcs,hb,hl,hm,hmm,hx,hi⟩
 ·injection hcs with hv' _
  rw[hv'];exact zaC
 ·injection hcs with hv' _
  rw[hv'];by_cases h0:0 < len
  ·have row:∀ i,i < len->∃ u y,w.cell? (a.add i)=some u/\DataW.trod enc GI w base spare held n 28 [u]=some y:=by
    intro i hil;obtain⟨cs',hc,ht'⟩:=hi i (by rw[hmm]; split <;> omega);rw[am5,Ho] at hc;obtain⟨_,hcl,hat⟩:=World.cells?_some hc;obtain⟨u,rfl⟩:∃ u,cs' = [u]:=List.length_eq_one_iff.1 hcl;have:=hat 0 FI;exact⟨u,_,by simpa [Addr.add] using this,ht'⟩
   obtain⟨u0,_,hc0,_⟩:=row 0 h0;obtain⟨b,off,spot⟩:=a;have hspot:spot=none:=by simpa [Addr.add] using JM hc0
   subst hspot;have hrow:∀ i,i < len->∃ l:List Raw,aai Gs w All b (off+i*1) l/\∀ r∈l,U32 r:=by
    intro i hil;obtain⟨u,y,hc,ht⟩:=row i hil;obtain⟨l,h1,h2⟩:=ai5 ht;exact⟨l,⟨u,by rw[Addr.add_lit] at hc; rw[Ho]; exact hc,h1⟩,h2⟩
   obtain⟨l,hll,hp⟩:=yO _ len hrow;refine⟨l,⟨_,cap,by rw[hll],by rw[hll]; exact hl,λ_=>⟨b,off,rfl,trivial,?_,λk n hk=>(hp k n hk).1⟩⟩,λr hr=>?_⟩
   ·exact zav
   ·exact zde
  ·exact za3
end
open Go.ChangeShapes Go.WideShapes Go.ChangeAt Go.RowKit
theorem Tryz.own:ownKnob Tryz.prog.godebug=none:=aj
theorem Tryz.laidOut:laidOutB GI=true:=aj
def tabCells:Array GN:=(Lib.deBruijn64tab.map λx:Nat=>Value.int .u8 (x:Int)).toArray
noncomputable def laidWorld (os:Os):GK :=
 let w0:=World.holding GI os ⟨#[],#[],[]⟩
 { w0 with heap:=w0.heap.modify 0 fun
   | .cells _ t frozen=>.cells tabCells t frozen
   | o=>o }
abbrev acn:List (String×DataW Unit):=[("math/bits.deBruijn64tab",Rows.laid_math_bits_deBruijn64tab)]
theorem laidWorld_met (os:Os) (args:Array GN):laidMet GI acn ((laidWorld os).forCall (λ_ _=>0) ⟨#[],args,[]⟩).memory :=
 laidMet_of_run' 8 aj aj
section
variable {H:Type} {enc:TypeId×GN->H} {w:GK} {base:Nat} {spare:Nat->Bool} {held:Bool}
theorem ai6 {v:GN} {x:DataW H×List MemPlace} (h:DataW.trod enc GI w base spare held fuel 29 [v]=some x):∃ l,Gs w All v l/\∀ r∈l,U32 r:=by
 rcases o7 KR Tryz.underlying42 aj ahB h with hcs | ⟨a,len,cap,hcs,hl,hi⟩
 ·injection hcs with hv _
  subst hv;exact zaC
 ·injection hcs with hv _
  subst hv;by_cases h0:0 < len
  ·obtain⟨n0,hf0⟩:=hi 0 h0;obtain⟨v0,_,hc0,_⟩:=hf0 0 _ rfl;obtain⟨b,off,spot⟩:=a;have hspot:spot=none:=by simpa [Addr.add] using JM hc0
   subst hspot;have aoX:∀ i,i < len->∃ r:Raw,DY w All b (off+i*3) r/\U32 r:=by
    intro i hil;obtain⟨n,hf⟩:=hi i hil;have cell:∀ (j:Nat) (u:GN),w.cell? ((⟨b,off,none⟩:Addr).add (i*3+j))=some u->w.cell? ⟨b,off+i*3+j,none⟩=some u:=λj u hu=>by
     exact zcJ
    exact YT
   obtain⟨l,hll,hp⟩:=yO _ len aoX;refine⟨l,⟨_,cap,by rw[hll],by rw[hll]; exact hl,λ_=>⟨b,off,rfl,trivial,?_,λk n hk=>(hp k n hk).1⟩⟩,λr hr=>?_⟩
   ·exact zav
   ·exact zde
  ·exact za3
theorem aeX {v:GN} {d:DataW H} {p:List MemPlace} {r:Reach} (hv:Value.okWide GI w r b0 29 v) (h:DataW.Trod enc GI w base spare held 29 v d p):∃ l,Gs w All v l/\∀ r∈l,U32 r:=by
 obtain⟨a0,len0,cap0,rfl⟩:=okWide_slice KR hv;obtain⟨fuel,hf⟩:=h;have hf':DataW.trod enc GI w base spare held fuel 29 [Gw a0 len0 cap0]=some (d,p):=by simpa [Value.cells] using hf
 exact ai6 hf'
end
theorem yg (os:Os) (started:os.Started) (H:Type) (enc:TypeId×GN->H) :
  ReturnsInHanded {} Tryz.checked os 3 .any (λw args=>(Rows.sequencePlansSpec.pre enc GI Tryz.f3 [] false w args/\laidMet GI acn w)/\sizedMet enc GI Tryz.f3 (OpenSpec.ofChange Rows.sequencePlansSpec) false w args)
   (Rows.sequencePlansSpec.post enc GI Tryz.f3 false true false false):=by
 refine returnsInHanded_of_change_and (C:=Tryz.checked) (X:=λw _=>laidMet GI acn w) (λ_ _ _ hh h=>h.of_heap hh) Tryz.own started aj Tryz.func3
  (ChangeSpec.witness_at (enc:=enc) (C:=Tryz.checked) (os:=os) (X:=λw _=>laidMet GI acn w) false (laidWorld os) #[.agg #[.int .i64 0,Gw none 0 0,Gw none 0 0],Gw none 0 0,Gw none 0 0,Gw none 0 0,.int .i64 0] 8 rfl aj aj aj aj aj (laidWorld_met os _)) ?_
 intro W base args ds gs before hval0 hW _ _ hL _;have hval:∀ (j:Nat) t v,Tryz.f3.params[j]? = some t->args[j]? = some v->Value.okWide GI W .any base t v:=hval0;have hW':=hW;obtain⟨p,q,hA0,hV,rfl,hfz,hnd⟩:=hW;have hA:DataW.TrodAll enc GI W 0 (λ_=>true) true Tryz.f3.params.toList args.toList ds p:=hA0;rw[Tryz.params3] at hA hval;obtain⟨v0,vr0,d0,dr0,p0,q0,ha,rfl,rfl,h0,hr0⟩:=trodAll_cons hA;obtain⟨v1,vr1,d1,dr1,p1,q1,rfl,rfl,rfl,h1,hr1⟩:=trodAll_cons hr0;obtain⟨v2,vr2,d2,dr2,p2,q2,rfl,rfl,rfl,h2,hr2⟩:=trodAll_cons hr1;obtain⟨v3,vr3,d3,dr3,p3,q3,rfl,rfl,rfl,h3,hr3⟩:=trodAll_cons hr2;obtain⟨v4,vr4,d4,dr4,p4,q4,rfl,rfl,rfl,h4,hr4⟩:=trodAll_cons hr3;obtain⟨rfl,rfl,rfl⟩:=trodAll_nil hr4;obtain rfl:args = #[v0,v1,v2,v3,v4]:=by cases args;simp_all
 clear ha;obtain⟨rfl,rfl⟩:=trodVars_none hV;obtain⟨g0,hg0⟩:=ai4 (hval 0 25 v0 rfl rfl) h0;obtain⟨m1,hm1,hU1⟩:=ahC (hval 1 27 v1 rfl rfl) h1;obtain⟨x2,hx2,hU2⟩:=aeX (hval 2 29 v2 rfl rfl) h2;obtain⟨x3,hx3,hU3⟩:=aeX (hval 3 29 v3 rfl rfl) h3;obtain⟨n4,rfl,rfl,rfl,hwn4⟩:=open_int Kv (hval 4 3 v4 rfl rfl) h4;clear hA0 hval0;simp only[IV,List.nil_append,IU] at hW';have hlt0:∀ x∈p0,x.block < W.heap.size:=λx hx=>hW'.lt x (by simp[hx])
 have hlt1:∀ x∈p1,x.block < W.heap.size:=λx hx=>hW'.lt x (by simp[hx])
 have hlt2:∀ x∈p2,x.block < W.heap.size:=λx hx=>hW'.lt x (by simp[hx])
 have hlt3:∀ x∈p3,x.block < W.heap.size:=λx hx=>hW'.lt x (by simp[hx])
 refine(ai3 W All v0 v1 v2 v3 g0 m1 x2 x3 n4 hg0 hm1 hx2 hx3 hU1 hU2 hU3 (ahy hL)).mono λe W' hR=>?_
 obtain⟨v,rfl,bel,rfl⟩:=hR;refine⟨_,rfl,_,_,_,[],p0++(p1++(p2++(p3))),[],hW',?_,?_,rfl,bel.frame _,λh=>by cases h⟩
 ·exact trodAll_mk1 (shut_bool Tryz.underlying4 true)
 ·have t3:=trodAll_cons_mk (Below.trod Tryz.laidOut aj (of_decide_eq_true aj) h0 bel hlt0) (trodAll_cons_mk (Below.trod Tryz.laidOut aj (of_decide_eq_true aj) h1 bel hlt1) (trodAll_cons_mk (Below.trod Tryz.laidOut aj (of_decide_eq_true aj) h2 bel hlt2) (trodAll_cons_mk (Below.trod Tryz.laidOut aj (of_decide_eq_true aj) h3 bel hlt3) (trodAll_cons_mk (shut_int (enc:=enc) (w:=W') Kv hwn4) (trodAll_mk0)))));simp only[IV,List.nil_append,IU] at t3;exact t3
theorem sequencePlans_holds:Rows.SequencePlansSaid :=
 OpenClaim.holds_of_wide 3 Tryz.f3 rfl rfl rfl rfl rfl rfl rfl ⟨rfl,rfl,rfl,rfl,rfl⟩ rfl rfl rfl rfl rfl aj Tryz.func3 aj
  (of_decide_eq_true aj) (by unfold Func.isWrapper; first | (rw[LH (by decide +kernel)]; kernel_rfl) | (rw[LG (by decide +kernel)]; exact⟨rfl,rfl⟩))
  (λos started H enc _=>yg os started H enc)
open Go
theorem sequencePlans_card:Rows.SequencePlansCardSaid :=
 Claim7.holds_tied_plain_at .later [] [.data] true (true, "30c311f9edb5e4f4072a9aea05bfbc697add4ef0372f0d0c15e7310b5a486a1b") false
  sequencePlans_holds (λ_ h=>by cases h) aj (λ_ h=>by cases h) sequencePlans_row_tie rfl ⟨rfl,rfl⟩ aj rfl
  (λf fn hf hfn=>by
   obtain rfl:f=3:=IE ((show Tryz.prog.funcNamed "parlour/parlourlaw22.SequencePlans" = some 3 by kernel_rfl).symm.trans hf) |>.symm;obtain rfl:fn=Tryz.f3:=(IE (Tryz.func3.symm.trans hfn)).symm;refine⟨aj,λj t ht=>?_⟩;rw[Tryz.params3] at ht;rcases j with _ | _ | _ | _ | _ | j
   ·obtain rfl:t=25:=by simpa using ht.symm
    exact(show Tryz.prog.wantsStandIn 25=false by kernel_rfl)
   ·obtain rfl:t=27:=by simpa using ht.symm
    exact(show Tryz.prog.wantsStandIn 27=false by kernel_rfl)
   ·obtain rfl:t=29:=by simpa using ht.symm
    exact(show Tryz.prog.wantsStandIn 29=false by kernel_rfl)
   ·obtain rfl:t=29:=by simpa using ht.symm
    exact(show Tryz.prog.wantsStandIn 29=false by kernel_rfl)
   ·obtain rfl:t=3:=by simpa using ht.symm
    exact(show Tryz.prog.wantsStandIn 3=false by kernel_rfl)
   ·simp at ht)
  aj
#print axioms sequencePlans_card
end Go.Proofs.YtenaplhghbcjhaaGreatDoor
