/- parlourref26.Part -/
import Derived.Test.YthmklhapjegfdaaGreatDoorV33
import Derived.Deep.CutBlock
set_option linter.all false
namespace Go.Proofs.YthmklhapjegfdaaGreatDoor
open Go.RowKit
def adq (g:Gm) (node:Int) (names:List Int) (e:Nat):Gm:=⟨g.au,(List.range' node.toNat (e - node.toNat)).map (uH g node (iP names names.length)),names.map (nP g)⟩
def endOf (g:Gm) (node:Int):Nat:=((aQ g.nodes).2.getD node.toNat 0+1).toNat
theorem abd {g:Gm} (hg:Good g) {r:Nat} (hr:r < g.nodes.length):r < endOf g r∧endOf g r≤g.nodes.length∧Span g.nodes [(r:Int)] r (endOf g r)∧(aQ g.nodes).2[r]? = some ((endOf g r:Int) - 1)∧(∀ k,r≤k→k < endOf g r→(iR g.nodes [(r:Int)])[k]? = some true)∧(endOf g r < g.nodes.length→(iR g.nodes [(r:Int)])[endOf g r]? = some false):=by
 obtain⟨e,hs,h1,h2,h3⟩:=qB hg hr;have he:endOf g r=e:=by
  unfold endOf;rw[Int.toNat_natCast,List.getD_eq_getElem?_getD,h3];simp
 rw[he];have hu:=yN hg hr h3;have hget:∀ k,k < g.nodes.length→(iR g.nodes [(r:Int)])[k]? = some (gJ r ((e:Int) - 1) k):=fun k hk=>by
  obtain⟨b,hb⟩:=aC (l:=iR g.nodes [(r:Int)]) (k:=k) (by rw[uT]; exact hk);have:=hu k;rw[List.getD_eq_getElem?_getD,hb] at this;simp at this;rw[hb,this]
 refine⟨h1,h2,hs,h3,fun k hk hl=>?_,fun hl=>?_⟩
 ·rw[hget k byOmega];unfold gJ;rw[decide_eq_true byOmega,decide_eq_true byOmega];rfl
 ·rw[hget e hl];unfold gJ;rw[decide_eq_false (p:=(e:Int)≤e - 1) byOmega,Bool.and_false]
theorem ajH {g:Gm} (hg:Good g) {r:Nat} (hr:r < g.nodes.length):fO g (r:Int)=uh g [(r:Int)]:=by
 obtain⟨_,_,_,hy,_⟩:=abd hg hr;have hu:=yN hg hr hy;unfold fO uh nO;have hl:(aW g).length=g.infos.length:=bC _ _ _;rw[hl,Int.toNat_natCast,List.getD_eq_getElem?_getD,hy];unfold kJ qw;congr 1
 apply List.filter_congr
 intro p hp;have hm:p.1∈aW g:=by
  have h1:p.1∈(aW g).take g.infos.length:=(List.mem_zipIdx hp).2.2▸List.getElem_mem _;exact List.mem_of_mem_take h1
 rw[xO,Bool.eq_iff_iff];simp only[List.any_eq_true];have hx:∀ x∈p.1,wJ (r:Int) (Option.getD (some ((endOf g (r:Int):Int) - 1)) 0) x=jr (iR g.nodes [(r:Int)]) x:=by
  intro x hx;obtain⟨h0,h1⟩:=mJ (Nat.le_refl _) p.1 hm x hx;obtain⟨z,rfl⟩:=Int.eq_ofNat_of_zero_le h0;unfold jr;rw[Int.toNat_natCast,hu z];rfl
 constructor
 ·rintro⟨x,h1,h2⟩;exact⟨x,h1,by rw[← hx x h1]; exact h2⟩
 ·rintro⟨x,h1,h2⟩;exact⟨x,h1,by rw[hx x h1]; exact h2⟩
theorem acs {g:Gm} {node:Int} (h:fK g node=0):Good g∧∃ r:Nat,node=r∧r < g.nodes.length:=by
 unfold fK at h;by_cases hf:bF g=0
 ·refine⟨jd hf,?_⟩;rw[if_neg (by simpa using hf)] at h;by_cases hb:hasB g.nodes.length node=true
  ·unfold hasB at hb;simp at hb;obtain⟨r,rfl⟩:=Int.eq_ofNat_of_zero_le hb.1;exact⟨r,rfl,byOmega⟩
  ·rw[if_neg hb] at h;omega
 ·rw[if_pos (by simpa using hf)] at h;exact absurd h hf
theorem aij {g:Gm} {node:Int} (h:fK g node=0):fO g node=uh g [node]∧rG g node=adq g node (uh g [node]) (endOf g node):=by
 obtain⟨hg,r,rfl,hr⟩:=acs h;have hn:=ajH hg hr;refine⟨hn,?_⟩;obtain⟨_,_,hs,_⟩:=abd hg hr;have hp:=ags hs g.nodes.length byOmega;simp only[List.flatMap_cons,List.flatMap_nil,List.append_nil,Int.toNat_natCast] at hp;unfold rG adq;rw[Int.toNat_natCast,hp,hn]
end Go.Proofs.YthmklhapjegfdaaGreatDoor
