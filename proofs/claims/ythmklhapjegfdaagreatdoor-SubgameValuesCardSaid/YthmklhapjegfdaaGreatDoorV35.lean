/- parlourkit.AlikeGame: whether two games are equal. -/
import Derived.Test.YthmklhapjegfdaaGreatDoorV04
import Derived.StillTailTactics
set_option linter.all false
set_option maxRecDepth 100000
set_option maxHeartbeats 12800000
namespace Go.Proofs.YthmklhapjegfdaaGreatDoor
open Lib renaming hid → Ac
open Go.RowKit
theorem aik (a b:Gm):a=b↔a.au=b.au∧a.nodes=b.nodes∧a.infos=b.infos:=by cases a; cases b; simp
theorem abH (w:World) (F:Ag) (u1 u2:Value) (g1 g2:Gm) (h1:AB w F u1 g1) (h2:AB w F u2 g2) (hs1:Small g1) (hs2:Small g2) :
  Calls Tryz.prog 31 #[u1,u2] w (Ret w fun v _=>v = .bool (decide (g1=g2))):=by
 obtain⟨vn1,vi1,rfl,⟨A1,c1,rfl,hc1,hN1⟩,hI1⟩:=h1;obtain⟨vn2,vi2,rfl,⟨A2,c2,rfl,hc2,hN2⟩,hI2⟩:=h2;have HN1:=Ac hN1;clear hN1;have HN2:=Ac hN2;clear hN2;have HI1:=Ac hI1;clear hI1;have HI2:=Ac hI2;clear hI2;have b1:=hs1.nodes;have b2:=hs2.nodes;have b3:=hs1.infos;have b4:=hs2.infos;have HS1:=Ac hs1;clear hs1;have HS2:=Ac hs2;clear hs2;have HE:=Ac (aik g1 g2);by_cases q0:g1.au=g2.au
 case neg =>
  have d0:(g1.au != g2.au)=true:=by simp[q0]
  have HF:=Ac (show decide (g1=g2)=false by simp only[decide_eq_false_iff_not]; exact fun h=>q0 (HE.out.1 h).1);clear q0;go_in;exact Zl
 have d0:(g1.au != g2.au)=false:=by simp[q0]
 have Q0:=Ac q0;clear q0;by_cases q1:g1.nodes.length=g2.nodes.length
 case neg =>
  have d1:((g1.nodes.length:Int) != (g2.nodes.length:Int))=true:=aB;have HF:=Ac (show decide (g1=g2)=false by simp only[decide_eq_false_iff_not]; exact fun h=>q1 (by rw[(HE.out.1 h).2.1]));clear q1;go_in;exact Zl
 have d1:((g1.nodes.length:Int) != (g2.nodes.length:Int))=false:=aB;have Q1:=Ac q1;clear q1;by_cases q2:g1.infos=g2.infos
 case neg =>
  have d2:decide (g1.infos=g2.infos)=false:=by simp[q2]
  have HF:=Ac (show decide (g1=g2)=false by simp only[decide_eq_false_iff_not]; exact fun h=>q2 (HE.out.1 h).2.2);clear q2;go_in;go_wp2_with (go_at_call 79; (with_reducible refine(uN _ F _ _ g1.infos g2.infos (HI1.out.on ?_) (HI2.out.on ?_) byOmega byOmega).mono ?_); exact(by repeat (first | exact Same.refl _ _ | exact Same.drewN _ _ _ | exact Same.alloc _ _ _ | refine Same.trans ?_ (Same.drewN _ _ _) | refine Same.trans ?_ (Same.alloc _ _ _))); exact(by repeat (first | exact Same.refl _ _ | exact Same.drewN _ _ _ | exact Same.alloc _ _ _ | refine Same.trans ?_ (Same.drewN _ _ _) | refine Same.trans ?_ (Same.alloc _ _ _))); rintro e w' ⟨rfl,m,rfl⟩)
  exact zaQ
 have d2:decide (g1.infos=g2.infos)=true:=by simp[q2]
 have Q2:=Ac q2;clear q2;go_in;go_wp2_with (go_at_call 79; (with_reducible refine(uN _ F _ _ g1.infos g2.infos (HI1.out.on ?_) (HI2.out.on ?_) byOmega byOmega).mono ?_); exact(by repeat (first | exact Same.refl _ _ | exact Same.drewN _ _ _ | exact Same.alloc _ _ _ | refine Same.trans ?_ (Same.drewN _ _ _) | refine Same.trans ?_ (Same.alloc _ _ _))); exact(by repeat (first | exact Same.refl _ _ | exact Same.drewN _ _ _ | exact Same.alloc _ _ _ | refine Same.trans ?_ (Same.drewN _ _ _) | refine Same.trans ?_ (Same.alloc _ _ _))); rintro e w' ⟨rfl,m,rfl⟩)
 go_loopw [5] (fun i wr=>∃ k:Nat,k≤g1.nodes.length∧i = .int .i64 k∧g1.nodes.take k=g2.nodes.take k∧Row wr w.heap.size 25 [.int .i64 g1.au,.slice A1 g1.nodes.length c1,vi1]∧Row wr (w.heap.size+1) 25 [.int .i64 g2.au,.slice A2 g2.nodes.length c2,vi2]∧Below w.heap.size w wr) (fun i _=>g1.nodes.length - (intOf i).toNat)
 case atStart =>
  refine⟨0,byOmega,rfl,ay,?_,?_,aY _ _ _ _⟩
  ·exact((Row.new w _ _).alloc _)
  ·have:=Row.new (w.alloc (.cells #[.int .i64 g1.au,.slice A1 g1.nodes.length c1,vi1] 25)) 25 #[.int .i64 g2.au,.slice A2 g2.nodes.length c2,vi2];simp only[World.size_alloc] at this;exact this
 case round =>
  obtain⟨k,hk,rfl,hpre,hr1,hr2,hbel⟩:=hrel;have HP:=Ac hpre;clear hpre;have x1:=hr1.cell (i:=1) rfl;have x2:=hr2.cell (i:=1) rfl;by_cases hlt:k < g1.nodes.length
  ·obtain⟨bb1,o1,rfl,_,hb1,hcell1⟩:=HN1.out byOmega;have hk2:k < g2.nodes.length:=by have:=Q1.out;omega
   obtain⟨bb2,o2,rfl,_,hb2,hcell2⟩:=HN2.out byOmega;obtain⟨n1,hn1⟩:=aC hlt;obtain⟨n2,hn2⟩:=aC hk2;obtain⟨e10,e11,e12,⟨v13,e13,i13⟩,⟨v14,e14,i14⟩,⟨v15,e15,i15⟩⟩:=hcell1 k n1 hn1;obtain⟨e20,e21,e22,⟨v23,e23,i23⟩,⟨v24,e24,i24⟩,⟨v25,e25,i25⟩⟩:=hcell2 k n2 hn2;have V1:=Ac (show BF w F _ n1 from⟨v13,v14,v15,rfl,i13,i14,i15⟩);have V2:=Ac (show BF w F _ n2 from⟨v23,v24,v25,rfl,i23,i24,i25⟩);clear i13 i14 i15 i23 i24 i25 hcell1 hcell2;have M1:=List.mem_of_getElem? hn1;have M2:=List.mem_of_getElem? hn2;have L1:n1.next.length < 1000000∧n1.weights.length < 1000000∧n1.pay.length < 1000000:=⟨by have:=HS1.out.next n1 M1; omega,by have:=HS1.out.weights n1 M1; omega,by have:=HS1.out.pay n1 M1; omega⟩;have L2:n2.next.length < 1000000∧n2.weights.length < 1000000∧n2.pay.length < 1000000:=⟨by have:=HS2.out.next n2 M2; omega,by have:=HS2.out.weights n2 M2; omega,by have:=HS2.out.pay n2 M2; omega⟩;have HL1:=Ac L1;clear L1;have HL2:=Ac L2;clear L2 M1 M2;have HX:=Ac hn1;clear hn1;have HY:=Ac hn2;clear hn2;have hold:=aJ hbel;by_cases he:n1=n2
   ·have hd:decide (n1=n2)=true:=by simp[he]
    have HEQ:=Ac he;clear he;go_wp2
    go_still_tail 10,ak
    change wpList _ _ _ _ _ wr.drew;go_wp2_with (go_at_call 80; (with_reducible refine(uO _ F _ _ n1 n2 (V1.out.on ?_) (V2.out.on ?_) HL1.out HL2.out).mono ?_); exact Below.same' hbel.drew F; exact Below.same' hbel.drew F; rintro e w' ⟨_,rfl,hb,rfl⟩)
    go_roundw
    case rel =>
     refine⟨k+1,byOmega,by go_num,?_,hr1.drew.below hb hr1.lt,hr2.drew.below hb hr2.lt,hbel.drew.trans (hb.mono hbel.size)⟩;have e2:=HY.out;rw[← HEQ.out] at e2;exact je HX.out e2 HP.out
    case measure=>simp[intOf]; omega
   ·have hd:decide (n1=n2)=false:=by simp[he]
    have HF:=Ac (show decide (g1=g2)=false by
     simp only[decide_eq_false_iff_not]; rintro rfl;have h3:=HX.out; rw[HY.out] at h3; cases h3; exact he rfl)
    clear he;go_wp2
    go_still_tail 10,ak
    change wpList _ _ _ _ _ wr.drew;go_wp2_with (go_at_call 80; (with_reducible refine(uO _ F _ _ n1 n2 (V1.out.on ?_) (V2.out.on ?_) HL1.out HL2.out).mono ?_); exact Below.same' hbel.drew F; exact Below.same' hbel.drew F; rintro e w' ⟨_,rfl,hb,rfl⟩)
    exact zbv
  ·go_wp2
   go_ret;refine⟨_,rfl,hbel,?_⟩;have h3:=HP.out;have h4:=Q1.out;have h5:g1.nodes=g2.nodes:=by
    exact YA
   have h6:g1=g2:=HE.out.2 ⟨Q0.out,h5,Q2.out⟩;simp[h6]
end Go.Proofs.YthmklhapjegfdaaGreatDoor
