/- parlourlaw17.large; what the laws of this package have in common. -/
import Derived.Test.YtkcheepafifjaaaGreatDoorU40
import Derived.Test.YtkcheepafifjaaaGreatDoorU41
set_option linter.all false
set_option maxRecDepth 100000
set_option maxHeartbeats 12800000
namespace Go.Proofs.YtkcheepafifjaaaGreatDoor
open Lib renaming hid → Ac
open Go.RowKit
theorem xG (w:World) (F:Ag) (vg vm:Value) (g:Gm) (m:List (List Raw)) (hg:AA w F vg g) (hm:Ae w F vm m) :
  Calls Tryz.prog 9 #[vg,vm] w (Ret w fun v _=>v = .bool (jD g 60 20||mZ m 30 20 4)):=by
 have HG:=Ac hg; have HM:=Ac hm;obtain⟨vn,vi,rfl,⟨A,c,rfl,hc,_⟩,⟨Ai,ci,rfl,hci,_⟩⟩:=hg;obtain⟨Am,cm,rfl,hcm,_⟩:=hm;obtain⟨lb,hlb⟩:∃ b,b=jD g 60 20:=⟨_,rfl⟩;have HL:=Ac hlb;rw[← hlb];clear hlb;cases lb with
 | false =>
  obtain⟨wb,hwb⟩:∃ b,b=mZ m 30 20 4:=⟨_,rfl⟩;have HW:=Ac hwb;rw[← hwb];clear hwb;go_enter Tryz.func9,Tryz.ntmps9;go_wp2_with fail
  obtain⟨W,hW,rx,hB,hz⟩:=aB w 25 #[.int .i64 g.ak,.slice A g.nodes.length c,.slice Ai g.infos.length ci];rw[← hW];clear hW rx;replace HG:=Ac (HG.out.on (Below.same' hB F)); replace HM:=Ac (Ae.on HM.out (Below.same' hB F));refine(aaq W F _ g HG.out 60 20 (by decide)).mono ?_;rintro e w1 ⟨u,rfl,hb1,rfl⟩;replace HM:=Ac (Ae.on HM.out (Below.same' hb1 F));have hB1:=hB.trans (hb1.mono hB.size);rw[← HL.out];clear hb1;dsimp only;go_wp2_with fail
  refine(agL w1 F _ m HM.out 30 20 4 (by decide) (by decide)).mono ?_;rintro e w2 ⟨rfl,rfl⟩;rw[← HW.out];dsimp only;go_wp2
  go_ret;exact⟨_,rfl,hB1,rfl⟩
 | true =>
  go_enter Tryz.func9,Tryz.ntmps9;go_wp2_with fail
  obtain⟨W,hW,rx,hB,hz⟩:=aB w 25 #[.int .i64 g.ak,.slice A g.nodes.length c,.slice Ai g.infos.length ci];rw[← hW];clear hW rx;replace HG:=Ac (HG.out.on (Below.same' hB F));refine(aaq W F _ g HG.out 60 20 (by decide)).mono ?_;rintro e w1 ⟨u,rfl,hb1,rfl⟩;have hB1:=hB.trans (hb1.mono hB.size);rw[← HL.out];clear hb1;dsimp only;go_wp2
  go_ret;exact⟨_,rfl,hB1,rfl⟩
theorem zF {g:Gm} {nodes sets:Int} (h:jD g nodes sets=false) (hn:nodes≤100) (hs:sets≤100):Small g:=by
 unfold jD at h;simp only[Bool.or_eq_false_iff,decide_eq_false_iff_not,List.any_eq_false] at h;obtain⟨⟨h1,h2⟩,h3⟩:=h;have h4:∀ n∈g.nodes,n.next.length≤100∧n.weights.length≤100∧n.pay.length≤100:=by
  intro n hn';have:=h3 n hn';unfold og at this;simp at this;omega
 exact⟨by omega,by omega,fun n hn=>(h4 n hn).1,fun n hn=>(h4 n hn).2.1,fun n hn=>(h4 n hn).2.2⟩
theorem Aj.none (w:World) (F:Ag):Aj w F (.slice none 0 0) []:=Aj.nil w F
theorem afM:Bj []:=⟨by decide,fun r h=>by cases h⟩
theorem aea {xs:List Rat} (h:∀ x∈xs,rl x≤1024) (hl:xs.length≤1000):Bj (fitsV xs):=by
 unfold fitsV;rw[vG h];exact oN h hl
theorem aeD {B:World} {f:Nat} {args:Array Value} {F':Ag} {e:Int} (h:Calls Tryz.prog f args B (Ret B fun u _=>u = .tuple #[.slice none 0 0,.int .i64 e])):Calls Tryz.prog f args B (Ret B (BQ F' B.heap.size e [])):=by
 refine h.mono ?_;rintro e w' ⟨u,rfl,hb,rfl⟩;exact⟨_,rfl,hb,_,rfl,Aj.nil _ _⟩
theorem aag {m:List (List Raw)} (h:mZ m 30 20 4=false):m.length≤30∧(∀ l∈m,l.length≤20)∧CO m:=by
 unfold mZ at h;rw[Bool.or_eq_false_iff] at h;have h1:=h.1;have h2:=List.any_eq_false.1 h.2;have h3:∀ l∈m,l.length≤20∧∀ r∈l,r.num.length≤4∧r.den.length≤4:=by
  intro l hl;have h4:=h2 l hl;unfold wX at h4;rw[Bool.not_eq_true,Bool.or_eq_false_iff] at h4;have h5:=List.any_eq_false.1 h4.2;refine⟨by have:=h4.1; simp at this; omega,fun r hr=>?_⟩;have h6:=h5 r hr;simp at h6; omega
 exact⟨by simp at h1; omega,fun l hl=>(h3 l hl).1,fun l hl=>(h3 l hl).2⟩
theorem ahN {m:List (List Raw)} (h:∀ l∈m,l.length≤20) (h4:CO m) (hU:∀ l∈m,∀ r∈l,U32 r):AO m :=
 fun l hl=>⟨by have:=h l hl; omega,fun r hr=>⟨hU l hl r hr,by have:=h4 l hl r hr; omega,by have:=h4 l hl r hr; omega⟩⟩
end Go.Proofs.YtkcheepafifjaaaGreatDoor
