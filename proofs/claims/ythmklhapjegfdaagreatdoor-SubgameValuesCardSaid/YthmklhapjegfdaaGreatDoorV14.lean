/- a map[int]int of one's own: what is at a key; maps.Clone -/
import Derived.Test.YthmklhapjegfdaaGreatDoorV13
import Derived.Maps.OwnSet
import Derived.Maps.Views
set_option linter.all false
set_option maxRecDepth 100000
set_option maxHeartbeats 12800000
namespace Go.Proofs.YthmklhapjegfdaaGreatDoor
open Go.RowKit Go.Maps
def MapAt (w:World) (b n:Nat) (f:Int→Int):Prop :=
 ∃ D:DataW Unit,w.ownsMap Tryz.prog 3 (plainElem Tryz.prog 3) b n D∧∀ x,D.atKey (.int .i64 x) (.lit (.int .i64 0)) = .lit (.int .i64 (f x))
variable {w w':World} {b n:Nat} {f:Int→Int}
theorem MapAt.lt (h:MapAt w b n f):b < w.heap.size:=h.choose_spec.1.lt
theorem MapAt.of_block (h:MapAt w b n f) (e:w'.heap[b]? = w.heap[b]?):MapAt w' b n f:=by
 obtain⟨D,⟨es,clock,hb,hF,hs,hD⟩,hf⟩:=h;exact⟨D,⟨es,clock,e.trans hb,hF,hs,hD⟩,hf⟩
theorem MapAt.below (h:MapAt w b n f) (hb:Below w.heap.size w w'):MapAt w' b n f:=h.of_block (hb.block b h.lt)
theorem MapAt.made (w:World):MapAt (w.alloc (.map #[] 0)) w.heap.size 0 (fun _=>0):=⟨.map [],World.ownsMap_made w _ _ _,fun _=>rfl⟩
theorem ad5 {ops:Array Oper} {rest:List Oper} {o:Oper} {a:Act} {Q:Exit→Act→World→Prop} (hgd:o.guard=none) (m x v:Operand) (ho:o.op=Op.mapUpdate 126 m x v)
  (b n:Nat) (f:Int→Int) (hm:a.eval m = .map (some b)) (hown:MapAt w b n f) (hn:n < 1000000) (k u:Int) (hk:a.eval x = .int .i64 k) (hu:a.eval v = .int .i64 u) (wk:(Lit.int .i64 k).wf=true) (wu:(Lit.int .i64 u).wf=true)
  (h:∀ w',MapAt w' b (n+1) (fun y=>if y=k then u else f y)→w.grownBy w' (some b)→wpList Tryz.prog ops Q rest (a.put o.dst undef) w') :
  wpList Tryz.prog ops Q (o :: rest) a w:=by
 obtain⟨D,hD,hf⟩:=hown;refine wpList_mapUpdate_own w hgd m x v _ ho _ _ (int_keyed Tryz.underlying3) Tryz.underlying126 _ b n D hm hD (by unfold maxLen; omega) _ _ (.int .i64 k) hk hu (keyOf_int_mk Tryz.underlying3 wk) (.lit (.int .i64 u)) [] (plainElem_int Tryz.underlying3 wu) ?_;intro w' h1 h2;refine h w' ⟨_,h1,fun y=>?_⟩ h2;by_cases e:y=k
 ·subst e;dsimp only;rw[if_pos rfl];exact atKey_put_same hD.isMap (by unfold WideAt.IsKeyLit; trivial) _ _
 ·dsimp only;rw[if_neg e,atKey_put_other (fun e'=>e (by cases e'; rfl))];exact hf y
theorem acY {ops:Array Oper} {rest:List Oper} {o:Oper} {a:Act} {Q:Exit→Act→World→Prop} (hgd:o.guard=none) (m x:Operand) (ho:o.op=Op.lookup 126 m x false)
  (b n:Nat) (f:Int→Int) (hm:a.eval m = .map (some b)) (hown:MapAt w b n f) (k:Int) (hk:a.eval x = .int .i64 k) (wk:(Lit.int .i64 k).wf=true)
  (h:wpList Tryz.prog ops Q rest (a.put o.dst (.int .i64 (f k))) w) :
  wpList Tryz.prog ops Q (o :: rest) a w:=by
 obtain⟨D,hD,hf⟩:=hown;refine wpList_lookup_own_int w hgd m x _ ho _ _ .i64 (int_keyed Tryz.underlying3) Tryz.underlying126 Tryz.underlying3 (Tryz.zeroValue3 w) b n D hm hD _ (.int .i64 k) hk (keyOf_int_mk Tryz.underlying3 wk) ?_;intro c hc _;rw[hf k] at hc;cases hc;exact h
theorem acZ (w:World) (b n:Nat) (f:Int→Int) (hm:MapAt w b n f) :
  Calls Tryz.prog 140 #[.map (some b)] w (Ret w (fun v w'=>v = .map (some w.heap.size)∧MapAt w' w.heap.size n f)):=by
 obtain⟨D,⟨es,clock,hb,hF,hs,hD⟩,hf⟩:=hm;have HH:MapAt (w.alloc (.map es clock)) w.heap.size n f:=⟨D,⟨es,clock,heap_alloc_new _ _,hF,hs,hD⟩,hf⟩;have HF:=Lib.hid HH;clear HH hf hD hs hF;have hq:=fun w=>run_eql_map_nil_sl (P:=Tryz.prog) w 126 _ _ (some b) Tryz.underlying126
 have hta:=fun W=>run_typeAssert_map_sl (P:=Tryz.prog) W 126 20 _ _ (.map (some w.heap.size)) Tryz.underlying126
 go_in;go_wp2
 rw[run_callFunc_extern Tryz.func183 ak ak ak (e:=Extern.MapsClone.clone) ak,run_maps_clone_sl w 126 hb];simp only[Result.andThen];rw[Oper.upon_value];clear hq hb;go_wp2
 go_ret;exact⟨_,rfl,(Below.refl _ w).alloc (Nat.le_refl _) _,rfl,HF.out⟩
end Go.Proofs.YthmklhapjegfdaaGreatDoor
