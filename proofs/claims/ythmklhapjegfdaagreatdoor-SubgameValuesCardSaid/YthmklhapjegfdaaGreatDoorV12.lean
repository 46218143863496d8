/- A walk over code that sends into a buffered channel with room, and receives from one that holds something, in one goroutine: rules for regions with such an operation. -/
import Derived.Test.YthmklhapjegfdaaGreatDoorV04
import Derived.Conc.LoneCalls
import Derived.Conc.LoneSelectN
set_option linter.all false
namespace Go.Proofs.YthmklhapjegfdaaGreatDoor
open Go.RowKit Go.Conc
section
variable {P:Program} {ops:Array Oper} {Q:Exit→Act→World→Prop}
def Dh (P:Program) (ops:Array Oper) (i:Nat) (K:Act→World→Prop) (a:Act) (w:World):Prop :=
 ∀ (b:Frame) (rest:List Nat) (k:List Item) (cs:List Frame),∃ a' w',K a' w'∧Steps P (lone (b.at a (.inRegion ops (i :: rest) :: k)) cs w) (lone (b.at a' (.inRegion ops rest :: k)) cs w')
theorem Dh.mono {i:Nat} {K K':Act→World→Prop} {a:Act} {w:World} (h:Dh P ops i K a w) (hk:∀ a w,K a w→K' a w):Dh P ops i K' a w :=
 fun b rest k cs=>let ⟨a',w',h1,h2⟩:=h b rest k cs; ⟨a',w',hk _ _ h1,h2⟩
theorem aaG {i:Nat} {o:Oper} {v:Value} {K:Act→World→Prop} {a:Act} {w w':World} (ho:ops[i]? = some o) (hw:Region.wanted o (yielded ops a.tmps)=true)
  (hr:(execOp a.eval o).run P w = .ok (.value v) w') (h:K (a.put o.dst v) w'):Dh P ops i K a w:=by
 intro b rest k cs;refine⟨_,_,h,.one (step_lone_go ?_)⟩;have hfin:(b.at a (.inRegion ops (i :: rest) :: k)).finish v=b.at (a.put o.dst v) (.inRegion ops rest :: k):=by rw[Frame.finish_at,ho];rfl
 rw[stepG_op ho hw,← hfin];simp[stepG.apply,hr]
theorem y9 {i:Nat} {rest:List Nat} {o:Oper} {cases:Array CommCase} {blocking:Bool} {shape:CommShape} {a:Act} {w w':World} {b:Frame} {k:List Item} {cs:List Frame} (ho:ops[i]? = some o) (hw:Region.wanted o (yielded ops a.tmps)=true)
  (hr:(execOp a.eval o).run P w = .ok (.comm cases blocking shape) w'):∃ es,stepG P true (G (b.at a (.inRegion ops (i :: rest) :: k)) cs) w = .comm (G (b.at a (.inRegion ops (i :: rest) :: k)) cs) cases blocking shape w' es:=by
 by_cases hk:b.kind = .early
 ·rw[stepG_oper ho hw];exact⟨_,by simp[stepG.apply,hr,G,Frame.at,GStep.after]; rfl⟩
 ·exact⟨_,stepG_comm ho hw hk hr⟩
theorem ahB {i:Nat} {o:Oper} {K:Act→World→Prop} {a:Act} {w:World} {c cap s r:Nat} {buf:Array Value} {v z:Value} {tm:Bool} (ho:ops[i]? = some o) (hw:Region.wanted o (yielded ops a.tmps)=true)
  (hr:(execOp a.eval o).run P w = .ok (.comm #[scase c v z] true .send) w) (hc:w.heap[c]? = some (.chan cap buf false s r tm)) (hroom:buf.size < cap)
  (h:K (a.put o.dst undef) (w.setChan c cap (buf.push v) false (s+1) r tm)):Dh P ops i K a w:=by
 intro b rest k cs;obtain⟨es,hst⟩:=y9 (b:=b) (rest:=rest) (k:=k) (cs:=cs) ho hw hr;have hs:=step_lone_send_room hst hc hroom;rw[Frame.finish_at,ho] at hs;exact⟨_,_,h,.one hs⟩
theorem ahC {i:Nat} {o:Oper} {K:Act→World→Prop} {a:Act} {w:World} {c cap s r:Nat} {buf:Array Value} {z:Value} {tm closed:Bool} (ho:ops[i]? = some o) (hw:Region.wanted o (yielded ops a.tmps)=true)
  (hr:(execOp a.eval o).run P w = .ok (.comm #[rcase c z] true (.recv false)) w) (hc:w.heap[c]? = some (.chan cap buf closed s r tm)) (hsome:0 < buf.size)
  (h:K (a.put o.dst (buf.getD 0 undef)) (w.setChan c cap (buf.extract 1 buf.size) closed s (r+1) tm)):Dh P ops i K a w:=by
 intro b rest k cs;obtain⟨es,hst⟩:=y9 (b:=b) (rest:=rest) (k:=k) (cs:=cs) ho hw hr;have hs:=step_lone_recv_buf false hst hc hsome;rw[Frame.finish_at,ho] at hs;exact⟨_,_,h,.one hs⟩
theorem aaH {i:Nat} {o:Oper} {K:Act→World→Prop} {a:Act} {w:World} {c cap s r:Nat} {l:List Value} {v z:Value} {tm closed:Bool} (ho:ops[i]? = some o) (hw:Region.wanted o (yielded ops a.tmps)=true)
  (hr:(execOp a.eval o).run P w = .ok (.comm #[rcase c z] true (.recv false)) w) (hc:w.heap[c]? = some (.chan cap (v :: l).toArray closed s r tm))
  (h:K (a.put o.dst v) (w.setChan c cap l.toArray closed s (r+1) tm)):Dh P ops i K a w:=by
 refine ahC ho hw hr hc ay ?_;simpa using h
def oO (P:Program) (ops:Array Oper) (Q:Exit→Act→World→Prop):List Nat→Act→World→Prop
 | [],a,w=>Q .normal a w
 | i :: rest,a,w=>Dh P ops i (oO P ops Q rest) a w
theorem qV {i:Nat} {rest:List Nat} {o:Oper} {v:Value} {a:Act} {w w':World} (ho:ops[i]? = some o) (hw:Region.wanted o (yielded ops a.tmps)=true)
  (hr:(execOp a.eval o).run P w = .ok (.value v) w') (h:oO P ops Q rest (a.put o.dst v) w'):oO P ops Q (i :: rest) a w:=aaG ho hw hr h
theorem ad2 {i:Nat} {rest:List Nat} {o:Oper} {a:Act} {w:World} {c cap s r:Nat} {buf:Array Value} {v z:Value} {tm:Bool} (ho:ops[i]? = some o) (hw:Region.wanted o (yielded ops a.tmps)=true)
  (hr:(execOp a.eval o).run P w = .ok (.comm #[scase c v z] true .send) w) (hc:w.heap[c]? = some (.chan cap buf false s r tm)) (hroom:buf.size < cap)
  (h:oO P ops Q rest (a.put o.dst undef) (w.setChan c cap (buf.push v) false (s+1) r tm)):oO P ops Q (i :: rest) a w:=ahB ho hw hr hc hroom h
theorem oP:∀ (l:List Nat) (a:Act) (w:World),oO P ops Q l a w→∀ (b:Frame) (k:List Item) (cs:List Frame),∃ e a' w',Q e a' w'∧Arrives P (lone (b.at a (.inRegion ops l :: k)) cs w) b k cs e a' w'
 | [],a,w,h,b,k,cs=>⟨.normal,a,w,h,.one step_region_end⟩
 | i :: rest,a,w,h,b,k,cs=>by
  obtain⟨a',w',h1,h2⟩:=h b rest k cs;obtain⟨e,a2,w2,h3,h4⟩:=oP rest a' w' h1 b k cs;exact⟨e,a2,w2,h3,.of_steps h2 h4⟩
theorem wp_region_list {id:Nat} {a:Act} {w:World} (h:oO P ops Q (List.range ops.size) a w):(Code.region id ops false).wp P Q a w:=by
 intro b k cs;obtain⟨e,a',w',h1,h2⟩:=oP _ a w h b k cs;exact⟨e,a',w',h1,.of_steps (.one step_region) h2⟩
def ad3 (P:Program) (md:Region.Mode) (ops:Array Oper) (Q:Exit→Act→World→Prop):Nat→Array Bool→Act→World→Prop
 | 0,listed,a,w=>Region.ready md ops listed = []∧Q .normal a w
 | fuel+1,listed,a,w=>(Region.ready md ops listed = []→Q .normal a w)∧∀ i∈Region.ready md ops listed,Dh P ops i (ad3 P md ops Q fuel (listed.setIfInBounds i true)) a w
theorem afH {md:Region.Mode}:∀ (fuel t:Nat) (listed:Array Bool) (a:Act) (w:World),ad3 P md ops Q fuel listed a w→oO P ops Q (Region.linearise.go md ops fuel t listed []) a w:=by
 intro fuel;induction fuel with
 | zero=>intro t listed a w h; simpa [Region.linearise.go,oO] using h.2
 | succ fuel ih =>
  intro t listed a w h;simp only[Region.linearise.go];change oO P ops Q (match (Region.ready md ops listed)[t % (Region.ready md ops listed).length]? with
   | some i=>Region.linearise.go md ops fuel (t / (Region.ready md ops listed).length) (listed.setIfInBounds i true) [i]
   | none=>[].reverse) a w
  cases hi:(Region.ready md ops listed)[t % (Region.ready md ops listed).length]? with
  | none =>
   refine h.1 ?_;cases hr:Region.ready md ops listed with
   | nil=>rfl
   | cons x xs =>
    rw[hr,List.getElem?_eq_none_iff] at hi;have:=Nat.mod_lt t (y:=(x :: xs).length) ay;omega
  | some i =>
   simp only[];rw[linearise_go_acc,List.reverse_singleton,List.singleton_append];exact(h.2 i (List.mem_of_getElem? hi)).mono fun a w=>ih _ _ a w
theorem zF {id:Nat} {a:Act} {w:World} (hm:P.follows .mixedOrders=true) (h:ad3 P .any ops Q ops.size (Array.replicate ops.size false) a w.drew):(Code.region id ops true).wp P Q a w:=by
 intro b k cs;have hl:=afH ops.size (w.tape w.drawn (.order b.fn id)) (Array.replicate ops.size false) a w.drew h;obtain⟨e,a',w',h1,h2⟩:=oP _ a w.drew hl b k cs;refine⟨e,a',w',h1,.of_steps (.one step_region_draw) ?_⟩;simp only[Region.schedule,hm,Bool.true_or,if_true];exact h2
theorem afI {md:Region.Mode} {listed:Array Bool} {a:Act} {w:World} (hr:Region.ready md ops listed = []) (h:Q .normal a w):∀ fuel,ad3 P md ops Q fuel listed a w
 | 0=>⟨hr,h⟩
 | _+1=>⟨fun _=>h,fun i hi=>by rw[hr] at hi; cases hi⟩
end
end Go.Proofs.YthmklhapjegfdaaGreatDoor
