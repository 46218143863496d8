/- parlourref11.alike: ways are equal. -/
import Derived.Test.YtnmeejofpkhlkaaGreatDoorR29
import Derived.ChangeKeysEq
set_option linter.all false
set_option maxRecDepth 100000
set_option maxHeartbeats 12800000
namespace Go.Proofs.YtnmeejofpkhlkaaGreatDoor
open Go.RowKit
theorem sU (w:World) (a b c d:Int):(Op.equalIn 10000 141 (.agg #[.int .i64 a,.int .i64 b]) (.agg #[.int .i64 c,.int .i64 d])).run Tryz.prog w = .ok ((a==c)&&(b==d)) w:=by
 have h:∀ dd:Nat,(Op.equalIn (dd+2) 141 (.agg #[.int .i64 a,.int .i64 b]) (.agg #[.int .i64 c,.int .i64 d])).run Tryz.prog w = .ok ((a==c)&&(b==d)) w:=by
  intro dd;obtain⟨i0,hi,_⟩:=info_parts Tryz.infoInt;rw[run_equalIn_array w (dd+1) _ _ Tryz.underlying141 hi];have e:Tryz.prog.cellsOf 3=1:=ah;rw[e];have h:List.range 2 = [0,1]:=rfl;rw[h];simp[Op.eqItems,go_sem];by_cases h1:a=c <;> by_cases h2:b=d <;> simp[h1,h2]
 exact h 9998
end Go.Proofs.YtnmeejofpkhlkaaGreatDoor
