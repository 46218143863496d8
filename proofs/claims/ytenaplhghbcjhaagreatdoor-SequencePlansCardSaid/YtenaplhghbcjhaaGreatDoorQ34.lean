import Derived.BigQuiet
import Derived.Laws.StructEq
import Derived.Test.YtenaplhghbcjhaaGreatDoorQ32
set_option linter.all false
set_option maxRecDepth 100000
set_option maxHeartbeats 0
namespace Go.Proofs.YtenaplhghbcjhaaGreatDoor
open Go.Proofs.Tryz renaming prog->GI
open Go.RowKit
theorem rW (w:World) (a b c d:Int):(Op.equalIn 10000 71 (.agg #[.int .i64 a,.int .i64 b]) (.agg #[.int .i64 c,.int .i64 d])).run GI w = .ok ((a==c)&&(b==d)) w:=by
 have h:∀ dd:Nat,(Op.equalIn (dd+2) 71 (.agg #[.int .i64 a,.int .i64 b]) (.agg #[.int .i64 c,.int .i64 d])).run GI w = .ok ((a==c)&&(b==d)) w:=by
  intro dd;rw[run_equalIn_struct w (dd+1) _ _ _ aj aj];simp only[Program.fieldsOf,Tryz.underlying71];simp[Op.eqFields,part,go_sem];by_cases h1:a=c <;> by_cases h2:b=d <;> simp[h1,h2]
 exact h 9998
