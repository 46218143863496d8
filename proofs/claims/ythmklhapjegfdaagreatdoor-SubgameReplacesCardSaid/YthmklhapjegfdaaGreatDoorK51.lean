/- The tied card of SubgameReplaces: for every game, roots and two strategies the statement returns true. -/
import Derived.Test.YthmklhapjegfdaaGreatDoorK50
import Derived.Test.YthmklhapjegfdaaGreatDoorCards
import Derived.Test.YthmklhapjegfdaaGreatDoorTie
import Derived.SevenTiedAt
set_option linter.all false
set_option maxRecDepth 100000
set_option maxHeartbeats 12800000
namespace Go.Proofs.YthmklhapjegfdaaGreatDoor
open Go
theorem subgameReplaces_card:Rows.SubgameReplacesCardSaid :=
 Claim7.holds_tied_plain_at .later [] [.data] true (true, "2d00f3aeac36b61c52c6090584b86a58ae9f8b619a6dad9eef5f558641acb082") true
  subgameReplaces_holds (fun _ h=>by cases h) (by kernel_rfl) (fun _ h=>by cases h) subgameReplaces_row_tie rfl ⟨rfl,rfl⟩ (by kernel_rfl) rfl
  (fun f fn hf hfn=>by
   obtain rfl:f=3:=Option.some.inj ((show Tryz.prog.funcNamed "parlour/parlourlaw26.SubgameReplaces" = some 3 by kernel_rfl).symm.trans hf) |>.symm;obtain rfl:fn=Tryz.f3:=(Option.some.inj (Tryz.func3.symm.trans hfn)).symm;refine⟨by kernel_rfl,fun j t ht=>?_⟩;rw[Tryz.params3] at ht;rcases j with _ | _ | _ | _ | j
   ·obtain rfl:t=25:=by simpa using ht.symm
    exact(show Tryz.prog.wantsStandIn 25=false by kernel_rfl)
   ·obtain rfl:t=26:=by simpa using ht.symm
    exact(show Tryz.prog.wantsStandIn 26=false by kernel_rfl)
   ·obtain rfl:t=28:=by simpa using ht.symm
    exact(show Tryz.prog.wantsStandIn 28=false by kernel_rfl)
   ·obtain rfl:t=28:=by simpa using ht.symm
    exact(show Tryz.prog.wantsStandIn 28=false by kernel_rfl)
   ·simp at ht)
  (by kernel_rfl)
end Go.Proofs.YthmklhapjegfdaaGreatDoor
