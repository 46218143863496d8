/- recall.Form, and that it finds the error that the document's answer finds. -/
import Derived.Test.YtafjdoedallnbaaWalkedP
import Derived.Test.YtafjdoedallnbaaSpan
namespace Go.Proofs.Ytafjdoedallnbaa
open Go.RowKit

set_option maxRecDepth 100000 in
set_option maxHeartbeats 1600000 in
theorem formP_any (w : World) (F : Foot) (u : Value) (g : Gm) (hg : GameAt w F u g) (hsm : Small g) :
    Calls Try.prog 49 #[u] w (Ret w fun v _ => v = .int .i64 (errP g)) := by
  have HG := Lib.hid hg
  obtain ⟨vn, vi, rfl, ⟨A, c, rfl, hc, hN⟩, ⟨Ai, ci, rfl, hci, hI⟩⟩ := hg
  clear hN hI
  have HS := Lib.hid hsm; clear hsm
  go_enter Try.func49, Try.ntmps49
  go_wp2_with fail
  refine (walked_any _ F _ g (HG.out.on (Same.alloc _ _ _)) HS.out).mono ?_
  rintro e w1 ⟨v, rfl, hb1, vp, rfl, hv⟩
  clear hv
  have hB : Below w.heap.size w w1 := ((Below.refl w.heap.size w).alloc (Nat.le_refl _) _).trans (hb1.mono (by simp))
  dsimp only
  go_wp2
  go_ret
  exact ⟨_, rfl, hB, rfl⟩
end Go.Proofs.Ytafjdoedallnbaa
