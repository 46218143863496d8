/- parlourref26.check, Closed, Inside. -/
import Derived.Test.YtafjdoedallnbaaSpan
import Derived.Test.YtafjdoedallnbaaRight
namespace Go.Proofs.Ytafjdoedallnbaa
open Go.RowKit

def checkL (g : Gm) (roots : List Int) : Int := if formL g ≠ 0 then formL g else rightL g.nodes roots
/-- the numbers of the marks -/
def marksTo (inn : List Bool) (k : Nat) : List Int := ((inn.take k).zipIdx.filter fun p => p.1).map fun p => (p.2 : Int)
def marksL (inn : List Bool) : List Int := marksTo inn inn.length
theorem marksTo_snoc {inn : List Bool} {k : Nat} {b : Bool} (h : inn[k]? = some b) : marksTo inn (k + 1) = marksTo inn k ++ (if b then [(k : Int)] else []) := by
  unfold marksTo
  rw [zipIdx_snoc h, List.filter_append, List.map_append]
  cases b <;> simp
theorem marksTo_length (inn : List Bool) (k : Nat) : (marksTo inn k).length ≤ k := by
  unfold marksTo
  rw [List.length_map]
  refine Nat.le_trans (List.length_filter_le _ _) ?_
  simp; omega

def closedOut (g : Gm) (roots : List Int) : Bool := decide (checkL g roots = 0) && closedL g roots
def insNodesL (g : Gm) (roots : List Int) : List Int := if checkL g roots = 0 then marksL (underL g.nodes roots) else []
def insSetsL (g : Gm) (roots : List Int) : List Int := if checkL g roots = 0 then setsInL g roots else []
/-- two slices of ints in new memory, and an error -/
def TwoInts (B : Nat) (e : Int) (l1 l2 : List Int) (v : Value) (w' : World) : Prop := ∃ v1 v2, v = .tuple #[v1, v2, .int .i64 e] ∧ IntsAt w' (fun b => B ≤ b) v1 l1 ∧ IntsAt w' (fun b => B ≤ b) v2 l2
theorem ints_nil (w : World) (F : Foot) : IntsAt w F (.slice none 0 0) [] := ⟨none, 0, rfl, Nat.le_refl _, fun h => absurd h (by simp)⟩
theorem right_in {nodes : List Nd} {roots : List Int} (h : rightL nodes roots = 0) : ∀ r ∈ roots, 0 ≤ r ∧ r < (nodes.length : Int) := by
  unfold rightL at h
  split at h
  · omega
  · split at h
    · omega
    · rename_i h2
      exact rangeBad_false (by simpa using h2)
theorem check_good {g : Gm} {roots : List Int} (h : checkL g roots = 0) : Good g ∧ rightL g.nodes roots = 0 := by
  unfold checkL at h
  split at h
  · rename_i h1; exact absurd h h1
  · rename_i h1; exact ⟨good_of (by simpa using h1), h⟩

set_option maxRecDepth 100000 in
set_option maxHeartbeats 1600000 in
theorem check_any (w : World) (F : Foot) (u vr : Value) (g : Gm) (roots : List Int) (hg : GameAt w F u g) (hr : IntsAt w F vr roots) (hsm : Small g) (hl : roots.length ≤ 1000) :
    Calls Try.prog 26 #[u, vr] w (Ret w fun v _ => v = .int .i64 (checkL g roots)) := by
  have HG := Lib.hid hg
  have HR := Lib.hid hr; clear hr
  obtain ⟨vn, vi, rfl, ⟨A, c, rfl, hc, hN⟩, ⟨Ai, ci, rfl, hci, hI⟩⟩ := hg
  clear hN hI
  have HS := Lib.hid hsm; clear hsm
  go_enter Try.func26, Try.ntmps26
  go_wp2_with fail
  refine (formR_any _ F _ g (HG.out.on (Same.alloc _ _ _)) HS.out).mono ?_
  rintro e w1 ⟨_, rfl, hb1, rfl⟩
  have hbx := (Row.new w 25 #[.int .i64 g.players, .slice A g.nodes.length c, .slice Ai g.infos.length ci]).below hb1 (by simp)
  have hB : Below w.heap.size w w1 := ((Below.refl w.heap.size w).alloc (Nat.le_refl _) _).trans (hb1.mono (by simp))
  have x0 := hbx.cell (i := 0) rfl
  have x1 := hbx.cell (i := 1) rfl
  have x2 := hbx.cell (i := 2) rfl
  have HC := Lib.hid (show checkL g roots = if formL g ≠ 0 then formL g else rightL g.nodes roots from rfl)
  have HGD := Lib.hid (fun h : formL g = 0 => good_of h)
  generalize formL g = er at *
  dsimp only
  by_cases he : er = 0
  · have hgd := HGD.out he
    have HK := Lib.hid hgd.kidsIn
    have hp := hgd.pos
    have HC2 := Lib.hid (show checkL g roots = rightL g.nodes roots by rw [HC.out, if_neg (by simpa using he)])
    subst he
    clear hgd
    go_wp2_with fail
    refine (right_any _ F _ _ g roots ((HG.out.on (Same.alloc _ _ _)).on (Below.same' hb1 F)) ((HR.out.on (Same.alloc _ _ _)).on (Below.same' hb1 F)) HS.out hp HK.out hl).mono ?_
    rintro e w2 ⟨_, rfl, hb2, rfl⟩
    dsimp only
    go_wp2
    go_ret
    exact ⟨_, rfl, hB.trans (hb2.mono hB.size), by rw [HC2.out]; rfl⟩
  · have hd : (er != 0) = true := by simp [he]
    have HF := Lib.hid (show checkL g roots = er by rw [HC.out, if_pos he])
    clear he
    go_wp2
    go_ret
    exact ⟨_, rfl, hB, by rw [HF.out]; rfl⟩

set_option maxRecDepth 100000 in
set_option maxHeartbeats 1600000 in
theorem refClosed_any (w : World) (F : Foot) (u vr : Value) (g : Gm) (roots : List Int) (hg : GameAt w F u g) (hr : IntsAt w F vr roots) (hsm : Small g) (hl : roots.length ≤ 1000) :
    Calls Try.prog 9 #[u, vr] w (Ret w fun v _ => v = .tuple #[.bool (closedOut g roots), .int .i64 (checkL g roots)]) := by
  have HG := Lib.hid hg
  have HR := Lib.hid hr; clear hr
  obtain ⟨vn, vi, rfl, ⟨A, c, rfl, hc, hN⟩, ⟨Ai, ci, rfl, hci, hI⟩⟩ := hg
  clear hN hI
  have HS := Lib.hid hsm; clear hsm
  go_enter Try.func9, Try.ntmps9
  go_wp2_with fail
  refine (check_any _ F _ _ g roots (HG.out.on (Same.alloc _ _ _)) (HR.out.on (Same.alloc _ _ _)) HS.out hl).mono ?_
  rintro e w1 ⟨_, rfl, hb1, rfl⟩
  have hbx := (Row.new w 25 #[.int .i64 g.players, .slice A g.nodes.length c, .slice Ai g.infos.length ci]).below hb1 (by simp)
  have hB : Below w.heap.size w w1 := ((Below.refl w.heap.size w).alloc (Nat.le_refl _) _).trans (hb1.mono (by simp))
  have x0 := hbx.cell (i := 0) rfl
  have x1 := hbx.cell (i := 1) rfl
  have x2 := hbx.cell (i := 2) rfl
  have HGD := Lib.hid (fun h : checkL g roots = 0 => check_good h)
  have HCO := Lib.hid (show closedOut g roots = (decide (checkL g roots = 0) && closedL g roots) from rfl)
  have HIN1 := Lib.hid (show insNodesL g roots = if checkL g roots = 0 then marksL (underL g.nodes roots) else [] from rfl)
  have HIN2 := Lib.hid (show insSetsL g roots = if checkL g roots = 0 then setsInL g roots else [] from rfl)
  generalize hck : checkL g roots = er at *
  have HCK := Lib.hid hck; clear hck
  dsimp only
  by_cases he : er = 0
  · obtain ⟨hgd, hrt⟩ := HGD.out he
    have HK := Lib.hid hgd.kidsIn
    have HII := Lib.hid hgd.infos
    have hp := hgd.pos
    have HIN := Lib.hid (right_in hrt)
    subst he
    clear hgd hrt
    go_wp2_with fail
    refine (setsIn_any _ F _ _ g roots ((HG.out.on (Same.alloc _ _ _)).on (Below.same' hb1 F)) ((HR.out.on (Same.alloc _ _ _)).on (Below.same' hb1 F)) HS.out hp HK.out HII.out hl HIN.out).mono ?_
    rintro e w2 ⟨_, rfl, hb2, vs, rfl, hvs⟩
    dsimp only
    go_wp2
    go_ret2
    exact ⟨_, rfl, hB.trans (hb2.mono hB.size), by rw [HCO.out, HCK.out]; simp⟩
  · have hd : (er != 0) = true := by simp [he]
    have HF := Lib.hid (show decide (er = 0) = false by simp [he])
    clear he
    go_wp2
    go_ret2
    exact ⟨_, rfl, hB, by rw [HCO.out, HCK.out, HF.out]; rfl⟩

set_option maxRecDepth 100000 in
set_option maxHeartbeats 1600000 in
theorem refInside_any (w : World) (F : Foot) (u vr : Value) (g : Gm) (roots : List Int) (hg : GameAt w F u g) (hr : IntsAt w F vr roots) (hsm : Small g) (hl : roots.length ≤ 1000) :
    Calls Try.prog 11 #[u, vr] w (Ret w (TwoInts w.heap.size (checkL g roots) (insNodesL g roots) (insSetsL g roots))) := by
  have HG := Lib.hid hg
  have HR := Lib.hid hr; clear hr
  obtain ⟨vn, vi, rfl, ⟨A, c, rfl, hc, hN⟩, ⟨Ai, ci, rfl, hci, hI⟩⟩ := hg
  clear hN hI
  have hn := hsm.nodes
  have HS := Lib.hid hsm; clear hsm
  go_enter Try.func11, Try.ntmps11
  go_wp2_with fail
  refine (check_any _ F _ _ g roots (HG.out.on (Same.alloc _ _ _)) (HR.out.on (Same.alloc _ _ _)) HS.out hl).mono ?_
  rintro e w1 ⟨_, rfl, hb1, rfl⟩
  have hbx := (Row.new w 25 #[.int .i64 g.players, .slice A g.nodes.length c, .slice Ai g.infos.length ci]).below hb1 (by simp)
  have hB : Below w.heap.size w w1 := ((Below.refl w.heap.size w).alloc (Nat.le_refl _) _).trans (hb1.mono (by simp))
  have x0 := hbx.cell (i := 0) rfl
  have x1 := hbx.cell (i := 1) rfl
  have x2 := hbx.cell (i := 2) rfl
  have HGD := Lib.hid (fun h : checkL g roots = 0 => check_good h)
  have HCO := Lib.hid (show closedOut g roots = (decide (checkL g roots = 0) && closedL g roots) from rfl)
  have HIN1 := Lib.hid (show insNodesL g roots = if checkL g roots = 0 then marksL (underL g.nodes roots) else [] from rfl)
  have HIN2 := Lib.hid (show insSetsL g roots = if checkL g roots = 0 then setsInL g roots else [] from rfl)
  generalize hck : checkL g roots = er at *
  have HCK := Lib.hid hck; clear hck
  dsimp only
  by_cases he : er = 0
  · obtain ⟨hgd, hrt⟩ := HGD.out he
    have HK := Lib.hid hgd.kidsIn
    have HII := Lib.hid hgd.infos
    have hp := hgd.pos
    have HIN := Lib.hid (right_in hrt)
    subst he
    clear hgd hrt
    go_wp2_with fail
    have HG1 := Lib.hid ((HG.out.on (Same.alloc _ _ _)).on (Below.same' hb1 F))
    have HR1 := Lib.hid ((HR.out.on (Same.alloc _ _ _)).on (Below.same' hb1 F))
    refine (under_any _ F _ _ g roots HG1.out HR1.out HS.out hp HK.out hl HIN.out).mono ?_
    rintro e w2 ⟨vu, rfl, hb2, hun⟩
    have hbx2 := hbx.below hb2 hbx.lt
    have hul := underL_length g.nodes roots
    have HM := Lib.hid (show marksL (underL g.nodes roots) = marksTo (underL g.nodes roots) (underL g.nodes roots).length from rfl)
    generalize underL g.nodes roots = inn at *
    obtain ⟨Au, cu, rfl, hcu, hU⟩ := hun
    have HU := Lib.hid hU; clear hU
    have hil : inn.length ≤ 100 := by omega
    clear hul x0 x1 x2
    dsimp only
    go_wp2
    go_loopw [4, 9] (fun vo i wr => ∃ k : Nat, k ≤ inn.length ∧ i = .int .i64 k ∧ wr.ownsRow w2.heap.size 3 1 vo (marksTo inn k).length ((marksTo inn k).map (Value.int .i64)) ∧ Below w2.heap.size w2 wr) (fun _ i _ => inn.length - (intOf i).toNat)
    case atStart => exact ⟨0, by omega, rfl, World.ownsRow_nil _ _ _ _, Below.refl _ _⟩
    case round =>
      obtain ⟨k, hk, rfl, hown, hbel⟩ := hrel
      have hold := below_old hbel
      have hlen := marksTo_length inn k
      by_cases hlt : k < inn.length
      · obtain ⟨bu, ou, rfl, _, hbu, hxu⟩ := HU.out (by omega)
        obtain ⟨y, hy⟩ := getSome hlt
        have ey := hxu k y hy
        unfold boolE at ey
        rw [Nat.mul_one] at ey
        have HST := Lib.hid (marksTo_snoc hy)
        have HO := Lib.hid hown
        clear hy hxu hown
        cases y
        · go_wp2
          go_roundw
          case rel => exact ⟨k + 1, by omega, by go_num, by rw [HST.out]; simpa using HO.out, hbel⟩
          case measure => simp [intOf]; omega
        · go_wp2_with (at_builtin; refine wpl_app_int rfl _ _ rfl w2.heap.size _ (marksTo inn k) rfl (HO.out.alloc _) wr.heap.size k rfl (heap_alloc_new _ _) (by omega) (by have := hbel.size; simp; omega) ?_; intro gg cap w3 hown3 hgrow hat hlt3; have hbel3 : Below w2.heap.size w2 w3 := (hbel.alloc hbel.size _).grown hgrow (by have := hbel.size; simp; omega) (fun k hk => (HO.out.lt k hk).1); have HO3 := Lib.hid hown3; clear hown3 hgrow hat hlt3)
          go_roundw
          case rel => exact ⟨k + 1, by omega, by go_num, by rw [HST.out]; simpa using HO3.out, hbel3⟩
          case measure => simp [intOf]; omega
      · have hbx3 := hbx2.below hbel hbx2.lt
        have x0 := hbx3.cell (i := 0) rfl
        have x1 := hbx3.cell (i := 1) rfl
        have x2 := hbx3.cell (i := 2) rfl
        clear hold
        go_wp2_with fail
        refine (setsIn_any _ F _ _ g roots ((HG1.out.on (Below.same' hb2 F)).on (Below.same' hbel F)) ((HR1.out.on (Below.same' hb2 F)).on (Below.same' hbel F)) HS.out hp HK.out HII.out hl HIN.out).mono ?_
        rintro e w4 ⟨_, rfl, hb4, vs, rfl, hvs⟩
        dsimp only
        go_wp2
        go_ret3
        have hke : k = inn.length := by omega
        subst hke
        have hz2 := hb2.size
        have hzB := hB.size
        have hzb := hbel.size
        refine ⟨_, rfl, hB.trans ((hb2.mono hzB).trans ((hbel.mono (by omega)).trans (hb4.mono (by omega)))), u4, vs, by first | rfl | (rw [HCK.out]; rfl), ?_, ?_⟩
        · rw [HIN1.out, if_pos (by first | rfl | trivial), HM.out]
          exact (Own.ints (F := fun b => w.heap.size ≤ b) (by simpa [Own] using hown) (fun b hb => by have := (hown.lt b hb).1; omega)).on (Below.same' hb4 _)
        · rw [HIN2.out, if_pos (by first | rfl | trivial)]
          exact hvs.keep (fun b hb _ => by omega) (Same.refl _ _)
  · have hd : (er != 0) = true := by simp [he]
    have HE := Lib.hid he
    clear he
    go_wp2
    go_ret3
    refine ⟨_, rfl, hB, .slice none 0 0, .slice none 0 0, by first | rfl | (rw [HCK.out]; rfl), ?_, ?_⟩
    · rw [HIN1.out, if_neg HE.out]; exact ints_nil _ _
    · rw [HIN2.out, if_neg HE.out]; exact ints_nil _ _
end Go.Proofs.Ytafjdoedallnbaa
