/- subgame.view.closed, subgame.Closed, subgame.Inside -/
import Derived.Test.YtafjdoedallnbaaInsideP
import Derived.Test.YtafjdoedallnbaaRefClosed
namespace Go.Proofs.Ytafjdoedallnbaa
open Go.RowKit

def inAt (inn : List Bool) (x : Int) : Bool := inn.getD x.toNat false
set_option maxHeartbeats 1600000 in
theorem closed1_any (w : World) (F : Foot) (bc : Nat) (vb : Value) (inn : List Bool) (x : Int) (hc : w.cell? ⟨bc, 0, none⟩ = some vb) (hv : BoolsAt w F vb inn) (hx : 0 ≤ x ∧ x < (inn.length : Int)) :
    Calls Try.prog 45 (#[.int .i64 x] ++ #[.pointer (some ⟨bc, 0, none⟩)]) w fun e w' => e = .returned (.bool (inAt inn x)) ∧ ∃ m, w' = w.drewN m := by
  obtain ⟨A, c, rfl, hcc, hr⟩ := hv
  obtain ⟨q, rfl⟩ := Int.eq_ofNat_of_zero_le hx.1
  obtain ⟨b, o, rfl, _, hb, hxx⟩ := hr (by omega)
  obtain ⟨y, hy⟩ := getSome (l := inn) (k := q) (by omega)
  have ey := hxx q y hy
  unfold boolE at ey
  rw [Nat.mul_one] at ey
  have hq : q < inn.length := by omega
  have HF := Lib.hid (show inAt inn (q : Int) = y by unfold inAt; simp [List.getD_eq_getElem?_getD, hy])
  clear hr hxx hy hx
  show Calls Try.prog _ #[.int .i64 q, .pointer (some ⟨bc, 0, none⟩)] w _
  go_enter Try.func45, Try.ntmps45
  go_wp2
  go_ret
  exact ⟨by rw [HF.out]; rfl, 0, rfl⟩
theorem closed1_answers (w : World) (F : Foot) (bc : Nat) (vb : Value) (inn : List Bool) (hc : w.cell? ⟨bc, 0, none⟩ = some vb) (hb : bc < w.heap.size) (hv : BoolsAt w F vb inn) : AnswersFrom w 45 #[.pointer (some ⟨bc, 0, none⟩)] (fun x => 0 ≤ x ∧ x < (inn.length : Int)) (inAt inn) :=
  ⟨enters Try.func45 (by decide +kernel) (by decide +kernel), fun w' x hb' hx => closed1_any w' F bc vb inn x (by rw [below_old hb' bc 0 hb]; exact hc) (hv.on (Below.same' hb' F)) hx⟩
set_option maxHeartbeats 1600000 in
theorem inside1_any (w : World) (F : Foot) (bc : Nat) (vb : Value) (inn : List Bool) (x : Int) (hc : w.cell? ⟨bc, 0, none⟩ = some vb) (hv : BoolsAt w F vb inn) (hx : 0 ≤ x ∧ x < (inn.length : Int)) :
    Calls Try.prog 30 (#[.int .i64 x] ++ #[.pointer (some ⟨bc, 0, none⟩)]) w fun e w' => e = .returned (.bool (inAt inn x)) ∧ ∃ m, w' = w.drewN m := by
  obtain ⟨A, c, rfl, hcc, hr⟩ := hv
  obtain ⟨q, rfl⟩ := Int.eq_ofNat_of_zero_le hx.1
  obtain ⟨b, o, rfl, _, hb, hxx⟩ := hr (by omega)
  obtain ⟨y, hy⟩ := getSome (l := inn) (k := q) (by omega)
  have ey := hxx q y hy
  unfold boolE at ey
  rw [Nat.mul_one] at ey
  have hq : q < inn.length := by omega
  have HF := Lib.hid (show inAt inn (q : Int) = y by unfold inAt; simp [List.getD_eq_getElem?_getD, hy])
  clear hr hxx hy hx
  show Calls Try.prog _ #[.int .i64 q, .pointer (some ⟨bc, 0, none⟩)] w _
  go_enter Try.func30, Try.ntmps30
  go_wp2
  go_ret
  exact ⟨by rw [HF.out]; rfl, 0, rfl⟩
theorem inside1_answers (w : World) (F : Foot) (bc : Nat) (vb : Value) (inn : List Bool) (hc : w.cell? ⟨bc, 0, none⟩ = some vb) (hb : bc < w.heap.size) (hv : BoolsAt w F vb inn) : AnswersFrom w 30 #[.pointer (some ⟨bc, 0, none⟩)] (fun x => 0 ≤ x ∧ x < (inn.length : Int)) (inAt inn) :=
  ⟨enters Try.func30 (by decide +kernel) (by decide +kernel), fun w' x hb' hx => inside1_any w' F bc vb inn x (by rw [below_old hb' bc 0 hb]; exact hc) (hv.on (Below.same' hb' F)) hx⟩

def allAt (inn : List Bool) (sets : List (List Int)) (s : Int) : Bool := (sets.getD s.toNat []).all (inAt inn)
def closedPL (inn : List Bool) (sets : List (List Int)) : Bool := (someL (inAt inn) sets).all (allAt inn sets)
theorem all_snoc {α : Type} {l : List α} {p : α → Bool} {k : Nat} {x : α} (h : l[k]? = some x) (hn : (l.take k).all p = true) (hx : p x = true) : (l.take (k + 1)).all p = true := by
  rw [take_snoc h, List.all_append]; simp [hn, hx]
theorem all_false {α : Type} {l : List α} {p : α → Bool} {x : α} (h : x ∈ l) (hx : p x = false) : l.all p = false := by
  rw [List.all_eq_false]; exact ⟨x, h, by simp [hx]⟩
theorem someL_in {p : Int → Bool} {sets : List (List Int)} : ∀ s ∈ someL p sets, 0 ≤ s ∧ s < (sets.length : Int) := by
  intro s hs
  unfold someL someTo at hs
  rw [List.mem_map] at hs
  obtain ⟨q, hq, rfl⟩ := hs
  rw [List.mem_filter] at hq
  have := List.mem_zipIdx hq.1
  simp at this
  omega

set_option maxRecDepth 100000 in
set_option maxHeartbeats 3200000 in
theorem viewClosed_any (w : World) (F : Foot) (u vr : Value) (g : Gm) (par last : List Int) (sets : List (List Int)) (roots : List Int) (hv : ViewV w F u g par last sets) (hr : IntsAt w F vr roots) (hl : roots.length ≤ 1000) (hN : g.nodes.length ≤ 1000) (hll : last.length = g.nodes.length)
    (hin : ∀ r ∈ roots, 0 ≤ r ∧ r < (g.nodes.length : Int)) (hla : ∀ x ∈ last, x < (g.nodes.length : Int)) (hs : sets.length ≤ 1000) (hsl : ∀ l ∈ sets, l.length ≤ 1000) (hsx : ∀ l ∈ sets, ∀ x ∈ l, 0 ≤ x ∧ x < (g.nodes.length : Int)) :
    Calls Try.prog 25 #[u, vr] w (Ret w fun v _ => v = .bool (closedPL (insL g.nodes.length last roots) sets)) := by
  have HV := Lib.hid hv
  obtain ⟨vn, vi, vp, vl, vs, rfl, ⟨A, c, rfl, hc, hN'⟩, ⟨Ai, ci, rfl, hci, hI⟩, ⟨Ap, cp, rfl, hcp, hP⟩, ⟨Al, cl, rfl, hcl, hL⟩, ⟨As, cs, rfl, hcs, hS⟩⟩ := hv
  clear hN' hI hP hL
  have HS := Lib.hid hS; clear hS
  have HR := Lib.hid hr; clear hr
  have HLL := Lib.hid hll; clear hll
  have HIN := Lib.hid hin; clear hin
  have HLA := Lib.hid hla; clear hla
  have HSL := Lib.hid hsl; clear hsl
  have HSX := Lib.hid hsx; clear hsx
  have hmf : ∀ (fn : Fn) (first cap : Array Value) (w : World), (Instr.makeFunc fn first cap).run Try.prog w = .ok (.func fn first cap) w := fun _ _ _ _ => rfl
  go_enter Try.func25, Try.ntmps25
  go_wp2_with fail
  obtain ⟨W, hW, hbx, hWb, hWz⟩ := row_of_alloc w 51 #[.int .i64 g.players, .slice A g.nodes.length c, .slice Ai g.infos.length ci, .slice Ap par.length cp, .slice Al last.length cl, .slice As sets.length cs]
  rw [← hW]
  clear hW hWz
  refine (inside_any _ F _ _ g par last sets roots (HV.out.on (Below.same' hWb F)) (HR.out.on (Below.same' hWb F)) hl hN HLL.out HIN.out HLA.out).mono ?_
  rintro e w1 ⟨vb, rfl, hb1, hvb⟩
  have hbx1 := hbx.below hb1 hbx.lt
  have hB1 : Below w.heap.size w w1 := hWb.trans (hb1.mono hWb.size)
  have hil := insL_length g.nodes.length last roots
  generalize hinn : insL g.nodes.length last roots = inn at *
  have HINN := Lib.hid hinn; clear hinn
  have HIL := Lib.hid hil; clear hil hbx hWb hb1
  obtain ⟨Ab, cb, rfl, hcb, hBb⟩ := hvb
  have HVB := Lib.hid (show BoolsAt w1 (fun b => W.heap.size ≤ b) (.slice Ab inn.length cb) inn from ⟨_, _, rfl, hcb, hBb⟩)
  have HBB := Lib.hid hBb; clear hBb
  have x0 := hbx1.cell (i := 0) rfl
  have x1 := hbx1.cell (i := 1) rfl
  have x2 := hbx1.cell (i := 2) rfl
  have x3 := hbx1.cell (i := 3) rfl
  have x4 := hbx1.cell (i := 4) rfl
  have x5 := hbx1.cell (i := 5) rfl
  have hlt1 := hbx1.lt
  dsimp only
  go_wp2_with fail
  obtain ⟨W2, hW2, hbc, hW2b, hW2z⟩ := row_of_alloc w1 58 #[.slice Ab inn.length cb]
  rw [← hW2]
  clear hW2 hW2z x0 x1 x2 x3 x4 x5
  have hB2 : Below w.heap.size w W2 := hB1.trans (hW2b.mono hB1.size)
  refine (some_any _ F _ g par last sets _ _ (fun x => 0 ≤ x ∧ x < (inn.length : Int)) (inAt inn) (HV.out.on (Below.same' hB2 F)) hs HSL.out (fun l hl x hx => by have := HSX.out l hl x hx; have := HIL.out; omega) (closed1_answers W2 _ _ _ inn (hbc.cell rfl) hbc.lt (HVB.out.on (Below.same' hW2b _)))).mono ?_
  rintro e w3 ⟨vo, rfl, hb3, hvo⟩
  have HCL := Lib.hid (show closedPL inn sets = (someL (inAt inn) sets).all (allAt inn sets) from rfl)
  have HSI := Lib.hid (someL_in (p := inAt inn) (sets := sets))
  have hlen : (someL (inAt inn) sets).length ≤ 1000 := by unfold someL; have := someTo_length (inAt inn) sets sets.length; omega
  generalize someL (inAt inn) sets = so at *
  have hbx3 := (hbx1.below hW2b hbx1.lt).below hb3 (by have := hW2b.size; omega)
  have hbc3 := hbc.below hb3 hbc.lt
  have hB3 : Below w.heap.size w w3 := hB2.trans (hb3.mono hB2.size)
  have hB13 : Below w1.heap.size w1 w3 := hW2b.trans (hb3.mono hW2b.size)
  clear hbx1 hbc hB2 hb3 hW2b
  obtain ⟨Ao, co, rfl, hco, hOo⟩ := hvo
  have HOO := Lib.hid hOo; clear hOo
  have x5 := hbx3.cell (i := 5) rfl
  have c5 := hbc3.cell (i := 0) rfl
  dsimp only
  go_wp2
  go_loop [7, 9, 17, 27] (fun _ _ i _ => ∃ k : Nat, k ≤ so.length ∧ i = .int .i64 k ∧ (so.take k).all (allAt inn sets) = true) (fun _ _ i _ => so.length - (intOf i).toNat)
  case atStart => exact ⟨0, by omega, rfl, rfl⟩
  case round =>
    obtain ⟨k, hk, rfl, hpre⟩ := hrel
    have HP := Lib.hid hpre; clear hpre
    by_cases hlt : k < so.length
    · obtain ⟨bo, oo, rfl, _, hbo, hxo⟩ := HOO.out (by omega)
      obtain ⟨s, hs'⟩ := getSome hlt
      have es := hxo k s hs'
      unfold intE at es
      rw [Nat.mul_one] at es
      obtain ⟨hs0, hs1⟩ := HSI.out s (List.mem_of_getElem? hs')
      obtain ⟨q, rfl⟩ := Int.eq_ofNat_of_zero_le hs0
      have hqs : q < sets.length := by omega
      obtain ⟨bs, os, rfl, _, hbs, hxs⟩ := HS.out (by omega)
      obtain ⟨l, hl'⟩ := getSome hqs
      obtain ⟨vl', el, Av, cv, rfl, hcv, hAv⟩ := hxs q l hl'
      rw [Nat.mul_one, ← below_old hB3 _ _ hbs] at el
      have hl1 := HSL.out l (List.mem_of_getElem? hl')
      have HLX := Lib.hid (HSX.out l (List.mem_of_getElem? hl'))
      have HAA := Lib.hid (show allAt inn sets (q : Int) = l.all (inAt inn) by unfold allAt; simp [List.getD_eq_getElem?_getD, hl'])
      have HSS := Lib.hid hs'
      have HAV := Lib.hid hAv
      clear hs' hxo hxs hl' hAv
      go_wp2
      go_loop [9, 27] (fun _ i => ∃ j : Nat, j ≤ l.length ∧ i = .int .i64 j ∧ (l.take j).all (inAt inn) = true) (fun _ i => l.length - (intOf i).toNat)
      case atStart => exact ⟨0, by omega, rfl, rfl⟩
      case round =>
        obtain ⟨j, hj, rfl, hpre⟩ := hrel
        have HPJ := Lib.hid hpre; clear hpre
        by_cases hjt : j < l.length
        · obtain ⟨bv, ov, rfl, _, hbv, hxv⟩ := HAV.out (by omega)
          obtain ⟨x, hx⟩ := getSome hjt
          have ex := hxv j x hx
          unfold intE at ex
          rw [Nat.mul_one, ← below_old hB3 _ _ hbv] at ex
          obtain ⟨hx0, hx1⟩ := HLX.out x (List.mem_of_getElem? hx)
          obtain ⟨z, rfl⟩ := Int.eq_ofNat_of_zero_le hx0
          have hzi : z < inn.length := by have := HIL.out; omega
          obtain ⟨bb, ob, rfl, _, hbb, hxb⟩ := HBB.out (by omega)
          obtain ⟨y, hy⟩ := getSome hzi
          have eb := hxb z y hy
          unfold boolE at eb
          rw [Nat.mul_one, ← below_old hB13 _ _ hbb] at eb
          have HY := Lib.hid (show inAt inn (z : Int) = y by unfold inAt; simp [List.getD_eq_getElem?_getD, hy])
          have HXJ := Lib.hid hx
          clear hx hxv hxb hy
          cases y
          · have HF := Lib.hid (show closedPL inn sets = false by
              rw [HCL.out]; exact all_false (List.mem_of_getElem? HSS.out) (by rw [HAA.out]; exact all_false (List.mem_of_getElem? HXJ.out) HY.out))
            go_wp2
            go_ret
            exact ⟨_, rfl, hB3, by rw [HINN.out, HF.out]; rfl⟩
          · go_wp2
            go_round
            case rel => exact ⟨j + 1, by omega, by go_num, all_snoc HXJ.out HPJ.out HY.out⟩
            case measure => simp [intOf] <;> omega
        · go_wp2
          go_round
          case rel => exact ⟨k + 1, by omega, by go_num, all_snoc HSS.out HP.out (by rw [HAA.out]; have := HPJ.out; rwa [List.take_of_length_le (by omega)] at this)⟩
          case measure => simp [intOf] <;> omega
    · have HF := Lib.hid (show closedPL inn sets = true by rw [HCL.out]; have := HP.out; rwa [List.take_of_length_le (by omega)] at this)
      go_wp2
      go_ret
      exact ⟨_, rfl, hB3, by rw [HINN.out, HF.out]; rfl⟩

/-- what the plain law says of a well formed game and right roots -/
structure LookFine (g : Gm) : Prop where
  last : ∀ x ∈ (lookL g.nodes).2, x < (g.nodes.length : Int)
def FineIf (g : Gm) : Prop := formL g = 0 → LookFine g
theorem setsL_small {g : Gm} (hsm : Small g) : (setsL g).length ≤ 1000 ∧ ∀ l ∈ setsL g, l.length ≤ 1000 := by
  refine ⟨by unfold setsL; rw [setsTo_length]; have := hsm.infos; omega, fun l hl => ?_⟩
  have := setsTo_len l hl
  have := hsm.nodes
  omega
def closedPOut (g : Gm) (roots : List Int) : Bool := decide (openErr g roots = 0) && closedPL (insL g.nodes.length (lookL g.nodes).2 roots) (setsL g)
theorem openErr_in {g : Gm} {roots : List Int} (h : openErr g roots = 0) : formL g = 0 ∧ ∀ r ∈ roots, 0 ≤ r ∧ r < (g.nodes.length : Int) := by
  unfold openErr at h
  split at h
  · rename_i h1; exact absurd h h1
  · rename_i h1
    refine ⟨by simpa using h1, ?_⟩
    unfold checkP at h
    split at h
    · omega
    · split at h
      · omega
      · rename_i h2; exact rangeBad_false (by simpa using h2)

set_option maxRecDepth 100000 in
set_option maxHeartbeats 3200000 in
theorem closed_any (w : World) (F : Foot) (u vr : Value) (g : Gm) (roots : List Int) (hg : GameAt w F u g) (hr : IntsAt w F vr roots) (hsm : Small g) (hl : roots.length ≤ 1000) (hfine : FineIf g) :
    Calls Try.prog 8 #[u, vr] w (Ret w fun v _ => v = .tuple #[.bool (closedPOut g roots), .int .i64 (openErr g roots)]) := by
  have HG := Lib.hid hg
  obtain ⟨vn, vi, rfl, ⟨A, c, rfl, hc, hN⟩, ⟨Ai, ci, rfl, hci, hI⟩⟩ := hg
  clear hN hI
  have HR := Lib.hid hr; clear hr
  have hn := hsm.nodes
  have HS := Lib.hid hsm; clear hsm
  have HFI := Lib.hid hfine; clear hfine
  go_enter Try.func8, Try.ntmps8
  go_wp2_with fail
  refine (open_any _ F _ _ g roots (HG.out.on (Same.alloc _ _ _)) (HR.out.on (Same.alloc _ _ _)) HS.out hl).mono ?_
  rintro e w1 ⟨_, rfl, hb1, vv, rfl, ⟨p0, A1, n1, c1, A2, n2, c2, A3, n3, c3, A4, n4, c4, A5, n5, c5, rfl⟩, hv2⟩
  have hB : Below w.heap.size w w1 := ((Below.refl w.heap.size w).alloc (Nat.le_refl _) _).trans (hb1.mono (by simp))
  simp only [World.size_alloc] at hv2
  clear hb1
  have HV2 := Lib.hid hv2; clear hv2
  have HCO := Lib.hid (show closedPOut g roots = (decide (openErr g roots = 0) && closedPL (insL g.nodes.length (lookL g.nodes).2 roots) (setsL g)) from rfl)
  have HOI := Lib.hid (fun h : openErr g roots = 0 => openErr_in h)
  generalize hoe : openErr g roots = er at *
  have HOE := Lib.hid hoe; clear hoe
  dsimp only
  by_cases he : er = 0
  · obtain ⟨hf0, hin⟩ := HOI.out he
    have hfine := HFI.out hf0
    have HIN := Lib.hid hin
    have HII := Lib.hid (good_of hf0).infos
    have HFL := Lib.hid hfine.last
    have HVX := Lib.hid (HV2.out he)
    have HE := Lib.hid (show decide (er = 0) = true by simp [he])
    subst he
    clear hin hf0 hfine
    go_wp2_with fail
    obtain ⟨W, hW, hbx, hWb, hWz⟩ := row_of_alloc w1 51 #[.int .i64 p0, .slice A1 n1 c1, .slice A2 n2 c2, .slice A3 n3 c3, .slice A4 n4 c4, .slice A5 n5 c5]
    rw [← hW]
    clear hW hWz hbx
    refine (viewClosed_any _ (fun b => F b ∨ w.heap.size + 1 ≤ b) _ _ g (lookL g.nodes).1 (lookL g.nodes).2 (setsL g) roots (HVX.out.on (Below.same' hWb _)) ((HR.out.on (Below.same' (hB.trans (hWb.mono hB.size)) F)).keep (fun b hb _ => .inl hb) (Same.refl _ _)) hl (by omega) (lookTo_len _ _).2 HIN.out HFL.out (setsL_small HS.out).1 (setsL_small HS.out).2 (fun l hl x hx => setsTo_in (Nat.le_refl _) l hl x hx)).mono ?_
    rintro e w2 ⟨_, rfl, hb2, rfl⟩
    dsimp only
    go_wp2
    go_ret2
    have hB1 := hB.trans (hWb.mono hB.size)
    exact ⟨_, rfl, hB1.trans (hb2.mono hB1.size), by rw [HCO.out, HOE.out]; simp⟩
  · have hd : (er != 0) = true := by simp [he]
    have HF := Lib.hid (show decide (er = 0) = false by simp [he])
    clear he
    go_wp2
    go_ret2
    exact ⟨_, rfl, hB.alloc hB.size _, by rw [HCO.out, HOE.out, HF.out]; rfl⟩

def insNodesP (g : Gm) (roots : List Int) : List Int := if openErr g roots = 0 then marksL (insL g.nodes.length (lookL g.nodes).2 roots) else []
def insSetsP (g : Gm) (roots : List Int) : List Int := if openErr g roots = 0 then someL (inAt (insL g.nodes.length (lookL g.nodes).2 roots)) (setsL g) else []

set_option maxRecDepth 100000 in
set_option maxHeartbeats 3200000 in
theorem insideP_any (w : World) (F : Foot) (u vr : Value) (g : Gm) (roots : List Int) (hg : GameAt w F u g) (hr : IntsAt w F vr roots) (hsm : Small g) (hl : roots.length ≤ 1000) (hfine : FineIf g) :
    Calls Try.prog 10 #[u, vr] w (Ret w (TwoInts w.heap.size (openErr g roots) (insNodesP g roots) (insSetsP g roots))) := by
  have HG := Lib.hid hg
  obtain ⟨vn, vi, rfl, ⟨A, c, rfl, hc, hN⟩, ⟨Ai, ci, rfl, hci, hI⟩⟩ := hg
  clear hN hI
  have HR := Lib.hid hr; clear hr
  have hn := hsm.nodes
  have HS := Lib.hid hsm; clear hsm
  have HFI := Lib.hid hfine; clear hfine
  have hmf : ∀ (fn : Fn) (first cap : Array Value) (w : World), (Instr.makeFunc fn first cap).run Try.prog w = .ok (.func fn first cap) w := fun _ _ _ _ => rfl
  go_enter Try.func10, Try.ntmps10
  go_wp2_with fail
  refine (open_any _ F _ _ g roots (HG.out.on (Same.alloc _ _ _)) (HR.out.on (Same.alloc _ _ _)) HS.out hl).mono ?_
  rintro e w1 ⟨_, rfl, hb1, vv, rfl, ⟨p0, A1, n1, c1, A2, n2, c2, A3, n3, c3, A4, n4, c4, A5, n5, c5, rfl⟩, hv2⟩
  have hB : Below w.heap.size w w1 := ((Below.refl w.heap.size w).alloc (Nat.le_refl _) _).trans (hb1.mono (by simp))
  simp only [World.size_alloc] at hv2
  clear hb1
  have HV2 := Lib.hid hv2; clear hv2
  have HI1 := Lib.hid (show insNodesP g roots = if openErr g roots = 0 then marksL (insL g.nodes.length (lookL g.nodes).2 roots) else [] from rfl)
  have HI2 := Lib.hid (show insSetsP g roots = if openErr g roots = 0 then someL (inAt (insL g.nodes.length (lookL g.nodes).2 roots)) (setsL g) else [] from rfl)
  have HOI := Lib.hid (fun h : openErr g roots = 0 => openErr_in h)
  generalize hoe : openErr g roots = er at *
  have HOE := Lib.hid hoe; clear hoe
  dsimp only
  by_cases he : er = 0
  · obtain ⟨hf0, hin⟩ := HOI.out he
    have hfine := HFI.out hf0
    have HIN := Lib.hid hin
    have HII := Lib.hid (good_of hf0).infos
    have HFL := Lib.hid hfine.last
    have HVX := Lib.hid (HV2.out he)
    have HE := Lib.hid he
    subst he
    clear hin hf0 hfine
    go_wp2_with fail
    obtain ⟨W, hW, hbx, hWb, hWz⟩ := row_of_alloc w1 51 #[.int .i64 p0, .slice A1 n1 c1, .slice A2 n2 c2, .slice A3 n3 c3, .slice A4 n4 c4, .slice A5 n5 c5]
    rw [← hW]
    clear hW hWz
    have hB1 := hB.trans (hWb.mono hB.size)
    refine (inside_any _ (fun b => F b ∨ w.heap.size + 1 ≤ b) _ _ g (lookL g.nodes).1 (lookL g.nodes).2 (setsL g) roots (HVX.out.on (Below.same' hWb _)) ((HR.out.on (Below.same' hB1 F)).keep (fun b hb _ => .inl hb) (Same.refl _ _)) hl (by omega) (lookTo_len _ _).2 HIN.out HFL.out).mono ?_
    rintro e w2 ⟨vb, rfl, hb2, hvb⟩
    have hbx2 := hbx.below hb2 hbx.lt
    have hB2 := hB1.trans (hb2.mono hB1.size)
    have HW2 := Lib.hid (hWb.trans (hb2.mono hWb.size))
    have hlt2 := hbx2.lt
    have hil := insL_length g.nodes.length (lookL g.nodes).2 roots
    have HM := Lib.hid (show marksL (insL g.nodes.length (lookL g.nodes).2 roots) = marksTo (insL g.nodes.length (lookL g.nodes).2 roots) (insL g.nodes.length (lookL g.nodes).2 roots).length from rfl)
    generalize insL g.nodes.length (lookL g.nodes).2 roots = inn at *
    have hil2 : inn.length ≤ 100 := by omega
    have HIL := Lib.hid hil; clear hil hbx hb2 hWb hB1 hB
    obtain ⟨Ab, cb, rfl, hcb, hBb⟩ := hvb
    have HVB := Lib.hid (show BoolsAt w2 (fun b => W.heap.size ≤ b) (.slice Ab inn.length cb) inn from ⟨_, _, rfl, hcb, hBb⟩)
    have HBB := Lib.hid hBb; clear hBb
    dsimp only
    go_wp2
    obtain ⟨W2, hW2, hbc, hW2b, hW2z⟩ := row_of_alloc w2 58 #[.slice Ab inn.length cb]
    rw [← hW2]
    clear hW2 hW2z
    have hbx3 := hbx2.below hW2b hbx2.lt
    have hB3 := hB2.trans (hW2b.mono hB2.size)
    have hlt3 := hbc.lt
    clear hbx2
    go_loopw [4, 9, 10, 25] (fun vo _ _ i wr => ∃ k : Nat, k ≤ inn.length ∧ i = .int .i64 k ∧ wr.ownsRow W2.heap.size 3 1 vo (marksTo inn k).length ((marksTo inn k).map (Value.int .i64)) ∧ Below W2.heap.size W2 wr) (fun _ _ _ i _ => inn.length - (intOf i).toNat)
    case atStart => exact ⟨0, by omega, rfl, World.ownsRow_nil _ _ _ _, Below.refl _ _⟩
    case round =>
      obtain ⟨k, hk, rfl, hown, hbel⟩ := hrel
      have HO := Lib.hid hown; clear hown
      have hlen := marksTo_length inn k
      by_cases hlt : k < inn.length
      · obtain ⟨bu, ou, rfl, _, hbu, hxu⟩ := HBB.out (by omega)
        obtain ⟨y, hy⟩ := getSome hlt
        have ey := hxu k y hy
        unfold boolE at ey
        rw [Nat.mul_one, ← below_old hW2b _ _ hbu, ← below_old hbel _ _ (by omega)] at ey
        have HST := Lib.hid (marksTo_snoc hy)
        clear hy hxu
        cases y
        · go_wp2
          go_roundw
          case rel => exact ⟨k + 1, by omega, by go_num, by rw [HST.out]; simpa using HO.out, hbel⟩
          case measure => simp [intOf] <;> omega
        · go_wp2_with (at_builtin; refine wpl_app_int rfl _ _ rfl W2.heap.size _ (marksTo inn k) rfl (HO.out.alloc _) wr.heap.size k rfl (heap_alloc_new _ _) (by omega) (by have := hbel.size; simp; omega) ?_; intro gg cap w3 hown3 hgrow hat hlt3; have hbel3 : Below W2.heap.size W2 w3 := (hbel.alloc hbel.size _).grown hgrow (by have := hbel.size; simp; omega) (fun k hk => (HO.out.lt k hk).1); have HO3 := Lib.hid hown3; clear hown3 hgrow hat hlt3)
          go_roundw
          case rel => exact ⟨k + 1, by omega, by go_num, by rw [HST.out]; simpa using HO3.out, hbel3⟩
          case measure => simp [intOf] <;> omega
      · have hbx4 := hbx3.below hbel hbx3.lt
        have hbc4 := hbc.below hbel hbc.lt
        have x0 := hbx4.cell (i := 0) rfl
        have x1 := hbx4.cell (i := 1) rfl
        have x2 := hbx4.cell (i := 2) rfl
        have x3 := hbx4.cell (i := 3) rfl
        have x4 := hbx4.cell (i := 4) rfl
        have x5 := hbx4.cell (i := 5) rfl
        have hB4 := hB3.trans (hbel.mono hB3.size)
        have h24 : Below w2.heap.size w2 wr := hW2b.trans (hbel.mono hW2b.size)
        have h14 : Below w1.heap.size w1 wr := HW2.out.trans (h24.mono HW2.out.size)
        go_wp2_with fail
        refine (some_any _ (fun b => F b ∨ w.heap.size + 1 ≤ b) _ g (lookL g.nodes).1 (lookL g.nodes).2 (setsL g) _ _ (fun x => 0 ≤ x ∧ x < (inn.length : Int)) (inAt inn) (HVX.out.on (Below.same' h14 _)) (setsL_small HS.out).1 (setsL_small HS.out).2 (fun l hl x hx => by have := setsTo_in (Nat.le_refl _) l hl x hx; have := HIL.out; omega) (inside1_answers wr _ _ _ inn (hbc4.cell rfl) hbc4.lt (HVB.out.on (Below.same' h24 _)))).mono ?_
        rintro e w5 ⟨vo, rfl, hb5, hvo⟩
        clear x0 x1 x2 x3 x4 x5
        dsimp only
        go_wp2
        go_ret3
        have hke : k = inn.length := by omega
        subst hke
        have z3 := hB3.size
        have z4 := hB4.size
        have z5 := hbel.size
        refine ⟨_, rfl, hB4.trans (hb5.mono z4), u4, vo, by first | rfl | (rw [HOE.out]; rfl), ?_, ?_⟩
        · rw [HI1.out, if_pos (by first | rfl | trivial), HM.out]
          exact (Own.ints (F := fun b => w.heap.size ≤ b) (by simpa [Own] using HO.out) (fun b hb => by have := (HO.out.lt b hb).1; omega)).on (Below.same' hb5 _)
        · rw [HI2.out, if_pos (by first | rfl | trivial)]
          exact hvo.keep (fun b hb _ => by omega) (Same.refl _ _)
  · have hd : (er != 0) = true := by simp [he]
    have HNZ := Lib.hid he
    clear he
    go_wp2
    go_ret3
    refine ⟨_, rfl, hB.alloc hB.size _, .slice none 0 0, .slice none 0 0, by first | rfl | (rw [HOE.out]; rfl), ?_, ?_⟩
    · rw [HI1.out, if_neg HNZ.out]; exact ints_nil _ _
    · rw [HI2.out, if_neg HNZ.out]; exact ints_nil _ _
end Go.Proofs.Ytafjdoedallnbaa
