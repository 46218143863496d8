/- subgame.view.alone, subgame.Proper -/
import Derived.Test.YtafjdoedallnbaaLeastP
namespace Go.Proofs.Ytafjdoedallnbaa
open Go.RowKit

def within2 (a b h : Int) : Bool := decide (a ≤ h) && decide (h ≤ b)
def mixedIn (a b : Int) (l : List Int) : Bool := decide (0 < l.countP (within2 a b)) && decide (l.countP (within2 a b) < l.length)
def aloneB (last : List Int) (sets : List (List Int)) (node : Int) : Bool := sets.all fun l => !mixedIn node (last.getD node.toNat 0) l
theorem count_snoc {l : List Int} {p : Int → Bool} {k : Nat} {x : Int} (h : l[k]? = some x) : (l.take (k + 1)).countP p = (l.take k).countP p + (if p x then 1 else 0) := by
  rw [take_snoc h, List.countP_append]
  cases hx : p x <;> simp [hx]

set_option maxRecDepth 100000 in
set_option maxHeartbeats 3200000 in
theorem alone_any (w : World) (F : Foot) (u : Value) (r : Int) (g : Gm) (par last : List Int) (sets : List (List Int)) (hv : ViewV w F u g par last sets) (hs : sets.length ≤ 1000) (hsl : ∀ l ∈ sets, l.length ≤ 1000) (hll : last.length = g.nodes.length) (hr : 0 ≤ r ∧ r < (g.nodes.length : Int)) :
    Calls Try.prog 40 #[u, .int .i64 r] w (Ret w fun v _ => v = .bool (aloneB last sets r)) := by
  obtain ⟨vn, vi, vp, vl, vs, rfl, ⟨A, c, rfl, hc, hN'⟩, ⟨Ai, ci, rfl, hci, hI⟩, ⟨Ap, cp, rfl, hcp, hP⟩, ⟨Al, cl, rfl, hcl, hL⟩, ⟨As, cs, rfl, hcs, hS⟩⟩ := hv
  clear hN' hI hP
  obtain ⟨q, rfl⟩ := Int.eq_ofNat_of_zero_le hr.1
  obtain ⟨bl, ol, rfl, _, hbl, hxl⟩ := hL (by omega)
  obtain ⟨y, hy⟩ := getSome (l := last) (k := q) (by omega)
  have el := hxl q y hy
  unfold intE at el
  rw [Nat.mul_one] at el
  have hql : q < last.length := by omega
  have HAL := Lib.hid (show aloneB last sets (q : Int) = sets.all fun l => !mixedIn q y l by unfold aloneB; simp [List.getD_eq_getElem?_getD, hy])
  have HS := Lib.hid hS; clear hS hL hxl hy hll hr
  have HSL := Lib.hid hsl; clear hsl
  go_enter Try.func40, Try.ntmps40
  go_wp2
  obtain ⟨W, hW, hbx, hWb, hWz⟩ := row_of_alloc w 51 #[.int .i64 g.players, .slice A g.nodes.length c, .slice Ai g.infos.length ci, .slice Ap par.length cp, .slice (some ⟨bl, ol, none⟩) last.length cl, .slice As sets.length cs]
  rw [← hW]
  clear hW hWz
  have x4 := hbx.cell (i := 4) rfl
  rw [← below_old hWb _ _ hbl] at el
  go_loop [6, 7, 9, 13] (fun _ _ _ i => ∃ k : Nat, k ≤ sets.length ∧ i = .int .i64 k ∧ (sets.take k).all (fun l => !mixedIn q y l) = true) (fun _ _ _ i => sets.length - (intOf i).toNat)
  case atStart => exact ⟨0, by omega, rfl, rfl⟩
  case round =>
    obtain ⟨k, hk, rfl, hpre⟩ := hrel
    have HP := Lib.hid hpre; clear hpre
    by_cases hlt : k < sets.length
    · obtain ⟨bs, os, rfl, _, hbs, hxs⟩ := HS.out (by omega)
      obtain ⟨l, hl'⟩ := getSome hlt
      obtain ⟨vl', ev, Av, cv, rfl, hcv, hAv⟩ := hxs k l hl'
      rw [Nat.mul_one, ← below_old hWb _ _ hbs] at ev
      have hl1 := HSL.out l (List.mem_of_getElem? hl')
      have HLK := Lib.hid hl'
      have HAV := Lib.hid hAv
      clear hl' hxs hAv
      go_wp2
      go_loop [7, 9, 19] (fun n _ i => ∃ j : Nat, j ≤ l.length ∧ i = .int .i64 j ∧ n = .int .i64 (((l.take j).countP (within2 q y) : Nat) : Int)) (fun _ _ i => l.length - (intOf i).toNat)
      case atStart => exact ⟨0, by omega, rfl, rfl⟩
      case round =>
        obtain ⟨j, hj, rfl, rfl⟩ := hrel
        have hcl2 : (l.take j).countP (within2 q y) ≤ j := Nat.le_trans List.countP_le_length (by simp; omega)
        by_cases hjt : j < l.length
        · obtain ⟨bv, ov, rfl, _, hbv, hxv⟩ := HAV.out (by omega)
          obtain ⟨h, hh⟩ := getSome hjt
          have eh := hxv j h hh
          unfold intE at eh
          rw [Nat.mul_one, ← below_old hWb _ _ hbv] at eh
          have HCS := Lib.hid (count_snoc (p := within2 q y) hh)
          clear hh hxv
          generalize (l.take j).countP (within2 q y) = cn at *
          by_cases q1 : (q : Int) ≤ h
          · by_cases q2 : h ≤ y
            · have HC := Lib.hid (show (l.take (j + 1)).countP (within2 q y) = cn + 1 by rw [HCS.out]; simp [within2, q1, q2])
              go_wp2
              go_round
              case rel => exact ⟨j + 1, by omega, by go_num, by rw [HC.out]; go_num⟩
              case measure => simp [intOf] <;> omega
            · have HC := Lib.hid (show (l.take (j + 1)).countP (within2 q y) = cn by rw [HCS.out]; simp [within2, q2])
              have d2 : decide (h ≤ y) = false := decide_eq_false q2
              go_wp2
              go_round
              case rel => exact ⟨j + 1, by omega, by go_num, by rw [HC.out]⟩
              case measure => simp [intOf] <;> omega
          · have HC := Lib.hid (show (l.take (j + 1)).countP (within2 q y) = cn by rw [HCS.out]; simp [within2, q1])
            have d1 : decide ((q : Int) ≤ h) = false := decide_eq_false q1
            go_wp2
            go_round
            case rel => exact ⟨j + 1, by omega, by go_num, by rw [HC.out]⟩
            case measure => simp [intOf] <;> omega
        · have HTK := Lib.hid (show l.take j = l from List.take_of_length_le (by omega))
          rw [HTK.out] at hcl2 ⊢
          have HMX := Lib.hid (show mixedIn q y l = (decide (0 < l.countP (within2 q y)) && decide (l.countP (within2 q y) < l.length)) from rfl)
          generalize l.countP (within2 q y) = cn at *
          by_cases q1 : 0 < cn
          · by_cases q2 : cn < l.length
            · have HF := Lib.hid (show aloneB last sets (q : Int) = false by
                rw [HAL.out]; exact all_false (List.mem_of_getElem? HLK.out) (by rw [HMX.out]; simp [q1, q2]))
              go_wp2
              go_ret
              exact ⟨_, rfl, hWb, by rw [HF.out]; rfl⟩
            · have d2 : decide (cn < l.length) = false := decide_eq_false q2
              go_wp2
              go_round
              case rel => exact ⟨k + 1, by omega, by go_num, all_snoc HLK.out HP.out (by rw [HMX.out]; simp [q2])⟩
              case measure => simp [intOf] <;> omega
          · obtain rfl : cn = 0 := by omega
            go_wp2
            go_round
            case rel => exact ⟨k + 1, by omega, by go_num, all_snoc HLK.out HP.out (by rw [HMX.out]; simp)⟩
            case measure => simp [intOf] <;> omega
    · have HF := Lib.hid (show aloneB last sets (q : Int) = true by rw [HAL.out]; have := HP.out; rwa [List.take_of_length_le (by omega)] at this)
      go_wp2
      go_ret
      exact ⟨_, rfl, hWb, by rw [HF.out]; rfl⟩

def properAt (nodes : List Nd) (last : List Int) (sets : List (List Int)) (i : Nat) : Bool := match nodes[i]? with | some n => decide (n.kind ≠ 3) && aloneB last sets i | none => false
def properTo (nodes : List Nd) (last : List Int) (sets : List (List Int)) (k : Nat) : List Int := ((List.range k).filter (properAt nodes last sets)).map fun i : Nat => (i : Int)
theorem properTo_succ (nodes : List Nd) (last : List Int) (sets : List (List Int)) (k : Nat) : properTo nodes last sets (k + 1) = properTo nodes last sets k ++ (if properAt nodes last sets k then [(k : Int)] else []) := by
  unfold properTo
  rw [List.range_succ, List.filter_append, List.map_append]
  cases h : properAt nodes last sets k <;> simp [h]
theorem properTo_length (nodes : List Nd) (last : List Int) (sets : List (List Int)) (k : Nat) : (properTo nodes last sets k).length ≤ k := by
  unfold properTo
  rw [List.length_map]
  refine Nat.le_trans (List.length_filter_le _ _) ?_
  simp
def properPL (g : Gm) : List Int := if formL g = 0 then properTo g.nodes (lookL g.nodes).2 (setsL g) g.nodes.length else []

set_option maxRecDepth 100000 in
set_option maxHeartbeats 3200000 in
theorem proper_any (w : World) (F : Foot) (u : Value) (g : Gm) (hg : GameAt w F u g) (hsm : Small g) :
    Calls Try.prog 18 #[u] w (Ret w (OneInts w.heap.size (formL g) (properPL g))) := by
  have HG := Lib.hid hg
  obtain ⟨vn, vi, rfl, ⟨A, c, rfl, hc, hN⟩, ⟨Ai, ci, rfl, hci, hI⟩⟩ := hg
  clear hI
  have HN := Lib.hid hN; clear hN
  have hn := hsm.nodes
  have hni := hsm.infos
  have HS := Lib.hid hsm; clear hsm
  go_enter Try.func18, Try.ntmps18
  go_wp2_with fail
  refine (look_any _ F _ g (HG.out.on (Same.alloc _ _ _)) HS.out).mono ?_
  rintro e w1 ⟨_, rfl, hb1, vv, rfl, hv1, hv2⟩
  have hgx := (Row.new w 25 #[.int .i64 g.players, .slice A g.nodes.length c, .slice Ai g.infos.length ci]).below hb1 (by simp)
  have hB : Below w.heap.size w w1 := ((Below.refl w.heap.size w).alloc (Nat.le_refl _) _).trans (hb1.mono (by simp))
  simp only [World.size_alloc] at hv2
  clear hb1
  have HV1 := Lib.hid hv1; have HV2 := Lib.hid hv2; clear hv1 hv2
  have HPP := Lib.hid (show properPL g = if formL g = 0 then properTo g.nodes (lookL g.nodes).2 (setsL g) g.nodes.length else [] from rfl)
  generalize hfe : formL g = er at *
  have HFE := Lib.hid hfe; clear hfe
  dsimp only
  by_cases he : er = 0
  · have HVX := Lib.hid (HV2.out he)
    have HP2 := Lib.hid (show properPL g = properTo g.nodes (lookL g.nodes).2 (setsL g) g.nodes.length by rw [HPP.out, if_pos he])
    subst he
    clear HV1 HV2
    have HVY := Lib.hid HVX.out
    obtain ⟨vn', vi', vp, vl, vs, rfl, ⟨An, cn, rfl, hcn, hN'⟩, ⟨Ax, cx, rfl, hcx, hI'⟩, ⟨Ap, cp, rfl, hcp, hP'⟩, ⟨Al, cl, rfl, hcl, hL'⟩, ⟨As, cs, rfl, hcs, hS'⟩⟩ := HVX.out
    clear hN' hI' hL' hS' hP' HVX
    have g1 := hgx.cell (i := 1) rfl
    have hlt1 := hgx.lt
    go_wp2_with fail
    obtain ⟨W, hW, hbx, hWb, hWz⟩ := row_of_alloc w1 51 #[.int .i64 g.players, .slice An g.nodes.length cn, .slice Ax g.infos.length cx, .slice Ap (lookL g.nodes).1.length cp, .slice Al (lookL g.nodes).2.length cl, .slice As (setsL g).length cs]
    rw [← hW]
    clear hW hWz
    have hBW := hB.trans (hWb.mono hB.size)
    have hltW := hbx.lt
    clear hgx g1
    go_loopw [6, 7, 8, 20] (fun vo _ _ i wr => ∃ k : Nat, k ≤ g.nodes.length ∧ i = .int .i64 k ∧ wr.ownsRow W.heap.size 3 1 vo (properTo g.nodes (lookL g.nodes).2 (setsL g) k).length ((properTo g.nodes (lookL g.nodes).2 (setsL g) k).map (Value.int .i64)) ∧ Below W.heap.size W wr) (fun _ _ _ i _ => g.nodes.length - (intOf i).toNat)
    case atStart => exact ⟨0, by omega, rfl, World.ownsRow_nil _ _ _ _, Below.refl _ _⟩
    case round =>
      obtain ⟨k, hk, rfl, hown, hbel⟩ := hrel
      have HO := Lib.hid hown; clear hown
      have hlen := properTo_length g.nodes (lookL g.nodes).2 (setsL g) k
      have HST := Lib.hid (properTo_succ g.nodes (lookL g.nodes).2 (setsL g) k)
      by_cases hlt : k < g.nodes.length
      · obtain ⟨b, o, rfl, _, hb, hcell⟩ := HN.out (by omega)
        obtain ⟨n, hn'⟩ := getSome hlt
        obtain ⟨e0, e1, e2, ⟨v3, e3, A3, c3, rfl, hc3, i3⟩, ⟨v4, e4, A4, c4, rfl, hc4, i4⟩, ⟨v5, e5, A5, c5, rfl, hc5, i5⟩⟩ := hcell k n hn'
        clear i3 i4 i5 hcell
        have hwr := hBW.trans (hbel.mono hBW.size)
        rw [← below_old hwr _ _ hb] at e0 e1 e2 e3 e4 e5
        have HPA := Lib.hid (show properAt g.nodes (lookL g.nodes).2 (setsL g) k = (decide (n.kind ≠ 3) && aloneB (lookL g.nodes).2 (setsL g) k) by unfold properAt; rw [hn'])
        clear hn'
        by_cases hkd : n.kind = 3
        · have HR := Lib.hid (show properAt g.nodes (lookL g.nodes).2 (setsL g) k = false by rw [HPA.out]; simp [hkd])
          have hd : (n.kind != 3) = false := by simp [hkd]
          clear hkd
          go_wp2
          go_roundw
          case rel => exact ⟨k + 1, by omega, by go_num, by rw [HST.out, HR.out]; simpa using HO.out.alloc _, hbel.alloc hbel.size _⟩
          case measure => simp [intOf] <;> omega
        · have hd : (n.kind != 3) = true := by simp [hkd]
          have HR := Lib.hid (show properAt g.nodes (lookL g.nodes).2 (setsL g) k = aloneB (lookL g.nodes).2 (setsL g) k by rw [HPA.out]; simp [hkd])
          clear hkd
          have hbx2 := hbx.below hbel hbx.lt
          have x0 := hbx2.cell (i := 0) rfl
          have x1 := hbx2.cell (i := 1) rfl
          have x2 := hbx2.cell (i := 2) rfl
          have x3 := hbx2.cell (i := 3) rfl
          have x4 := hbx2.cell (i := 4) rfl
          have x5 := hbx2.cell (i := 5) rfl
          have hlt2 := hbx2.lt
          go_wp2_with fail
          obtain ⟨W2, hW2, hbn, hW2b, hW2z⟩ := row_of_alloc wr 45 #[.int .i64 n.kind, .int .i64 n.player, .int .i64 n.info, .slice A3 n.next.length c3, .slice A4 n.weights.length c4, .slice A5 n.pay.length c5]
          rw [← hW2]
          have HO2 := Lib.hid (show W2.ownsRow W.heap.size 3 1 u6 (properTo g.nodes (lookL g.nodes).2 (setsL g) k).length ((properTo g.nodes (lookL g.nodes).2 (setsL g) k).map (Value.int .i64)) by rw [hW2]; exact HO.out.alloc _)
          clear hW2 hW2z HO
          have hbel2 := hbel.trans (hW2b.mono hbel.size)
          have h12 := hWb.trans (hbel2.mono hWb.size)
          refine (alone_any _ (fun b => F b ∨ w.heap.size + 1 ≤ b) _ k g (lookL g.nodes).1 (lookL g.nodes).2 (setsL g) (HVY.out.on (Below.same' h12 _)) (setsL_small HS.out).1 (setsL_small HS.out).2 (lookTo_len _ _).2 (by omega)).mono ?_
          rintro e w3 ⟨_, rfl, hb3, rfl⟩
          have hbel3 := hbel2.trans (hb3.mono hbel2.size)
          have HO3 := Lib.hid (show w3.ownsRow W.heap.size 3 1 u6 (properTo g.nodes (lookL g.nodes).2 (setsL g) k).length ((properTo g.nodes (lookL g.nodes).2 (setsL g) k).map (Value.int .i64)) from ⟨HO2.out.1, HO2.out.2.imp id (fun ⟨gg, cap, cur, h1, h2, h3, h4⟩ => ⟨gg, cap, cur, h1, h2, by rw [hb3.block gg (Array.getElem?_eq_some_iff.1 h3).1]; exact h3, h4⟩)⟩)
          clear HO2 hbel2 h12 hb3 hW2b hbn x0 x1 x2 x3 x4 x5 hbx2 e0 e1 e2 e3 e4 e5 hwr hbel
          generalize aloneB (lookL g.nodes).2 (setsL g) k = al at *
          dsimp only
          cases al
          · go_wp2
            go_roundw
            case rel => exact ⟨k + 1, by omega, by go_num, by rw [HST.out, HR.out]; simpa using HO3.out, hbel3⟩
            case measure => simp [intOf] <;> omega
          · go_wp2_with (at_builtin; refine wpl_app_int rfl _ _ rfl W.heap.size _ (properTo g.nodes (lookL g.nodes).2 (setsL g) k) rfl (HO3.out.alloc _) w3.heap.size k rfl (heap_alloc_new _ _) (by omega) (by have := hbel3.size; simp; omega) ?_; intro gg cap w4 hown4 hgrow hat hlt4; have hbel4 : Below W.heap.size W w4 := (hbel3.alloc hbel3.size _).grown hgrow (by have := hbel3.size; simp; omega) (fun k hk => (HO3.out.lt k hk).1); have HO4 := Lib.hid hown4; clear hown4 hgrow hat hlt4)
            go_roundw
            case rel => exact ⟨k + 1, by omega, by go_num, by rw [HST.out, HR.out]; simpa using HO4.out, hbel4⟩
            case measure => simp [intOf] <;> omega
      · go_wp2
        go_ret2
        have hke : k = g.nodes.length := by omega
        have zW := hBW.size
        refine ⟨_, rfl, hBW.trans (hbel.mono zW), u6, by first | rfl | (rw [HFE.out]; rfl), ?_⟩
        rw [HP2.out, ← hke]
        exact Own.ints (by simpa [Own] using HO.out) (fun b hb => by have := (HO.out.lt b hb).1; omega)
  · have hd : (er != 0) = true := by simp [he]
    obtain rfl := HV1.out he
    have HNZ := Lib.hid he; clear he
    unfold noView
    go_wp2
    go_ret2
    exact ⟨_, rfl, hB.alloc hB.size _, .slice none 0 0, by first | rfl | (rw [HFE.out]; rfl), by rw [HPP.out, if_neg HNZ.out]; exact ints_nil _ _⟩
end Go.Proofs.Ytafjdoedallnbaa
