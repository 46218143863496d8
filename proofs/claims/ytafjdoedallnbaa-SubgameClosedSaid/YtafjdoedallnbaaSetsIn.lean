/- parlourref26.SetsIn: the sets that are inside, and whether all of their nodes are. -/
import Derived.Test.YtafjdoedallnbaaSetsOf
import Derived.Test.YtafjdoedallnbaaUnder
namespace Go.Proofs.Ytafjdoedallnbaa
open Go.RowKit

/-- how many of some nodes are marked -/
def manyIn (inn : List Bool) (l : List Int) : Nat := l.countP fun x => inn.getD x.toNat false
theorem manyIn_snoc {inn : List Bool} {l : List Int} {k : Nat} {x : Int} {b : Bool} (h : l[k]? = some x) (hb : inn[x.toNat]? = some b) : manyIn inn (l.take (k + 1)) = manyIn inn (l.take k) + (if b then 1 else 0) := by
  rw [take_snoc h]; unfold manyIn
  rw [List.countP_append]
  cases b <;> simp [List.getD_eq_getElem?_getD, hb]
theorem manyIn_le (inn : List Bool) (l : List Int) : manyIn inn l ≤ l.length := List.countP_le_length
/-- the sets some of whose nodes are marked, among the first k; and whether all of theirs are -/
def setsInTo (inn : List Bool) (sets : List (List Int)) (k : Nat) : List Int := ((sets.take k).zipIdx.filter fun p => decide (0 < manyIn inn p.1)).map fun p => (p.2 : Int)
def allInTo (inn : List Bool) (sets : List (List Int)) (k : Nat) : Bool := (sets.take k).all fun l => !decide (0 < manyIn inn l) || decide (manyIn inn l = l.length)
theorem zipIdx_snoc {α : Type} {l : List α} {k : Nat} {x : α} (h : l[k]? = some x) : (l.take (k + 1)).zipIdx = (l.take k).zipIdx ++ [(x, k)] := by
  rw [take_snoc h, List.zipIdx_append]
  have := lt_of_get h
  simp [List.length_take, Nat.min_eq_left (Nat.le_of_lt this)]
theorem setsInTo_snoc {inn : List Bool} {sets : List (List Int)} {k : Nat} {l : List Int} (h : sets[k]? = some l) : setsInTo inn sets (k + 1) = setsInTo inn sets k ++ (if 0 < manyIn inn l then [(k : Int)] else []) := by
  unfold setsInTo
  rw [zipIdx_snoc h, List.filter_append, List.map_append]
  by_cases hm : 0 < manyIn inn l <;> simp [hm]
theorem allInTo_snoc {inn : List Bool} {sets : List (List Int)} {k : Nat} {l : List Int} (h : sets[k]? = some l) : allInTo inn sets (k + 1) = (allInTo inn sets k && (!decide (0 < manyIn inn l) || decide (manyIn inn l = l.length))) := by
  unfold allInTo
  rw [take_snoc h, List.all_append]
  simp
theorem setsInTo_length (inn : List Bool) (sets : List (List Int)) (k : Nat) : (setsInTo inn sets k).length ≤ k := by
  unfold setsInTo
  rw [List.length_map]
  refine Nat.le_trans (List.length_filter_le _ _) ?_
  simp; omega
def setsInL (g : Gm) (roots : List Int) : List Int := setsInTo (underL g.nodes roots) (setsL g) g.infos.length
def closedL (g : Gm) (roots : List Int) : Bool := allInTo (underL g.nodes roots) (setsL g) g.infos.length

/-- the nodes of sets are nodes -/
theorem setsTo_in {nodes : List Nd} {ni k : Nat} (hk : k ≤ nodes.length) : ∀ l ∈ setsTo nodes ni k, ∀ x ∈ l, 0 ≤ x ∧ x < (nodes.length : Int) := by
  induction k with
  | zero => intro l hl; simp [setsTo] at hl; simp [hl.2]
  | succ k ih =>
    intro l hl x hx
    unfold setsTo at hl
    split at hl
    · split at hl
      · rcases List.mem_or_eq_of_mem_set hl with h | h
        · exact ih (by omega) l h x hx
        · rename_i n _ _
          subst h
          rw [List.mem_append] at hx
          rcases hx with hx | hx
          · rcases Nat.lt_or_ge n.info.toNat (setsTo nodes ni k).length with hlt | hge
            · exact ih (by omega) ((setsTo nodes ni k).getD n.info.toNat []) (by rw [List.getD_eq_getElem?_getD]; simp [hlt]) x hx
            · rw [List.getD_eq_getElem?_getD, List.getElem?_eq_none hge] at hx; simp at hx
          · simp at hx; omega
      · exact ih (by omega) l hl x hx
    · exact ih (by omega) l hl x hx
theorem underL_length (nodes : List Nd) (roots : List Int) : (underL nodes roots).length = nodes.length := by unfold underL; rw [spTo_length, markL_length]; simp

set_option maxRecDepth 100000 in
set_option maxHeartbeats 1600000 in
theorem setsIn_any (w : World) (F : Foot) (u vr : Value) (g : Gm) (roots : List Int) (hg : GameAt w F u g) (hr : IntsAt w F vr roots) (hsm : Small g) (h0 : 0 < g.nodes.length) (hk : KidsIn g.nodes) (hii : InfosIn g)
    (hl : roots.length ≤ 1000) (hin : ∀ r ∈ roots, 0 ≤ r ∧ r < (g.nodes.length : Int)) :
    Calls Try.prog 27 #[u, vr] w (Ret w fun v w' => ∃ vs, v = .tuple #[vs, .bool (closedL g roots)] ∧ IntsAt w' (fun b => w.heap.size ≤ b) vs (setsInL g roots)) := by
  have HG := Lib.hid hg
  obtain ⟨vn, vi, rfl, ⟨A, c, rfl, hc, hN⟩, ⟨Ai, ci, rfl, hci, hI⟩⟩ := hg
  clear hN hI
  have HR := Lib.hid hr; clear hr
  have HK := Lib.hid hk; clear hk
  have hn := hsm.nodes
  have hni := hsm.infos
  have HS := Lib.hid hsm; clear hsm
  have HIN := Lib.hid hin; clear hin
  have HII := Lib.hid hii; clear hii
  go_enter Try.func27, Try.ntmps27
  go_wp2_with fail
  obtain ⟨W, hW⟩ : ∃ W : World, W = w.alloc (.cells #[.int .i64 g.players, .slice A g.nodes.length c, .slice Ai g.infos.length ci] 25) := ⟨_, rfl⟩
  rw [← hW]
  have hbx : Row W w.heap.size 25 [.int .i64 g.players, .slice A g.nodes.length c, .slice Ai g.infos.length ci] := by rw [hW]; exact Row.new w _ _
  have hWb : Below w.heap.size w W := by rw [hW]; exact (Below.refl _ _).alloc (Nat.le_refl _) _
  have hWz : w.heap.size < W.heap.size := by rw [hW]; simp
  clear hW
  refine wp_region_held_drew (S := fun w' => w'.cell? ⟨w.heap.size, 0, none⟩ = some (.int .i64 g.players) ∧ w'.cell? ⟨w.heap.size, 1, none⟩ = some (.slice A g.nodes.length c) ∧ w'.cell? ⟨w.heap.size, 2, none⟩ = some (.slice Ai g.infos.length ci)) (by kernel_rfl) ⟨hbx.cell rfl, hbx.cell rfl, hbx.cell rfl⟩ (fun hHeld => ?_)
  refine wpAnyH_take (i := 0) (v := ?_) rfl (by kernel_rfl) (by kernel_rfl) (by kernel_rfl) (fun _ _ _ h => h) (Or.inl ⟨by rfl, ?_⟩) hHeld ?_
  rotate_left
  · intro wx hSx; (try dsimp only at hSx); go_split_ands; go_simp; try (with_reducible rfl)
  try simp only [Act.put, List.getElem_toArray, List.getElem_cons_zero, List.getElem_cons_succ, List.setIfInBounds_toArray, List.set_cons_zero, List.set_cons_succ]
  refine wpAnyH_take (i := 1) (v := ?_) rfl (by kernel_rfl) (by kernel_rfl) (by kernel_rfl) (fun _ _ _ h => h) (Or.inl ⟨by rfl, ?_⟩) hHeld ?_
  rotate_left
  · intro wx hSx; (try dsimp only at hSx); go_split_ands; go_simp; try (with_reducible rfl)
  try simp only [Act.put, List.getElem_toArray, List.getElem_cons_zero, List.getElem_cons_succ, List.setIfInBounds_toArray, List.set_cons_zero, List.set_cons_succ]
  refine wpAnyH_take (i := 3) (v := ?_) rfl (by kernel_rfl) (by kernel_rfl) (by kernel_rfl) (fun _ _ _ h => h) (Or.inl ⟨by rfl, ?_⟩) hHeld ?_
  rotate_left
  · intro wx hSx; (try dsimp only at hSx); go_split_ands; go_simp; try (with_reducible rfl)
  try simp only [Act.put, List.getElem_toArray, List.getElem_cons_zero, List.getElem_cons_succ, List.setIfInBounds_toArray, List.set_cons_zero, List.set_cons_succ]
  refine wpAnyH_ready (rs := [2]) (by kernel_rfl) (by simp) ?_
  refine AllReadyH.cons (o := _) rfl (fun K hK => ?_) AllReadyH.nil
  go_simp
  refine (under_any _ F _ _ g roots ((HG.out.on (Below.same' hWb F)).on (Same.drewN F W 1)) ((HR.out.on (Below.same' hWb F)).on (Same.drewN F W 1)) HS.out h0 HK.out hl HIN.out).mono ?_
  rintro e w1 ⟨vu, rfl, hb1, hun⟩
  have hbx1 := hbx.drew.below hb1 hbx.lt
  dsimp only
  refine hK.out _ _ ⟨hbx1.cell rfl, hbx1.cell rfl, hbx1.cell rfl⟩ (fun hHeld => ?_)
  clear hK K
  try simp only [Act.put, List.getElem_toArray, List.getElem_cons_zero, List.getElem_cons_succ, List.setIfInBounds_toArray, List.set_cons_zero, List.set_cons_succ]
  refine wpAnyH_ready (rs := [4]) (by kernel_rfl) (by simp) ?_
  refine AllReadyH.cons (o := _) rfl (fun K hK => ?_) AllReadyH.nil
  go_simp
  refine (setsOf_any _ F _ g (((HG.out.on (Below.same' hWb F)).on (Same.drewN F W 1)).on (Below.same' hb1 F)) HS.out HII.out).mono ?_
  rintro e w2 ⟨vss, rfl, hb2, hse⟩
  have hbx2 := hbx1.below hb2 hbx1.lt
  dsimp only
  refine hK.out _ _ ⟨hbx2.cell rfl, hbx2.cell rfl, hbx2.cell rfl⟩ (fun hHeld => ?_)
  clear hK K
  try simp only [Act.put, List.getElem_toArray, List.getElem_cons_zero, List.getElem_cons_succ, List.setIfInBounds_toArray, List.set_cons_zero, List.set_cons_succ]
  refine wpAnyH_take (i := 5) (v := ?_) rfl (by kernel_rfl) (by kernel_rfl) (by kernel_rfl) (fun _ _ _ h => h) (Or.inl ⟨by rfl, ?_⟩) hHeld ?_
  rotate_left
  · intro wx hSx; (try dsimp only at hSx); go_split_ands; go_simp; try (with_reducible rfl)
  try simp only [Act.put, List.getElem_toArray, List.getElem_cons_zero, List.getElem_cons_succ, List.setIfInBounds_toArray, List.set_cons_zero, List.set_cons_succ]
  refine wpAnyH_take (i := 6) (v := ?_) rfl (by kernel_rfl) (by kernel_rfl) (by kernel_rfl) (fun _ _ _ h => h) (Or.inl ⟨by rfl, ?_⟩) hHeld ?_
  rotate_left
  · intro wx hSx; (try dsimp only at hSx); go_split_ands; go_simp; try (with_reducible rfl)
  try simp only [Act.put, List.getElem_toArray, List.getElem_cons_zero, List.getElem_cons_succ, List.setIfInBounds_toArray, List.set_cons_zero, List.set_cons_succ]
  refine wpAnyH_done (by kernel_rfl) ?_ _
  have hz12 : w1.heap.size ≤ w2.heap.size := hb2.size
  have hzW : W.heap.size ≤ w1.heap.size := hb1.size
  have hun2 := hun.on (Below.same' hb2 _)
  have hBB : Below w.heap.size w w2 := hWb.drew.trans ((hb1.mono (by simp; omega)).trans (hb2.mono (by omega)))
  have HBB := Lib.hid hBB
  clear hBB hun hbx1 hbx hb1 hb2 hWb hHeld HG HR
  have hx1 := hbx2.lt
  clear hbx2
  have hul := underL_length g.nodes roots
  generalize hinn : underL g.nodes roots = inn at *
  have hsl : (setsL g).length = g.infos.length := setsTo_length _ _ _
  have hsin : ∀ l ∈ setsL g, ∀ x ∈ l, 0 ≤ x ∧ x < (g.nodes.length : Int) := setsTo_in (Nat.le_refl _)
  have hsle : ∀ l ∈ setsL g, l.length ≤ g.nodes.length := setsTo_len
  have hR1 : setsInL g roots = setsInTo inn (setsL g) g.infos.length := by unfold setsInL; rw [hinn]
  have hR2 : closedL g roots = allInTo inn (setsL g) g.infos.length := by unfold closedL; rw [hinn]
  have HR1 := Lib.hid hR1; have HR2 := Lib.hid hR2
  clear hR1 hR2 hinn
  generalize setsL g = sets at *
  obtain ⟨As, cs, rfl, hcs, hS⟩ := hse
  obtain ⟨Au, cu, rfl, hcu, hU⟩ := hun2
  have HSE := Lib.hid hS; clear hS
  have HUN := Lib.hid hU; clear hU
  have HSIN := Lib.hid hsin; clear hsin
  have HSLE := Lib.hid hsle; clear hsle
  have HUL := Lib.hid hul; have hul0 : inn.length ≤ 100 := by omega
  clear hul
  have HSL := Lib.hid hsl; have hsl0 : sets.length ≤ 100 := by omega
  clear hsl
  go_wp2
  go_loopw [8, 9, 10] (fun vo cl i wr => ∃ k : Nat, k ≤ sets.length ∧ i = .int .i64 k ∧ cl = .bool (allInTo inn sets k) ∧ wr.ownsRow w2.heap.size 3 1 vo (setsInTo inn sets k).length ((setsInTo inn sets k).map (Value.int .i64)) ∧ Below w2.heap.size w2 wr) (fun _ _ i _ => sets.length - (intOf i).toNat)
  case atStart => exact ⟨0, by omega, rfl, rfl, World.ownsRow_nil _ _ _ _, Below.refl _ _⟩
  case round =>
    obtain ⟨k, hk, rfl, rfl, hown, hbel⟩ := hrel
    have hold := below_old hbel
    by_cases hlt : k < sets.length
    · obtain ⟨bs, os, rfl, _, hbs, hxs⟩ := HSE.out (by omega)
      obtain ⟨l, hl⟩ := getSome hlt
      obtain ⟨vl, el, Al, cl, rfl, hcl, hLl⟩ := hxs k l hl
      rw [Nat.mul_one] at el
      have HX := Lib.hid hl
      have hll := HSLE.out l (List.mem_of_getElem? hl)
      have hlin := HSIN.out l (List.mem_of_getElem? hl)
      have HLIN := Lib.hid hlin
      have HLl := Lib.hid hLl
      clear hl hxs hlin hLl
      have HO := Lib.hid hown; clear hown
      have hlen := setsInTo_length inn sets k
      generalize hal : allInTo inn sets k = al at *
      have HAL := Lib.hid hal; clear hal
      go_wp2
      go_loop [11, 12] (fun m i => ∃ j : Nat, j ≤ l.length ∧ i = .int .i64 j ∧ m = .int .i64 (manyIn inn (l.take j))) (fun _ i => l.length - (intOf i).toNat)
      case atStart => exact ⟨0, by omega, rfl, by simp [manyIn]⟩
      case round =>
        obtain ⟨j, hj, rfl, rfl⟩ := hrel
        have hmj := manyIn_le inn (l.take j)
        rw [List.length_take] at hmj
        have hmj' : manyIn inn (l.take j) ≤ 1000 := by omega
        clear hmj
        by_cases hjt : j < l.length
        · obtain ⟨bl, ol, rfl, _, hbl, hxl⟩ := HLl.out (by omega)
          obtain ⟨x, hx⟩ := getSome hjt
          have ex := hxl j x hx
          unfold intE at ex
          rw [Nat.mul_one] at ex
          obtain ⟨hx0, hx1'⟩ := HLIN.out x (List.mem_of_getElem? hx)
          have hul := HUL.out
          obtain ⟨bu, ou, rfl, _, hbu, hxu⟩ := HUN.out (by omega)
          obtain ⟨y, hy⟩ := getSome (l := inn) (k := x.toNat) (by omega)
          have ey := hxu _ y hy
          unfold boolE at ey
          rw [Nat.mul_one] at ey
          have hxn : x < (inn.length : Int) := by omega
          clear hul hxl hxu
          have HST := Lib.hid (manyIn_snoc hx hy)
          clear hx hy
          cases y
          · go_wp2
            go_round
            case rel => exact ⟨j + 1, by omega, by go_num, by rw [HST.out]; simp⟩
            case measure => simp [intOf]; omega
          · go_wp2
            go_round
            case rel => exact ⟨j + 1, by omega, by go_num, by rw [HST.out]; simp⟩
            case measure => simp [intOf]; omega
        · have hje : j = l.length := by omega
          have hmm : manyIn inn (l.take j) = manyIn inn l := by rw [List.take_of_length_le (by omega)]
          rw [hmm] at hmj' ⊢
          clear hmm
          have HSI := Lib.hid (setsInTo_snoc (inn := inn) HX.out)
          have HAI := Lib.hid (allInTo_snoc (inn := inn) HX.out)
          generalize manyIn inn l = m at *
          by_cases hm0 : 0 < m
          · cases al
            · go_wp2_with (at_builtin; refine wpl_app_int rfl _ _ rfl w2.heap.size _ (setsInTo inn sets k) rfl (HO.out.alloc _) wr.heap.size k rfl (heap_alloc_new _ _) (by omega) (by have := hbel.size; simp; omega) ?_; intro gg cap w3 hown3 hgrow hat hlt3; have hbel3 : Below w2.heap.size w2 w3 := (hbel.alloc hbel.size _).grown hgrow (by have := hbel.size; simp; omega) (fun k hk => (HO.out.lt k hk).1); have HO3 := Lib.hid hown3; clear hown3 hgrow hat hlt3; have hold3 := below_old hbel3)
              go_roundw
              case rel =>
                refine ⟨k + 1, by omega, by go_num, ?_, ?_, hbel3⟩
                · rw [HAI.out, HAL.out]; rfl
                · rw [HSI.out, if_pos hm0]; simpa using HO3.out
              case measure => simp [intOf]; omega
            · by_cases hml : m = l.length
              · have hd : ((m : Int) == (l.length : Int)) = true := by simp; omega
                go_wp2_with (at_builtin; refine wpl_app_int rfl _ _ rfl w2.heap.size _ (setsInTo inn sets k) rfl (HO.out.alloc _) wr.heap.size k rfl (heap_alloc_new _ _) (by omega) (by have := hbel.size; simp; omega) ?_; intro gg cap w3 hown3 hgrow hat hlt3; have hbel3 : Below w2.heap.size w2 w3 := (hbel.alloc hbel.size _).grown hgrow (by have := hbel.size; simp; omega) (fun k hk => (HO.out.lt k hk).1); have HO3 := Lib.hid hown3; clear hown3 hgrow hat hlt3; have hold3 := below_old hbel3)
                go_roundw
                case rel =>
                  refine ⟨k + 1, by omega, by go_num, ?_, ?_, hbel3⟩
                  · rw [HAI.out, HAL.out]; simp [hml]
                  · rw [HSI.out, if_pos hm0]; simpa using HO3.out
                case measure => simp [intOf]; omega
              · have hd : ((m : Int) == (l.length : Int)) = false := by simp; omega
                go_wp2_with (at_builtin; refine wpl_app_int rfl _ _ rfl w2.heap.size _ (setsInTo inn sets k) rfl (HO.out.alloc _) wr.heap.size k rfl (heap_alloc_new _ _) (by omega) (by have := hbel.size; simp; omega) ?_; intro gg cap w3 hown3 hgrow hat hlt3; have hbel3 : Below w2.heap.size w2 w3 := (hbel.alloc hbel.size _).grown hgrow (by have := hbel.size; simp; omega) (fun k hk => (HO.out.lt k hk).1); have HO3 := Lib.hid hown3; clear hown3 hgrow hat hlt3; have hold3 := below_old hbel3)
                go_roundw
                case rel =>
                  refine ⟨k + 1, by omega, by go_num, ?_, ?_, hbel3⟩
                  · rw [HAI.out, HAL.out]; simp [hml, hm0]
                  · rw [HSI.out, if_pos hm0]; simpa using HO3.out
                case measure => simp [intOf]; omega
          · go_wp2
            go_roundw
            case rel =>
              refine ⟨k + 1, by omega, by go_num, ?_, ?_, hbel⟩
              · rw [HAI.out, HAL.out]; simp [hm0]
              · rw [HSI.out, if_neg hm0]; simpa using HO.out
            case measure => simp [intOf]; omega
    · go_wp2
      go_ret2
      have hke : k = sets.length := by omega
      subst hke
      have h1 := HSL.out
      refine ⟨_, rfl, HBB.out.trans (hbel.mono (by omega)), u8, ?_, ?_⟩
      · rw [HR2.out, ← h1]; rfl
      · rw [HR1.out, ← h1]
        exact Own.ints (by simpa [Own] using hown) (fun b hb => by have := (hown.lt b hb).1; omega)
end Go.Proofs.Ytafjdoedallnbaa
