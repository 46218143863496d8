/- subgame.open, view.inside, view.some, view.closed -/
import Derived.Test.YtafjdoedallnbaaViewP
namespace Go.Proofs.Ytafjdoedallnbaa
open Go.RowKit

def openErr (g : Gm) (roots : List Int) : Int := if formL g ≠ 0 then formL g else checkP g.nodes.length (lookL g.nodes).2 roots
def OpenOut (F : Foot) (g : Gm) (roots : List Int) (B : Nat) (v : Value) (w' : World) : Prop := ∃ vv, v = .tuple #[vv, .int .i64 (openErr g roots)] ∧
  (∃ p A1 n1 c1 A2 n2 c2 A3 n3 c3 A4 n4 c4 A5 n5 c5, vv = .agg #[.int .i64 p, .slice A1 n1 c1, .slice A2 n2 c2, .slice A3 n3 c3, .slice A4 n4 c4, .slice A5 n5 c5]) ∧ (openErr g roots = 0 → ViewV w' (fun b => F b ∨ B ≤ b) vv g (lookL g.nodes).1 (lookL g.nodes).2 (setsL g))

set_option maxRecDepth 100000 in
set_option maxHeartbeats 3200000 in
theorem open_any (w : World) (F : Foot) (u vr : Value) (g : Gm) (roots : List Int) (hg : GameAt w F u g) (hr : IntsAt w F vr roots) (hsm : Small g) (hl : roots.length ≤ 1000) :
    Calls Try.prog 24 #[u, vr] w (Ret w (OpenOut F g roots w.heap.size)) := by
  have HG := Lib.hid (hg.keep (G := fun b => F b ∧ b < w.heap.size) (fun b hb hl => ⟨hb, hl⟩) (Same.refl _ _))
  obtain ⟨vn, vi, rfl, ⟨A, c, rfl, hc, hN⟩, ⟨Ai, ci, rfl, hci, hI⟩⟩ := hg
  clear hN hI
  have HR := Lib.hid (hr.keep (G := fun b => F b ∧ b < w.heap.size) (fun b hb hl => ⟨hb, hl⟩) (Same.refl _ _)); clear hr
  have hn := hsm.nodes
  have HS := Lib.hid hsm; clear hsm
  go_enter Try.func24, Try.ntmps24
  go_wp2_with fail
  refine (look_any _ (fun b => F b ∧ b < w.heap.size) _ g ((HG.out.on (Same.alloc _ _ _)).on (Same.alloc _ _ _)) HS.out).mono ?_
  rintro e w1 ⟨_, rfl, hb1, vv, rfl, hv1, hv2⟩
  have hrs : Row w1 (w.heap.size + 1) 51 [.int .i64 0, .slice none 0 0, .slice none 0 0, .slice none 0 0, .slice none 0 0, .slice none 0 0] := by
    have := (Row.new (w.alloc (.cells #[.int .i64 g.players, .slice A g.nodes.length c, .slice Ai g.infos.length ci] 25)) 51 #[.int .i64 0, .slice none 0 0, .slice none 0 0, .slice none 0 0, .slice none 0 0, .slice none 0 0]).below hb1 (by simp)
    simpa using this
  have hB : Below w.heap.size w w1 := (below_two w _ _ 0).trans (hb1.mono (by simp; omega))
  simp only [World.size_alloc] at hv2
  clear hb1
  have HV1 := Lib.hid hv1; have HV2 := Lib.hid hv2; clear hv1 hv2
  have HOE := Lib.hid (show openErr g roots = if formL g ≠ 0 then formL g else checkP g.nodes.length (lookL g.nodes).2 roots from rfl)
  generalize formL g = er at *
  dsimp only
  by_cases he : er = 0
  · have HVV := Lib.hid (HV2.out he)
    have HO := Lib.hid (show openErr g roots = checkP g.nodes.length (lookL g.nodes).2 roots by rw [HOE.out, if_neg (by simpa using he)])
    subst he
    clear HV1 HV2 HOE
    have HVX := Lib.hid HVV.out
    obtain ⟨vn', vi', vp, vl, vs, rfl, ⟨An, cn, rfl, hcn, hN'⟩, ⟨Ax, cx, rfl, hcx, hI'⟩, ⟨Ap, cp, rfl, hcp, hP'⟩, ⟨Al, cl, rfl, hcl, hL'⟩, ⟨As, cs, rfl, hcs, hS'⟩⟩ := HVV.out
    clear hN' hI' hP' hL' hS' HVV
    go_wp2_with fail
    obtain ⟨W, hW, hbv, hWb, hWz⟩ := row_of_alloc w1 51 #[.int .i64 g.players, .slice An g.nodes.length cn, .slice Ax g.infos.length cx, .slice Ap (lookL g.nodes).1.length cp, .slice Al (lookL g.nodes).2.length cl, .slice As (setsL g).length cs]
    rw [← hW]
    clear hW hWz
    have hrs1 := hrs.below hWb hrs.lt
    have hB1 : Below w.heap.size w W := hB.trans (hWb.mono hB.size)
    have hlt1 := hrs.lt
    have x0 := hbv.cell (i := 0) rfl
    have x1 := hbv.cell (i := 1) rfl
    have x2 := hbv.cell (i := 2) rfl
    have x3 := hbv.cell (i := 3) rfl
    have x4 := hbv.cell (i := 4) rfl
    have x5 := hbv.cell (i := 5) rfl
    refine wp_region_held_drew (S := fun w' => w'.cell? ⟨w1.heap.size, 0, none⟩ = some (.int .i64 g.players) ∧ w'.cell? ⟨w1.heap.size, 1, none⟩ = some (.slice An g.nodes.length cn) ∧ w'.cell? ⟨w1.heap.size, 2, none⟩ = some (.slice Ax g.infos.length cx) ∧ w'.cell? ⟨w1.heap.size, 3, none⟩ = some (.slice Ap (lookL g.nodes).1.length cp) ∧ w'.cell? ⟨w1.heap.size, 4, none⟩ = some (.slice Al (lookL g.nodes).2.length cl) ∧ w'.cell? ⟨w1.heap.size, 5, none⟩ = some (.slice As (setsL g).length cs)) (by kernel_rfl) ⟨x0, x1, x2, x3, x4, x5⟩ (fun hHeld => ?_)
    refine wpAnyH_take (i := 0) (v := ?_) rfl (by kernel_rfl) (by kernel_rfl) (by kernel_rfl) (fun _ _ _ h => h) (Or.inl ⟨by rfl, ?_⟩) hHeld ?_
    rotate_left
    · intro wx hSx; (try dsimp only at hSx); go_split_ands; go_simp; try (with_reducible rfl)
    try simp only [Act.put, List.getElem_toArray, List.getElem_cons_zero, List.getElem_cons_succ, List.setIfInBounds_toArray, List.set_cons_zero, List.set_cons_succ]
    refine wpAnyH_take (i := 1) (v := ?_) rfl (by kernel_rfl) (by kernel_rfl) (by kernel_rfl) (fun _ _ _ h => h) (Or.inl ⟨by rfl, ?_⟩) hHeld ?_
    rotate_left
    · intro wx hSx; (try dsimp only at hSx); go_split_ands; go_simp; try (with_reducible rfl)
    try simp only [Act.put, List.getElem_toArray, List.getElem_cons_zero, List.getElem_cons_succ, List.setIfInBounds_toArray, List.set_cons_zero, List.set_cons_succ]
    refine wpAnyH_take (i := 2) (v := ?_) rfl (by kernel_rfl) (by kernel_rfl) (by kernel_rfl) (fun _ _ _ h => h) (Or.inl ⟨by rfl, ?_⟩) hHeld ?_
    rotate_left
    · intro wx hSx; (try dsimp only at hSx); go_split_ands; go_simp; try (with_reducible rfl)
    try simp only [Act.put, List.getElem_toArray, List.getElem_cons_zero, List.getElem_cons_succ, List.setIfInBounds_toArray, List.set_cons_zero, List.set_cons_succ]
    refine wpAnyH_ready (rs := [3]) (by kernel_rfl) (by simp) ?_
    refine AllReadyH.cons (o := _) rfl (fun K hK => ?_) AllReadyH.nil
    go_simp
    refine (viewCheck_any _ (fun b => F b ∧ b < w.heap.size ∨ w.heap.size + 1 + 1 ≤ b) _ _ g (lookL g.nodes).1 (lookL g.nodes).2 (setsL g) roots ((HVX.out.on (Below.same' hWb _)).on (Same.drewN _ _ 1)) ((HR.out.on (Below.same' hB1 _)).keep (fun b hb _ => .inl hb) (Same.drewN _ _ 1)) hl (by omega) (lookTo_len _ _).2).mono ?_
    rintro e w2 ⟨_, rfl, hb2, rfl⟩
    have hb2' : Below W.heap.size W w2 := (below_dN (Below.refl W.heap.size W) 1).trans hb2
    clear hb2
    have hbv2 := hbv.below hb2' hbv.lt
    have hrs2 := hrs1.below hb2' hrs1.lt
    have hB2 : Below w.heap.size w w2 := hB1.trans (hb2'.mono hB1.size)
    dsimp only
    refine hK.out _ _ ⟨hbv2.cell rfl, hbv2.cell rfl, hbv2.cell rfl, hbv2.cell rfl, hbv2.cell rfl, hbv2.cell rfl⟩ (fun hHeld => ?_)
    clear hK K
    try simp only [Act.put, List.getElem_toArray, List.getElem_cons_zero, List.getElem_cons_succ, List.setIfInBounds_toArray, List.set_cons_zero, List.set_cons_succ]
    have r0 := hrs2.cell (i := 0) rfl
    have f0 := hrs2.frozen 0
    have r1 := hrs2.cell (i := 1) rfl
    have f1 := hrs2.frozen 1
    have r2 := hrs2.cell (i := 2) rfl
    have f2 := hrs2.frozen 2
    have r3 := hrs2.cell (i := 3) rfl
    have f3 := hrs2.frozen 3
    have r4 := hrs2.cell (i := 4) rfl
    have f4 := hrs2.frozen 4
    have r5 := hrs2.cell (i := 5) rfl
    have f5 := hrs2.frozen 5
    refine wpAnyH_ready (rs := [4]) (by kernel_rfl) (by simp) ?_
    refine AllReadyH.cons (o := _) rfl (fun K hK => ?_) AllReadyH.nil
    go_simp
    obtain ⟨W3, hW3, hrw, hww⟩ := set6 hrs2 (.int .i64 g.players) (.slice An g.nodes.length cn) (.slice Ax g.infos.length cx) (.slice Ap (lookL g.nodes).1.length cp) (.slice Al (lookL g.nodes).2.length cl) (.slice As (setsL g).length cs)
    rw [← hW3]
    clear hW3
    have hbv3 := hbv2.wrote hww (by omega)
    refine hK.out _ _ ⟨hbv3.cell rfl, hbv3.cell rfl, hbv3.cell rfl, hbv3.cell rfl, hbv3.cell rfl, hbv3.cell rfl⟩ (fun hHeld => ?_)
    clear hK K
    try simp only [Act.put, List.getElem_toArray, List.getElem_cons_zero, List.getElem_cons_succ, List.setIfInBounds_toArray, List.set_cons_zero, List.set_cons_succ]
    refine wpAnyH_take (i := 5) (v := ?_) rfl (by kernel_rfl) (by kernel_rfl) (by kernel_rfl) (fun _ _ _ h => h) (Or.inl ⟨by rfl, ?_⟩) hHeld ?_
    rotate_left
    · intro wx hSx; (try dsimp only at hSx); go_split_ands; go_simp; try (with_reducible rfl)
    try simp only [Act.put, List.getElem_toArray, List.getElem_cons_zero, List.getElem_cons_succ, List.setIfInBounds_toArray, List.set_cons_zero, List.set_cons_succ]
    clear r0 f0
    have r0 := hrw.cell (i := 0) rfl
    clear r1 f1
    have r1 := hrw.cell (i := 1) rfl
    clear r2 f2
    have r2 := hrw.cell (i := 2) rfl
    clear r3 f3
    have r3 := hrw.cell (i := 3) rfl
    clear r4 f4
    have r4 := hrw.cell (i := 4) rfl
    clear r5 f5
    have r5 := hrw.cell (i := 5) rfl
    refine wpAnyH_done (by kernel_rfl) ?_ _
    clear hHeld
    go_wp2
    refine bodyPost_ret (v := .tuple #[.agg #[.int .i64 g.players, .slice An g.nodes.length cn, .slice Ax g.infos.length cx, .slice Ap (lookL g.nodes).1.length cp, .slice Al (lookL g.nodes).2.length cl, .slice As (setsL g).length cs], .int .i64 (checkP g.nodes.length (lookL g.nodes).2 roots)]) ?_ rfl ?_
    · simp [results, Try.results24, go_sem, r0, r1, r2, r3, r4, r5]
    · refine ⟨_, rfl, Wrote.below hB2 hww (fun k hk => by omega) hB2.size, _, by rw [HO.out], ⟨_, _, _, _, _, _, _, _, _, _, _, _, _, _, _, _, rfl⟩, fun _ => ?_⟩
      exact ViewV.keep (F := fun b => F b ∧ b < w.heap.size ∨ w.heap.size + 1 + 1 ≤ b) ((HVX.out.on (Below.same' hWb _)).on (Below.same' hb2' _)) (fun b hb _ => hb.imp And.left (by omega)) (hww.same (fun b hb => by omega))
  · have hd : (er != 0) = true := by simp [he]
    have HO := Lib.hid (show openErr g roots = er by rw [HOE.out, if_pos he])
    obtain rfl := HV1.out he
    have HNZ := Lib.hid he; clear he
    unfold noView
    have r0 := hrs.cell (i := 0) rfl
    have f0 := hrs.frozen 0
    have r1 := hrs.cell (i := 1) rfl
    have f1 := hrs.frozen 1
    have r2 := hrs.cell (i := 2) rfl
    have f2 := hrs.frozen 2
    have r3 := hrs.cell (i := 3) rfl
    have f3 := hrs.frozen 3
    have r4 := hrs.cell (i := 4) rfl
    have f4 := hrs.frozen 4
    have r5 := hrs.cell (i := 5) rfl
    have f5 := hrs.frozen 5
    have hlt1 := hrs.lt
    go_wp2
    obtain ⟨W, hW, hrw, hww⟩ := set6 hrs (.int .i64 0) (.slice none 0 0) (.slice none 0 0) (.slice none 0 0) (.slice none 0 0) (.slice none 0 0)
    rw [← hW]
    clear hW
    clear r0 f0
    have r0 := (hrw.alloc (.cells #[.int .i64 0, .slice none 0 0, .slice none 0 0, .slice none 0 0, .slice none 0 0, .slice none 0 0] 51)).cell (i := 0) rfl
    clear r1 f1
    have r1 := (hrw.alloc (.cells #[.int .i64 0, .slice none 0 0, .slice none 0 0, .slice none 0 0, .slice none 0 0, .slice none 0 0] 51)).cell (i := 1) rfl
    clear r2 f2
    have r2 := (hrw.alloc (.cells #[.int .i64 0, .slice none 0 0, .slice none 0 0, .slice none 0 0, .slice none 0 0, .slice none 0 0] 51)).cell (i := 2) rfl
    clear r3 f3
    have r3 := (hrw.alloc (.cells #[.int .i64 0, .slice none 0 0, .slice none 0 0, .slice none 0 0, .slice none 0 0, .slice none 0 0] 51)).cell (i := 3) rfl
    clear r4 f4
    have r4 := (hrw.alloc (.cells #[.int .i64 0, .slice none 0 0, .slice none 0 0, .slice none 0 0, .slice none 0 0, .slice none 0 0] 51)).cell (i := 4) rfl
    clear r5 f5
    have r5 := (hrw.alloc (.cells #[.int .i64 0, .slice none 0 0, .slice none 0 0, .slice none 0 0, .slice none 0 0, .slice none 0 0] 51)).cell (i := 5) rfl
    have hBW : Below w.heap.size w W := Wrote.below hB hww (fun k hk => by omega) hB.size
    refine bodyPost_ret (v := .tuple #[noView, .int .i64 er]) ?_ rfl ?_
    · simp [results, Try.results24, go_sem, r0, r1, r2, r3, r4, r5, noView]
    · exact ⟨_, rfl, hBW.alloc hBW.size _, noView, by rw [HO.out], ⟨_, _, _, _, _, _, _, _, _, _, _, _, _, _, _, _, rfl⟩, fun h => absurd (HO.out ▸ h) HNZ.out⟩

/-- j marks from a on -/
def fillL (l : List Bool) (a : Nat) : Nat → List Bool
  | 0 => l
  | j + 1 => (fillL l a j).set (a + j) true
theorem fillL_length (l : List Bool) (a j : Nat) : (fillL l a j).length = l.length := by
  induction j with
  | zero => rfl
  | succ j ih => simp [fillL, ih]
def insStep (last : List Int) (l : List Bool) (r : Int) : List Bool := fillL l r.toNat (last.getD r.toNat 0 + 1 - r).toNat
def insL (N : Nat) (last roots : List Int) : List Bool := roots.foldl (insStep last) (List.replicate N false)
theorem insL_snoc {N : Nat} {last roots : List Int} {k : Nat} {r : Int} (h : roots[k]? = some r) : insL N last (roots.take (k + 1)) = insStep last (insL N last (roots.take k)) r := by
  rw [take_snoc h]; simp [insL, List.foldl_append]
theorem insL_length (N : Nat) (last roots : List Int) : (insL N last roots).length = N := by
  unfold insL
  suffices ∀ l : List Bool, (roots.foldl (insStep last) l).length = l.length by simpa using this (List.replicate N false)
  induction roots with
  | nil => intro l; rfl
  | cons r l ih => intro m; simp only [List.foldl_cons]; rw [ih]; simp [insStep, fillL_length]
def boolsV (l : List Bool) : List Value := l.map Value.bool

set_option maxRecDepth 100000 in
set_option maxHeartbeats 3200000 in
theorem inside_any (w : World) (F : Foot) (u vr : Value) (g : Gm) (par last : List Int) (sets : List (List Int)) (roots : List Int) (hv : ViewV w F u g par last sets) (hr : IntsAt w F vr roots) (hl : roots.length ≤ 1000) (hN : g.nodes.length ≤ 1000) (hll : last.length = g.nodes.length)
    (hin : ∀ r ∈ roots, 0 ≤ r ∧ r < (g.nodes.length : Int)) (hla : ∀ x ∈ last, x < (g.nodes.length : Int)) :
    Calls Try.prog 28 #[u, vr] w (Ret w fun v w' => BoolsAt w' (fun b => w.heap.size ≤ b) v (insL g.nodes.length last roots)) := by
  obtain ⟨vn, vi, vp, vl, vs, rfl, ⟨A, c, rfl, hc, hN'⟩, ⟨Ai, ci, rfl, hci, hI⟩, ⟨Ap, cp, rfl, hcp, hP⟩, ⟨Al, cl, rfl, hcl, hL⟩, ⟨As, cs, rfl, hcs, hS⟩⟩ := hv
  clear hN' hI hP hS
  have HL := Lib.hid hL; clear hL
  have HLL := Lib.hid hll; clear hll
  have HIN := Lib.hid hin; clear hin
  have HLA := Lib.hid hla; clear hla
  obtain ⟨Ar, cr, rfl, hcr, hRr⟩ := hr
  have HR := Lib.hid hRr; clear hRr
  go_enter Try.func28, Try.ntmps28
  go_wp2_with (at_make; refine wpl_make _ rfl _ _ 58 rfl 4 (.bool false) 1 Try.underlying58 Try.infoBool rfl g.nodes.length rfl rfl (by omega) (by omega) ?_; intro w1 hb1 hz1 hrow1)
  simp only [World.size_alloc] at hb1 hz1 hrow1
  have hbx := (Row.new w 51 #[.int .i64 g.players, .slice A g.nodes.length c, .slice Ai g.infos.length ci, .slice Ap par.length cp, .slice Al last.length cl, .slice As sets.length cs]).below hb1 (by simp)
  have hB : Below w.heap.size w w1 := ((Below.refl w.heap.size w).alloc (Nat.le_refl _) _).trans (hb1.mono (by omega))
  clear hb1
  have HZ := Lib.hid hz1; clear hz1
  go_loopw [7, 8, 16] (fun _ _ i wr => ∃ k : Nat, k ≤ roots.length ∧ i = .int .i64 k ∧ Row wr w.heap.size 51 [.int .i64 g.players, .slice A g.nodes.length c, .slice Ai g.infos.length ci, .slice Ap par.length cp, .slice Al last.length cl, .slice As sets.length cs] ∧ Row wr (w.heap.size + 1) 4 (boolsV (insL g.nodes.length last (roots.take k))) ∧ Below w.heap.size w wr) (fun _ _ i _ => roots.length - (intOf i).toNat)
  case atStart => exact ⟨0, by omega, rfl, hbx, by simpa [boolsV, insL] using hrow1, hB⟩
  case round =>
    clear hbx hB hrow1 HZ
    obtain ⟨k, hk, rfl, hbx, hrow, hbel⟩ := hrel
    by_cases hlt : k < roots.length
    · obtain ⟨b, o, rfl, _, hb, hx⟩ := HR.out (by omega)
      obtain ⟨r, hr⟩ := getSome hlt
      have er := hx k r hr
      unfold intE at er
      rw [Nat.mul_one, ← below_old hbel _ _ hb] at er
      obtain ⟨hr0, hr1⟩ := HIN.out r (List.mem_of_getElem? hr)
      obtain ⟨q, rfl⟩ := Int.eq_ofNat_of_zero_le hr0
      have hll := HLL.out
      obtain ⟨bl, ol, rfl, _, hbl, hxl⟩ := HL.out (by omega)
      obtain ⟨y, hy⟩ := getSome (l := last) (k := q) (by omega)
      have el := hxl q y hy
      unfold intE at el
      rw [Nat.mul_one] at el
      have hyN := HLA.out y (List.mem_of_getElem? hy)
      have hqL : q < last.length := by omega
      have HSN := Lib.hid (show insL g.nodes.length last (roots.take (k + 1)) = fillL (insL g.nodes.length last (roots.take k)) q (y + 1 - q).toNat by
        rw [insL_snoc hr]; unfold insStep; simp [List.getD_eq_getElem?_getD, hy])
      have hil := insL_length g.nodes.length last (roots.take k)
      clear hr hx hy hxl hll
      generalize insL g.nodes.length last (roots.take k) = l0 at *
      have HIL := Lib.hid hil; clear hil
      go_wp2
      go_loopw [8] (fun i wr => ∃ j : Nat, (q : Int) + j ≤ max (y + 1) q ∧ i = .int .i64 ((q + j : Nat) : Int) ∧ Row wr w.heap.size 51 [.int .i64 g.players, .slice A g.nodes.length c, .slice Ai g.infos.length ci, .slice Ap par.length cp, .slice (some ⟨bl, ol, none⟩) last.length cl, .slice As sets.length cs] ∧ Row wr (w.heap.size + 1) 4 (boolsV (fillL l0 q j)) ∧ Below w.heap.size w wr) (fun i _ => (y + 1 - intOf i).toNat)
      case atStart => exact ⟨0, by omega, rfl, hbx, hrow, hbel⟩
      case round =>
        clear hbx hrow hbel er
        obtain ⟨j, hj, rfl, hbx, hrow, hbel⟩ := hrel
        have x4 := hbx.cell (i := 4) rfl
        have el' := el
        rw [← below_old hbel _ _ hbl] at el'
        have hlt2 := hrow.lt
        by_cases hjy : ((q + j : Nat) : Int) ≤ y
        · have hfl : (fillL l0 q j).length = g.nodes.length := by rw [fillL_length, HIL.out]
          obtain ⟨z, hz⟩ := getSome (l := fillL l0 q j) (k := q + j) (by omega)
          have ec := hrow.cell (i := q + j) (v := .bool z) (by simp [boolsV, hz])
          have fc := hrow.frozen (q + j)
          have hqj : q + j < g.nodes.length := by omega
          clear hz hfl
          have hdy : decide (((q + j : Nat) : Int) ≤ y) = true := decide_eq_true hjy
          go_wp2
          go_roundw
          case rel =>
            refine ⟨j + 1, by omega, by go_num, hbx.other (by simp) _, ?_, hbel.setCell (by simp) _⟩
            have := hrow.set (q + j) (.bool true)
            simpa [boolsV, fillL, List.map_set] using this
          case measure => simp [intOf] <;> omega
        · have hdy : decide (((q + j : Nat) : Int) ≤ y) = false := decide_eq_false hjy
          have HJ := Lib.hid (show (y + 1 - q).toNat = j by omega)
          go_wp2
          go_roundw
          case rel => exact ⟨k + 1, by omega, by go_num, hbx, by rw [HSN.out, HJ.out]; exact hrow, hbel⟩
          case measure => simp [intOf] <;> omega
    · go_wp2
      go_ret
      rw [List.take_of_length_le (by omega)] at hrow
      have h1 := Row.bools (F := fun b => w.heap.size ≤ b) hrow (by omega) (c := g.nodes.length) (by rw [insL_length]; omega)
      rw [insL_length] at h1
      exact ⟨_, rfl, hbel, h1⟩

/-- a closure of one int that answers in every later world -/
def AnswersFrom (w : World) (fid : FuncId) (caps : Array Value) (X : Int → Prop) (p : Int → Bool) : Prop :=
  (∀ (args : Array Value) (w' : World), (callFunc fid args).run Try.prog w' = .ok (.enter fid args) w') ∧
  ∀ (w' : World) (x : Int), Below w.heap.size w w' → X x → Calls Try.prog fid (#[.int .i64 x] ++ caps) w' fun e w'' => e = .returned (.bool (p x)) ∧ ∃ m, w'' = w'.drewN m
theorem AnswersFrom.at {w w' : World} {fid : FuncId} {caps : Array Value} {X : Int → Prop} {p : Int → Bool} (h : AnswersFrom w fid caps X p) (hb : Below w.heap.size w w') {l : List Int} (hl : ∀ x ∈ l, X x) : Answers w' fid caps l p :=
  ⟨h.1, fun n x hx => (h.2 (w'.drewN n) x (below_dN hb n) (hl x hx)).mono fun e w'' ⟨he, m, hm⟩ => ⟨he, n + m, by rw [hm, World.drewN_drewN]⟩⟩
theorem AnswersFrom.later {w w' : World} {fid : FuncId} {caps : Array Value} {X : Int → Prop} {p : Int → Bool} (h : AnswersFrom w fid caps X p) (hb : Below w.heap.size w w') : AnswersFrom w' fid caps X p :=
  ⟨h.1, fun w'' x hb' hx => h.2 w'' x (hb.trans (hb'.mono hb.size)) hx⟩

def someTo (p : Int → Bool) (sets : List (List Int)) (k : Nat) : List Int := ((sets.take k).zipIdx.filter fun q => q.1.any p).map fun q => (q.2 : Int)
theorem someTo_snoc {p : Int → Bool} {sets : List (List Int)} {k : Nat} {l : List Int} (h : sets[k]? = some l) : someTo p sets (k + 1) = someTo p sets k ++ (if l.any p then [(k : Int)] else []) := by
  unfold someTo
  rw [zipIdx_snoc h, List.filter_append, List.map_append]
  cases h : l.any p <;> simp [h]
theorem someTo_length (p : Int → Bool) (sets : List (List Int)) (k : Nat) : (someTo p sets k).length ≤ k := by
  unfold someTo
  rw [List.length_map]
  refine Nat.le_trans (List.length_filter_le _ _) ?_
  simp; omega
def someL (p : Int → Bool) (sets : List (List Int)) : List Int := someTo p sets sets.length

set_option maxRecDepth 100000 in
set_option maxHeartbeats 3200000 in
theorem some_any (w : World) (F : Foot) (u : Value) (g : Gm) (par last : List Int) (sets : List (List Int)) (fid : FuncId) (caps : Array Value) (X : Int → Prop) (p : Int → Bool) (hv : ViewV w F u g par last sets) (hl : sets.length ≤ 1000) (hll : ∀ l ∈ sets, l.length ≤ 1000) (hX : ∀ l ∈ sets, ∀ x ∈ l, X x)
    (ha : AnswersFrom w fid caps X p) :
    Calls Try.prog 29 #[u, .func (.func fid) #[] caps] w (Ret w fun v w' => IntsAt w' (fun b => w.heap.size ≤ b) v (someL p sets)) := by
  obtain ⟨vn, vi, vp, vl, vs, rfl, ⟨A, c, rfl, hc, hN'⟩, ⟨Ai, ci, rfl, hci, hI⟩, ⟨Ap, cp, rfl, hcp, hP⟩, ⟨Al, cl, rfl, hcl, hL⟩, ⟨As, cs, rfl, hcs, hS⟩⟩ := hv
  clear hN' hI hP hL
  have HS := Lib.hid hS; clear hS
  have HLL := Lib.hid hll; clear hll
  have HX := Lib.hid hX; clear hX
  have HA := Lib.hid ha; clear ha
  go_enter Try.func29, Try.ntmps29
  go_wp2
  obtain ⟨W, hW, hbx, hWb, hWz⟩ := row_of_alloc w 51 #[.int .i64 g.players, .slice A g.nodes.length c, .slice Ai g.infos.length ci, .slice Ap par.length cp, .slice Al last.length cl, .slice As sets.length cs]
  rw [← hW]
  clear hW hWz hbx
  go_loopw [5, 6, 7, 11] (fun vo _ _ i wr => ∃ k : Nat, k ≤ sets.length ∧ i = .int .i64 k ∧ wr.ownsRow W.heap.size 3 1 vo (someTo p sets k).length ((someTo p sets k).map (Value.int .i64)) ∧ Below W.heap.size W wr) (fun _ _ _ i _ => sets.length - (intOf i).toNat)
  case atStart => exact ⟨0, by omega, rfl, World.ownsRow_nil _ _ _ _, Below.refl _ _⟩
  case round =>
    obtain ⟨k, hk, rfl, hown, hbel⟩ := hrel
    have HO := Lib.hid hown; clear hown
    have hlen := someTo_length p sets k
    by_cases hlt : k < sets.length
    · obtain ⟨b, o, rfl, hbF, hb, hx⟩ := HS.out (by omega)
      obtain ⟨l, hl'⟩ := getSome hlt
      obtain ⟨vl', ev, hvl⟩ := hx k l hl'
      rw [Nat.mul_one, ← below_old hWb _ _ hb, ← below_old hbel _ _ (by have := hWb.size; omega)] at ev
      have HST := Lib.hid (someTo_snoc (p := p) hl')
      have hll := HLL.out l (List.mem_of_getElem? hl')
      have HVL := Lib.hid ((hvl.on (Below.same' hWb F)).on (Below.same' hbel F))
      have HAA := Lib.hid (HA.out.at (hWb.trans (hbel.mono hWb.size)) (HX.out l (List.mem_of_getElem? hl')))
      clear hl' hx hvl
      go_wp2_with fail
      refine (containsFunc_any _ F _ l fid caps p HVL.out (by omega) HAA.out).mono ?_
      rintro e w2 ⟨rfl, n, hw2⟩
      have HO2 := Lib.hid (show w2.ownsRow W.heap.size 3 1 u5 (someTo p sets k).length ((someTo p sets k).map (Value.int .i64)) by rw [hw2]; exact HO.out)
      have hbel2 : Below W.heap.size W w2 := by rw [hw2]; exact below_dN hbel n
      clear ev hw2 HO hbel
      generalize l.any p = r at *
      dsimp only
      cases r
      · go_wp2
        go_roundw
        case rel => exact ⟨k + 1, by omega, by go_num, by rw [HST.out]; simpa using HO2.out, hbel2⟩
        case measure => simp [intOf] <;> omega
      · go_wp2_with (at_builtin; refine wpl_app_int rfl _ _ rfl W.heap.size _ (someTo p sets k) rfl (HO2.out.alloc _) w2.heap.size k rfl (heap_alloc_new _ _) (by omega) (by have := hbel2.size; simp; omega) ?_; intro gg cap w3 hown3 hgrow hat hlt3; have hbel3 : Below W.heap.size W w3 := (hbel2.alloc hbel2.size _).grown hgrow (by have := hbel2.size; simp; omega) (fun k hk => (HO2.out.lt k hk).1); have HO3 := Lib.hid hown3; clear hown3 hgrow hat hlt3)
        go_roundw
        case rel => exact ⟨k + 1, by omega, by go_num, by rw [HST.out]; simpa using HO3.out, hbel3⟩
        case measure => simp [intOf] <;> omega
    · go_wp2
      go_ret
      have hke : k = sets.length := by omega
      subst hke
      have hz := hWb.size
      exact ⟨_, rfl, hWb.trans (hbel.mono hz), Own.ints (by unfold someL; simpa [Own] using HO.out) (fun b hb => by have := (HO.out.lt b hb).1; omega)⟩
end Go.Proofs.Ytafjdoedallnbaa
