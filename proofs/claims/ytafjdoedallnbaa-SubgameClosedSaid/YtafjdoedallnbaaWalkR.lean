/- parlourref11.walk: the first number behind a subtree, or -1 where it does not stand in preorder; the greatest depth. -/
import Derived.Test.YtafjdoedallnbaaAlikeNode
namespace Go.Proofs.Ytafjdoedallnbaa
open Go.RowKit

def kidsLoop (rec : Nat → Int → Int × Int) : List Int → Int → Int → Int × Int
  | [], next, deep => (next, deep)
  | c :: cs, next, deep => if c ≠ next then (-1, deep) else if (rec next.toNat deep).1 < 0 then (-1, (rec next.toNat deep).2) else kidsLoop rec cs (rec next.toNat deep).1 (rec next.toNat deep).2
def walkR (nodes : List Nd) : Nat → Nat → Int → Int → Int × Int
  | 0, _, _, deep => (-1, deep)
  | f + 1, a, depth, deep => match nodes[a]? with
    | none => (-1, deep)
    | some n => kidsLoop (fun a d => walkR nodes f a (depth + 1) d) n.next ((a : Int) + 1) (max deep depth)

theorem kidsLoop_bound {rec : Nat → Int → Int × Int} {N lo : Nat} (hrec : ∀ a d, lo ≤ a → (rec a d).1 = -1 ∨ ((a : Int) < (rec a d).1 ∧ (rec a d).1 ≤ N)) : ∀ (cs : List Int) (next deep : Int), (lo : Int) ≤ next → next ≤ N →
    (kidsLoop rec cs next deep).1 = -1 ∨ ((lo : Int) ≤ (kidsLoop rec cs next deep).1 ∧ (kidsLoop rec cs next deep).1 ≤ N)
  | [], next, deep, h1, h2 => .inr ⟨h1, h2⟩
  | c :: cs, next, deep, h1, h2 => by
    unfold kidsLoop
    split
    · exact .inl rfl
    · split
      · exact .inl rfl
      · rcases hrec next.toNat deep (by omega) with h | h
        · omega
        · exact kidsLoop_bound hrec cs _ _ (by omega) (by omega)
theorem walkR_bound (nodes : List Nd) : ∀ (f a : Nat) (depth deep : Int), (walkR nodes f a depth deep).1 = -1 ∨ ((a : Int) < (walkR nodes f a depth deep).1 ∧ (walkR nodes f a depth deep).1 ≤ nodes.length)
  | 0, _, _, _ => .inl rfl
  | f + 1, a, depth, deep => by
    unfold walkR
    split
    · exact .inl rfl
    · rename_i n hn
      have := lt_of_get hn
      rcases kidsLoop_bound (rec := fun a d => walkR nodes f a (depth + 1) d) (N := nodes.length) (lo := a + 1) (fun a' d _ => walkR_bound nodes f a' (depth + 1) d) n.next ((a : Int) + 1) (max deep depth) (by omega) (by omega) with h | h
      · exact .inl h
      · exact .inr (by omega)

theorem kidsLoop_deep {rec : Nat → Int → Int × Int} {D : Int} (hrec : ∀ a d, -1 ≤ d → d ≤ D → -1 ≤ (rec a d).2 ∧ (rec a d).2 ≤ D) : ∀ (cs : List Int) (next deep : Int), -1 ≤ deep → deep ≤ D → -1 ≤ (kidsLoop rec cs next deep).2 ∧ (kidsLoop rec cs next deep).2 ≤ D
  | [], next, deep, h1, h2 => ⟨h1, h2⟩
  | c :: cs, next, deep, h1, h2 => by
    unfold kidsLoop
    have := hrec next.toNat deep h1 h2
    split
    · exact ⟨h1, h2⟩
    · split
      · exact this
      · exact kidsLoop_deep hrec cs _ _ this.1 this.2
theorem walkR_deep (nodes : List Nd) (D : Int) : ∀ (f a : Nat) (depth deep : Int), depth + f ≤ D → -1 ≤ deep → deep ≤ D → -1 ≤ (walkR nodes f a depth deep).2 ∧ (walkR nodes f a depth deep).2 ≤ D
  | 0, _, _, _, _, h1, h2 => ⟨h1, h2⟩
  | f + 1, a, depth, deep, h, h1, h2 => by
    unfold walkR
    split
    · exact ⟨h1, h2⟩
    · exact kidsLoop_deep (fun a' d g1 g2 => walkR_deep nodes D f a' (depth + 1) d (by omega) g1 g2) _ _ _ (by omega) (by omega)

theorem Same.of_grown {w w' : World} {b : Nat} (h : w.grownBy w' (some b)) : Same (fun k => k ≠ b) w w' := ⟨h.size, fun k hk hl => h.block k hl (by simpa using hk)⟩
theorem grown_alloc {a w : World} {row : Option Nat} (h : a.grownBy w row) (o : Obj) : a.grownBy (w.alloc o) row :=
  ⟨h.os, h.tape, h.output, Nat.le_trans h.size (by simp), fun i hi hne => (Below.heap_alloc w o i (Nat.lt_of_lt_of_le hi h.size)).trans (h.block i hi hne)⟩
theorem grown_setCell {a w : World} {g : Nat} (h : a.grownBy w (some g)) {p : Addr} (hp : p.block = g ∨ a.heap.size ≤ p.block) (u : Value) : a.grownBy (w.setCell p u) (some g) :=
  ⟨h.os, h.tape, h.output, by simpa using h.size, fun i hi hne => (Below.heap_setCell w p u i (by
    rintro rfl
    rcases hp with hp | hp
    · exact hne (by rw [hp])
    · omega)).trans (h.block i hi hne)⟩
theorem grown_refl (w : World) (row : Option Nat) : w.grownBy w row := ⟨rfl, rfl, rfl, Nat.le_refl _, fun _ _ _ => rfl⟩
theorem grown_trans {a b c : World} {row : Option Nat} (h : a.grownBy b row) (k : b.grownBy c row) : a.grownBy c row :=
  ⟨k.os.trans h.os, k.tape.trans h.tape, k.output.trans h.output, Nat.le_trans h.size k.size, fun i hi hne => (k.block i (Nat.lt_of_lt_of_le hi h.size) hne).trans (h.block i hi hne)⟩
theorem grown_cell {w w' : World} {d : Nat} (h : w.grownBy w' (some d)) : ∀ b o, b < w.heap.size → b ≠ d → w'.cell? ⟨b, o, none⟩ = w.cell? ⟨b, o, none⟩ := fun b o hb hd => World.cell?_of_block (h.block b hb (by simpa using hd))

set_option maxRecDepth 100000 in
set_option maxHeartbeats 3200000 in
theorem walkR_any (g : Gm) (hsm : Small g) : ∀ (f a : Nat) (depth deep : Int) (w : World) (bd : Nat) (u : Value), GameAt w (fun b => b ≠ bd) u g → Row w bd 3 [.int .i64 deep] → g.nodes.length < a + f → 0 ≤ depth → depth + f ≤ 100000 → -1 ≤ deep → deep ≤ 100000 →
    Calls Try.prog 52 #[u, .int .i64 a, .int .i64 depth, .pointer (some ⟨bd, 0, none⟩)] w fun e w' => e = .returned (.int .i64 (walkR g.nodes f a depth deep).1) ∧ Row w' bd 3 [.int .i64 (walkR g.nodes f a depth deep).2] ∧ w.grownBy w' (some bd) := by
  intro f
  induction f with
  | zero =>
    intro a depth deep w bd u hg hrow hf hd0 hd1 hp0 hp1
    obtain ⟨vn, vi, rfl, ⟨A, c, rfl, hc, hN⟩, ⟨Ai, ci, rfl, hci, hI⟩⟩ := hg
    clear hN hI
    have hge : (g.nodes.length : Int) ≤ (a : Int) := by omega
    have hn := hsm.nodes
    have HROW := Lib.hid hrow; clear hrow
    go_enter Try.func52, Try.ntmps52
    go_wp2
    go_ret
    exact ⟨rfl, HROW.out.alloc _, grown_alloc (grown_refl _ _) _⟩
  | succ f ih =>
    intro a depth deep w bd u hg hrow hf hd0 hd1 hp0 hp1
    have HG := Lib.hid hg
    obtain ⟨vn, vi, rfl, ⟨A, c, rfl, hc, hN⟩, ⟨Ai, ci, rfl, hci, hI⟩⟩ := hg
    have HN := Lib.hid hN; clear hN hI
    have IH := Lib.hid ih; clear ih
    have HSM := Lib.hid hsm
    have hn := hsm.nodes
    clear hsm
    have hbd := hrow.lt
    have xd := hrow.cell (i := 0) rfl
    have fd := hrow.frozen 0
    have HROW := Lib.hid hrow; clear hrow
    by_cases hlt : a < g.nodes.length
    · obtain ⟨b, o, rfl, hbF, hb, hcell⟩ := HN.out (by omega)
      obtain ⟨n, hn'⟩ := getSome hlt
      obtain ⟨v3, e3, A3, c3, rfl, hc3, i3⟩ := (hcell a n hn').c3
      have HX := Lib.hid hn'
      have hl3 := HSM.out.next n (List.mem_of_getElem? hn')
      have H3 := Lib.hid i3; clear i3 hcell hn'
      have HW := Lib.hid (show walkR g.nodes (f + 1) a depth deep = kidsLoop (fun a d => walkR g.nodes f a (depth + 1) d) n.next ((a : Int) + 1) (max deep depth) by
        rw [walkR]; simp only [HX.out])
      have hrl : ∀ d, (max deep depth : Int) = d → ∀ (w' : World), Row w' bd 3 [.int .i64 deep] → Row (w'.setCell ⟨bd, 0, none⟩ (.int .i64 d)) bd 3 [.int .i64 d] := fun d _ w' h => by simpa using h.set 0 (.int .i64 d)
      have HRL := Lib.hid hrl; clear hrl
      by_cases hmx : deep < depth
      · have HMX := Lib.hid (show (max deep depth : Int) = depth by omega)
        have hm0 : -1 ≤ depth ∧ depth ≤ 100000 := by omega
        go_enter Try.func52, Try.ntmps52
        go_wp2
        go_loopw [9, 10] (fun nx i wr => ∃ (j : Nat) (next dp : Int), j ≤ n.next.length ∧ i = .int .i64 j ∧ nx = .int .i64 next ∧ (a : Int) < next ∧ next ≤ g.nodes.length ∧ -1 ≤ dp ∧ dp ≤ 100000 ∧ Row wr w.heap.size 25 [.int .i64 g.players, .slice (some ⟨b, o, none⟩) g.nodes.length c, .slice Ai g.infos.length ci] ∧ Row wr bd 3 [.int .i64 dp] ∧ w.grownBy wr (some bd) ∧ walkR g.nodes (f + 1) a depth deep = kidsLoop (fun a d => walkR g.nodes f a (depth + 1) d) (n.next.drop j) next dp) (fun _ i _ => n.next.length - (intOf i).toNat)
        case atStart =>
          refine ⟨0, (a : Int) + 1, depth, by omega, rfl, rfl, by omega, by omega, hm0.1, hm0.2, ?_, ?_, ?_, ?_⟩
          · have := Row.new (w.setCell ⟨bd, 0, none⟩ (.int .i64 depth)) 25 #[.int .i64 g.players, .slice (some ⟨b, o, none⟩) g.nodes.length c, .slice Ai g.infos.length ci]
            simpa using this
          · exact (HRL.out depth HMX.out w HROW.out).alloc _
          · exact grown_alloc (grown_setCell (grown_refl _ _) (.inl rfl) _) _
          · rw [HW.out, HMX.out]; rfl
        case round =>
          obtain ⟨j, next, dp, hj, rfl, rfl, hnx0, hnx1, hdp0, hdp1, hbx, hrw, hgr, hval⟩ := hrel
          have HV := Lib.hid hval; clear hval
          have x1 := hbx.cell (i := 1) rfl
          have x0 := hbx.cell (i := 0) rfl
          have x2 := hbx.cell (i := 2) rfl
          have hold := grown_cell hgr
          by_cases hjt : j < n.next.length
          · obtain ⟨ch, hch⟩ := getSome hjt
            obtain ⟨b3, o3, rfl, hb3, hb3l, hx3⟩ := H3.out (by omega)
            have ec := hx3 j ch hch
            unfold intE at ec; rw [Nat.mul_one] at ec
            have HD := Lib.hid (show n.next.drop j = ch :: n.next.drop (j + 1) by rw [List.drop_eq_getElem_cons hjt]; congr 1; simpa [hjt] using hch)
            clear hch hx3
            by_cases hne : ch = next
            · subst hne
              obtain ⟨q, rfl⟩ := Int.eq_ofNat_of_zero_le (show 0 ≤ ch by omega)
              have hbd2 := walkR_bound g.nodes f q (depth + 1) dp
              have HV2 := Lib.hid (show kidsLoop (fun a d => walkR g.nodes f a (depth + 1) d) (n.next.drop j) (q : Int) dp = if (walkR g.nodes f q (depth + 1) dp).1 < 0 then (-1, (walkR g.nodes f q (depth + 1) dp).2) else kidsLoop (fun a d => walkR g.nodes f a (depth + 1) d) (n.next.drop (j + 1)) (walkR g.nodes f q (depth + 1) dp).1 (walkR g.nodes f q (depth + 1) dp).2 by
                rw [HD.out]; simp [kidsLoop])
              have HBD := Lib.hid hbd2; clear hbd2
              go_wp2_with fail
              refine (IH.out q (depth + 1) dp wr bd _ (HG.out.on (Same.of_grown hgr)) hrw (by omega) (by omega) (by omega) hdp0 hdp1).mono ?_
              rintro e w' ⟨rfl, hrw', hgr'⟩
              have hdd := walkR_deep g.nodes 100000 f q (depth + 1) dp (by omega) hdp0 hdp1
              have hbx' : Row w' w.heap.size _ _ := hbx.of_block (hgr'.block _ hbx.lt (by simp; omega))
              have hgg := grown_trans hgr hgr'
              have hbb := HBD.out
              have HV3 := Lib.hid (HV.out.trans HV2.out)
              generalize walkR g.nodes f q (depth + 1) dp = rr at *
              obtain ⟨rn, rd⟩ := rr
              dsimp only at hrw' hdd hbb HV3 ⊢
              clear HV2 HBD hold x0 x1 x2 hbx hrw hgr hgr'
              by_cases hng : rn < 0
              · have HF := Lib.hid (show walkR g.nodes (f + 1) a depth deep = (-1, rd) by rw [HV3.out, if_pos hng])
                go_wp2
                go_ret
                exact ⟨by rw [HF.out]; rfl, by rw [HF.out]; exact hrw', hgg⟩
              · go_wp2
                go_roundw
                case rel => exact ⟨j + 1, rn, rd, by omega, by go_num, rfl, by omega, by omega, hdd.1, hdd.2, hbx', hrw', hgg, by rw [HV3.out, if_neg hng]⟩
                case measure => simp [intOf]; omega
            · have hd : (ch != next) = true := by simp [hne]
              have HF := Lib.hid (show walkR g.nodes (f + 1) a depth deep = (-1, dp) by rw [HV.out, HD.out]; simp [kidsLoop, hne])
              clear hne
              go_wp2
              go_ret
              exact ⟨by rw [HF.out]; rfl, by rw [HF.out]; exact hrw, hgr⟩
          · go_wp2
            go_ret
            have HF : walkR g.nodes (f + 1) a depth deep = (next, dp) := by rw [HV.out, List.drop_eq_nil_of_le (by omega)]; rfl
            exact ⟨by rw [HF]; rfl, by rw [HF]; exact hrw, hgr⟩
      · have HMX := Lib.hid (show (max deep depth : Int) = deep by omega)
        have hm0 : -1 ≤ deep ∧ deep ≤ 100000 := by omega
        go_enter Try.func52, Try.ntmps52
        go_wp2
        go_loopw [9, 10] (fun nx i wr => ∃ (j : Nat) (next dp : Int), j ≤ n.next.length ∧ i = .int .i64 j ∧ nx = .int .i64 next ∧ (a : Int) < next ∧ next ≤ g.nodes.length ∧ -1 ≤ dp ∧ dp ≤ 100000 ∧ Row wr w.heap.size 25 [.int .i64 g.players, .slice (some ⟨b, o, none⟩) g.nodes.length c, .slice Ai g.infos.length ci] ∧ Row wr bd 3 [.int .i64 dp] ∧ w.grownBy wr (some bd) ∧ walkR g.nodes (f + 1) a depth deep = kidsLoop (fun a d => walkR g.nodes f a (depth + 1) d) (n.next.drop j) next dp) (fun _ i _ => n.next.length - (intOf i).toNat)
        case atStart =>
          refine ⟨0, (a : Int) + 1, deep, by omega, rfl, rfl, by omega, by omega, hm0.1, hm0.2, ?_, ?_, ?_, ?_⟩
          · have := Row.new (w.setCell ⟨bd, 0, none⟩ (.int .i64 deep)) 25 #[.int .i64 g.players, .slice (some ⟨b, o, none⟩) g.nodes.length c, .slice Ai g.infos.length ci]
            simpa using this
          · exact (HRL.out deep HMX.out w HROW.out).alloc _
          · exact grown_alloc (grown_setCell (grown_refl _ _) (.inl rfl) _) _
          · rw [HW.out, HMX.out]; rfl
        case round =>
          obtain ⟨j, next, dp, hj, rfl, rfl, hnx0, hnx1, hdp0, hdp1, hbx, hrw, hgr, hval⟩ := hrel
          have HV := Lib.hid hval; clear hval
          have x1 := hbx.cell (i := 1) rfl
          have x0 := hbx.cell (i := 0) rfl
          have x2 := hbx.cell (i := 2) rfl
          have hold := grown_cell hgr
          by_cases hjt : j < n.next.length
          · obtain ⟨ch, hch⟩ := getSome hjt
            obtain ⟨b3, o3, rfl, hb3, hb3l, hx3⟩ := H3.out (by omega)
            have ec := hx3 j ch hch
            unfold intE at ec; rw [Nat.mul_one] at ec
            have HD := Lib.hid (show n.next.drop j = ch :: n.next.drop (j + 1) by rw [List.drop_eq_getElem_cons hjt]; congr 1; simpa [hjt] using hch)
            clear hch hx3
            by_cases hne : ch = next
            · subst hne
              obtain ⟨q, rfl⟩ := Int.eq_ofNat_of_zero_le (show 0 ≤ ch by omega)
              have hbd2 := walkR_bound g.nodes f q (depth + 1) dp
              have HV2 := Lib.hid (show kidsLoop (fun a d => walkR g.nodes f a (depth + 1) d) (n.next.drop j) (q : Int) dp = if (walkR g.nodes f q (depth + 1) dp).1 < 0 then (-1, (walkR g.nodes f q (depth + 1) dp).2) else kidsLoop (fun a d => walkR g.nodes f a (depth + 1) d) (n.next.drop (j + 1)) (walkR g.nodes f q (depth + 1) dp).1 (walkR g.nodes f q (depth + 1) dp).2 by
                rw [HD.out]; simp [kidsLoop])
              have HBD := Lib.hid hbd2; clear hbd2
              go_wp2_with fail
              refine (IH.out q (depth + 1) dp wr bd _ (HG.out.on (Same.of_grown hgr)) hrw (by omega) (by omega) (by omega) hdp0 hdp1).mono ?_
              rintro e w' ⟨rfl, hrw', hgr'⟩
              have hdd := walkR_deep g.nodes 100000 f q (depth + 1) dp (by omega) hdp0 hdp1
              have hbx' : Row w' w.heap.size _ _ := hbx.of_block (hgr'.block _ hbx.lt (by simp; omega))
              have hgg := grown_trans hgr hgr'
              have hbb := HBD.out
              have HV3 := Lib.hid (HV.out.trans HV2.out)
              generalize walkR g.nodes f q (depth + 1) dp = rr at *
              obtain ⟨rn, rd⟩ := rr
              dsimp only at hrw' hdd hbb HV3 ⊢
              clear HV2 HBD hold x0 x1 x2 hbx hrw hgr hgr'
              by_cases hng : rn < 0
              · have HF := Lib.hid (show walkR g.nodes (f + 1) a depth deep = (-1, rd) by rw [HV3.out, if_pos hng])
                go_wp2
                go_ret
                exact ⟨by rw [HF.out]; rfl, by rw [HF.out]; exact hrw', hgg⟩
              · go_wp2
                go_roundw
                case rel => exact ⟨j + 1, rn, rd, by omega, by go_num, rfl, by omega, by omega, hdd.1, hdd.2, hbx', hrw', hgg, by rw [HV3.out, if_neg hng]⟩
                case measure => simp [intOf]; omega
            · have hd : (ch != next) = true := by simp [hne]
              have HF := Lib.hid (show walkR g.nodes (f + 1) a depth deep = (-1, dp) by rw [HV.out, HD.out]; simp [kidsLoop, hne])
              clear hne
              go_wp2
              go_ret
              exact ⟨by rw [HF.out]; rfl, by rw [HF.out]; exact hrw, hgr⟩
          · go_wp2
            go_ret
            have HF : walkR g.nodes (f + 1) a depth deep = (next, dp) := by rw [HV.out, List.drop_eq_nil_of_le (by omega)]; rfl
            exact ⟨by rw [HF]; rfl, by rw [HF]; exact hrw, hgr⟩
    · have hge : (g.nodes.length : Int) ≤ (a : Int) := by omega
      have HF := Lib.hid (show walkR g.nodes (f + 1) a depth deep = (-1, deep) by
        rw [walkR]; rw [List.getElem?_eq_none (by omega)])
      go_enter Try.func52, Try.ntmps52
      go_wp2
      go_ret
      exact ⟨by rw [HF.out]; rfl, by rw [HF.out]; exact HROW.out.alloc _, grown_alloc (grown_refl _ _) _⟩
end Go.Proofs.Ytafjdoedallnbaa
