/- aai.walk: the first number behind a subtree, or -1 where it does not stand in preorder; the greatest depth. -/
import Derived.Test.YtkcheepafifjaaaGreatDoorS03
set_option linter.all false
namespace Go.Proofs.YtkcheepafifjaaaGreatDoor
open Go.RowKit
def bP (rec : Nat → Int → Int × Int) : List Int → Int → Int → Int × Int
 | [], next, deep => (next, deep)
 | c :: cs, next, deep => if c ≠ next then (-1, deep) else if (rec next.toNat deep).1 < 0 then (-1, (rec next.toNat deep).2) else bP rec cs (rec next.toNat deep).1 (rec next.toNat deep).2
def bF (nodes : List Nd) : Nat → Nat → Int → Int → Int × Int
 | 0, _, _, deep => (-1, deep)
 | f + 1, a, depth, deep => match nodes[a]? with
  | none => (-1, deep)
  | some n => bP (fun a d => bF nodes f a (depth + 1) d) n.next ((a : Int) + 1) (max deep depth)
theorem pF {rec : Nat → Int → Int × Int} {N lo : Nat} (hrec : ∀ a d, lo ≤ a → (rec a d).1 = -1 ∨ ((a : Int) < (rec a d).1 ∧ (rec a d).1 ≤ N)) : ∀ (cs : List Int) (next deep : Int), (lo : Int) ≤ next → next ≤ N →
  (bP rec cs next deep).1 = -1 ∨ ((lo : Int) ≤ (bP rec cs next deep).1 ∧ (bP rec cs next deep).1 ≤ N)
 | [], next, deep, h1, h2 => .inr ⟨h1, h2⟩
 | c :: cs, next, deep, h1, h2 => by
  unfold bP;split
  ·exact .inl rfl
  ·split
   ·exact .inl rfl
   ·rcases hrec next.toNat deep (by omega) with h | h
    ·omega
    ·exact pF hrec cs _ _ (by omega) (by omega)
theorem mQ (nodes : List Nd) : ∀ (f a : Nat) (depth deep : Int), (bF nodes f a depth deep).1 = -1 ∨ ((a : Int) < (bF nodes f a depth deep).1 ∧ (bF nodes f a depth deep).1 ≤ nodes.length)
 | 0, _, _, _ => .inl rfl
 | f + 1, a, depth, deep => by
  unfold bF;split
  ·exact .inl rfl
  ·rename_i n hn
   have := aH hn;rcases pF (rec := fun a d => bF nodes f a (depth + 1) d) (N := nodes.length) (lo := a + 1) (fun a' d _ => mQ nodes f a' (depth + 1) d) n.next ((a : Int) + 1) (max deep depth) (by omega) (by omega) with h | h
   ·exact .inl h
   ·exact .inr (by omega)
theorem qQ {rec : Nat → Int → Int × Int} {D : Int} (hrec : ∀ a d, -1 ≤ d → d ≤ D → -1 ≤ (rec a d).2 ∧ (rec a d).2 ≤ D) : ∀ (cs : List Int) (next deep : Int), -1 ≤ deep → deep ≤ D → -1 ≤ (bP rec cs next deep).2 ∧ (bP rec cs next deep).2 ≤ D
 | [], next, deep, h1, h2 => ⟨h1, h2⟩
 | c :: cs, next, deep, h1, h2 => by
  unfold bP;have := hrec next.toNat deep h1 h2
  split
  ·exact ⟨h1, h2⟩
  ·split
   ·exact this
   ·exact qQ hrec cs _ _ this.1 this.2
theorem oC (nodes : List Nd) (D : Int) : ∀ (f a : Nat) (depth deep : Int), depth + f ≤ D → -1 ≤ deep → deep ≤ D → -1 ≤ (bF nodes f a depth deep).2 ∧ (bF nodes f a depth deep).2 ≤ D
 | 0, _, _, _, _, h1, h2 => ⟨h1, h2⟩
 | f + 1, a, depth, deep, h, h1, h2 => by
  unfold bF;split
  ·exact ⟨h1, h2⟩
  ·exact qQ (fun a' d g1 g2 => oC nodes D f a' (depth + 1) d (by omega) g1 g2) _ _ _ (by omega) (by omega)
theorem Same.pG {w w' : World} {b : Nat} (h : w.grownBy w' (some b)) : Same (fun k => k ≠ b) w w' := ⟨h.size, fun k hk hl => h.block k hl (by simpa using hk)⟩
theorem mV {a w : World} {row : Option Nat} (h : a.grownBy w row) (o : Obj) : a.grownBy (w.alloc o) row :=
 ⟨h.os, h.tape, h.output, Nat.le_trans h.size (by simp), fun i hi hne => (Below.heap_alloc w o i (Nat.lt_of_lt_of_le hi h.size)).trans (h.block i hi hne)⟩
theorem grown_setCell {a w : World} {g : Nat} (h : a.grownBy w (some g)) {p : Addr} (hp : p.block = g ∨ a.heap.size ≤ p.block) (u : Value) : a.grownBy (w.setCell p u) (some g) :=
 ⟨h.os, h.tape, h.output, by simpa using h.size, fun i hi hne => (Below.heap_setCell w p u i (by
  rintro rfl;rcases hp with hp | hp
  ·exact hne (by rw [hp])
  ·omega)).trans (h.block i hi hne)⟩
theorem jc (w : World) (row : Option Nat) : w.grownBy w row := ⟨rfl, rfl, rfl, Nat.le_refl _, fun _ _ _ => rfl⟩
theorem gK {a b c : World} {row : Option Nat} (h : a.grownBy b row) (k : b.grownBy c row) : a.grownBy c row :=
 ⟨k.os.trans h.os, k.tape.trans h.tape, k.output.trans h.output, Nat.le_trans h.size k.size, fun i hi hne => (k.block i (Nat.lt_of_lt_of_le hi h.size) hne).trans (h.block i hi hne)⟩
theorem oD {w w' : World} {d : Nat} (h : w.grownBy w' (some d)) : ∀ b o, b < w.heap.size → b ≠ d → w'.cell? ⟨b, o, none⟩ = w.cell? ⟨b, o, none⟩ := fun b o hb hd => World.cell?_of_block (h.block b hb (by simpa using hd))
set_option maxRecDepth 100000 in
set_option maxHeartbeats 3200000 in
theorem adL (g : Gm) (hsm : Small g) : ∀ (f a : Nat) (depth deep : Int) (w : World) (bd : Nat) (u : Value), Aj w (fun b => b ≠ bd) u g → Row w bd 3 [.int .i64 deep] → g.nodes.length < a + f → 0 ≤ depth → depth + f ≤ 100000 → -1 ≤ deep → deep ≤ 100000 →
  Calls Tryz.prog 129 #[u, .int .i64 a, .int .i64 depth, .pointer (some ⟨bd, 0, none⟩)] w fun e w' => e = .returned (.int .i64 (bF g.nodes f a depth deep).1) ∧ Row w' bd 3 [.int .i64 (bF g.nodes f a depth deep).2] ∧ w.grownBy w' (some bd) := by
 intro f;induction f with
 | zero =>
  intro a depth deep w bd u hg hrow hf hd0 hd1 hp0 hp1;obtain ⟨vn, vi, rfl, ⟨A, c, rfl, hc, hN⟩, ⟨Ai, ci, rfl, hci, hI⟩⟩ := hg;clear hN hI;have hge : (g.nodes.length : Int) ≤ (a : Int) := by omega
  have hn := hsm.nodes;have BI := Lib.hid hrow; clear hrow;go_enter Tryz.func129, Tryz.ntmps129;go_wp2
  go_ret;exact ⟨rfl, BI.out.alloc _, mV (jc _ _) _⟩
 | succ f ih =>
  intro a depth deep w bd u hg hrow hf hd0 hd1 hp0 hp1;have HG := Lib.hid hg;obtain ⟨vn, vi, rfl, ⟨A, c, rfl, hc, hN⟩, ⟨Ai, ci, rfl, hci, hI⟩⟩ := hg;have HN := Lib.hid hN; clear hN hI;have IH := Lib.hid ih; clear ih;have HSM := Lib.hid hsm;have hn := hsm.nodes;clear hsm;have hbd := hrow.lt;have xd := hrow.cell (i := 0) rfl;have fd := hrow.frozen 0;have BI := Lib.hid hrow; clear hrow;by_cases hlt : a < g.nodes.length
  ·obtain ⟨b, o, rfl, hbF, hb, hcell⟩ := HN.out (by omega);obtain ⟨n, hn'⟩ := aA hlt;obtain ⟨v3, e3, A3, c3, rfl, hc3, i3⟩ := (hcell a n hn').c3;have HX := Lib.hid hn';have hl3 := HSM.out.next n (List.mem_of_getElem? hn');have H3 := Lib.hid i3; clear i3 hcell hn';have HW := Lib.hid (show bF g.nodes (f + 1) a depth deep = bP (fun a d => bF g.nodes f a (depth + 1) d) n.next ((a : Int) + 1) (max deep depth) by
    rw [bF]; simp only [HX.out])
   have hrl : ∀ d, (max deep depth : Int) = d → ∀ (w' : World), Row w' bd 3 [.int .i64 deep] → Row (w'.setCell ⟨bd, 0, none⟩ (.int .i64 d)) bd 3 [.int .i64 d] := fun d _ w' h => by simpa using h.set 0 (.int .i64 d)
   have HRL := Lib.hid hrl; clear hrl;by_cases hmx : deep < depth
   ·have HMX := Lib.hid (show (max deep depth : Int) = depth by omega);have hm0 : -1 ≤ depth ∧ depth ≤ 100000 := by omega
    go_enter Tryz.func129, Tryz.ntmps129;go_wp2
    go_loopw [9, 10] (fun nx i wr => ∃ (j : Nat) (next dp : Int), j ≤ n.next.length ∧ i = .int .i64 j ∧ nx = .int .i64 next ∧ (a : Int) < next ∧ next ≤ g.nodes.length ∧ -1 ≤ dp ∧ dp ≤ 100000 ∧ Row wr w.heap.size 25 [.int .i64 g.ak, .slice (some ⟨b, o, none⟩) g.nodes.length c, .slice Ai g.infos.length ci] ∧ Row wr bd 3 [.int .i64 dp] ∧ w.grownBy wr (some bd) ∧ bF g.nodes (f + 1) a depth deep = bP (fun a d => bF g.nodes f a (depth + 1) d) (n.next.drop j) next dp) (fun _ i _ => n.next.length - (intOf i).toNat)
    case atStart =>
     refine ⟨0, (a : Int) + 1, depth, by omega, rfl, rfl, by omega, by omega, hm0.1, hm0.2, ?_, ?_, ?_, ?_⟩
     ·have := Row.new (w.setCell ⟨bd, 0, none⟩ (.int .i64 depth)) 25 #[.int .i64 g.ak, .slice (some ⟨b, o, none⟩) g.nodes.length c, .slice Ai g.infos.length ci];simpa using this
     ·exact (HRL.out depth HMX.out w BI.out).alloc _
     ·exact mV (grown_setCell (jc _ _) (.inl rfl) _) _
     ·rw [HW.out, HMX.out]; rfl
    case round =>
     obtain ⟨j, next, dp, hj, rfl, rfl, ag1, hnx1, aeX, aeY, hbx, hrw, hgr, hval⟩ := hrel;have HV := Lib.hid hval; clear hval;have x1 := hbx.cell (i := 1) rfl;have x0 := hbx.cell (i := 0) rfl;have x2 := hbx.cell (i := 2) rfl;have hold := oD hgr;by_cases hjt : j < n.next.length
     ·obtain ⟨ch, hch⟩ := aA hjt;obtain ⟨b3, o3, rfl, hb3, aeZ, hx3⟩ := H3.out (by omega);have ec := hx3 j ch hch;unfold jE at ec; rw [Nat.mul_one] at ec;have HD := Lib.hid (show n.next.drop j = ch :: n.next.drop (j + 1) by rw [List.drop_eq_getElem_cons hjt]; congr 1; simpa [hjt] using hch);clear hch hx3;by_cases hne : ch = next
      ·subst hne;obtain ⟨q, rfl⟩ := Int.eq_ofNat_of_zero_le (show 0 ≤ ch by omega);have hbd2 := mQ g.nodes f q (depth + 1) dp;have HV2 := Lib.hid (show bP (fun a d => bF g.nodes f a (depth + 1) d) (n.next.drop j) (q : Int) dp = if (bF g.nodes f q (depth + 1) dp).1 < 0 then (-1, (bF g.nodes f q (depth + 1) dp).2) else bP (fun a d => bF g.nodes f a (depth + 1) d) (n.next.drop (j + 1)) (bF g.nodes f q (depth + 1) dp).1 (bF g.nodes f q (depth + 1) dp).2 by
        rw [HD.out]; simp [bP])
       have HBD := Lib.hid hbd2; clear hbd2;go_wp2_with fail
       refine (IH.out q (depth + 1) dp wr bd _ (HG.out.on (Same.pG hgr)) hrw (by omega) (by omega) (by omega) aeX aeY).mono ?_;rintro e w' ⟨rfl, ab7, fF⟩;have hdd := oC g.nodes 100000 f q (depth + 1) dp (by omega) aeX aeY;have aaX : Row w' w.heap.size _ _ := hbx.of_block (fF.block _ hbx.lt (by simp; omega));have hgg := gK hgr fF;have hbb := HBD.out;have HV3 := Lib.hid (HV.out.trans HV2.out);generalize bF g.nodes f q (depth + 1) dp = rr at *;obtain ⟨rn, rd⟩ := rr;dsimp only at ab7 hdd hbb HV3 ⊢;clear HV2 HBD hold x0 x1 x2 hbx hrw hgr fF;by_cases hng : rn < 0
       ·have HF := Lib.hid (show bF g.nodes (f + 1) a depth deep = (-1, rd) by rw [HV3.out, if_pos hng]);go_wp2
        go_ret;exact ⟨by rw [HF.out]; rfl, by rw [HF.out]; exact ab7, hgg⟩
       ·go_wp2
        go_roundw
        case rel => exact ⟨j + 1, rn, rd, by omega, by go_num, rfl, by omega, by omega, hdd.1, hdd.2, aaX, ab7, hgg, by rw [HV3.out, if_neg hng]⟩
        case measure => simp [intOf]; omega
      ·have hd : (ch != next) = true := by simp [hne]
       have HF := Lib.hid (show bF g.nodes (f + 1) a depth deep = (-1, dp) by rw [HV.out, HD.out]; simp [bP, hne]);clear hne;go_wp2
       go_ret;exact ⟨by rw [HF.out]; rfl, by rw [HF.out]; exact hrw, hgr⟩
     ·go_wp2
      go_ret;have HF : bF g.nodes (f + 1) a depth deep = (next, dp) := by rw [HV.out, List.drop_eq_nil_of_le (by omega)]; rfl
      exact ⟨by rw [HF]; rfl, by rw [HF]; exact hrw, hgr⟩
   ·have HMX := Lib.hid (show (max deep depth : Int) = deep by omega);have hm0 : -1 ≤ deep ∧ deep ≤ 100000 := by omega
    go_enter Tryz.func129, Tryz.ntmps129;go_wp2
    go_loopw [9, 10] (fun nx i wr => ∃ (j : Nat) (next dp : Int), j ≤ n.next.length ∧ i = .int .i64 j ∧ nx = .int .i64 next ∧ (a : Int) < next ∧ next ≤ g.nodes.length ∧ -1 ≤ dp ∧ dp ≤ 100000 ∧ Row wr w.heap.size 25 [.int .i64 g.ak, .slice (some ⟨b, o, none⟩) g.nodes.length c, .slice Ai g.infos.length ci] ∧ Row wr bd 3 [.int .i64 dp] ∧ w.grownBy wr (some bd) ∧ bF g.nodes (f + 1) a depth deep = bP (fun a d => bF g.nodes f a (depth + 1) d) (n.next.drop j) next dp) (fun _ i _ => n.next.length - (intOf i).toNat)
    case atStart =>
     refine ⟨0, (a : Int) + 1, deep, by omega, rfl, rfl, by omega, by omega, hm0.1, hm0.2, ?_, ?_, ?_, ?_⟩
     ·have := Row.new (w.setCell ⟨bd, 0, none⟩ (.int .i64 deep)) 25 #[.int .i64 g.ak, .slice (some ⟨b, o, none⟩) g.nodes.length c, .slice Ai g.infos.length ci];simpa using this
     ·exact (HRL.out deep HMX.out w BI.out).alloc _
     ·exact mV (grown_setCell (jc _ _) (.inl rfl) _) _
     ·rw [HW.out, HMX.out]; rfl
    case round =>
     obtain ⟨j, next, dp, hj, rfl, rfl, ag1, hnx1, aeX, aeY, hbx, hrw, hgr, hval⟩ := hrel;have HV := Lib.hid hval; clear hval;have x1 := hbx.cell (i := 1) rfl;have x0 := hbx.cell (i := 0) rfl;have x2 := hbx.cell (i := 2) rfl;have hold := oD hgr;by_cases hjt : j < n.next.length
     ·obtain ⟨ch, hch⟩ := aA hjt;obtain ⟨b3, o3, rfl, hb3, aeZ, hx3⟩ := H3.out (by omega);have ec := hx3 j ch hch;unfold jE at ec; rw [Nat.mul_one] at ec;have HD := Lib.hid (show n.next.drop j = ch :: n.next.drop (j + 1) by rw [List.drop_eq_getElem_cons hjt]; congr 1; simpa [hjt] using hch);clear hch hx3;by_cases hne : ch = next
      ·subst hne;obtain ⟨q, rfl⟩ := Int.eq_ofNat_of_zero_le (show 0 ≤ ch by omega);have hbd2 := mQ g.nodes f q (depth + 1) dp;have HV2 := Lib.hid (show bP (fun a d => bF g.nodes f a (depth + 1) d) (n.next.drop j) (q : Int) dp = if (bF g.nodes f q (depth + 1) dp).1 < 0 then (-1, (bF g.nodes f q (depth + 1) dp).2) else bP (fun a d => bF g.nodes f a (depth + 1) d) (n.next.drop (j + 1)) (bF g.nodes f q (depth + 1) dp).1 (bF g.nodes f q (depth + 1) dp).2 by
        rw [HD.out]; simp [bP])
       have HBD := Lib.hid hbd2; clear hbd2;go_wp2_with fail
       refine (IH.out q (depth + 1) dp wr bd _ (HG.out.on (Same.pG hgr)) hrw (by omega) (by omega) (by omega) aeX aeY).mono ?_;rintro e w' ⟨rfl, ab7, fF⟩;have hdd := oC g.nodes 100000 f q (depth + 1) dp (by omega) aeX aeY;have aaX : Row w' w.heap.size _ _ := hbx.of_block (fF.block _ hbx.lt (by simp; omega));have hgg := gK hgr fF;have hbb := HBD.out;have HV3 := Lib.hid (HV.out.trans HV2.out);generalize bF g.nodes f q (depth + 1) dp = rr at *;obtain ⟨rn, rd⟩ := rr;dsimp only at ab7 hdd hbb HV3 ⊢;clear HV2 HBD hold x0 x1 x2 hbx hrw hgr fF;by_cases hng : rn < 0
       ·have HF := Lib.hid (show bF g.nodes (f + 1) a depth deep = (-1, rd) by rw [HV3.out, if_pos hng]);go_wp2
        go_ret;exact ⟨by rw [HF.out]; rfl, by rw [HF.out]; exact ab7, hgg⟩
       ·go_wp2
        go_roundw
        case rel => exact ⟨j + 1, rn, rd, by omega, by go_num, rfl, by omega, by omega, hdd.1, hdd.2, aaX, ab7, hgg, by rw [HV3.out, if_neg hng]⟩
        case measure => simp [intOf]; omega
      ·have hd : (ch != next) = true := by simp [hne]
       have HF := Lib.hid (show bF g.nodes (f + 1) a depth deep = (-1, dp) by rw [HV.out, HD.out]; simp [bP, hne]);clear hne;go_wp2
       go_ret;exact ⟨by rw [HF.out]; rfl, by rw [HF.out]; exact hrw, hgr⟩
     ·go_wp2
      go_ret;have HF : bF g.nodes (f + 1) a depth deep = (next, dp) := by rw [HV.out, List.drop_eq_nil_of_le (by omega)]; rfl
      exact ⟨by rw [HF]; rfl, by rw [HF]; exact hrw, hgr⟩
  ·have hge : (g.nodes.length : Int) ≤ (a : Int) := by omega
   have HF := Lib.hid (show bF g.nodes (f + 1) a depth deep = (-1, deep) by
    rw [bF]; rw [List.getElem?_eq_none (by omega)])
   go_enter Tryz.func129, Tryz.ntmps129;go_wp2
   go_ret;exact ⟨by rw [HF.out]; rfl, by rw [HF.out]; exact BI.out.alloc _, mV (jc _ _) _⟩
set_option maxHeartbeats 400000 in
theorem afW (w : World) (F : Ac) (v : Value) (g : Gm) (hg : Aj w F v g) (hsm : Small g) (h0 : 0 < g.nodes.length) (hk : CZ g.nodes) :
  Calls Tryz.prog 136 #[v] w (Ret w fun v w' => Aw w' (fun b => w.heap.size ≤ b) v (wX g.nodes)) := by
 obtain ⟨vn, vi, rfl, ⟨A, c, rfl, hc, hN⟩, hI⟩ := hg;obtain ⟨b, o, rfl, hbF, hbB, hN⟩ := hN h0;have HN := Lib.hid hN; clear hN;have HK := Lib.hid hk; clear hk;have hn := hsm.nodes;have HS := Lib.hid hsm; clear hsm;go_enter Tryz.func136, Tryz.ntmps136;go_wp2_with (at_make; refine fE _ rfl _ _ 57 rfl 3 (.int .i64 0) 8 Tryz.underlying57 Tryz.infoInt rfl g.nodes.length rfl rfl (by omega) (by omega) ?_; intro w1 nO hsz1 hrow1; have r0 := hrow1.cell (i := 0) (v := .int .i64 0) (by simp [h0]); have f0 := hrow1.frozen 0; simp at r0 f0)
 go_loopw [4] (fun i wr => ∃ k : Nat, k ≤ g.nodes.length ∧ i = .int .i64 k ∧ wr.cell? ⟨w.heap.size, 1, none⟩ = some (.slice (some ⟨b, o, none⟩) g.nodes.length c) ∧ Row wr (w.heap.size + 1) 3 ((lV g.nodes k).map (Value.int .i64)) ∧ Below w.heap.size w wr) (fun i _ => g.nodes.length - (intOf i).toNat)
 case atStart =>
  refine ⟨0, by omega, rfl, ?_, ?_, ?_⟩
  ·rw [World.cell?_setCell_other _ _ _ _ (by simp), aJ nO _ _ (by simp)]; simp
  ·have := hrow1.set 0 (.int .i64 (-1));simp only [World.size_alloc] at this;simpa [lV, List.map_set] using this
  ·exact (((Below.refl _ _).alloc (Nat.le_refl _) _).trans (nO.mono (by simp))).setCell (by simp) _
 case round =>
  obtain ⟨k, hk, rfl, hbox, hrow, hbel⟩ := hrel;by_cases hlt : k < g.nodes.length
  ·obtain ⟨n, hn'⟩ := aA hlt;have adp := HN.out k n hn';obtain ⟨v3, e3, A3, c3, rfl, hc3, hN3⟩ := adp.c3;have hl3 := HS.out.next n (List.mem_of_getElem? hn');have HN3 := Lib.hid hN3; clear hN3 adp;have HN' := Lib.hid hn'; clear hn';have hold := aJ hbel;go_wp2
   go_loopw [5] (fun i wi => ∃ j : Nat, j ≤ n.next.length ∧ i = .int .i64 j ∧ wi.cell? ⟨w.heap.size, 1, none⟩ = some (.slice (some ⟨b, o, none⟩) g.nodes.length c) ∧ Row wi (w.heap.size + 1) 3 ((jB (n.next.take j) k (lV g.nodes k)).map (Value.int .i64)) ∧ Below w.heap.size w wi) (fun i _ => n.next.length - (intOf i).toNat)
   case atStart => exact ⟨0, by omega, rfl, hbox, by simpa [jB] using hrow, hbel⟩
   case round =>
    clear hbox hrow hold;obtain ⟨j, hj, rfl, hbox, hrow, jr⟩ := hrel;have hold := aJ jr;by_cases hjt : j < n.next.length
    ·obtain ⟨ch, hch⟩ := aA hjt;obtain ⟨b3, o3, rfl, hb3, hb3B, hx3⟩ := HN3.out (by omega);have ec := hx3 j ch hch;unfold jE at ec;rw [Nat.mul_one] at ec;obtain ⟨hch0, hch1⟩ := HK.out n (List.mem_of_getElem? HN'.out) ch (List.mem_of_getElem? hch);have HCH := Lib.hid hch; clear hch hx3;obtain ⟨x, hx⟩ := aA (l := jB (n.next.take j) k (lV g.nodes k)) (k := ch.toNat) (by rw [pq, lH]; omega);have rc := hrow.cell (i := ch.toNat) (v := .int .i64 x) (by simp [hx]);have fc := hrow.frozen ch.toNat;clear hx;go_wp2
     go_roundw
     case rel =>
      refine ⟨j + 1, by omega, by go_num, ?_, ?_, jr.setCell (by simp) _⟩
      ·rw [World.cell?_setCell_other _ _ _ _ (by simp)]; exact hbox
      ·have := hrow.set ch.toNat (.int .i64 k);rw [aah HCH.out];simpa [List.map_set] using this
     case measure => simp [intOf]; omega
    ·go_wp2
     go_roundw
     case rel =>
      have : j = n.next.length := by omega
      subst this;refine ⟨k + 1, by omega, by go_num, hbox, ?_, jr⟩;rw [wY HN'.out];simpa using hrow
     case measure => simp [intOf]; omega
  ·go_wp2
   go_ret;have : k = g.nodes.length := by omega
   subst this;refine ⟨_, rfl, hbel, ?_⟩;have hl : (wX g.nodes).length = g.nodes.length := lH _ _;have := hrow.ints (F := fun b => w.heap.size ≤ b) (by omega) (c := g.nodes.length) (by rw [lH]; omega);rw [lH] at this;exact this
def Ce (w : World) (fid : FuncId) (caps : Array Value) (l : List Int) (p : Int → Bool) : Prop :=
 (∀ (args : Array Value) (w' : World), (callFunc fid args).run Tryz.prog w' = .ok (.enter fid args) w') ∧
 ∀ (n : Nat) (x : Int), x ∈ l → Calls Tryz.prog fid (#[.int .i64 x] ++ caps) (w.drewN n) fun e w' => e = .returned (.bool (p x)) ∧ ∃ m, w' = w.drewN m
def idxOf (p : Int → Bool) (l : List Int) : Int := match l.findIdx? p with | some i => (i : Int) | none => -1
theorem idxOf_hit {p : Int → Bool} {l : List Int} {k : Nat} {x : Int} (h : l[k]? = some x) (hp : p x = true) (hn : (l.take k).any p = false) : idxOf p l = k := by
 have hk := aH h;have : l.findIdx? p = some k := by
  rw [List.findIdx?_eq_some_iff_getElem];refine ⟨hk, ?_, fun j hj => ?_⟩
  ·have : l[k] = x := by simpa [hk] using h
   rw [this]; exact hp
  ·have h1 := List.any_eq_false.1 hn l[j] (by rw [List.mem_take_iff_getElem]; exact ⟨j, by omega, rfl⟩);simpa using h1
 simp [idxOf, this]
theorem wZ {p : Int → Bool} {l : List Int} (hn : l.any p = false) : idxOf p l = -1 := by
 have : l.findIdx? p = none := by
  rw [List.findIdx?_eq_none_iff];intro x hx;have := List.any_eq_false.1 hn x hx;simpa using this
 simp [idxOf, this]
theorem adM (p : Int → Bool) (l : List Int) : decide (0 ≤ idxOf p l) = l.any p := by
 cases h : l.any p with
 | false => rw [wZ h]; rfl
 | true =>
  obtain ⟨x, hx, hp⟩ := List.any_eq_true.1 h;unfold idxOf;split
  ·rw [decide_eq_true_iff]; omega
  ·rename_i h1
   rw [List.findIdx?_eq_none_iff] at h1;have := h1 x hx;rw [hp] at this; cases this
set_option maxHeartbeats 1600000 in
theorem yN (w : World) (F : Ac) (v : Value) (l : List Int) (fid : FuncId) (caps : Array Value) (p : Int → Bool) (hv : Aw w F v l) (hl : l.length ≤ 1000000) (ha : Ce w fid caps l p) :
  Calls Tryz.prog 193 #[v, .func (.func fid) #[] caps] w fun e w' => e = .returned (.int .i64 (idxOf p l)) ∧ ∃ n, w' = w.drewN n := by
 obtain ⟨A, c, rfl, hc, hr⟩ := hv;have HR := Lib.hid hr; clear hr;obtain ⟨hcf, hcl⟩ := ha;have HCL := Lib.hid hcl; clear hcl;go_enter Tryz.func193, Tryz.ntmps193;go_wp2
 go_loopw [8] (fun i wr => ∃ k n : Nat, k ≤ l.length ∧ i = .int .i64 k ∧ (l.take k).any p = false ∧ wr = w.drewN n) (fun i _ => l.length - (intOf i).toNat)
 case atStart => exact ⟨0, 0, by omega, rfl, rfl, rfl⟩
 case round =>
  obtain ⟨k, n, hk, rfl, hpre, rfl⟩ := hrel;have HP := Lib.hid hpre; clear hpre;by_cases hlt : k < l.length
  ·obtain ⟨b, o, rfl, _, hb, hx⟩ := HR.out (by omega);obtain ⟨x, hxx⟩ := aA hlt;have ex := hx k x hxx;unfold jE at ex;rw [Nat.mul_one] at ex;have HX := Lib.hid hxx; clear hxx hx;go_wp2_with fail
   refine (HCL.out n x (List.mem_of_getElem? HX.out)).mono ?_;rintro e w' ⟨rfl, m, rfl⟩;dsimp only;cases hpx : p x
   ·have HPX := Lib.hid hpx; clear hpx;go_wp2
    go_roundw
    case rel => exact ⟨k + 1, m, by omega, by go_num, jq HX.out HP.out HPX.out, rfl⟩
    case measure => simp [intOf]; omega
   ·have HF := Lib.hid (idxOf_hit HX.out hpx HP.out); clear hpx;go_wp2
    go_ret;exact ⟨by rw [HF.out]; rfl, m, rfl⟩
  ·go_wp2
   go_ret;have h := HP.out;rw [List.take_of_length_le (by omega)] at h;exact ⟨by rw [wZ h]; rfl, n, rfl⟩
set_option maxHeartbeats 1600000 in
theorem uy (w : World) (F : Ac) (v : Value) (l : List Int) (fid : FuncId) (caps : Array Value) (p : Int → Bool) (hv : Aw w F v l) (hl : l.length ≤ 1000000) (ha : Ce w fid caps l p) :
  Calls Tryz.prog 182 #[v, .func (.func fid) #[] caps] w fun e w' => e = .returned (.bool (l.any p)) ∧ ∃ n, w' = w.drewN n := by
 have HV := Lib.hid hv; clear hv;have HA := Lib.hid ha; clear ha;go_enter Tryz.func182, Tryz.ntmps182;go_wp2_with fail
 refine (yN w F v l fid caps p HV.out hl HA.out).mono ?_;rintro e w' ⟨rfl, n, rfl⟩;dsimp only;have HF := Lib.hid (adM p l);generalize idxOf p l = q at *;go_wp2
 all_goals
  go_ret;refine ⟨?_, n, rfl⟩;rw [← HF.out];first | rfl | (simp; omega)
def nI (n : Nd) : Bool := decide (100 < n.next.length) || decide (100 < n.weights.length) || decide (100 < n.pay.length)
def jm (g : Gm) (nodes sets : Int) : Bool := decide (nodes < g.nodes.length) || decide (sets < g.infos.length) || g.nodes.any nI
set_option maxRecDepth 100000 in
set_option maxHeartbeats 1600000 in
theorem zl (w : World) (F : Ac) (u : Value) (g : Gm) (h : Aj w F u g) (nodes sets : Int) (hn0 : nodes ≤ 1000) :
  Calls Tryz.prog 44 #[u, .int .i64 nodes, .int .i64 sets] w (Ret w fun v _ => v = .bool (jm g nodes sets)) := by
 obtain ⟨vn, vi, rfl, ⟨A, c, rfl, hc, hN⟩, ⟨Ai, ci, rfl, hci, hI⟩⟩ := h;have HN := Lib.hid hN; clear hN hI;by_cases q0 : nodes < g.nodes.length
 ·have HF := Lib.hid (show jm g nodes sets = true by simp [jm, q0]);go_enter Tryz.func44, Tryz.ntmps44;go_wp2
  go_ret;exact ⟨_, rfl, (Below.refl _ _).alloc (Nat.le_refl _) _, by rw [HF.out]; rfl⟩
 have d0 : decide (nodes < (g.nodes.length : Int)) = false := by simp; omega
 by_cases q1 : sets < g.infos.length
 ·have HF := Lib.hid (show jm g nodes sets = true by simp [jm, q1]);go_enter Tryz.func44, Tryz.ntmps44;go_wp2
  go_ret;exact ⟨_, rfl, (Below.refl _ _).alloc (Nat.le_refl _) _, by rw [HF.out]; rfl⟩
 have d1 : decide (sets < (g.infos.length : Int)) = false := by simp; omega
 go_enter Tryz.func44, Tryz.ntmps44;go_wp2
 go_loopw [7] (fun i wr => ∃ k : Nat, k ≤ g.nodes.length ∧ i = .int .i64 k ∧ (g.nodes.take k).any nI = false ∧ Row wr w.heap.size 25 [.int .i64 g.ak, .slice A g.nodes.length c, .slice Ai g.infos.length ci] ∧ Below w.heap.size w wr) (fun i _ => g.nodes.length - (intOf i).toNat)
 case atStart => exact ⟨0, by omega, rfl, by simp, Row.new w _ _, (Below.refl _ _).alloc (Nat.le_refl _) _⟩
 case round =>
  obtain ⟨k, hk, rfl, hpre, hr, hbel⟩ := hrel;have HP := Lib.hid hpre; clear hpre;have x1 := hr.cell (i := 1) rfl;by_cases hlt : k < g.nodes.length
  ·obtain ⟨b, o, rfl, _, hb, hcell⟩ := HN.out (by omega);obtain ⟨n, hn⟩ := aA hlt;obtain ⟨e0, e1, e2, ⟨v3, e3, A3, c3, rfl, hc3, i3⟩, ⟨v4, e4, A4, c4, rfl, hc4, i4⟩, ⟨v5, e5, A5, c5, rfl, hc5, i5⟩⟩ := hcell k n hn;clear i3 i4 i5 hcell;have HX := Lib.hid hn; clear hn;have hold := aJ hbel;have LT := Lib.hid (show nI n = true → jm g nodes sets = true by
    intro h;unfold jm;have : g.nodes.any nI = true := List.any_eq_true.2 ⟨n, List.mem_of_getElem? HX.out, h⟩;rw [this]; simp)
   by_cases q3 : 100 < n.next.length
   ·have HF := Lib.hid (LT.out (by unfold nI; simp [q3]));go_wp2
    go_ret;exact ⟨_, rfl, by repeat (first | exact hbel | refine Below.alloc ?_ hbel.size _ | refine Below.setCell ?_ hbel.size _), by rw [HF.out]; rfl⟩
   have d3 : decide ((100 : Int) < (n.next.length : Int)) = false := by simp; omega
   by_cases q4 : 100 < n.weights.length
   ·have HF := Lib.hid (LT.out (by unfold nI; simp [q4]));go_wp2
    go_ret;exact ⟨_, rfl, by repeat (first | exact hbel | refine Below.alloc ?_ hbel.size _ | refine Below.setCell ?_ hbel.size _), by rw [HF.out]; rfl⟩
   have d4 : decide ((100 : Int) < (n.weights.length : Int)) = false := by simp; omega
   by_cases q5 : 100 < n.pay.length
   ·have HF := Lib.hid (LT.out (by unfold nI; simp [q5]));go_wp2
    go_ret;exact ⟨_, rfl, by repeat (first | exact hbel | refine Below.alloc ?_ hbel.size _ | refine Below.setCell ?_ hbel.size _), by rw [HF.out]; rfl⟩
   have d5 : decide ((100 : Int) < (n.pay.length : Int)) = false := by simp; omega
   have LF := Lib.hid (show nI n = false by unfold nI; simp; omega);go_wp2
   go_roundw
   case rel => exact ⟨k + 1, by omega, by go_num, jq HX.out HP.out LF.out, by repeat (first | exact hr | refine Row.alloc ?_ _ | refine Row.other ?_ (by have := hr.lt; simp; omega) _), by repeat (first | exact hbel | refine Below.alloc ?_ hbel.size _ | refine Below.setCell ?_ hbel.size _)⟩
   case measure => simp [intOf]; omega
  ·go_wp2
   go_ret;refine ⟨_, rfl, hbel, ?_⟩;have h3 := HP.out;rw [List.take_of_length_le (by omega)] at h3;have : jm g nodes sets = false := by unfold jm; rw [h3, d0, d1]; rfl
   rw [this]; rfl
end Go.Proofs.YtkcheepafifjaaaGreatDoor
