/- parlourlaw17.large, and the walk of ValueReaches over six contracts of one form. -/
import Derived.Test.YtkcheepafifjaaaGreatDoorS44
import Derived.Test.YtkcheepafifjaaaGreatDoorS45
import Derived.Test.YtkcheepafifjaaaGreatDoorS04
set_option linter.all false
namespace Go.Proofs.YtkcheepafifjaaaGreatDoor
open Go.RowKit
set_option maxRecDepth 100000 in
set_option maxHeartbeats 1600000 in
theorem vZ (w : World) (F : Ac) (vg vm : Value) (g : Gm) (m : List (List Raw)) (hg : Aj w F vg g) (hm : Ae w F vm m) :
  Calls Tryz.prog 9 #[vg, vm] w (Ret w fun v _ => v = .bool (jm g 60 20 || mg m 30 20 4)) := by
 have HG := Lib.hid hg; have HM := Lib.hid hm;obtain ⟨vn, vi, rfl, ⟨A, c, rfl, hc, _⟩, ⟨Ai, ci, rfl, hci, _⟩⟩ := hg;obtain ⟨Am, cm, rfl, hcm, _⟩ := hm;obtain ⟨lb, hlb⟩ : ∃ b, b = jm g 60 20 := ⟨_, rfl⟩;have HL := Lib.hid hlb;rw [← hlb];clear hlb;cases lb with
 | false =>
  obtain ⟨wb, hwb⟩ : ∃ b, b = mg m 30 20 4 := ⟨_, rfl⟩;have HW := Lib.hid hwb;rw [← hwb];clear hwb;go_enter Tryz.func9, Tryz.ntmps9;go_wp2_with fail
  obtain ⟨W, hW, rx, hB, hz⟩ := aC w 25 #[.int .i64 g.ak, .slice A g.nodes.length c, .slice Ai g.infos.length ci];rw [← hW];clear hW rx;replace HG := Lib.hid (HG.out.on (Below.same' hB F)); replace HM := Lib.hid (Ae.on HM.out (Below.same' hB F));refine (zl W F _ g HG.out 60 20 (by decide)).mono ?_;rintro e w1 ⟨u, rfl, hb1, rfl⟩;replace HM := Lib.hid (Ae.on HM.out (Below.same' hb1 F));have hB1 := hB.trans (hb1.mono hB.size);rw [← HL.out];clear hb1;dsimp only;go_wp2_with fail
  refine (afu w1 F _ m HM.out 30 20 4 (by decide) (by decide)).mono ?_;rintro e w2 ⟨rfl, rfl⟩;rw [← HW.out];dsimp only;go_wp2
  go_ret;exact ⟨_, rfl, hB1, rfl⟩
 | true =>
  go_enter Tryz.func9, Tryz.ntmps9;go_wp2_with fail
  obtain ⟨W, hW, rx, hB, hz⟩ := aC w 25 #[.int .i64 g.ak, .slice A g.nodes.length c, .slice Ai g.infos.length ci];rw [← hW];clear hW rx;replace HG := Lib.hid (HG.out.on (Below.same' hB F));refine (zl W F _ g HG.out 60 20 (by decide)).mono ?_;rintro e w1 ⟨u, rfl, hb1, rfl⟩;have hB1 := hB.trans (hb1.mono hB.size);rw [← HL.out];clear hb1;dsimp only;go_wp2
  go_ret;exact ⟨_, rfl, hB1, rfl⟩
set_option maxRecDepth 100000 in
set_option maxHeartbeats 3200000 in
theorem lC (w : World) (F : Ac) (vg vm : Value) (g : Gm) (m : List (List Raw)) (pl : Int) (hg : Aj w F vg g) (hm : Ae w F vm m) (hT : AO w) (E0 E1 E2 : Int) (L0 L1 L2 : List Raw) (hs0 : AY L0) (hs1 : AY L1) (hs2 : AY L2) (hlg : (jm g 60 20 || mg m 30 20 4) = false)
  (C0 : ∀ (w' : World) (F' : Ac), Aj w' F' vg g → Ae w' F' vm m → AO w' → Calls Tryz.prog 11 #[vg, vm] w' (Ret w' (Bc F' w'.heap.size E0 L0)))
  (C1 : ∀ (w' : World) (F' : Ac), Aj w' F' vg g → Ae w' F' vm m → AO w' → Calls Tryz.prog 12 #[vg, vm] w' (Ret w' (Bc F' w'.heap.size E0 L0)))
  (C2 : ∀ (w' : World) (F' : Ac), Aj w' F' vg g → Ae w' F' vm m → AO w' → Calls Tryz.prog 13 #[vg, vm, .int .i64 pl] w' (Ret w' (Bc F' w'.heap.size E1 L1)))
  (C3 : ∀ (w' : World) (F' : Ac), Aj w' F' vg g → Ae w' F' vm m → AO w' → Calls Tryz.prog 14 #[vg, vm, .int .i64 pl] w' (Ret w' (Bc F' w'.heap.size E1 L1)))
  (C4 : ∀ (w' : World) (F' : Ac), Aj w' F' vg g → Ae w' F' vm m → AO w' → Calls Tryz.prog 15 #[vg, vm, .int .i64 pl] w' (Ret w' (Bc F' w'.heap.size E2 L2)))
  (C5 : ∀ (w' : World) (F' : Ac), Aj w' F' vg g → Ae w' F' vm m → AO w' → Calls Tryz.prog 16 #[vg, vm, .int .i64 pl] w' (Ret w' (Bc F' w'.heap.size E2 L2))) :
  Calls Tryz.prog 3 #[vg, vm, .int .i64 pl] w (Ret w fun v _ => v = .bool true) := by
 have HG := Lib.hid hg; have HM := Lib.hid hm; have HT := Lib.hid hT; have HS0 := Lib.hid hs0; have HS1 := Lib.hid hs1; have HS2 := Lib.hid hs2; have HLG := Lib.hid hlg;obtain ⟨vn, vi, rfl, ⟨A, c, rfl, hc, _⟩, ⟨Ai, ci, rfl, hci, _⟩⟩ := hg;obtain ⟨Am, cm, rfl, hcm, _⟩ := hm;clear hT hs0 hs1 hs2 hlg;have D0 := Lib.hid C0; have D1 := Lib.hid C1; have D2 := Lib.hid C2; have D3 := Lib.hid C3; have D4 := Lib.hid C4; have D5 := Lib.hid C5;clear C0 C1 C2 C3 C4 C5;go_enter Tryz.func3, Tryz.ntmps3;go_wp2_with fail
 obtain ⟨W, hW, rx, hB, hz⟩ := aC w 25 #[.int .i64 g.ak, .slice A g.nodes.length c, .slice Ai g.infos.length ci];rw [← hW];clear hW;replace HG := Lib.hid (HG.out.on (Below.same' hB F)); replace HM := Lib.hid (Ae.on HM.out (Below.same' hB F)); replace HT := Lib.hid (HT.out.on hB);have x0 := rx.cell (i := 0) rfl; have x1 := rx.cell (i := 1) rfl; have x2 := rx.cell (i := 2) rfl;clear rx;refine (vZ W F _ _ g m HG.out HM.out).mono ?_;rintro e wl ⟨u, rfl, hb, rfl⟩;rw [HLG.out];replace HG := Lib.hid (HG.out.on (Below.same' hb F)); replace HM := Lib.hid (Ae.on HM.out (Below.same' hb F)); replace HT := Lib.hid (HT.out.on hb);replace x0 := ah x0 hb; replace x1 := ah x1 hb; replace x2 := ah x2 hb;replace hB := hB.trans (hb.mono hB.size);clear hb;dsimp only;go_wp2_with fail
 refine (D0.out wl F HG.out HM.out HT.out).mono ?_;rintro e w0 ⟨u, rfl, hb, t0, rfl, hu⟩;replace HG := Lib.hid (HG.out.on (Below.same' hb F)); replace HM := Lib.hid (Ae.on HM.out (Below.same' hb F)); replace HT := Lib.hid (HT.out.on hb);replace x0 := ah x0 hb; replace x1 := ah x1 hb; replace x2 := ah x2 hb;replace hB := hB.trans (hb.mono hB.size);have R0 := Lib.hid hu;obtain ⟨A0, c0, rfl, _, _⟩ := hu;clear hb;dsimp only;go_wp2_with fail
 refine (D1.out w0 F HG.out HM.out HT.out).mono ?_;rintro e w1 ⟨u, rfl, hb, t1, rfl, hu⟩;replace HG := Lib.hid (HG.out.on (Below.same' hb F)); replace HM := Lib.hid (Ae.on HM.out (Below.same' hb F)); replace HT := Lib.hid (HT.out.on hb);replace x0 := ah x0 hb; replace x1 := ah x1 hb; replace x2 := ah x2 hb;replace R0 := Lib.hid (Ag.on R0.out (Below.same' hb _));replace hB := hB.trans (hb.mono hB.size);have R1 := Lib.hid hu;obtain ⟨A1, c1, rfl, _, _⟩ := hu;clear hb;dsimp only;go_wp2_with fail
 refine (D2.out w1 F HG.out HM.out HT.out).mono ?_;rintro e w2 ⟨u, rfl, hb, t2, rfl, hu⟩;replace HG := Lib.hid (HG.out.on (Below.same' hb F)); replace HM := Lib.hid (Ae.on HM.out (Below.same' hb F)); replace HT := Lib.hid (HT.out.on hb);replace x0 := ah x0 hb; replace x1 := ah x1 hb; replace x2 := ah x2 hb;replace R0 := Lib.hid (Ag.on R0.out (Below.same' hb _));replace R1 := Lib.hid (Ag.on R1.out (Below.same' hb _));replace hB := hB.trans (hb.mono hB.size);have R2 := Lib.hid hu;obtain ⟨A2, c2, rfl, _, _⟩ := hu;clear hb;dsimp only;go_wp2_with fail
 refine (D3.out w2 F HG.out HM.out HT.out).mono ?_;rintro e w3 ⟨u, rfl, hb, t3, rfl, hu⟩;replace HG := Lib.hid (HG.out.on (Below.same' hb F)); replace HM := Lib.hid (Ae.on HM.out (Below.same' hb F)); replace HT := Lib.hid (HT.out.on hb);replace x0 := ah x0 hb; replace x1 := ah x1 hb; replace x2 := ah x2 hb;replace R0 := Lib.hid (Ag.on R0.out (Below.same' hb _));replace R1 := Lib.hid (Ag.on R1.out (Below.same' hb _));replace R2 := Lib.hid (Ag.on R2.out (Below.same' hb _));replace hB := hB.trans (hb.mono hB.size);have R3 := Lib.hid hu;obtain ⟨A3, c3, rfl, _, _⟩ := hu;clear hb;dsimp only;go_wp2_with fail
 refine (D4.out w3 F HG.out HM.out HT.out).mono ?_;rintro e w4 ⟨u, rfl, hb, t4, rfl, hu⟩;replace HG := Lib.hid (HG.out.on (Below.same' hb F)); replace HM := Lib.hid (Ae.on HM.out (Below.same' hb F)); replace HT := Lib.hid (HT.out.on hb);replace x0 := ah x0 hb; replace x1 := ah x1 hb; replace x2 := ah x2 hb;replace R0 := Lib.hid (Ag.on R0.out (Below.same' hb _));replace R1 := Lib.hid (Ag.on R1.out (Below.same' hb _));replace R2 := Lib.hid (Ag.on R2.out (Below.same' hb _));replace R3 := Lib.hid (Ag.on R3.out (Below.same' hb _));replace hB := hB.trans (hb.mono hB.size);have R4 := Lib.hid hu;obtain ⟨A4, c4, rfl, _, _⟩ := hu;clear hb;dsimp only;go_wp2_with fail
 refine (D5.out w4 F HG.out HM.out HT.out).mono ?_;rintro e w5 ⟨u, rfl, hb, t5, rfl, hu⟩;replace HG := Lib.hid (HG.out.on (Below.same' hb F)); replace HM := Lib.hid (Ae.on HM.out (Below.same' hb F)); replace HT := Lib.hid (HT.out.on hb);replace x0 := ah x0 hb; replace x1 := ah x1 hb; replace x2 := ah x2 hb;replace R0 := Lib.hid (Ag.on R0.out (Below.same' hb _));replace R1 := Lib.hid (Ag.on R1.out (Below.same' hb _));replace R2 := Lib.hid (Ag.on R2.out (Below.same' hb _));replace R3 := Lib.hid (Ag.on R3.out (Below.same' hb _));replace R4 := Lib.hid (Ag.on R4.out (Below.same' hb _));replace hB := hB.trans (hb.mono hB.size);have R5 := Lib.hid hu;obtain ⟨A5, c5, rfl, _, _⟩ := hu;clear hb;dsimp only;have b0 : (E0 == E0) = true := by simp
 have b1 : (E1 == E1) = true := by simp
 have b2 : (E2 == E2) = true := by simp
 go_wp2_with fail
 refine (kW w5 (fun _ => True) _ _ _ _ (R0.out.keep (fun _ _ _ => trivial) (Same.refl _ _)) (R1.out.keep (fun _ _ _ => trivial) (Same.refl _ _)) HS0.out HS0.out).mono ?_;rintro e wc0 ⟨u, rfl, hb, rfl⟩;rw [decide_eq_true rfl];replace HG := Lib.hid (HG.out.on (Below.same' hb F)); replace HM := Lib.hid (Ae.on HM.out (Below.same' hb F)); replace HT := Lib.hid (HT.out.on hb);replace x0 := ah x0 hb; replace x1 := ah x1 hb; replace x2 := ah x2 hb;replace R0 := Lib.hid (Ag.on R0.out (Below.same' hb _));replace R1 := Lib.hid (Ag.on R1.out (Below.same' hb _));replace R2 := Lib.hid (Ag.on R2.out (Below.same' hb _));replace R3 := Lib.hid (Ag.on R3.out (Below.same' hb _));replace R4 := Lib.hid (Ag.on R4.out (Below.same' hb _));replace R5 := Lib.hid (Ag.on R5.out (Below.same' hb _));replace hB := hB.trans (hb.mono hB.size);clear hb;dsimp only;go_wp2_with fail
 refine (kW wc0 (fun _ => True) _ _ _ _ (R2.out.keep (fun _ _ _ => trivial) (Same.refl _ _)) (R3.out.keep (fun _ _ _ => trivial) (Same.refl _ _)) HS1.out HS1.out).mono ?_;rintro e wc1 ⟨u, rfl, hb, rfl⟩;rw [decide_eq_true rfl];replace HG := Lib.hid (HG.out.on (Below.same' hb F)); replace HM := Lib.hid (Ae.on HM.out (Below.same' hb F)); replace HT := Lib.hid (HT.out.on hb);replace x0 := ah x0 hb; replace x1 := ah x1 hb; replace x2 := ah x2 hb;replace R0 := Lib.hid (Ag.on R0.out (Below.same' hb _));replace R1 := Lib.hid (Ag.on R1.out (Below.same' hb _));replace R2 := Lib.hid (Ag.on R2.out (Below.same' hb _));replace R3 := Lib.hid (Ag.on R3.out (Below.same' hb _));replace R4 := Lib.hid (Ag.on R4.out (Below.same' hb _));replace R5 := Lib.hid (Ag.on R5.out (Below.same' hb _));replace hB := hB.trans (hb.mono hB.size);clear hb;dsimp only;go_wp2_with fail
 refine (kW wc1 (fun _ => True) _ _ _ _ (R4.out.keep (fun _ _ _ => trivial) (Same.refl _ _)) (R5.out.keep (fun _ _ _ => trivial) (Same.refl _ _)) HS2.out HS2.out).mono ?_;rintro e wc2 ⟨u, rfl, hb, rfl⟩;rw [decide_eq_true rfl];replace HG := Lib.hid (HG.out.on (Below.same' hb F)); replace HM := Lib.hid (Ae.on HM.out (Below.same' hb F)); replace HT := Lib.hid (HT.out.on hb);replace x0 := ah x0 hb; replace x1 := ah x1 hb; replace x2 := ah x2 hb;replace R0 := Lib.hid (Ag.on R0.out (Below.same' hb _));replace R1 := Lib.hid (Ag.on R1.out (Below.same' hb _));replace R2 := Lib.hid (Ag.on R2.out (Below.same' hb _));replace R3 := Lib.hid (Ag.on R3.out (Below.same' hb _));replace R4 := Lib.hid (Ag.on R4.out (Below.same' hb _));replace R5 := Lib.hid (Ag.on R5.out (Below.same' hb _));replace hB := hB.trans (hb.mono hB.size);clear hb;dsimp only;go_wp2_with fail
 refine (vY wc2 HT.out).mono ?_;rintro e wz ⟨u, rfl, hb, rfl⟩;replace hB := hB.trans (hb.mono hB.size);dsimp only;go_wp2; go_ret
 exact ⟨_, rfl, hB, rfl⟩
theorem yJ {g : Gm} {nodes sets : Int} (h : jm g nodes sets = false) (hn : nodes ≤ 100) (hs : sets ≤ 100) : Small g := by
 unfold jm at h;simp only [Bool.or_eq_false_iff, decide_eq_false_iff_not, List.any_eq_false] at h;obtain ⟨⟨h1, h2⟩, h3⟩ := h;have h4 : ∀ n ∈ g.nodes, n.next.length ≤ 100 ∧ n.weights.length ≤ 100 ∧ n.pay.length ≤ 100 := by
  intro n hn';have := h3 n hn';unfold nI at this;simp at this;omega
 exact ⟨by omega, by omega, fun n hn => (h4 n hn).1, fun n hn => (h4 n hn).2.1, fun n hn => (h4 n hn).2.2⟩
theorem Ag.none (w : World) (F : Ac) : Ag w F (.slice none 0 0) [] := Ag.nil w F
theorem nZ : AY [] := ⟨by decide, fun r h => by cases h⟩
theorem adi {xs : List Rat} (h : ∀ x ∈ xs, rl x ≤ 1024) (hl : xs.length ≤ 1000) : AY (fitsV xs) := by
 unfold fitsV;rw [uh h];exact qw h hl
theorem nG {g : Gm} {m : List (List Rat)} (hf : Fit g m) (hn : g.nodes.length ≤ 100) {cnt : Nd → Bool} (hc3 : ∀ n, cnt n = true → n.kind ≠ 3) : AY (fitsV (gG cnt g m)) :=
 adi (fun x hx => by have := kM hf hc3 x hx; omega) (by simp; omega)
theorem kQ {B : World} {f : Nat} {args : Array Value} {F' : Ac} {e : Int} (h : Calls Tryz.prog f args B (Ret B fun u _ => u = .tuple #[.slice none 0 0, .int .i64 e])) : Calls Tryz.prog f args B (Ret B (Bc F' B.heap.size e [])) := by
 refine h.mono ?_;rintro e w' ⟨u, rfl, hb, rfl⟩;exact ⟨_, rfl, hb, _, rfl, Ag.nil _ _⟩
theorem yY {m : List (List Raw)} (h : mg m 30 20 4 = false) : m.length ≤ 30 ∧ (∀ l ∈ m, l.length ≤ 20) ∧ Ci m := by
 unfold mg at h;rw [Bool.or_eq_false_iff] at h;have h1 := h.1;have h2 := List.any_eq_false.1 h.2;have h3 : ∀ l ∈ m, l.length ≤ 20 ∧ ∀ r ∈ l, r.num.length ≤ 4 ∧ r.den.length ≤ 4 := by
  intro l hl;have h4 := h2 l hl;unfold vP at h4;rw [Bool.not_eq_true, Bool.or_eq_false_iff] at h4;have h5 := List.any_eq_false.1 h4.2;refine ⟨by have := h4.1; simp at this; omega, fun r hr => ?_⟩;have h6 := h5 r hr;simp at h6; omega
 exact ⟨by simp at h1; omega, fun l hl => (h3 l hl).1, fun l hl => (h3 l hl).2⟩
theorem agH {m : List (List Raw)} (h : ∀ l ∈ m, l.length ≤ 20) (h4 : Ci m) (hU : ∀ l ∈ m, ∀ r ∈ l, U32 r) : AA m :=
 fun l hl => ⟨by have := h l hl; omega, fun r hr => ⟨hU l hl r hr, by have := h4 l hl r hr; omega, by have := h4 l hl r hr; omega⟩⟩
set_option maxRecDepth 100000 in
set_option maxHeartbeats 3200000 in
theorem uZ (w : World) (F : Ac) (vg vm : Value) (g : Gm) (m : List (List Raw)) (pl : Int) (hg : Aj w F vg g) (hm : Ae w F vm m) (hT : AO w) (hlg : (jm g 60 20 || mg m 30 20 4) = true) :
  Calls Tryz.prog 3 #[vg, vm, .int .i64 pl] w (Ret w fun v _ => v = .bool true) := by
 have HG := Lib.hid hg; have HM := Lib.hid hm; have HT := Lib.hid hT; have HLG := Lib.hid hlg;obtain ⟨vn, vi, rfl, ⟨A, c, rfl, hc, _⟩, ⟨Ai, ci, rfl, hci, _⟩⟩ := hg;obtain ⟨Am, cm, rfl, hcm, _⟩ := hm;clear hT hlg;go_enter Tryz.func3, Tryz.ntmps3;go_wp2_with fail
 obtain ⟨W, hW, rx, hB, hz⟩ := aC w 25 #[.int .i64 g.ak, .slice A g.nodes.length c, .slice Ai g.infos.length ci];rw [← hW];clear hW rx;replace HG := Lib.hid (HG.out.on (Below.same' hB F)); replace HM := Lib.hid (Ae.on HM.out (Below.same' hB F)); replace HT := Lib.hid (HT.out.on hB);refine (vZ W F _ _ g m HG.out HM.out).mono ?_;rintro e wl ⟨u, rfl, hb, rfl⟩;rw [HLG.out];replace HT := Lib.hid (HT.out.on hb);replace hB := hB.trans (hb.mono hB.size);clear hb;dsimp only;go_wp2_with fail
 refine (vY wl HT.out).mono ?_;rintro e wz ⟨u, rfl, hb, rfl⟩;replace hB := hB.trans (hb.mono hB.size);dsimp only;go_wp2; go_ret
 exact ⟨_, rfl, hB, rfl⟩
theorem adk (w : World) (F : Ac) (vg vm : Value) (g : Gm) (m : List (List Raw)) (pl : Int) (hg : Aj w F vg g) (hm : Ae w F vm m) (hU : ∀ l ∈ m, ∀ r ∈ l, U32 r) (hT : AO w) :
  Calls Tryz.prog 3 #[vg, vm, .int .i64 pl] w (Ret w fun v _ => v = .bool true) := by
 cases hlg : (jm g 60 20 || mg m 30 20 4) with
 | true => exact uZ w F vg vm g m pl hg hm hT hlg
 | false =>
  have ahw := hlg;rw [Bool.or_eq_false_iff] at ahw;have hsm : Small g := yJ ahw.1 (by decide) (by decide);obtain ⟨hlm, hll, h4⟩ := yY ahw.2;have hb := agH hll h4 hU;have oV : m.length ≤ 100000 := by omega
  by_cases h0 : bn g m = 0
  ·obtain ⟨mm, rfl, hf, _⟩ := afF h0 h4;rw [List.length_map] at oV;have hn := hsm.nodes;by_cases hpl : 0 ≤ pl ∧ pl < g.ak
   ·exact lC w F vg vm g _ pl hg hm hT _ _ _ _ _ _ (nG hf hn kN) (nG hf hn (wL pl)) (nG hf hn (oU pl)) hlg
     (fun w' F' a b t => uX w' F' vg vm g mm a hsm b t oV hb h0 hf)
     (fun w' F' a b t => zZ w' F' vg vm g mm a hsm b oV hb h0 hf)
     (fun w' F' a b t => agF w' F' vg vm g mm pl a hsm b t oV hb h0 hf hpl.1 hpl.2)
     (fun w' F' a b t => agG w' F' vg vm g mm pl a hsm b oV hb h0 hf hpl.1 hpl.2)
     (fun w' F' a b t => adb w' F' vg vm g mm pl a hsm b t oV hb h0 hf hpl.1 hpl.2)
     (fun w' F' a b t => adh w' F' vg vm g mm pl a hsm b oV hb h0 hf hpl.1 hpl.2)
   ·have hpl' : pl < 0 ∨ g.ak ≤ pl := by omega
    exact lC w F vg vm g _ pl hg hm hT _ 2 2 _ [] [] (nG hf hn kN) nZ nZ hlg
     (fun w' F' a b t => uX w' F' vg vm g mm a hsm b t oV hb h0 hf)
     (fun w' F' a b t => zZ w' F' vg vm g mm a hsm b oV hb h0 hf)
     (fun w' F' a b t => kQ (afQ w' F' vg vm g mm pl a hsm b t oV hb h0 hpl'))
     (fun w' F' a b t => kQ (afV w' F' vg vm g mm pl a hsm b oV hb h0 hf hpl'))
     (fun w' F' a b t => kQ (abX w' F' vg vm g mm pl a hsm b t oV hb h0 hpl'))
     (fun w' F' a b t => kQ (ab4 w' F' vg vm g mm pl a hsm b oV hb h0 hf hpl'))
  ·exact lC w F vg vm g m pl hg hm hT (bn g m) (bn g m) (bn g m) [] [] [] nZ nZ nZ hlg
    (fun w' F' a b t => kQ (ade w' F' vg vm g m a hsm b t oV hb h0))
    (fun w' F' a b t => kQ (adg w' F' vg vm g m a hsm b oV hb h0))
    (fun w' F' a b t => kQ (afP w' F' vg vm g m pl a hsm b t oV hb h0))
    (fun w' F' a b t => kQ (afU w' F' vg vm g m pl a hsm b oV hb h0))
    (fun w' F' a b t => kQ (abW w' F' vg vm g m pl a hsm b t oV hb h0))
    (fun w' F' a b t => kQ (ab3 w' F' vg vm g m pl a hsm b oV hb h0))
end Go.Proofs.YtkcheepafifjaaaGreatDoor
