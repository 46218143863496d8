/- tZ.Reach, part, Own, Others. -/
import Derived.Test.YtkcheepafifjaaaGreatDoorS42
import Derived.Test.YtkcheepafifjaaaGreatDoorS39
set_option linter.all false
namespace Go.Proofs.YtkcheepafifjaaaGreatDoor
open Go.RowKit
theorem cnt0 (pl : Int) : ∀ n : Nd, n.kind ≠ 3 → gB n = !((((0 : Int) == 1) && !(ownB pl n)) || (((0 : Int) == 2) && ownB pl n)) := by
 intro n h; simp [gB, h]
theorem cnt1 (pl : Int) : ∀ n : Nd, n.kind ≠ 3 → ownB pl n = !((((1 : Int) == 1) && !(ownB pl n)) || (((1 : Int) == 2) && ownB pl n)) := by
 intro n h; simp
theorem cnt2 (pl : Int) : ∀ n : Nd, n.kind ≠ 3 → gu pl n = !((((2 : Int) == 1) && !(ownB pl n)) || (((2 : Int) == 2) && ownB pl n)) := by
 intro n h;have e3 : (n.kind != 3) = true := by simpa using h
 show ((n.kind != 3) && (!(n.kind == 2) || !(n.aG == pl))) = !(false || (true && ((n.kind == 2) && (n.aG == pl))));rw [e3];cases (n.kind == 2) <;> cases (n.aG == pl) <;> rfl
set_option maxRecDepth 100000 in
set_option maxHeartbeats 3200000 in
theorem zZ (w : World) (F : Ac) (vg vm : Value) (g : Gm) (m : List (List Rat)) (hg : Aj w F vg g) (hsm : Small g) (hm : AB w F vm m) (hlm : m.length ≤ 100000) (hb : AA (m.map (List.map au))) (h0 : bn g (m.map (List.map au)) = 0) (hf : Fit g m) :
  Calls Tryz.prog 12 #[vg, vm] w (Ret w (Bc F w.heap.size (lq (gG (gB) g m)) (fitsV (gG (gB) g m)))) := by
 have HG := Lib.hid hg; have HM := Lib.hid hm; have HS := Lib.hid hsm; have HBB := Lib.hid hb; have HE0 := Lib.hid h0; have HFT := Lib.hid hf;have hn100 := hsm.nodes;obtain ⟨vn, vi, rfl, ⟨A, c, rfl, hc, _⟩, ⟨Ai, ci, rfl, hci, _⟩⟩ := hg;clear hm hsm hb hf h0;have HRL := Lib.hid (kM (cnt := gB) HFT.out kN);obtain ⟨rs, hrs⟩ : ∃ rs, rs = gG (gB) g m := ⟨_, rfl⟩;have HRS := Lib.hid hrs;rw [← hrs] at HRL ⊢;have hrl : rs.length ≤ 100000 := by rw [hrs]; simp; omega
 clear hrs;go_enter Tryz.func12, Tryz.ntmps12;go_wp2_with fail
 obtain ⟨W, hW, rx, hB, hz⟩ := aC w 25 #[.int .i64 g.ak, .slice A g.nodes.length c, .slice Ai g.infos.length ci];rw [← hW];clear hW;have hz2 := hB.size;replace HG := Lib.hid (HG.out.on (Below.same' hB F)); replace HM := Lib.hid (Ae.below HM.out hB);have x0 := rx.cell (i := 0) rfl; have x1 := rx.cell (i := 1) rfl; have x2 := rx.cell (i := 2) rfl;clear rx;go_wp2_with fail
 refine (mJ W F _ _ g (m.map (List.map au)) HG.out HS.out HM.out (by rw [List.length_map]; exact hlm) HBB.out).mono ?_;rintro e w1 ⟨u, rfl, hb1, rfl⟩;rw [HE0.out];replace x0 := ah x0 hb1; replace x1 := ah x1 hb1; replace x2 := ah x2 hb1;replace HG := Lib.hid (HG.out.on (Below.same' hb1 F)); replace HM := Lib.hid (Ae.below HM.out hb1);have hB1 := hB.trans (hb1.mono hB.size);have hz3 := hb1.size;clear hb1 hB;dsimp only;go_wp2_with fail
 refine (vW w1 F _ _ g m 0 0 gB HG.out HM.out HFT.out hn100 hlm (cnt0 0) kN).mono ?_;rintro e w2 ⟨u, rfl, hb2, ⟨b2, rfl⟩, hu⟩;rw [show (List.range g.nodes.length).map (bY (gB) g.nodes m) = rs from HRS.out.symm] at hu;have hB2 := hB1.trans (hb2.mono hB1.size);have hz4 := hb2.size;have HU := Lib.hid hu;clear hu hb2 hB1 x0 x1 x2;dsimp only;go_wp2_with fail
 refine (yE w2 _ _ rs HU.out hrl (fun x hx => by have := HRL.out x hx; omega)).mono ?_;rintro e w3 ⟨u, rfl, hb3, t, rfl, ht⟩;have hB3 := hB2.trans (hb3.mono hB2.size);have HTT := Lib.hid (ht.keep (G := Ext F w.heap.size) (fun b hb _ => Ext.mono (by omega) hb) (Same.refl _ _));clear ht hb3 hB2;dsimp only;go_wp2
 go_ret2;exact ⟨_, rfl, hB3, _, rfl, HTT.out⟩
set_option maxRecDepth 100000 in
set_option maxHeartbeats 3200000 in
theorem adg (w : World) (F : Ac) (vg vm : Value) (g : Gm) (m : List (List Raw)) (hg : Aj w F vg g) (hsm : Small g) (hm : Ae w F vm m) (hlm : m.length ≤ 100000) (hb : AA m) (h0 : bn g m ≠ 0) :
  Calls Tryz.prog 12 #[vg, vm] w (Ret w fun u _ => u = .tuple #[.slice none 0 0, .int .i64 (bn g m)]) := by
 have HG := Lib.hid hg; have HM := Lib.hid hm; have HS := Lib.hid hsm; have HBB := Lib.hid hb; have HE0 := Lib.hid h0;have hn100 := hsm.nodes;obtain ⟨vn, vi, rfl, ⟨A, c, rfl, hc, _⟩, ⟨Ai, ci, rfl, hci, _⟩⟩ := hg;clear hm hsm hb;obtain ⟨fe, hfe⟩ : ∃ fe, fe = bn g m := ⟨_, rfl⟩;have HFE := Lib.hid hfe;rw [← hfe] at h0 ⊢;clear hfe;have t0 : decide (fe = 0) = false := decide_eq_false h0;go_enter Tryz.func12, Tryz.ntmps12;go_wp2_with fail
 obtain ⟨W, hW, rx, hB, hz⟩ := aC w 25 #[.int .i64 g.ak, .slice A g.nodes.length c, .slice Ai g.infos.length ci];rw [← hW];clear hW;have hz2 := hB.size;replace HG := Lib.hid (HG.out.on (Below.same' hB F)); replace HM := Lib.hid (Ae.below HM.out hB);have x0 := rx.cell (i := 0) rfl; have x1 := rx.cell (i := 1) rfl; have x2 := rx.cell (i := 2) rfl;clear rx;go_wp2_with fail
 refine (mJ W F _ _ g m HG.out HS.out HM.out hlm HBB.out).mono ?_;rintro e w1 ⟨u, rfl, hb1, rfl⟩;rw [← HFE.out];replace x0 := ah x0 hb1; replace x1 := ah x1 hb1; replace x2 := ah x2 hb1;replace HG := Lib.hid (HG.out.on (Below.same' hb1 F)); replace HM := Lib.hid (Ae.below HM.out hb1);have hB1 := hB.trans (hb1.mono hB.size);have hz3 := hb1.size;clear hb1 hB;dsimp only;go_wp2
 go_ret2;exact ⟨_, rfl, hB1, rfl⟩
set_option maxRecDepth 100000 in
set_option maxHeartbeats 3200000 in
theorem ab2 (w : World) (F : Ac) (vg vm : Value) (g : Gm) (m : List (List Rat)) (pl : Int) (part : Int) (cnt : Nd → Bool) (hg : Aj w F vg g) (hsm : Small g) (hm : AB w F vm m) (hlm : m.length ≤ 100000) (hb : AA (m.map (List.map au))) (h0 : bn g (m.map (List.map au)) = 0) (hf : Fit g m) (hpl : 0 ≤ pl) (hpl2 : pl < g.ak) (hcnt : ∀ n, n.kind ≠ 3 → cnt n = !(((part == 1) && !(ownB pl n)) || ((part == 2) && ownB pl n))) (hc3 : ∀ n, cnt n = true → n.kind ≠ 3) :
  Calls Tryz.prog 54 #[vg, vm, .int .i64 pl, .int .i64 part] w (Ret w (Bc F w.heap.size (lq (gG (cnt) g m)) (fitsV (gG (cnt) g m)))) := by
 have HG := Lib.hid hg; have HM := Lib.hid hm; have HS := Lib.hid hsm; have HBB := Lib.hid hb; have HE0 := Lib.hid h0; have HFT := Lib.hid hf;have hn100 := hsm.nodes;obtain ⟨vn, vi, rfl, ⟨A, c, rfl, hc, _⟩, ⟨Ai, ci, rfl, hci, _⟩⟩ := hg;clear hm hsm hb hf h0;have HCN := Lib.hid hcnt; have HC3 := Lib.hid hc3; clear hcnt hc3;have HRL := Lib.hid (kM (cnt := cnt) HFT.out HC3.out);obtain ⟨rs, hrs⟩ : ∃ rs, rs = gG (cnt) g m := ⟨_, rfl⟩;have HRS := Lib.hid hrs;rw [← hrs] at HRL ⊢;have hrl : rs.length ≤ 100000 := by rw [hrs]; simp; omega
 clear hrs;go_enter Tryz.func54, Tryz.ntmps54;go_wp2_with fail
 obtain ⟨W, hW, rx, hB, hz⟩ := aC w 25 #[.int .i64 g.ak, .slice A g.nodes.length c, .slice Ai g.infos.length ci];rw [← hW];clear hW;have hz2 := hB.size;replace HG := Lib.hid (HG.out.on (Below.same' hB F)); replace HM := Lib.hid (Ae.below HM.out hB);have x0 := rx.cell (i := 0) rfl; have x1 := rx.cell (i := 1) rfl; have x2 := rx.cell (i := 2) rfl;clear rx;go_wp2_with fail
 refine (mJ W F _ _ g (m.map (List.map au)) HG.out HS.out HM.out (by rw [List.length_map]; exact hlm) HBB.out).mono ?_;rintro e w1 ⟨u, rfl, hb1, rfl⟩;rw [HE0.out];replace x0 := ah x0 hb1; replace x1 := ah x1 hb1; replace x2 := ah x2 hb1;replace HG := Lib.hid (HG.out.on (Below.same' hb1 F)); replace HM := Lib.hid (Ae.below HM.out hb1);have hB1 := hB.trans (hb1.mono hB.size);have hz3 := hb1.size;clear hb1 hB;dsimp only;have t3 : decide (pl < 0) = false := decide_eq_false (by omega);have t4 : decide (g.ak ≤ pl) = false := decide_eq_false (by omega);go_wp2_with fail
 refine (vW w1 F _ _ g m pl part cnt HG.out HM.out HFT.out hn100 hlm HCN.out HC3.out).mono ?_;rintro e w2 ⟨u, rfl, hb2, ⟨b2, rfl⟩, hu⟩;rw [show (List.range g.nodes.length).map (bY (cnt) g.nodes m) = rs from HRS.out.symm] at hu;have hB2 := hB1.trans (hb2.mono hB1.size);have hz4 := hb2.size;have HU := Lib.hid hu;clear hu hb2 hB1 x0 x1 x2;dsimp only;go_wp2_with fail
 refine (yE w2 _ _ rs HU.out hrl (fun x hx => by have := HRL.out x hx; omega)).mono ?_;rintro e w3 ⟨u, rfl, hb3, t, rfl, ht⟩;have hB3 := hB2.trans (hb3.mono hB2.size);have HTT := Lib.hid (ht.keep (G := Ext F w.heap.size) (fun b hb _ => Ext.mono (by omega) hb) (Same.refl _ _));clear ht hb3 hB2;dsimp only;go_wp2
 go_ret2;exact ⟨_, rfl, hB3, _, rfl, HTT.out⟩
set_option maxRecDepth 100000 in
set_option maxHeartbeats 3200000 in
theorem aac (w : World) (F : Ac) (vg vm : Value) (g : Gm) (m : List (List Raw)) (pl : Int) (part : Int) (hg : Aj w F vg g) (hsm : Small g) (hm : Ae w F vm m) (hlm : m.length ≤ 100000) (hb : AA m) (h0 : bn g m ≠ 0) :
  Calls Tryz.prog 54 #[vg, vm, .int .i64 pl, .int .i64 part] w (Ret w fun u _ => u = .tuple #[.slice none 0 0, .int .i64 (bn g m)]) := by
 have HG := Lib.hid hg; have HM := Lib.hid hm; have HS := Lib.hid hsm; have HBB := Lib.hid hb; have HE0 := Lib.hid h0;have hn100 := hsm.nodes;obtain ⟨vn, vi, rfl, ⟨A, c, rfl, hc, _⟩, ⟨Ai, ci, rfl, hci, _⟩⟩ := hg;clear hm hsm hb;obtain ⟨fe, hfe⟩ : ∃ fe, fe = bn g m := ⟨_, rfl⟩;have HFE := Lib.hid hfe;rw [← hfe] at h0 ⊢;clear hfe;have t0 : decide (fe = 0) = false := decide_eq_false h0;go_enter Tryz.func54, Tryz.ntmps54;go_wp2_with fail
 obtain ⟨W, hW, rx, hB, hz⟩ := aC w 25 #[.int .i64 g.ak, .slice A g.nodes.length c, .slice Ai g.infos.length ci];rw [← hW];clear hW;have hz2 := hB.size;replace HG := Lib.hid (HG.out.on (Below.same' hB F)); replace HM := Lib.hid (Ae.below HM.out hB);have x0 := rx.cell (i := 0) rfl; have x1 := rx.cell (i := 1) rfl; have x2 := rx.cell (i := 2) rfl;clear rx;go_wp2_with fail
 refine (mJ W F _ _ g m HG.out HS.out HM.out hlm HBB.out).mono ?_;rintro e w1 ⟨u, rfl, hb1, rfl⟩;rw [← HFE.out];replace x0 := ah x0 hb1; replace x1 := ah x1 hb1; replace x2 := ah x2 hb1;replace HG := Lib.hid (HG.out.on (Below.same' hb1 F)); replace HM := Lib.hid (Ae.below HM.out hb1);have hB1 := hB.trans (hb1.mono hB.size);have hz3 := hb1.size;clear hb1 hB;dsimp only;go_wp2
 go_ret2;exact ⟨_, rfl, hB1, rfl⟩
set_option maxRecDepth 100000 in
set_option maxHeartbeats 3200000 in
theorem aad (w : World) (F : Ac) (vg vm : Value) (g : Gm) (m : List (List Rat)) (pl : Int) (part : Int) (hg : Aj w F vg g) (hsm : Small g) (hm : AB w F vm m) (hlm : m.length ≤ 100000) (hb : AA (m.map (List.map au))) (h0 : bn g (m.map (List.map au)) = 0) (hf : Fit g m) (hpl : pl < 0 ∨ g.ak ≤ pl) :
  Calls Tryz.prog 54 #[vg, vm, .int .i64 pl, .int .i64 part] w (Ret w fun u _ => u = .tuple #[.slice none 0 0, .int .i64 2]) := by
 have HG := Lib.hid hg; have HM := Lib.hid hm; have HS := Lib.hid hsm; have HBB := Lib.hid hb; have HE0 := Lib.hid h0; have HFT := Lib.hid hf;have hn100 := hsm.nodes;obtain ⟨vn, vi, rfl, ⟨A, c, rfl, hc, _⟩, ⟨Ai, ci, rfl, hci, _⟩⟩ := hg;clear hm hsm hb hf h0;go_enter Tryz.func54, Tryz.ntmps54;go_wp2_with fail
 obtain ⟨W, hW, rx, hB, hz⟩ := aC w 25 #[.int .i64 g.ak, .slice A g.nodes.length c, .slice Ai g.infos.length ci];rw [← hW];clear hW;have hz2 := hB.size;replace HG := Lib.hid (HG.out.on (Below.same' hB F)); replace HM := Lib.hid (Ae.below HM.out hB);have x0 := rx.cell (i := 0) rfl; have x1 := rx.cell (i := 1) rfl; have x2 := rx.cell (i := 2) rfl;clear rx;go_wp2_with fail
 refine (mJ W F _ _ g (m.map (List.map au)) HG.out HS.out HM.out (by rw [List.length_map]; exact hlm) HBB.out).mono ?_;rintro e w1 ⟨u, rfl, hb1, rfl⟩;rw [HE0.out];replace x0 := ah x0 hb1; replace x1 := ah x1 hb1; replace x2 := ah x2 hb1;replace HG := Lib.hid (HG.out.on (Below.same' hb1 F)); replace HM := Lib.hid (Ae.below HM.out hb1);have hB1 := hB.trans (hb1.mono hB.size);have hz3 := hb1.size;clear hb1 hB;dsimp only;rcases Classical.em (pl < 0) with h3 | h3
 ·have t3 : decide (pl < 0) = true := decide_eq_true h3;go_wp2; go_ret2
  exact ⟨_, rfl, hB1, rfl⟩
 ·have t3 : decide (pl < 0) = false := decide_eq_false h3;have t4 : decide (g.ak ≤ pl) = true := decide_eq_true (hpl.resolve_left h3);go_wp2; go_ret2
  exact ⟨_, rfl, hB1, rfl⟩
set_option maxRecDepth 100000 in
set_option maxHeartbeats 3200000 in
theorem agG (w : World) (F : Ac) (vg vm : Value) (g : Gm) (m : List (List Rat)) (pl : Int) (hg : Aj w F vg g) (hsm : Small g) (hm : AB w F vm m) (hlm : m.length ≤ 100000) (hb : AA (m.map (List.map au))) (h0 : bn g (m.map (List.map au)) = 0) (hf : Fit g m) (hpl : 0 ≤ pl) (hpl2 : pl < g.ak) :
  Calls Tryz.prog 14 #[vg, vm, .int .i64 pl] w (Ret w (Bc F w.heap.size (lq (gG (ownB pl) g m)) (fitsV (gG (ownB pl) g m)))) := by
 have HG := Lib.hid hg; have HM := Lib.hid hm; have HS := Lib.hid hsm; have HBB := Lib.hid hb; have HE0 := Lib.hid h0; have HFT := Lib.hid hf;obtain ⟨vn, vi, rfl, ⟨A, c, rfl, hc, _⟩, ⟨Ai, ci, rfl, hci, _⟩⟩ := hg;clear hm hsm hb h0 hf;go_enter Tryz.func14, Tryz.ntmps14;go_wp2_with fail
 obtain ⟨W, hW, rx, hB, hz⟩ := aC w 25 #[.int .i64 g.ak, .slice A g.nodes.length c, .slice Ai g.infos.length ci];rw [← hW];clear hW;have hz2 := hB.size;replace HG := Lib.hid (HG.out.on (Below.same' hB F)); replace HM := Lib.hid (Ae.below HM.out hB);have x0 := rx.cell (i := 0) rfl; have x1 := rx.cell (i := 1) rfl; have x2 := rx.cell (i := 2) rfl;clear rx;go_wp2_with fail
 refine (ab2 W F _ _ g m pl 1 (ownB pl) HG.out HS.out HM.out hlm HBB.out HE0.out HFT.out hpl hpl2 (cnt1 pl) (wL pl)).mono ?_;rintro e w1 ⟨u, rfl, hb1, t, rfl, ht⟩;have HTT := Lib.hid (ht.keep (G := Ext F w.heap.size) (fun b hb _ => Ext.mono (by omega) hb) (Same.refl _ _)); clear ht;have hB1 := hB.trans (hb1.mono hB.size);clear hb1 hB;dsimp only;go_wp2; go_ret2
 exact ⟨_, rfl, hB1, _, rfl, HTT.out⟩
set_option maxRecDepth 100000 in
set_option maxHeartbeats 3200000 in
theorem adh (w : World) (F : Ac) (vg vm : Value) (g : Gm) (m : List (List Rat)) (pl : Int) (hg : Aj w F vg g) (hsm : Small g) (hm : AB w F vm m) (hlm : m.length ≤ 100000) (hb : AA (m.map (List.map au))) (h0 : bn g (m.map (List.map au)) = 0) (hf : Fit g m) (hpl : 0 ≤ pl) (hpl2 : pl < g.ak) :
  Calls Tryz.prog 16 #[vg, vm, .int .i64 pl] w (Ret w (Bc F w.heap.size (lq (gG (gu pl) g m)) (fitsV (gG (gu pl) g m)))) := by
 have HG := Lib.hid hg; have HM := Lib.hid hm; have HS := Lib.hid hsm; have HBB := Lib.hid hb; have HE0 := Lib.hid h0; have HFT := Lib.hid hf;obtain ⟨vn, vi, rfl, ⟨A, c, rfl, hc, _⟩, ⟨Ai, ci, rfl, hci, _⟩⟩ := hg;clear hm hsm hb h0 hf;go_enter Tryz.func16, Tryz.ntmps16;go_wp2_with fail
 obtain ⟨W, hW, rx, hB, hz⟩ := aC w 25 #[.int .i64 g.ak, .slice A g.nodes.length c, .slice Ai g.infos.length ci];rw [← hW];clear hW;have hz2 := hB.size;replace HG := Lib.hid (HG.out.on (Below.same' hB F)); replace HM := Lib.hid (Ae.below HM.out hB);have x0 := rx.cell (i := 0) rfl; have x1 := rx.cell (i := 1) rfl; have x2 := rx.cell (i := 2) rfl;clear rx;go_wp2_with fail
 refine (ab2 W F _ _ g m pl 2 (gu pl) HG.out HS.out HM.out hlm HBB.out HE0.out HFT.out hpl hpl2 (cnt2 pl) (oU pl)).mono ?_;rintro e w1 ⟨u, rfl, hb1, t, rfl, ht⟩;have HTT := Lib.hid (ht.keep (G := Ext F w.heap.size) (fun b hb _ => Ext.mono (by omega) hb) (Same.refl _ _)); clear ht;have hB1 := hB.trans (hb1.mono hB.size);clear hb1 hB;dsimp only;go_wp2; go_ret2
 exact ⟨_, rfl, hB1, _, rfl, HTT.out⟩
set_option maxRecDepth 100000 in
set_option maxHeartbeats 3200000 in
theorem afU (w : World) (F : Ac) (vg vm : Value) (g : Gm) (m : List (List Raw)) (pl : Int) (hg : Aj w F vg g) (hsm : Small g) (hm : Ae w F vm m) (hlm : m.length ≤ 100000) (hb : AA m) (h0 : bn g m ≠ 0) :
  Calls Tryz.prog 14 #[vg, vm, .int .i64 pl] w (Ret w fun u _ => u = .tuple #[.slice none 0 0, .int .i64 (bn g m)]) := by
 have HG := Lib.hid hg; have HM := Lib.hid hm; have HS := Lib.hid hsm; have HBB := Lib.hid hb; have HE0 := Lib.hid h0;obtain ⟨vn, vi, rfl, ⟨A, c, rfl, hc, _⟩, ⟨Ai, ci, rfl, hci, _⟩⟩ := hg;clear hm hsm hb h0;go_enter Tryz.func14, Tryz.ntmps14;go_wp2_with fail
 obtain ⟨W, hW, rx, hB, hz⟩ := aC w 25 #[.int .i64 g.ak, .slice A g.nodes.length c, .slice Ai g.infos.length ci];rw [← hW];clear hW;have hz2 := hB.size;replace HG := Lib.hid (HG.out.on (Below.same' hB F)); replace HM := Lib.hid (Ae.below HM.out hB);have x0 := rx.cell (i := 0) rfl; have x1 := rx.cell (i := 1) rfl; have x2 := rx.cell (i := 2) rfl;clear rx;go_wp2_with fail
 refine (aac W F _ _ g m pl 1 HG.out HS.out HM.out hlm HBB.out HE0.out).mono ?_;rintro e w1 ⟨u, rfl, hb1, rfl⟩;have hB1 := hB.trans (hb1.mono hB.size);clear hb1 hB;dsimp only;go_wp2; go_ret2
 exact ⟨_, rfl, hB1, rfl⟩
set_option maxRecDepth 100000 in
set_option maxHeartbeats 3200000 in
theorem ab3 (w : World) (F : Ac) (vg vm : Value) (g : Gm) (m : List (List Raw)) (pl : Int) (hg : Aj w F vg g) (hsm : Small g) (hm : Ae w F vm m) (hlm : m.length ≤ 100000) (hb : AA m) (h0 : bn g m ≠ 0) :
  Calls Tryz.prog 16 #[vg, vm, .int .i64 pl] w (Ret w fun u _ => u = .tuple #[.slice none 0 0, .int .i64 (bn g m)]) := by
 have HG := Lib.hid hg; have HM := Lib.hid hm; have HS := Lib.hid hsm; have HBB := Lib.hid hb; have HE0 := Lib.hid h0;obtain ⟨vn, vi, rfl, ⟨A, c, rfl, hc, _⟩, ⟨Ai, ci, rfl, hci, _⟩⟩ := hg;clear hm hsm hb h0;go_enter Tryz.func16, Tryz.ntmps16;go_wp2_with fail
 obtain ⟨W, hW, rx, hB, hz⟩ := aC w 25 #[.int .i64 g.ak, .slice A g.nodes.length c, .slice Ai g.infos.length ci];rw [← hW];clear hW;have hz2 := hB.size;replace HG := Lib.hid (HG.out.on (Below.same' hB F)); replace HM := Lib.hid (Ae.below HM.out hB);have x0 := rx.cell (i := 0) rfl; have x1 := rx.cell (i := 1) rfl; have x2 := rx.cell (i := 2) rfl;clear rx;go_wp2_with fail
 refine (aac W F _ _ g m pl 2 HG.out HS.out HM.out hlm HBB.out HE0.out).mono ?_;rintro e w1 ⟨u, rfl, hb1, rfl⟩;have hB1 := hB.trans (hb1.mono hB.size);clear hb1 hB;dsimp only;go_wp2; go_ret2
 exact ⟨_, rfl, hB1, rfl⟩
set_option maxRecDepth 100000 in
set_option maxHeartbeats 3200000 in
theorem afV (w : World) (F : Ac) (vg vm : Value) (g : Gm) (m : List (List Rat)) (pl : Int) (hg : Aj w F vg g) (hsm : Small g) (hm : AB w F vm m) (hlm : m.length ≤ 100000) (hb : AA (m.map (List.map au))) (h0 : bn g (m.map (List.map au)) = 0) (hf : Fit g m) (hpl : pl < 0 ∨ g.ak ≤ pl) :
  Calls Tryz.prog 14 #[vg, vm, .int .i64 pl] w (Ret w fun u _ => u = .tuple #[.slice none 0 0, .int .i64 2]) := by
 have HG := Lib.hid hg; have HM := Lib.hid hm; have HS := Lib.hid hsm; have HBB := Lib.hid hb; have HE0 := Lib.hid h0; have HFT := Lib.hid hf;obtain ⟨vn, vi, rfl, ⟨A, c, rfl, hc, _⟩, ⟨Ai, ci, rfl, hci, _⟩⟩ := hg;clear hm hsm hb h0 hf;go_enter Tryz.func14, Tryz.ntmps14;go_wp2_with fail
 obtain ⟨W, hW, rx, hB, hz⟩ := aC w 25 #[.int .i64 g.ak, .slice A g.nodes.length c, .slice Ai g.infos.length ci];rw [← hW];clear hW;have hz2 := hB.size;replace HG := Lib.hid (HG.out.on (Below.same' hB F)); replace HM := Lib.hid (Ae.below HM.out hB);have x0 := rx.cell (i := 0) rfl; have x1 := rx.cell (i := 1) rfl; have x2 := rx.cell (i := 2) rfl;clear rx;go_wp2_with fail
 refine (aad W F _ _ g m pl 1 HG.out HS.out HM.out hlm HBB.out HE0.out HFT.out hpl).mono ?_;rintro e w1 ⟨u, rfl, hb1, rfl⟩;have hB1 := hB.trans (hb1.mono hB.size);clear hb1 hB;dsimp only;go_wp2; go_ret2
 exact ⟨_, rfl, hB1, rfl⟩
set_option maxRecDepth 100000 in
set_option maxHeartbeats 3200000 in
theorem ab4 (w : World) (F : Ac) (vg vm : Value) (g : Gm) (m : List (List Rat)) (pl : Int) (hg : Aj w F vg g) (hsm : Small g) (hm : AB w F vm m) (hlm : m.length ≤ 100000) (hb : AA (m.map (List.map au))) (h0 : bn g (m.map (List.map au)) = 0) (hf : Fit g m) (hpl : pl < 0 ∨ g.ak ≤ pl) :
  Calls Tryz.prog 16 #[vg, vm, .int .i64 pl] w (Ret w fun u _ => u = .tuple #[.slice none 0 0, .int .i64 2]) := by
 have HG := Lib.hid hg; have HM := Lib.hid hm; have HS := Lib.hid hsm; have HBB := Lib.hid hb; have HE0 := Lib.hid h0; have HFT := Lib.hid hf;obtain ⟨vn, vi, rfl, ⟨A, c, rfl, hc, _⟩, ⟨Ai, ci, rfl, hci, _⟩⟩ := hg;clear hm hsm hb h0 hf;go_enter Tryz.func16, Tryz.ntmps16;go_wp2_with fail
 obtain ⟨W, hW, rx, hB, hz⟩ := aC w 25 #[.int .i64 g.ak, .slice A g.nodes.length c, .slice Ai g.infos.length ci];rw [← hW];clear hW;have hz2 := hB.size;replace HG := Lib.hid (HG.out.on (Below.same' hB F)); replace HM := Lib.hid (Ae.below HM.out hB);have x0 := rx.cell (i := 0) rfl; have x1 := rx.cell (i := 1) rfl; have x2 := rx.cell (i := 2) rfl;clear rx;go_wp2_with fail
 refine (aad W F _ _ g m pl 2 HG.out HS.out HM.out hlm HBB.out HE0.out HFT.out hpl).mono ?_;rintro e w1 ⟨u, rfl, hb1, rfl⟩;have hB1 := hB.trans (hb1.mono hB.size);clear hb1 hB;dsimp only;go_wp2; go_ret2
 exact ⟨_, rfl, hB1, rfl⟩
end Go.Proofs.YtkcheepafifjaaaGreatDoor
