/- value.Value. -/
import Derived.Test.YtkcheepafifjaaaGreatDoorS42
import Derived.Test.YtkcheepafifjaaaGreatDoorS38
set_option linter.all false
namespace Go.Proofs.YtkcheepafifjaaaGreatDoor
open Go.RowKit
abbrev afR (g : Gm) (m : List (List Rat)) : List (List Rat) := (List.range g.nodes.length).map (eY g m)
theorem afS {g : Gm} {m : List (List Rat)} (hf : Fit g m) : ∀ r ∈ afR g m, r.length ≤ 4 ∧ ∀ x ∈ r, rl x ≤ 1 + 7 * g.nodes.length := by
 intro r hr;obtain ⟨c, hc, rfl⟩ := List.mem_map.1 hr;have hc' := List.mem_range.1 hc;have hp := hf.ak;refine ⟨?_, hf.acL hc'⟩;rw [hf.kL _ _ (Nat.le_refl _) hc']; omega
theorem yI {g : Gm} {m : List (List Rat)} (hf : Fit g m) : (afR g m)[0]? = some (eY g m 0) := by
 rw [List.getElem?_map, List.getElem?_range hf.good.pos]; rfl
set_option maxRecDepth 100000 in
set_option maxHeartbeats 400000 in
theorem aeH (w : World) (F : Ac) (vg vm : Value) (g : Gm) (m : List (List Rat)) (hg : Aj w F vg g) (hsm : Small g) (hm : AB w F vm m) (hT : AO w) (hlm : m.length ≤ 100000) (hb : AA (m.map (List.map au))) (h0 : bn g (m.map (List.map au)) = 0) (hf : Fit g m) :
  Calls Tryz.prog 22 #[vg, vm] w (Ret w (Bc F w.heap.size (lq (eY g m 0)) (fitsV (eY g m 0)))) := by
 have HG := Lib.hid hg; have HM := Lib.hid hm; have HS := Lib.hid hsm; have HT := Lib.hid hT; have HBB := Lib.hid hb; have HE0 := Lib.hid h0;have hn100 := hsm.nodes;obtain ⟨vn, vi, rfl, ⟨A, c, rfl, hc, _⟩, ⟨Ai, ci, rfl, hci, _⟩⟩ := hg;clear hm hsm hT hb;have HFT := Lib.hid hf; clear hf h0;have hpos : 0 < g.nodes.length := HFT.out.good.pos;obtain ⟨r0, hr0⟩ : ∃ r0, r0 = eY g m 0 := ⟨_, rfl⟩;have HRL := Lib.hid (afS HFT.out _ (List.mem_of_getElem? (yI HFT.out)));have HZ := Lib.hid (yI HFT.out);rw [← hr0] at HRL HZ ⊢;clear hr0;have hrl : r0.length ≤ 100000 := by have := HRL.out.1; omega
 go_enter Tryz.func22, Tryz.ntmps22;go_wp2_with fail
 obtain ⟨W, hW, rx, hB, hz⟩ := aC w 25 #[.int .i64 g.ak, .slice A g.nodes.length c, .slice Ai g.infos.length ci];rw [← hW];clear hW;have hz2 := hB.size;replace HG := Lib.hid (HG.out.on (Below.same' hB F)); replace HM := Lib.hid (Ae.below HM.out hB); replace HT := Lib.hid (HT.out.on hB);have x0 := rx.cell (i := 0) rfl; have x1 := rx.cell (i := 1) rfl; have x2 := rx.cell (i := 2) rfl;clear rx;go_wp2_with fail
 refine (nX W F _ _ g m HG.out HS.out HM.out HT.out hlm HBB.out HE0.out).mono ?_;rintro e w1 ⟨u, rfl, hb1, bp, up, place, vn', vi', vu', vp', rfl, hpl', uY⟩;have hB1 := hB.trans (hb1.mono hB.size);have hz3 := hb1.size;have HP := Lib.hid hpl'; have CQ := Lib.hid uY;clear hpl' uY hb1 hB x0 x1 x2;dsimp only;go_wp2_with fail
 refine (ac8 w1 (Ext F W.heap.size) bp g m up place vn' vi' vu' vp' _ HP.out CQ.out HFT.out hn100 hlm).mono ?_;rintro e w2 ⟨u, rfl, hb2, ⟨b2, rfl⟩, hu⟩;have hB2 := hB1.trans (hb2.mono hB1.size);have hz4 := hb2.size;obtain ⟨A2, c2, hv2, _, hcell⟩ := hu;have hv3 := hv2;injection hv3 with hA hlen hcc
 obtain ⟨b3, o3, hbo, hFb, hlt3, hcells⟩ := hcell (by rw [← hlen]; exact hpos);rw [← hA] at hbo;injection hbo with hbo'
 injection hbo' with hb3 ho3
 have hrow0 : ((afR g m).map (List.map aj))[0]? = some (r0.map aj) := by rw [List.getElem?_map, HZ.out]; rfl
 obtain ⟨vr, hvr, hrr⟩ := hcells 0 _ hrow0;subst hb3 ho3;simp only [Nat.zero_mul, Nat.add_zero] at hvr;have HU := Lib.hid hrr;obtain ⟨Ar, cr, rfl, _, _⟩ := hrr;rw [List.length_map] at hvr HU;have hlm0 : 0 < g.nodes.length := hpos;clear hcells hcell hv2 hA hlen hcc hFb hlt3 hrow0 hb2 hB1;dsimp only;go_wp2_with fail
 refine (tK w2 _ _ r0 HU.out hrl (fun x hx => by have := HRL.out.2 x hx; omega)).mono ?_;rintro e w3 ⟨u, rfl, hb3, t, rfl, ht⟩;have hB3 := hB2.trans (hb3.mono hB2.size);have HTT := Lib.hid (ht.keep (G := Ext F w.heap.size) (fun b hb _ => .inr (by omega)) (Same.refl _ _));clear ht hb3 hB2;dsimp only;go_wp2
 go_ret2;exact ⟨_, rfl, hB3, _, rfl, HTT.out⟩
set_option maxRecDepth 100000 in
set_option maxHeartbeats 400000 in
theorem ahv (w : World) (F : Ac) (vg vm : Value) (g : Gm) (m : List (List Raw)) (hg : Aj w F vg g) (hsm : Small g) (hm : Ae w F vm m) (hT : AO w) (hlm : m.length ≤ 100000) (hb : AA m) (h0 : bn g m ≠ 0) :
  Calls Tryz.prog 22 #[vg, vm] w (Ret w fun u _ => u = .tuple #[.slice none 0 0, .int .i64 (bn g m)]) := by
 have HG := Lib.hid hg; have HM := Lib.hid hm; have HS := Lib.hid hsm; have HT := Lib.hid hT; have HBB := Lib.hid hb; have HE0 := Lib.hid h0;have hn100 := hsm.nodes;obtain ⟨vn, vi, rfl, ⟨A, c, rfl, hc, _⟩, ⟨Ai, ci, rfl, hci, _⟩⟩ := hg;clear hm hsm hT hb;obtain ⟨fe, hfe⟩ : ∃ fe, fe = bn g m := ⟨_, rfl⟩;have HFE := Lib.hid hfe;rw [← hfe] at h0 ⊢;clear hfe;have t0 : decide (fe = 0) = false := decide_eq_false h0;go_enter Tryz.func22, Tryz.ntmps22;go_wp2_with fail
 obtain ⟨W, hW, rx, hB, hz⟩ := aC w 25 #[.int .i64 g.ak, .slice A g.nodes.length c, .slice Ai g.infos.length ci];rw [← hW];clear hW;have hz2 := hB.size;replace HG := Lib.hid (HG.out.on (Below.same' hB F)); replace HM := Lib.hid (Ae.below HM.out hB); replace HT := Lib.hid (HT.out.on hB);have x0 := rx.cell (i := 0) rfl; have x1 := rx.cell (i := 1) rfl; have x2 := rx.cell (i := 2) rfl;clear rx;go_wp2_with fail
 refine (qL W F _ _ g m HG.out HS.out HM.out HT.out hlm HBB.out HE0.out).mono ?_;rintro e w1 ⟨u, rfl, hb1, rfl⟩;rw [← HFE.out];have hB1 := hB.trans (hb1.mono hB.size);clear hb1 hB;dsimp only;go_wp2; go_ret2
 exact ⟨_, rfl, hB1, rfl⟩
end Go.Proofs.YtkcheepafifjaaaGreatDoor
