/- the two Parts answer alike -/
import Derived.Test.YtafjdoedallnbaaJ30
import Derived.Test.YtafjdoedallnbaaJ24
namespace Go.Proofs.Ytafjdoedallnbaa
theorem names_eq {g : Gm} (hg : Good g) {r : Nat} (hr : r < g.nodes.length) : partNames g (r : Int) = setsInL g [(r : Int)] := by
 obtain ⟨_, _, _, hy, _⟩ := part_end hg hr
 have hu := under_one hg hr hy
 unfold partNames setsInL someL
 have hl : (setsL g).length = g.infos.length := setsTo_length _ _ _
 rw [hl, Int.toNat_natCast, List.getD_eq_getElem?_getD, hy]
 unfold someTo setsInTo
 congr 1
 apply List.filter_congr
 intro p hp
 have hm : p.1 ∈ setsL g := by
  have h1 : p.1 ∈ (setsL g).take g.infos.length := (List.mem_zipIdx hp).2.2 ▸ List.getElem_mem _
  exact List.mem_of_mem_take h1
 rw [many_any, Bool.eq_iff_iff]
 simp only [List.any_eq_true]
 have hx : ∀ x ∈ p.1, inPart (r : Int) (Option.getD (some ((endOf g (r : Int) : Int) - 1)) 0) x = inAt (underL g.nodes [(r : Int)]) x := by
  intro x hx
  obtain ⟨h0, h1⟩ := setsTo_in (Nat.le_refl _) p.1 hm x hx
  obtain ⟨z, rfl⟩ := Int.eq_ofNat_of_zero_le h0
  unfold inAt
  rw [Int.toNat_natCast, hu z]
  rfl
 constructor
 ·rintro ⟨x, h1, h2⟩; exact ⟨x, h1, by rw [← hx x h1]; exact h2⟩
 ·rintro ⟨x, h1, h2⟩; exact ⟨x, h1, by rw [hx x h1]; exact h2⟩
theorem partErr_eq (g : Gm) (node : Int) : partErr g node = partErrR g node := by
 unfold partErr partErrR
 by_cases h : formL g = 0
 ·have hf : ¬ formL g ≠ 0 := by simpa using h
  simp only [if_neg hf]
  have hg := good_of h
  by_cases hb : hasB g.nodes.length node = true
  ·simp only [if_pos hb]
   unfold hasB at hb
   simp at hb
   obtain ⟨r, rfl⟩ := Int.eq_ofNat_of_zero_le hb.1
   rw [alone_closed hg (by omega)]
  ·simp only [if_neg hb]
 ·have hf : formL g ≠ 0 := h
  simp only [if_pos hf]
theorem part_good {g : Gm} {node : Int} (h : partErr g node = 0) : Good g ∧ ∃ r : Nat, node = r ∧ r < g.nodes.length := by
 unfold partErr at h
 by_cases hf : formL g = 0
 ·refine ⟨good_of hf, ?_⟩
  rw [if_neg (by simpa using hf)] at h
  by_cases hb : hasB g.nodes.length node = true
  ·unfold hasB at hb
   simp at hb
   obtain ⟨r, rfl⟩ := Int.eq_ofNat_of_zero_le hb.1
   exact ⟨r, rfl, by omega⟩
  ·rw [if_neg hb] at h; omega
 ·rw [if_pos (by simpa using hf)] at h; exact absurd h hf
theorem partGm_eq {g : Gm} {node : Int} (h : partErr g node = 0) : partNames g node = setsInL g [node] ∧ partGm g node = fromGm g node (setsInL g [node]) (endOf g node) := by
 obtain ⟨hg, r, rfl, hr⟩ := part_good h
 have hn := names_eq hg hr
 refine ⟨hn, ?_⟩
 obtain ⟨_, _, hs, _⟩ := part_end hg hr
 have hp := preL_range hs g.nodes.length (by omega)
 simp only [List.flatMap_cons, List.flatMap_nil, List.append_nil, Int.toNat_natCast] at hp
 unfold partGm fromGm
 rw [Int.toNat_natCast, hp, hn]
theorem partRes_eq {B : Nat} {g : Gm} {node : Int} {v : Value} {w' : World} (h : PartResR B g node v w') : PartRes B g node v w' := by
 unfold PartResR at h
 unfold PartRes
 rw [← partErr_eq] at h
 by_cases h0 : partErr g node = 0
 ·simp only [if_pos h0] at h ⊢
  obtain ⟨h1, h2⟩ := partGm_eq h0
  rw [h1, h2]
  exact h
 ·simp only [if_neg h0] at h ⊢
  exact h
def partG (g : Gm) (node : Int) : Gm := if partErr g node = 0 then partGm g node else noGm
def partN (g : Gm) (node : Int) : List Int := if partErr g node = 0 then partNames g node else []
theorem partN_short {g : Gm} (hsm : Small g) (node : Int) : (partN g node).length ≤ 100 := by
 unfold partN
 split
 ·have h1 := someTo_length (inPart node ((lookL g.nodes).2.getD node.toNat 0)) (setsL g) (setsL g).length
  have h2 : (setsL g).length = g.infos.length := setsTo_length _ _ _
  have h3 := hsm.infos
  unfold partNames someL
  omega
 ·simp
theorem partG_small {g : Gm} (hsm : Small g) (node : Int) : Small (partG g node) := by
 have hN := partN_short hsm node
 unfold partN at hN
 unfold partG
 split
 ·rename_i h
  rw [if_pos h] at hN
  obtain ⟨hg, r, rfl, hr⟩ := part_good h
  obtain ⟨h1, h2⟩ := partGm_eq h
  obtain ⟨_, he, _⟩ := part_end hg hr
  have hn := hsm.nodes
  have key : ∀ n ∈ (partGm g (r : Int)).nodes, n.next.length ≤ 100 ∧ n.weights.length ≤ 100 ∧ n.pay.length ≤ 100 := by
   intro n hm
   obtain ⟨i, _, rfl⟩ := List.mem_map.1 hm
   unfold movedAt
   cases hx : g.nodes[i]? with
   | none => simp
   | some x =>
    have hm := List.mem_of_getElem? hx
    exact ⟨by simp [movedNode]; exact hsm.next x hm, hsm.weights x hm, hsm.pay x hm⟩
  refine ⟨?_, ?_, fun n hn => (key n hn).1, fun n hn => (key n hn).2.1, fun n hn => (key n hn).2.2⟩
  ·rw [h2]; simp [fromGm]; omega
  ·simp [partGm]; omega
 ·exact ⟨by simp [noGm], by simp [noGm], by simp [noGm], by simp [noGm], by simp [noGm]⟩
end Go.Proofs.Ytafjdoedallnbaa
