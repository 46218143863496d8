/- Sums of natural numbers: wide.plus, aar.Plus. -/
import Derived.Test.YtkcheepafifjaaaGreatDoorS06
import Derived.Deep.CutRange
set_option linter.all false
namespace Go.Proofs.YtkcheepafifjaaaGreatDoor
open Go.RowKit
theorem ae2 {o : List Nat} {a b c : Nat} (ho : Limbs o) (hl : o.length = (dig a).length) (hc : c ≤ 1) (h : ay o + LB ^ (dig a).length * c = a + b) : dig (a + b) = if c = 0 then o else o ++ [c] := by
 split
 ·rename_i h0; subst h0
  rw [← h, Nat.mul_zero, Nat.add_zero];refine yZ ho fun hne => ?_
  rw [Nat.mul_zero, Nat.add_zero] at h;have h1 : a ≠ 0 := fun e => hne (List.eq_nil_of_length_eq_zero (by rw [hl, e, aW]; rfl))
  have := uo h1;rw [hl]; omega
 ·rename_i h0
  have hc1 : c = 1 := by omega
  subst hc1;rw [← h, ← hl, ← iU];exact nM (ho.concat (by decide)) (by rw [List.getLast?_concat]; intro e; cases e)
set_option maxRecDepth 100000 in
set_option maxHeartbeats 3200000 in
theorem adQ (w : World) (F : Ac) (va vb : Value) (a0 b0 : Nat) (ha : Ad w F va a0) (hb : Ad w F vb b0) (hla : (dig a0).length ≤ 100000) (hlb : (dig b0).length ≤ 100000) :
  Calls Tryz.prog 149 #[va, vb] w (Ret w fun v w' => Ad w' (fun b => w.heap.size ≤ b) v (a0 + b0)) := by
 have HA := Lib.hid ha; have HB := Lib.hid hb;obtain ⟨A, c, rfl, hc, hNa⟩ := ha;obtain ⟨B, d, rfl, hd, hNb⟩ := hb;clear hNa hNb;go_enter Tryz.func149, Tryz.ntmps149;go_upto_if 14 with fail
 go_cut [0, 1] from 15 to 16 (fun va vb wx => ∃ a b, w = wx ∧ Ad w F va a ∧ Ad w F vb b ∧ a + b = a0 + b0 ∧ (dig b).length ≤ (dig a).length ∧ (dig a).length ≤ 100000)
 case first =>
  by_cases h : (dig a0).length < (dig b0).length
  ·go_wp2_with fail
   go_meet
   exact ⟨b0, a0, rfl, HB.out, HA.out, by omega, by omega, hlb⟩
  ·have hdd : decide ((dig a0).length < (dig b0).length) = false := decide_eq_false h;go_wp2_with fail
   go_meet
   exact ⟨a0, b0, rfl, HA.out, HB.out, rfl, by omega, hla⟩
 case rest =>
 clear hc hd hla hlb HA HB;obtain ⟨a, b, rfl, ha, hb, hsum, hle, hla⟩ := hcut;have HE := Lib.hid hsum; clear hsum;obtain ⟨A, c, rfl, hc, hNa⟩ := ha;obtain ⟨B, d, rfl, hd, hNb⟩ := hb;have HA := Lib.hid hNa; have HB := Lib.hid hNb; clear hNa hNb;go_wp2_with (at_make; refine yO rfl _ _ 50 rfl Tryz.underlying50 ((dig a).length + 1) _ (by omega) rfl rfl (by omega) ?_; intro w1 hb1 hown1)
 have HO1 := Lib.hid hown1; clear hown1;go_loopw [5, 6, 23] (fun v cy i wr => ∃ (k : Nat) (l : List Nat) (cr : Nat), k ≤ (dig a).length ∧ i = .int .i64 k ∧ cy = .int .u32 (cr : Int) ∧ cr ≤ 1 ∧ l.length = k ∧ Limbs l ∧ ay l + LB ^ k * cr = ay ((dig a).take k) + ay ((dig b).take k) ∧
  wr.ownsRow w.heap.size 115 1 v l.length (aO l) ∧ Below w.heap.size w wr) (fun _ _ i _ => (dig a).length - (intOf i).toNat)
 case atStart => exact ⟨0, [], 0, by omega, rfl, rfl, by omega, rfl, (fun x hx => by cases hx), by simp [ay], HO1.out, hb1⟩
 case round =>
  obtain ⟨k, l, cr, hk, rfl, rfl, hcr, hlen, hlim, hinv, hown, hbel⟩ := hrel;have HL := Lib.hid hlen; have HI := Lib.hid hinv; have HO := Lib.hid hown; have HM := Lib.hid hlim;have hll : l.length ≤ 1000000 := by omega
  clear hlen hinv hown hlim;have hold := aJ hbel;by_cases hlt : k < (dig a).length
  ·obtain ⟨b1, o1, rfl, _, hb1', hx⟩ := HA.out (by omega);obtain ⟨x, hx'⟩ := aA hlt;have ex := hx k x hx';unfold bJ at ex; rw [Nat.mul_one] at ex;have hxl : x < 1000000000 := (aI a).get hx';have HX := Lib.hid (aF hx');clear hx hx';by_cases hlt2 : k < (dig b).length
   ·obtain ⟨b2, o2, rfl, _, hb2', hy⟩ := HB.out (by omega);obtain ⟨y, hy'⟩ := aA hlt2;have ey := hy k y hy';unfold bJ at ey; rw [Nat.mul_one] at ey;have hyl : y < 1000000000 := (aI b).get hy';have HY := Lib.hid (aF hy');clear hy hy';have hs : (∃ s, x + cr + y = s + 1000000000) ∨ x + cr + y < 1000000000 := by
     by_cases h : 1000000000 ≤ x + cr + y
     ·exact .inl ⟨x + cr + y - 1000000000, by omega⟩
     ·exact .inr (by omega)
    rcases hs with ⟨s, hs⟩ | hs
    ·have hdd : decide ((1000000000 : Int) ≤ (x : Int) + (cr : Int) + (y : Int)) = true := decide_eq_true (by omega);have hsI : (1000000000 : Int) ≤ (x : Int) + (cr : Int) + (y : Int) := by omega
     have HS := Lib.hid hs; clear hs;go_wp2_with (at_builtin; refine bH rfl _ _ 50 Tryz.underlying50 rfl w.heap.size (Nat.le_refl _) u5 l rfl _ (s) (by have := HS.out; omega) hll rfl HO.out hbel ?_; intro g cap w' hown' dD hlt' fF; have HO' := Lib.hid hown'; clear hown' fF)
     go_roundw
     case rel => exact ⟨k + 1, l ++ [s], 1, by omega, by go_num, rfl, by omega, by rw [List.length_append, HL.out]; rfl, HM.out.concat (by have := HS.out; show _ < 1000000000; omega), kR HL.out HI.out (by have := HS.out; rw [HX.out, HY.out]; show _ + 1000000000 * _ = _; omega), by simpa using HO'.out, dD⟩
     case measure => simp [intOf]; omega
    ·have hdd : decide ((1000000000 : Int) ≤ (x : Int) + (cr : Int) + (y : Int)) = false := decide_eq_false (by omega);go_wp2_with (at_builtin; refine bH rfl _ _ 50 Tryz.underlying50 rfl w.heap.size (Nat.le_refl _) u5 l rfl _ (x + cr + y) (by omega) hll rfl HO.out hbel ?_; intro g cap w' hown' dD hlt' fF; have HO' := Lib.hid hown'; clear hown' fF)
     go_roundw
     case rel => exact ⟨k + 1, l ++ [x + cr + y], 0, by omega, by go_num, rfl, by omega, by rw [List.length_append, HL.out]; rfl, HM.out.concat (by show _ < 1000000000; omega), kR HL.out HI.out (by rw [HX.out, HY.out]; show _ + 1000000000 * _ = _; omega), by simpa using HO'.out, dD⟩
     case measure => simp [intOf]; omega
   ·have hdd : decide (k < (dig b).length) = false := decide_eq_false hlt2;have HY := Lib.hid (bZ (l := dig b) (k := k) (by omega));have hs : (∃ s, x + cr = s + 1000000000) ∨ x + cr < 1000000000 := by
     by_cases h : 1000000000 ≤ x + cr
     ·exact .inl ⟨x + cr - 1000000000, by omega⟩
     ·exact .inr (by omega)
    rcases hs with ⟨s, hs⟩ | hs
    ·have hdd : decide ((1000000000 : Int) ≤ (x : Int) + (cr : Int)) = true := decide_eq_true (by omega);have hsI : (1000000000 : Int) ≤ (x : Int) + (cr : Int) := by omega
     have HS := Lib.hid hs; clear hs;go_wp2_with (at_builtin; refine bH rfl _ _ 50 Tryz.underlying50 rfl w.heap.size (Nat.le_refl _) u5 l rfl _ (s) (by have := HS.out; omega) hll rfl HO.out hbel ?_; intro g cap w' hown' dD hlt' fF; have HO' := Lib.hid hown'; clear hown' fF)
     go_roundw
     case rel => exact ⟨k + 1, l ++ [s], 1, by omega, by go_num, rfl, by omega, by rw [List.length_append, HL.out]; rfl, HM.out.concat (by have := HS.out; show _ < 1000000000; omega), kR HL.out HI.out (by have := HS.out; rw [HX.out, HY.out]; show _ + 1000000000 * _ = _; omega), by simpa using HO'.out, dD⟩
     case measure => simp [intOf]; omega
    ·have hdd : decide ((1000000000 : Int) ≤ (x : Int) + (cr : Int)) = false := decide_eq_false (by omega);go_wp2_with (at_builtin; refine bH rfl _ _ 50 Tryz.underlying50 rfl w.heap.size (Nat.le_refl _) u5 l rfl _ (x + cr) (by omega) hll rfl HO.out hbel ?_; intro g cap w' hown' dD hlt' fF; have HO' := Lib.hid hown'; clear hown' fF)
     go_roundw
     case rel => exact ⟨k + 1, l ++ [x + cr], 0, by omega, by go_num, rfl, by omega, by rw [List.length_append, HL.out]; rfl, HM.out.concat (by show _ < 1000000000; omega), kR HL.out HI.out (by rw [HX.out, HY.out]; show _ + 1000000000 * _ = _; omega), by simpa using HO'.out, dD⟩
     case measure => simp [intOf]; omega
  ·have hke : k = (dig a).length := by omega
   have hF : dig (a0 + b0) = if cr = 0 then l else l ++ [cr] := by
    rw [← HE.out];refine ae2 HM.out (HL.out.trans hke) hcr ?_;have := HI.out;rw [hke, List.take_length, List.take_of_length_le hle, aS, aS] at this;exact this
   clear hke;by_cases h0 : cr = 0
   ·rw [if_pos h0] at hF;have HF := Lib.hid hF; clear hF;subst h0;go_wp2
    go_ret;refine ⟨_, rfl, hbel, ?_⟩;unfold Ad; rw [HF.out];exact ig HO.out fun b hb => (HO.out.lt b hb).1
   ·rw [if_neg h0] at hF;have HF := Lib.hid hF; clear hF;have h0' : 0 < cr := by omega
    clear h0;obtain rfl : cr = 1 := by omega
    go_wp2_with (at_builtin; refine bH rfl _ _ 50 Tryz.underlying50 rfl w.heap.size (Nat.le_refl _) u5 l rfl _ 1 rfl hll rfl HO.out hbel ?_; intro g cap w' hown' dD hlt' fF; have HO' := Lib.hid hown'; clear hown' fF)
    go_ret;refine ⟨_, rfl, dD, ?_⟩;unfold Ad; rw [HF.out];exact ig (by simpa using HO'.out) fun b hb => (HO'.out.lt b hb).1
set_option maxRecDepth 100000 in
set_option maxHeartbeats 3200000 in
theorem adR (w : World) (F : Ac) (va vb : Value) (a b : Nat) (ha : Ad w F va a) (hb : Ad w F vb b) (hla : (dig a).length ≤ 100000) (hlb : (dig b).length ≤ 100000) :
  Calls Tryz.prog 71 #[va, vb] w (Ret w fun v w' => Ad w' (fun b => w.heap.size ≤ b) v (a + b)) := by
 obtain ⟨A, c, rfl, hc, hNa⟩ := ha;obtain ⟨B, d, rfl, hd, hNb⟩ := hb;have HA := Lib.hid hNa; have HB := Lib.hid hNb; clear hNa hNb;obtain ⟨M, hM, hMa, hMb⟩ : ∃ M, (M = (dig a).length ∨ M = (dig b).length) ∧ (dig a).length ≤ M ∧ (dig b).length ≤ M := by
  rcases Nat.le_total (dig a).length (dig b).length with h | h
  ·exact ⟨_, .inr rfl, h, Nat.le_refl _⟩
  ·exact ⟨_, .inl rfl, Nat.le_refl _, h⟩
 have hM1 : M ≤ 100000 := by omega
 have HMM := Lib.hid hM; clear hM;go_enter Tryz.func71, Tryz.ntmps71;go_wp2
 go_loopw [5, 6, 7] (fun v cy i wr => ∃ (k : Nat) (l : List Nat) (cr : Nat), k ≤ M + 1 ∧ i = .int .i64 k ∧ cy = .int .u32 (cr : Int) ∧ cr ≤ 1 ∧ (k = M + 1 → cr = 0 ∧ LB ^ M ≤ ay l) ∧ l.length = k ∧ Limbs l ∧ ay l + LB ^ k * cr = ay ((dig a).take k) + ay ((dig b).take k) ∧
  wr.ownsRow w.heap.size 115 1 v l.length (aO l) ∧ Below w.heap.size w wr) (fun _ _ i _ => M + 1 - (intOf i).toNat)
 case atStart => exact ⟨0, [], 0, by omega, rfl, rfl, by omega, by omega, rfl, (fun x hx => by cases hx), by simp [ay], World.ownsRow_nil _ _ _ _, Below.refl _ _⟩
 case round =>
  obtain ⟨k, l, cr, hk, rfl, rfl, hcr, hend, hlen, hlim, hinv, hown, hbel⟩ := hrel;have HL := Lib.hid hlen; have HI := Lib.hid hinv; have HO := Lib.hid hown; have HM := Lib.hid hlim;have hll : l.length ≤ 1000000 := by omega
  have HEN := Lib.hid hend;clear hlen hinv hown hlim;have hold := aJ hbel;by_cases hgo : k < (dig a).length ∨ k < (dig b).length ∨ 0 < cr
  ·have hkM : k ≤ M := by
    rcases Nat.lt_or_ge M k with h | h
    ·have := (hend (by omega)).1; omega
    ·exact h
   clear hend;by_cases hlt : k < (dig a).length
   ·clear hgo;obtain ⟨b1, o1, rfl, _, hb1', hx⟩ := HA.out (by omega);obtain ⟨x, hx'⟩ := aA hlt;have ex := hx k x hx';unfold bJ at ex; rw [Nat.mul_one] at ex;have hxl : x < 1000000000 := (aI a).get hx';have HX := Lib.hid (aF hx');clear hx hx';by_cases hlt2 : k < (dig b).length
    ·obtain ⟨b2, o2, rfl, _, hb2', hy⟩ := HB.out (by omega);obtain ⟨y, hy'⟩ := aA hlt2;have ey := hy k y hy';unfold bJ at ey; rw [Nat.mul_one] at ey;have hyl : y < 1000000000 := (aI b).get hy';have HY := Lib.hid (aF hy');clear hy hy';go_wp2_with (at_builtin; refine bH rfl _ _ 51 Tryz.underlying51 rfl w.heap.size (Nat.le_refl _) u5 l rfl _ ((cr + x + y) % 1000000000) (by omega) hll rfl HO.out hbel ?_; intro g cap w' hown' dD hlt' fF; have HO' := Lib.hid hown'; clear hown' fF)
     go_roundw
     case rel => exact ⟨k + 1, l ++ [(cr + x + y) % 1000000000], (cr + x + y) / 1000000000, by omega, by go_num, by go_num, by omega, (fun hh => ⟨by omega, by have hkk : k = M := (by omega); rw [iU, HL.out]; first | omega | (rw [show cr = 1 by omega, show 1 % 1000000000 = 1 from rfl, hkk]; omega)⟩), by rw [List.length_append, HL.out]; rfl, HM.out.concat (by show _ < 1000000000; omega), kR HL.out HI.out (by rw [HX.out, HY.out]; show _ + 1000000000 * _ = _; omega), by simpa using HO'.out, dD⟩
     case measure => simp [intOf]; omega
    ·have hdd : decide (k < (dig b).length) = false := decide_eq_false hlt2;have HY := Lib.hid (bZ (l := dig b) (k := k) (by omega));go_wp2_with (at_builtin; refine bH rfl _ _ 51 Tryz.underlying51 rfl w.heap.size (Nat.le_refl _) u5 l rfl _ ((cr + x) % 1000000000) (by omega) hll rfl HO.out hbel ?_; intro g cap w' hown' dD hlt' fF; have HO' := Lib.hid hown'; clear hown' fF)
     go_roundw
     case rel => exact ⟨k + 1, l ++ [(cr + x) % 1000000000], (cr + x) / 1000000000, by omega, by go_num, by go_num, by omega, (fun hh => ⟨by omega, by have hkk : k = M := (by omega); rw [iU, HL.out]; first | omega | (rw [show cr = 1 by omega, show 1 % 1000000000 = 1 from rfl, hkk]; omega)⟩), by rw [List.length_append, HL.out]; rfl, HM.out.concat (by show _ < 1000000000; omega), kR HL.out HI.out (by rw [HX.out, HY.out]; show _ + 1000000000 * _ = _; omega), by simpa using HO'.out, dD⟩
     case measure => simp [intOf]; omega
   ·have hda : decide (k < (dig a).length) = false := decide_eq_false hlt;have HX := Lib.hid (bZ (l := dig a) (k := k) (by omega));by_cases hlt2 : k < (dig b).length
    ·clear hgo;obtain ⟨b2, o2, rfl, _, hb2', hy⟩ := HB.out (by omega);obtain ⟨y, hy'⟩ := aA hlt2;have ey := hy k y hy';unfold bJ at ey; rw [Nat.mul_one] at ey;have hyl : y < 1000000000 := (aI b).get hy';have HY := Lib.hid (aF hy');clear hy hy';go_wp2_with (at_builtin; refine bH rfl _ _ 51 Tryz.underlying51 rfl w.heap.size (Nat.le_refl _) u5 l rfl _ ((cr + y) % 1000000000) (by omega) hll rfl HO.out hbel ?_; intro g cap w' hown' dD hlt' fF; have HO' := Lib.hid hown'; clear hown' fF)
     go_roundw
     case rel => exact ⟨k + 1, l ++ [(cr + y) % 1000000000], (cr + y) / 1000000000, by omega, by go_num, by go_num, by omega, (fun hh => ⟨by omega, by have hkk : k = M := (by omega); rw [iU, HL.out]; first | omega | (rw [show cr = 1 by omega, show 1 % 1000000000 = 1 from rfl, hkk]; omega)⟩), by rw [List.length_append, HL.out]; rfl, HM.out.concat (by show _ < 1000000000; omega), kR HL.out HI.out (by rw [HX.out, HY.out]; show _ + 1000000000 * _ = _; omega), by simpa using HO'.out, dD⟩
     case measure => simp [intOf]; omega
    ·have hdd : decide (k < (dig b).length) = false := decide_eq_false hlt2;have HY := Lib.hid (bZ (l := dig b) (k := k) (by omega));have hc0 : 0 < cr := by omega
     clear hgo;go_wp2_with (at_builtin; refine bH rfl _ _ 51 Tryz.underlying51 rfl w.heap.size (Nat.le_refl _) u5 l rfl _ ((cr) % 1000000000) (by omega) hll rfl HO.out hbel ?_; intro g cap w' hown' dD hlt' fF; have HO' := Lib.hid hown'; clear hown' fF)
     go_roundw
     case rel => exact ⟨k + 1, l ++ [(cr) % 1000000000], (cr) / 1000000000, by omega, by go_num, by go_num, by omega, (fun hh => ⟨by omega, by have hkk : k = M := (by omega); rw [iU, HL.out]; first | omega | (rw [show cr = 1 by omega, show 1 % 1000000000 = 1 from rfl, hkk]; omega)⟩), by rw [List.length_append, HL.out]; rfl, HM.out.concat (by show _ < 1000000000; omega), kR HL.out HI.out (by rw [HX.out, HY.out]; show _ + 1000000000 * _ = _; omega), by simpa using HO'.out, dD⟩
     case measure => simp [intOf]; omega
  ·have hda : decide (k < (dig a).length) = false := decide_eq_false (by omega);have hdb : decide (k < (dig b).length) = false := decide_eq_false (by omega);obtain rfl : cr = 0 := by omega
   have hF : dig (a + b) = l := by
    have h1 := HI.out;rw [Nat.mul_zero, Nat.add_zero, List.take_of_length_le (by omega), List.take_of_length_le (by omega), aS, aS] at h1;rw [← h1];refine yZ HM.out fun hne => ?_
    have hkl := HL.out;rw [hkl];by_cases hk1 : k = M + 1
    ·rw [hk1]; exact (hend hk1).2
    ·have hkM : k = M := by have := HMM.out; omega
     have hk0 : 0 < k := by rw [← hkl]; exact List.length_pos_iff.2 hne
     rw [hkM];rcases HMM.out with h | h
     ·rw [h];have := uo (n := a) (aU.1 (by omega));omega
     ·rw [h];have := uo (n := b) (aU.1 (by omega));omega
   have HF := Lib.hid hF; clear hF hend hgo;go_wp2
   go_ret;refine ⟨_, rfl, hbel, ?_⟩;unfold Ad; rw [HF.out];exact ig HO.out fun b hb => (HO.out.lt b hb).1
theorem dO {w : World} {b : Nat} {t : TypeId} {l : List Nat} (h : Row w b t (aO l)) (hl : Limbs l) {F : Ac} (hF : F b) {n c : Nat} (hn : l.length = n) (hc : n ≤ c) : Ad w F (.slice (some ⟨b, 0, none⟩) (cZ l n) c) (ay l) := by
 subst hn;have := h.limbs hF (Nat.le_refl _) hc;rw [List.take_length] at this;exact Ah.trim rfl this hl
theorem afX {l : List Nat} (h : Limbs l) {k : Nat} (hk : k ≤ l.length) : ay (l.take k) < LB ^ k := by
 have := dL (h.take k);rwa [List.length_take, Nat.min_eq_left hk] at this
set_option maxRecDepth 100000 in
set_option maxHeartbeats 3200000 in
theorem xG (w : World) (F : Ac) (va vb : Value) (a b : Nat) (ha : Ad w F va a) (hb : Ad w F vb b) (hle : b ≤ a) (hla : (dig a).length ≤ 100000) :
  Calls Tryz.prog 150 #[va, vb] w (Ret w fun v w' => Ad w' (fun b => w.heap.size ≤ b) v (a - b)) := by
 obtain ⟨A, c, rfl, hc, hNa⟩ := ha;obtain ⟨B, d, rfl, hd, hNb⟩ := hb;have HA := Lib.hid hNa; have HB := Lib.hid hNb; clear hNa hNb;have hlb : (dig b).length ≤ (dig a).length := aK hle;have HLE := Lib.hid hle; clear hle;go_enter Tryz.func150, Tryz.ntmps150;go_wp2_with (at_make; refine fE _ rfl _ _ 50 rfl 115 (.int .u32 0) 4 Tryz.underlying50 Tryz.infoU32 rfl (dig a).length rfl rfl (by omega) (by omega) ?_; intro w1 hb1 hz1 hrow1)
 have HR1 := Lib.hid hrow1; clear hrow1;go_loopw [6, 7, 8, 9, 15] (fun br _ _ _ i wr => ∃ (k : Nat) (l : List Nat) (cr : Nat), k ≤ (dig a).length ∧ i = .int .i64 k ∧ br = .int .u32 (cr : Int) ∧ cr ≤ 1 ∧ l.length = (dig a).length ∧ Limbs l ∧ ay (l.take k) + ay ((dig b).take k) = ay ((dig a).take k) + LB ^ k * cr ∧
  Row wr w.heap.size 115 (aO l) ∧ Below w.heap.size w wr) (fun _ _ _ _ i _ => (dig a).length - (intOf i).toNat)
 case atStart => exact ⟨0, List.replicate (dig a).length 0, 0, by omega, rfl, rfl, by omega, by simp, Limbs.zeros _, by simp [ay], by rw [dX]; exact HR1.out, hb1⟩
 case round =>
  obtain ⟨k, l, cr, hk, rfl, rfl, hcr, hlen, hlim, hinv, hrow, hbel⟩ := hrel;have HL := Lib.hid hlen; have HI := Lib.hid hinv; have HO := Lib.hid hrow; have HM := Lib.hid hlim;have hold := aJ hbel;by_cases hlt : k < (dig a).length
  ·obtain ⟨b1, o1, rfl, _, hb1', hx⟩ := HA.out (by omega);obtain ⟨x, hx'⟩ := aA hlt;have ex := hx k x hx';unfold bJ at ex; rw [Nat.mul_one] at ex;have hxl : x < 1000000000 := (aI a).get hx';have HX := Lib.hid (aF hx');obtain ⟨z, hz⟩ := aA (l := l) (k := k) (by omega);have rc := hrow.cell (aT hz);have fc := hrow.frozen k;clear hx hx' hz hlen hinv hrow hlim;by_cases hlt2 : k < (dig b).length
   ·obtain ⟨b2, o2, rfl, _, hb2', hy⟩ := HB.out (by omega);obtain ⟨y, hy'⟩ := aA hlt2;have ey := hy k y hy';unfold bJ at ey; rw [Nat.mul_one] at ey;have hyl : y < 1000000000 := (aI b).get hy';have HY := Lib.hid (aF hy');clear hy hy';by_cases hs : x < cr + y
    ·skip
     obtain ⟨s, hs'⟩ : ∃ s, s + (cr + y) = x + 1000000000 := ⟨_, show x + 1000000000 - (cr + y) + (cr + y) = x + 1000000000 by omega⟩;have HS := Lib.hid hs'; clear hs';go_wp2
     go_roundw
     case rel =>
      refine ⟨k + 1, l.set k s, 1, by omega, by go_num, rfl, by omega, by rw [List.length_set, HL.out], HM.out.set (by have := HS.out; show _ < 1000000000; omega), sJ (by rw [HL.out]; exact hlt) HI.out (by have := HS.out; rw [HX.out, HY.out]; show _ = _ + 1000000000 * _; omega), ?_, hbel.setCell (Nat.le_refl _) _⟩;have hr := HO.out.set k (.int .u32 (s : Int));rw [aV] at hr;have hss := HS.out;rw [show (s : Int) = (x : Int) + 1000000000 - ((cr : Int) + (y : Int)) by omega] at hr;exact hr
     case measure => simp [intOf]; omega
    ·have hdd : decide (x < cr + y) = false := decide_eq_false hs;have hdd2 : decide ((x : Int) < (cr : Int) + (y : Int)) = false := decide_eq_false (by omega);obtain ⟨s, hs'⟩ : ∃ s, s + (cr + y) = x := ⟨_, show x - (cr + y) + (cr + y) = x by omega⟩;have HS := Lib.hid hs'; clear hs';go_wp2
     go_roundw
     case rel =>
      refine ⟨k + 1, l.set k s, 0, by omega, by go_num, rfl, by omega, by rw [List.length_set, HL.out], HM.out.set (by have := HS.out; show _ < 1000000000; omega), sJ (by rw [HL.out]; exact hlt) HI.out (by have := HS.out; rw [HX.out, HY.out]; show _ = _ + 1000000000 * _; omega), ?_, hbel.setCell (Nat.le_refl _) _⟩;have hr := HO.out.set k (.int .u32 (s : Int));rw [aV] at hr;have hss := HS.out;rw [show (s : Int) = (x : Int) - ((cr : Int) + (y : Int)) by omega] at hr;exact hr
     case measure => simp [intOf]; omega
   ·have hdd : decide (k < (dig b).length) = false := decide_eq_false hlt2;have HY := Lib.hid (bZ (l := dig b) (k := k) (by omega));by_cases hs : x < cr
    ·skip
     obtain ⟨s, hs'⟩ : ∃ s, s + cr = x + 1000000000 := ⟨_, show x + 1000000000 - cr + cr = x + 1000000000 by omega⟩;have HS := Lib.hid hs'; clear hs';go_wp2
     go_roundw
     case rel =>
      refine ⟨k + 1, l.set k s, 1, by omega, by go_num, rfl, by omega, by rw [List.length_set, HL.out], HM.out.set (by have := HS.out; show _ < 1000000000; omega), sJ (by rw [HL.out]; exact hlt) HI.out (by have := HS.out; rw [HX.out, HY.out]; show _ = _ + 1000000000 * _; omega), ?_, hbel.setCell (Nat.le_refl _) _⟩;have hr := HO.out.set k (.int .u32 (s : Int));rw [aV] at hr;have hss := HS.out;rw [show (s : Int) = (x : Int) + 1000000000 - (cr : Int) by omega] at hr;exact hr
     case measure => simp [intOf]; omega
    ·have hdd : decide (x < cr) = false := decide_eq_false hs;have hdd2 : decide ((x : Int) < (cr : Int)) = false := decide_eq_false (by omega);obtain ⟨s, hs'⟩ : ∃ s, s + cr = x := ⟨_, show x - cr + cr = x by omega⟩;have HS := Lib.hid hs'; clear hs';go_wp2
     go_roundw
     case rel =>
      refine ⟨k + 1, l.set k s, 0, by omega, by go_num, rfl, by omega, by rw [List.length_set, HL.out], HM.out.set (by have := HS.out; show _ < 1000000000; omega), sJ (by rw [HL.out]; exact hlt) HI.out (by have := HS.out; rw [HX.out, HY.out]; show _ = _ + 1000000000 * _; omega), ?_, hbel.setCell (Nat.le_refl _) _⟩;have hr := HO.out.set k (.int .u32 (s : Int));rw [aV] at hr;have hss := HS.out;rw [show (s : Int) = (x : Int) - (cr : Int) by omega] at hr;exact hr
     case measure => simp [intOf]; omega
  ·have hke : k = (dig a).length := by omega
   have hF : ay l = a - b := by
    have h1 := hinv;rw [hke, List.take_length, List.take_of_length_le (by omega), List.take_of_length_le hlb, aS, aS] at h1;have h2 := dL hlim;rw [hlen] at h2;exact adn HLE.out h2 h1
   have HF := Lib.hid hF;clear hF hke hinv hlim hlen;go_wp2_with fail
   refine (lN wr (fun b => w.heap.size ≤ b) (some ⟨w.heap.size, 0, none⟩) (dig a).length (dig a).length l HL.out ?_ (by omega)).mono ?_
   ·have := hrow.limbs (F := fun b => w.heap.size ≤ b) (Nat.le_refl _) (n := l.length) (c := (dig a).length) (Nat.le_refl _) (by rw [HL.out]; exact Nat.le_refl _);rw [List.take_length, HL.out] at this;exact this
   rintro e w' ⟨rfl, rfl⟩;go_wp2
   go_ret;refine ⟨_, rfl, hbel, ?_⟩;have := dO HO.out HM.out (F := fun b => w.heap.size ≤ b) (Nat.le_refl _) (c := (dig a).length) HL.out (Nat.le_refl _);rw [HF.out] at this;exact this
set_option maxRecDepth 100000 in
set_option maxHeartbeats 3200000 in
theorem rP (w : World) (F : Ac) (va vb : Value) (a b : Nat) (ha : Ad w F va a) (hb : Ad w F vb b) (hle : b ≤ a) (hla : (dig a).length ≤ 100000) :
  Calls Tryz.prog 73 #[va, vb] w (Ret w fun v w' => ∃ (l : List Nat) (A : Option Addr) (c : Nat), v = .slice A (cZ l l.length) c ∧ ay l = a - b ∧ Limbs l ∧ w'.ownsRow w.heap.size 115 1 (.slice A l.length c) l.length (aO l)) := by
 obtain ⟨A, c, rfl, hc, hNa⟩ := ha;obtain ⟨B, d, rfl, hd, hNb⟩ := hb;have HA := Lib.hid hNa; have HB := Lib.hid hNb; clear hNa hNb;have hlb : (dig b).length ≤ (dig a).length := aK hle;have HLE := Lib.hid hle; clear hle;go_enter Tryz.func73, Tryz.ntmps73;go_wp2
 go_loopw [5, 6, 7, 8] (fun v br i _ wr => ∃ (k : Nat) (l : List Nat) (cr : Nat), k ≤ (dig a).length ∧ i = .int .i64 k ∧ br = .int .i64 (cr : Int) ∧ cr ≤ 1 ∧ l.length = k ∧ Limbs l ∧ ay l + ay ((dig b).take k) = ay ((dig a).take k) + LB ^ k * cr ∧
  wr.ownsRow w.heap.size 115 1 v l.length (aO l) ∧ Below w.heap.size w wr) (fun _ _ i _ _ => (dig a).length - (intOf i).toNat)
 case atStart => exact ⟨0, [], 0, by omega, rfl, rfl, by omega, rfl, (fun x hx => by cases hx), by simp [ay], World.ownsRow_nil _ _ _ _, Below.refl _ _⟩
 case round =>
  obtain ⟨k, l, cr, hk, rfl, rfl, hcr, hlen, hlim, hinv, hown, hbel⟩ := hrel;have HL := Lib.hid hlen; have HI := Lib.hid hinv; have HO := Lib.hid hown; have HM := Lib.hid hlim;have hll : l.length ≤ 1000000 := by omega
  have hold := aJ hbel;by_cases hlt : k < (dig a).length
  ·clear hlen hinv hown hlim;obtain ⟨b1, o1, rfl, _, hb1', hx⟩ := HA.out (by omega);obtain ⟨x, hx'⟩ := aA hlt;have ex := hx k x hx';unfold bJ at ex; rw [Nat.mul_one] at ex;have hxl : x < 1000000000 := (aI a).get hx';have HX := Lib.hid (aF hx');clear hx hx';by_cases hlt2 : k < (dig b).length
   ·obtain ⟨b2, o2, rfl, _, hb2', hy⟩ := HB.out (by omega);obtain ⟨y, hy'⟩ := aA hlt2;have ey := hy k y hy';unfold bJ at ey; rw [Nat.mul_one] at ey;have hyl : y < 1000000000 := (aI b).get hy';have HY := Lib.hid (aF hy');clear hy hy';by_cases hs : (x : Int) - (cr : Int) - (y : Int) < 0
    ·skip
     obtain ⟨s, hs'⟩ : ∃ s, s + (cr + y) = x + 1000000000 := ⟨_, show x + 1000000000 - (cr + y) + (cr + y) = x + 1000000000 by omega⟩;have HS := Lib.hid hs'; clear hs';go_wp2_with (at_builtin; refine bH rfl _ _ 51 Tryz.underlying51 rfl w.heap.size (Nat.le_refl _) u5 l rfl _ s (by have := HS.out; omega) hll rfl HO.out hbel ?_; intro g cap w' hown' dD hlt' fF; have HO' := Lib.hid hown'; clear hown' fF)
     go_roundw
     case rel => exact ⟨k + 1, l ++ [s], 1, by omega, by go_num, rfl, by omega, by rw [List.length_append, HL.out]; rfl, HM.out.concat (by have := HS.out; show _ < 1000000000; omega), lF HL.out HI.out (by have := HS.out; rw [HX.out, HY.out]; show _ = _ + 1000000000 * _; omega), by simpa using HO'.out, dD⟩
     case measure => simp [intOf]; omega
    ·have hdd : decide ((x : Int) - (cr : Int) - (y : Int) < 0) = false := decide_eq_false hs;obtain ⟨s, hs'⟩ : ∃ s, s + (cr + y) = x := ⟨_, show x - (cr + y) + (cr + y) = x by omega⟩;have HS := Lib.hid hs'; clear hs';go_wp2_with (at_builtin; refine bH rfl _ _ 51 Tryz.underlying51 rfl w.heap.size (Nat.le_refl _) u5 l rfl _ s (by have := HS.out; omega) hll rfl HO.out hbel ?_; intro g cap w' hown' dD hlt' fF; have HO' := Lib.hid hown'; clear hown' fF)
     go_roundw
     case rel => exact ⟨k + 1, l ++ [s], 0, by omega, by go_num, rfl, by omega, by rw [List.length_append, HL.out]; rfl, HM.out.concat (by have := HS.out; show _ < 1000000000; omega), lF HL.out HI.out (by have := HS.out; rw [HX.out, HY.out]; show _ = _ + 1000000000 * _; omega), by simpa using HO'.out, dD⟩
     case measure => simp [intOf]; omega
   ·have hdd : decide (k < (dig b).length) = false := decide_eq_false hlt2;have HY := Lib.hid (bZ (l := dig b) (k := k) (by omega));by_cases hs : (x : Int) - (cr : Int) < 0
    ·skip
     obtain ⟨s, hs'⟩ : ∃ s, s + cr = x + 1000000000 := ⟨_, show x + 1000000000 - cr + cr = x + 1000000000 by omega⟩;have HS := Lib.hid hs'; clear hs';go_wp2_with (at_builtin; refine bH rfl _ _ 51 Tryz.underlying51 rfl w.heap.size (Nat.le_refl _) u5 l rfl _ s (by have := HS.out; omega) hll rfl HO.out hbel ?_; intro g cap w' hown' dD hlt' fF; have HO' := Lib.hid hown'; clear hown' fF)
     go_roundw
     case rel => exact ⟨k + 1, l ++ [s], 1, by omega, by go_num, rfl, by omega, by rw [List.length_append, HL.out]; rfl, HM.out.concat (by have := HS.out; show _ < 1000000000; omega), lF HL.out HI.out (by have := HS.out; rw [HX.out, HY.out]; show _ = _ + 1000000000 * _; omega), by simpa using HO'.out, dD⟩
     case measure => simp [intOf]; omega
    ·have hdd : decide ((x : Int) - (cr : Int) < 0) = false := decide_eq_false hs;obtain ⟨s, hs'⟩ : ∃ s, s + cr = x := ⟨_, show x - cr + cr = x by omega⟩;have HS := Lib.hid hs'; clear hs';go_wp2_with (at_builtin; refine bH rfl _ _ 51 Tryz.underlying51 rfl w.heap.size (Nat.le_refl _) u5 l rfl _ s (by have := HS.out; omega) hll rfl HO.out hbel ?_; intro g cap w' hown' dD hlt' fF; have HO' := Lib.hid hown'; clear hown' fF)
     go_roundw
     case rel => exact ⟨k + 1, l ++ [s], 0, by omega, by go_num, rfl, by omega, by rw [List.length_append, HL.out]; rfl, HM.out.concat (by have := HS.out; show _ < 1000000000; omega), lF HL.out HI.out (by have := HS.out; rw [HX.out, HY.out]; show _ = _ + 1000000000 * _; omega), by simpa using HO'.out, dD⟩
     case measure => simp [intOf]; omega
  ·have hke : k = (dig a).length := by omega
   have hF : ay l = a - b := by
    have h1 := hinv;rw [hke, List.take_length, List.take_of_length_le hlb, aS, aS] at h1;have h2 := dL hlim;rw [hlen, hke] at h2;exact adn HLE.out h2 h1
   have HF := Lib.hid hF;have hsl := ig hown (F := fun b => w.heap.size ≤ b) fun b hb => (hown.lt b hb).1
   obtain ⟨A', c', rfl, hc', _⟩ := hsl;have hown2 := hown;clear hF hke hinv hlim hlen hown;go_wp2_with fail
   refine (jL wr (fun b => w.heap.size ≤ b) A' l.length c' l rfl (ig hown2 fun b hb => (hown2.lt b hb).1) hll).mono ?_;rintro e w' ⟨rfl, rfl⟩;go_wp2
   go_ret;exact ⟨_, rfl, hbel, l, A', c', rfl, HF.out, HM.out, HO.out⟩
theorem getD_set_ne {l : List Nat} {k j v : Nat} (h : k ≠ j) : (l.set k v).getD j 0 = l.getD j 0 := by
 simp only [List.getD_eq_getElem?_getD, List.getElem?_set_ne h]
structure BF (la lb A B k x m : Nat) (bl l : List Nat) (c : Nat) : Prop where
 len : l.length = la + lb
 limbs : Limbs l
 eq : ay l + LB ^ (k + m) * c = A * B + LB ^ k * (x * ay (bl.take m))
 zero : ∀ j, k + lb ≤ j → l.getD j 0 = 0
theorem BF.step {la lb A B k x m c s c' y : Nat} {bl l : List Nat} (h : BF la lb A B k x m bl l c) (hk : k < la) (hm : m < lb) (hy : bl.getD m 0 = y) (hs : s + LB * c' = l.getD (k + m) 0 + x * y + c) (hsl : s < LB) : BF la lb A B k x (m + 1) bl (l.set (k + m) s) c' := by
 refine ⟨by rw [List.length_set]; exact h.len, h.limbs.set hsl, ?_, fun j hj => by rw [getD_set_ne (by omega)]; exact h.zero j hj⟩;have := aeL (o := l) (k := k + m) (by rw [h.len]; omega) h.eq hs;rw [← Nat.add_assoc, this, bg, hy, Nat.pow_add];grind
theorem BF.next {la lb A B k x c : Nat} {bl l : List Nat} (h : BF la lb A B k x lb bl l c) (hk : k < la) (hbl : bl.length = lb) (hB : ay bl = B) (hc : c < LB) : BF la lb (A + LB ^ k * x) B (k + 1) 0 0 bl (l.set (k + lb) c) 0 := by
 have hz := h.zero (k + lb) (Nat.le_refl _);have hset := aaQ (l := l) (k := k + lb) (by rw [h.len]; omega) c;rw [hz, Nat.mul_zero, Nat.add_zero, h.eq, List.take_of_length_le (by omega), hB] at hset;refine ⟨by rw [List.length_set]; exact h.len, h.limbs.set hc, ?_, fun j hj => by rw [getD_set_ne (by omega)]; exact h.zero j (by omega)⟩;rw [hset]; grind
set_option maxRecDepth 100000 in
set_option maxHeartbeats 3200000 in
theorem aa3 (w : World) (F : Ac) (va vb : Value) (a b : Nat) (ha : Ad w F va a) (hb : Ad w F vb b) (hla : (dig a).length ≤ 100000) (hlb : (dig b).length ≤ 100000) (ha0 : a ≠ 0) (hb0 : b ≠ 0) (ha1 : a ≠ 1) (hb1 : b ≠ 1) :
  Calls Tryz.prog 126 #[va, vb] w (Ret w fun v w' => Ad w' (fun b => w.heap.size ≤ b) v (a * b)) := by
 have HVA := Lib.hid ha; have HVB := Lib.hid hb;obtain ⟨A, c, rfl, hc, hNa⟩ := ha;obtain ⟨B, d, rfl, hd, hNb⟩ := hb;have HA := Lib.hid hNa; have HB := Lib.hid hNb; clear hNa hNb;have hda : (((dig a).length : Int) == 0) = false := by have := aU.2 ha0; exact beq_false_of_ne (by omega)
 have hdb : (((dig b).length : Int) == 0) = false := by have := aU.2 hb0; exact beq_false_of_ne (by omega)
 have e1 : decide (a = 1) = false := decide_eq_false ha1;have e2 : decide (b = 1) = false := decide_eq_false hb1;clear ha0 hb0 ha1 hb1;go_enter Tryz.func126, Tryz.ntmps126;go_wp2_with fail
 refine (jF w F _ a HVA.out (by omega)).mono ?_;rintro e w' ⟨rfl, rfl⟩;go_wp2_with fail
 refine (jF _ F _ b HVB.out (by omega)).mono ?_;rintro e w' ⟨rfl, rfl⟩;clear HVA HVB;go_wp2_with (at_make; refine fE _ rfl _ _ 50 rfl 115 (.int .u32 0) 4 Tryz.underlying50 Tryz.infoU32 rfl ((dig a).length + (dig b).length) (by simp [go_sem]) (by simp [go_sem]) (by omega) (by omega) ?_; intro w1 hb1 hz1 hrow1)
 have HR1 := Lib.hid hrow1; clear hrow1;go_loopw [37] (fun i wr => ∃ (k : Nat) (l : List Nat), k ≤ (dig a).length ∧ i = .int .i64 k ∧ BF (dig a).length (dig b).length (ay ((dig a).take k)) b k 0 0 (dig b) l 0 ∧
  Row wr w.heap.size 115 (aO l) ∧ Below w.heap.size w wr) (fun i _ => (dig a).length - (intOf i).toNat)
 case atStart => exact ⟨0, List.replicate ((dig a).length + (dig b).length) 0, by omega, rfl, ⟨by simp, Limbs.zeros _, by rw [wP]; simp [ay], fun j _ => by simp [List.getD_eq_getElem?_getD, List.getElem?_replicate]; split <;> rfl⟩, by rw [dX]; exact HR1.out, hb1⟩
 case round =>
  obtain ⟨k, l, hk, rfl, hmul, hrow, hbel⟩ := hrel;have HI := Lib.hid hmul; have HO := Lib.hid hrow;have hold := aJ hbel;by_cases hlt : k < (dig a).length
  ·clear hmul hrow;obtain ⟨b1, o1, rfl, _, hb1', hx⟩ := HA.out (by omega);obtain ⟨x, hx'⟩ := aA hlt;have ex := hx k x hx';unfold bJ at ex; rw [Nat.mul_one] at ex;have hxl : x < 1000000000 := (aI a).get hx';have HX := Lib.hid (aF hx');clear hx hx';obtain ⟨wp, rfl⟩ : ∃ wp : World, wp = wr := ⟨_, rfl⟩;go_wp2
   go_loopw [8, 44] (fun cy j wi => ∃ (m : Nat) (l' : List Nat) (cr : Nat), m ≤ (dig b).length ∧ j = .int .i64 m ∧ cy = .int .u64 (cr : Int) ∧ cr < 1000000000 ∧ BF (dig a).length (dig b).length (ay ((dig a).take k)) b k x m (dig b) l' cr ∧
    Row wi w.heap.size 115 (aO l') ∧ Below w.heap.size w wi) (fun _ j _ => (dig b).length - (intOf j).toNat)
   case atStart =>
    refine ⟨0, l, 0, by omega, rfl, rfl, by omega, ?_, HO.out, hbel⟩;have h := HI.out;exact ⟨h.len, h.limbs, by have := h.eq; simpa [ay] using this, h.zero⟩
   case round =>
    clear hold HO HI hbel;obtain ⟨m, l', cr, hm, rfl, rfl, hcr, hmul, hrow, hbel⟩ := hrel;have HI := Lib.hid hmul; have HO := Lib.hid hrow;have hold := aJ hbel;by_cases hmt : m < (dig b).length
    ·obtain ⟨b2, o2, rfl, _, hb2', hy⟩ := HB.out (by omega);obtain ⟨y, hy'⟩ := aA hmt;have ey := hy m y hy';unfold bJ at ey; rw [Nat.mul_one] at ey;have hyl : y < 1000000000 := (aI b).get hy';have HY := Lib.hid (aF hy');obtain ⟨z, hz⟩ := aA (l := l') (k := k + m) (by rw [hmul.len]; omega);have rc := hrow.cell (aT hz);have fc := hrow.frozen (k + m);have hzl : z < 1000000000 := hmul.limbs.get hz;have HZ := Lib.hid (aF hz);have hpb := qx hxl hyl;obtain ⟨p, hp⟩ : ∃ p, p = x * y := ⟨_, rfl⟩;have hpI : (x : Int) * (y : Int) = (p : Int) := by rw [hp]; simp
     rw [← hp] at hpb;have HP := Lib.hid hp;have hLl : k + m < (dig a).length + (dig b).length := by omega
     clear hy hy' hz hmul hrow hp;go_wp2
     go_roundw
     case rel =>
      refine ⟨m + 1, l'.set (k + m) ((z + p + cr) % 1000000000), (z + p + cr) / 1000000000, by omega, by go_num, by go_num, by omega, HI.out.step hlt hmt HY.out (by rw [HZ.out, ← HP.out]; show _ + 1000000000 * _ = _; omega) (by show _ < 1000000000; omega), ?_, hbel.setCell (Nat.le_refl _) _⟩;have hr := HO.out.set (k + m) (.int .u32 (((z + p + cr) % 1000000000 : Nat) : Int));rw [aV] at hr;exact hr
     case measure => simp [intOf]; omega
    ·obtain rfl : m = (dig b).length := by omega
     obtain ⟨z, hz⟩ := aA (l := l') (k := k + (dig b).length) (by rw [hmul.len]; omega);have rc := hrow.cell (aT hz);have fc := hrow.frozen (k + (dig b).length);clear hz hmul hrow;go_wp2
     go_roundw
     case rel =>
      refine ⟨k + 1, l'.set (k + (dig b).length) cr, by omega, by go_num, ?_, ?_, hbel.setCell (Nat.le_refl _) _⟩
      ·rw [bg, HX.out];exact HI.out.next hlt rfl (aS b) hcr
      ·have hr := HO.out.set (k + (dig b).length) (.int .u32 (cr : Int));rw [aV] at hr;exact hr
     case measure => simp [intOf]; omega
  ·have hke : k = (dig a).length := by omega
   have hF : ay l = a * b := by
    have h1 := hmul.eq;rw [hke, List.take_length, aS] at h1;simpa using h1
   have HF := Lib.hid hF;have HL := Lib.hid hmul.len;have HM := Lib.hid hmul.limbs;clear hF hke hmul;go_wp2_with fail
   refine (lN wr (fun b => w.heap.size ≤ b) (some ⟨w.heap.size, 0, none⟩) ((dig a).length + (dig b).length) ((dig a).length + (dig b).length) l HL.out ?_ (by omega)).mono ?_
   ·have := hrow.limbs (F := fun b => w.heap.size ≤ b) (Nat.le_refl _) (n := l.length) (c := (dig a).length + (dig b).length) (Nat.le_refl _) (by rw [HL.out]; exact Nat.le_refl _);rw [List.take_length, HL.out] at this;exact this
   rintro e w' ⟨rfl, rfl⟩;go_wp2
   go_ret;refine ⟨_, rfl, hbel, ?_⟩;have := dO HO.out HM.out (F := fun b => w.heap.size ≤ b) (Nat.le_refl _) (c := (dig a).length + (dig b).length) HL.out (Nat.le_refl _);rw [HF.out] at this;exact this
set_option maxRecDepth 100000 in
set_option maxHeartbeats 3200000 in
theorem iJ (w : World) (F : Ac) (va vb : Value) (a b : Nat) (ha : Ad w F va a) (hb : Ad w F vb b) (hla : (dig a).length ≤ 100000) (hlb : (dig b).length ≤ 100000) :
  Calls Tryz.prog 70 #[va, vb] w (Ret w fun v w' => Ad w' (fun b => w.heap.size ≤ b) v (a * b)) := by
 obtain ⟨A, c, rfl, hc, hNa⟩ := ha;obtain ⟨B, d, rfl, hd, hNb⟩ := hb;have HA := Lib.hid hNa; have HB := Lib.hid hNb; clear hNa hNb;go_enter Tryz.func70, Tryz.ntmps70;go_wp2_with (at_make; refine fE _ rfl _ _ 51 rfl 115 (.int .u32 0) 4 Tryz.underlying51 Tryz.infoU32 rfl ((dig a).length + (dig b).length) (by simp [go_sem]) (by simp [go_sem]) (by omega) (by omega) ?_; intro w1 hb1 hz1 hrow1)
 have HR1 := Lib.hid hrow1; clear hrow1;go_loopw [6] (fun i wr => ∃ (k : Nat) (l : List Nat), k ≤ (dig a).length ∧ i = .int .i64 k ∧ BF (dig a).length (dig b).length (ay ((dig a).take k)) b k 0 0 (dig b) l 0 ∧
  Row wr w.heap.size 115 (aO l) ∧ Below w.heap.size w wr) (fun i _ => (dig a).length - (intOf i).toNat)
 case atStart => exact ⟨0, List.replicate ((dig a).length + (dig b).length) 0, by omega, rfl, ⟨by simp, Limbs.zeros _, by rw [wP]; simp [ay], fun j _ => by simp [List.getD_eq_getElem?_getD, List.getElem?_replicate]; split <;> rfl⟩, by rw [dX]; exact HR1.out, hb1⟩
 case round =>
  obtain ⟨k, l, hk, rfl, hmul, hrow, hbel⟩ := hrel;have HI := Lib.hid hmul; have HO := Lib.hid hrow;have hold := aJ hbel;by_cases hlt : k < (dig a).length
  ·clear hmul hrow;obtain ⟨b1, o1, rfl, _, hb1', hx⟩ := HA.out (by omega);obtain ⟨x, hx'⟩ := aA hlt;have ex := hx k x hx';unfold bJ at ex; rw [Nat.mul_one] at ex;have hxl : x < 1000000000 := (aI a).get hx';have HX := Lib.hid (aF hx');clear hx hx';obtain ⟨wp, rfl⟩ : ∃ wp : World, wp = wr := ⟨_, rfl⟩;go_wp2
   go_loopw [7, 8] (fun cy j wi => ∃ (m : Nat) (l' : List Nat) (cr : Nat), m ≤ (dig b).length ∧ j = .int .i64 m ∧ cy = .int .u64 (cr : Int) ∧ cr < 1000000000 ∧ BF (dig a).length (dig b).length (ay ((dig a).take k)) b k x m (dig b) l' cr ∧
    Row wi w.heap.size 115 (aO l') ∧ Below w.heap.size w wi) (fun _ j _ => (dig b).length - (intOf j).toNat)
   case atStart =>
    refine ⟨0, l, 0, by omega, rfl, rfl, by omega, ?_, HO.out, hbel⟩;have h := HI.out;exact ⟨h.len, h.limbs, by have := h.eq; simpa [ay] using this, h.zero⟩
   case round =>
    clear hold HO HI hbel;obtain ⟨m, l', cr, hm, rfl, rfl, hcr, hmul, hrow, hbel⟩ := hrel;have HI := Lib.hid hmul; have HO := Lib.hid hrow;have hold := aJ hbel;by_cases hmt : m < (dig b).length
    ·obtain ⟨b2, o2, rfl, _, hb2', hy⟩ := HB.out (by omega);obtain ⟨y, hy'⟩ := aA hmt;have ey := hy m y hy';unfold bJ at ey; rw [Nat.mul_one] at ey;have hyl : y < 1000000000 := (aI b).get hy';have HY := Lib.hid (aF hy');obtain ⟨z, hz⟩ := aA (l := l') (k := k + m) (by rw [hmul.len]; omega);have rc := hrow.cell (aT hz);have fc := hrow.frozen (k + m);have hzl : z < 1000000000 := hmul.limbs.get hz;have HZ := Lib.hid (aF hz);have hpb := qx hxl hyl;obtain ⟨p, hp⟩ : ∃ p, p = x * y := ⟨_, rfl⟩;have hpI : (x : Int) * (y : Int) = (p : Int) := by rw [hp]; simp
     rw [← hp] at hpb;have HP := Lib.hid hp;have hLl : k + m < (dig a).length + (dig b).length := by omega
     clear hy hy' hz hmul hrow hp;go_wp2
     go_quiet (fail)
     go_wp2
     go_roundw
     case rel =>
      refine ⟨m + 1, l'.set (k + m) ((cr + z + p) % 1000000000), (cr + z + p) / 1000000000, by omega, by go_num, by go_num, by omega, HI.out.step hlt hmt HY.out (by rw [HZ.out, ← HP.out]; show _ + 1000000000 * _ = _; omega) (by show _ < 1000000000; omega), ?_, (aB hbel nq).setCell (Nat.le_refl _) _⟩;have hr := (HO.out.dN nq).set (k + m) (.int .u32 (((cr + z + p) % 1000000000 : Nat) : Int));rw [aV] at hr;exact hr
     case measure => simp [intOf]; omega
    ·obtain rfl : m = (dig b).length := by omega
     obtain ⟨z, hz⟩ := aA (l := l') (k := k + (dig b).length) (by rw [hmul.len]; omega);have rc := hrow.cell (aT hz);have fc := hrow.frozen (k + (dig b).length);clear hz hmul hrow;go_wp2
     go_roundw
     case rel =>
      refine ⟨k + 1, l'.set (k + (dig b).length) cr, by omega, by go_num, ?_, ?_, hbel.setCell (Nat.le_refl _) _⟩
      ·rw [bg, HX.out];exact HI.out.next hlt rfl (aS b) hcr
      ·have hr := HO.out.set (k + (dig b).length) (.int .u32 (cr : Int));rw [aV] at hr;exact hr
     case measure => simp [intOf]; omega
  ·have hke : k = (dig a).length := by omega
   have hF : ay l = a * b := by
    have h1 := hmul.eq;rw [hke, List.take_length, aS] at h1;simpa using h1
   have HF := Lib.hid hF;have HL := Lib.hid hmul.len;have HM := Lib.hid hmul.limbs;clear hF hke hmul;go_wp2_with fail
   refine (jL wr (fun b => w.heap.size ≤ b) (some ⟨w.heap.size, 0, none⟩) ((dig a).length + (dig b).length) ((dig a).length + (dig b).length) l HL.out ?_ (by omega)).mono ?_
   ·have := hrow.limbs (F := fun b => w.heap.size ≤ b) (Nat.le_refl _) (n := l.length) (c := (dig a).length + (dig b).length) (Nat.le_refl _) (by rw [HL.out]; exact Nat.le_refl _);rw [List.take_length, HL.out] at this;exact this
   rintro e w' ⟨rfl, rfl⟩;go_wp2
   go_ret;refine ⟨_, rfl, hbel, ?_⟩;have := dO HO.out HM.out (F := fun b => w.heap.size ≤ b) (Nat.le_refl _) (c := (dig a).length + (dig b).length) HL.out (Nat.le_refl _);rw [HF.out] at this;exact this
set_option maxRecDepth 100000 in
set_option maxHeartbeats 3200000 in
theorem jG (w : World) (F : Ac) (va vb : Value) (a b : Nat) (ha : Ad w F va a) (hb : Ad w F vb b) (hla : (dig a).length ≤ 100000) (hlb : (dig b).length ≤ 100000) :
  Calls Tryz.prog 126 #[va, vb] w (Ret w fun v w' => Ad w' (Ext F w.heap.size) v (a * b)) := by
 by_cases ha0 : a = 0
 ·subst ha0;obtain ⟨A, c, rfl, hc, _⟩ := ha;have e : (dig 0).length = 0 := by rw [aW]; rfl
  rw [e] at *;clear e;obtain ⟨B, d, rfl, hd, _⟩ := hb;go_enter Tryz.func126, Tryz.ntmps126;go_wp2
  go_ret;exact ⟨_, rfl, Below.refl _ _, by rw [Nat.zero_mul]; exact Ad.zero _ _ _ _⟩
 by_cases hb0 : b = 0
 ·subst hb0;obtain ⟨A, c, rfl, hc, _⟩ := ha;have hda : (((dig a).length : Int) == 0) = false := by have := aU.2 ha0; exact beq_false_of_ne (by omega)
  obtain ⟨B, d, rfl, hd, _⟩ := hb;have e : (dig 0).length = 0 := by rw [aW]; rfl
  rw [e] at *;clear e ha0;go_enter Tryz.func126, Tryz.ntmps126;go_wp2
  go_ret;exact ⟨_, rfl, Below.refl _ _, by rw [Nat.mul_zero]; exact Ad.zero _ _ _ _⟩
 have hda : (((dig a).length : Int) == 0) = false := by have := aU.2 ha0; exact beq_false_of_ne (by omega)
 have hdb : (((dig b).length : Int) == 0) = false := by have := aU.2 hb0; exact beq_false_of_ne (by omega)
 by_cases ha1 : a = 1
 ·have e1 : decide (a = 1) = true := decide_eq_true ha1;have HVA := Lib.hid ha; have HVB := Lib.hid hb;obtain ⟨A, c, rfl, hc, _⟩ := ha;obtain ⟨B, d, rfl, hd, _⟩ := hb;have H1 := Lib.hid ha1;clear hb0 ha0 ha1;go_enter Tryz.func126, Tryz.ntmps126;go_wp2_with fail
  refine (jF w F _ a HVA.out (by omega)).mono ?_;rintro e w' ⟨rfl, rfl⟩;go_wp2
  go_ret;refine ⟨_, rfl, Below.refl _ _, ?_⟩;rw [H1.out, Nat.one_mul]; exact HVB.out.ext (Below.refl _ _)
 by_cases hb1 : b = 1
 ·have e1 : decide (a = 1) = false := decide_eq_false ha1;have e2 : decide (b = 1) = true := decide_eq_true hb1;have HVA := Lib.hid ha; have HVB := Lib.hid hb;obtain ⟨A, c, rfl, hc, _⟩ := ha;obtain ⟨B, d, rfl, hd, _⟩ := hb;have H1 := Lib.hid hb1;clear hb0 ha0 ha1 hb1;go_enter Tryz.func126, Tryz.ntmps126;go_wp2_with fail
  refine (jF w F _ a HVA.out (by omega)).mono ?_;rintro e w' ⟨rfl, rfl⟩;go_wp2_with fail
  refine (jF _ F _ b HVB.out (by omega)).mono ?_;rintro e w' ⟨rfl, rfl⟩;go_wp2
  go_ret;refine ⟨_, rfl, Below.refl _ _, ?_⟩;rw [H1.out, Nat.mul_one]; exact HVA.out.ext (Below.refl _ _)
 clear hda hdb;refine (aa3 w F va vb a b ha hb hla hlb ha0 hb0 ha1 hb1).mono fun e w' ⟨v, he, hbel, hn⟩ => ⟨v, he, hbel, hn.mono fun _ h _ => .inr h⟩
end Go.Proofs.YtkcheepafifjaaaGreatDoor
