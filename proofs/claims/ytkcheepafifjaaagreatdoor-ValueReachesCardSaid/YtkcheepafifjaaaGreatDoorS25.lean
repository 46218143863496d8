/- The reference's long division: aar.Over. -/
import Derived.Test.YtkcheepafifjaaaGreatDoorS24
import Derived.Test.YtkcheepafifjaaaGreatDoorS19
import Derived.Test.YtkcheepafifjaaaGreatDoorS13
set_option linter.all false
namespace Go.Proofs.YtkcheepafifjaaaGreatDoor
open List renaming getElem_toArray → lq1, getElem_cons_zero → lq2, getElem_cons_succ → lq3, setIfInBounds_toArray → lq4, set_cons_zero → lq5, set_cons_succ → lq6
open Go.RowKit
set_option maxRecDepth 100000 in
set_option maxHeartbeats 6400000 in
theorem acC (w : World) (F : Ac) (va vb : Value) (a b : Nat) (ha : Ad w F va a) (hb : Ad w F vb b) (hb0 : b ≠ 0) (hla : (dig a).length ≤ 50000) (hge : b ≤ a) :
  Calls Tryz.prog 106 #[va, vb] w (Ret w (BM F w.heap.size a b)) := by
 have HVA := Lib.hid ha; have HVB := Lib.hid hb;have hlb : (dig b).length ≤ (dig a).length := aK hge;have hord : decide (bI a b < 0) = false := by
  refine decide_eq_false ?_;unfold bI; split <;> (try split) <;> omega
 obtain ⟨A, c, rfl, hc, _⟩ := ha;obtain ⟨B, d, rfl, hd, hNb⟩ := hb;obtain ⟨n, hn⟩ : ∃ n, n = (dig b).length := ⟨_, rfl⟩;have hn1' : 1 ≤ n := by rw [hn]; exact aU.2 hb0
 obtain ⟨b1, o1, rfl, _, hb1', hx⟩ := hNb (by omega);obtain ⟨t, ht'⟩ := aA (l := dig b) (k := n - 1) (by omega);have et := hx (n - 1) t ht';unfold bJ at et; rw [Nat.mul_one] at et;have gt : (dig b).getD (n - 1) 0 = t := aF ht';have htl : t < 1000000000 := (aI b).get ht';have ht1 : 1 ≤ t := by have := (mO hb0).1; rw [← hn, gt] at this; exact this
 obtain ⟨f1, f2, _, _, _⟩ := gZ ht1 htl;have hfI : (1000000000 : Int) / ((t : Int) + 1) = ((LB / (t + 1) : Nat) : Int) := by
  rw [show ((t : Int) + 1) = ((t + 1 : Nat) : Int) by omega, show (1000000000 : Int) = ((LB : Nat) : Int) from rfl, jT]
 obtain ⟨f, hf⟩ : ∃ f, f = LB / (t + 1) := ⟨_, rfl⟩;have hbl := acy hn hb0;rw [gt, ← hf] at hbl;have hal : (dig (a * f)).length ≤ (dig a).length + 1 := aQ (oq (by omega));rw [← hf] at hfI f1 f2;obtain ⟨a', ha'⟩ : ∃ a', a' = a * f := ⟨_, rfl⟩;obtain ⟨b', hb'⟩ : ∃ b', b' = b * f := ⟨_, rfl⟩;rw [← ha'] at hal;rw [← hb'] at hbl;have hba' : b' ≤ a' := by rw [ha', hb']; exact Nat.mul_le_mul_right _ hge
 have aby : b' ≠ 0 := by rw [hb']; exact Nat.mul_ne_zero hb0 (by omega)
 obtain ⟨la, uI⟩ : ∃ la, la = (dig a').length := ⟨_, rfl⟩;have hnla : n ≤ la := by rw [uI, ← hbl]; exact aK hba'
 have HSC := Lib.hid (And.intro ha' hb'); have HBL := Lib.hid hbl; have HLA := Lib.hid uI;have hlal : la ≤ 50001 := by omega
 rw [← hn] at HVB hd hlb ⊢;have hla2 : (dig a).length ≤ 50000 := hla;obtain ⟨n1, hn1⟩ : ∃ n1, n1 + 1 = n := ⟨n - 1, by omega⟩;have i1 : (n : Int) - 1 = (n1 : Int) := by omega
 rw [show n - 1 = n1 by omega] at et;have l1 : n1 < n := by omega
 have HN := Lib.hid hn; have HB0 := Lib.hid hb0;clear hn gt hx ht' hf hge ha' hb' uI hbl hb0;go_enter Tryz.func106, Tryz.ntmps106;go_wp2_with fail
 have Dt := Lib.hid (show Ad w F (.slice (some ⟨b1, o1, none⟩) n d) b from HVB.out);refine (oN w F _ _ a b HVA.out HVB.out (by omega) (by rw [← HN.out]; omega)).mono ?_;rintro e wn ⟨_, rfl, hb, rfl⟩;have hB := hb;replace et := ah et hb;replace HVA := Lib.hid (HVA.out.below hb);replace HVB := Lib.hid (HVB.out.below hb);clear hb;generalize bI a b = od at *;dsimp only;go_wp2_with fail
 refine (rX _ f (by omega)).mono ?_;rintro e wn ⟨vf, rfl, hb, hu⟩;have HF := Lib.hid (hu.mono (G := fun b => w.heap.size ≤ b) (fun b h _ => Nat.le_trans hB.size h)); clear hu;replace et := ah et hb;replace HVA := Lib.hid (HVA.out.below hb);replace HVB := Lib.hid (HVB.out.below hb);replace hB := hB.trans (hb.mono hB.size);clear hb;dsimp only;go_wp2_with fail
 refine (iJ _ (fun b => F b ∨ w.heap.size ≤ b) _ _ a f (HVA.out.mono (fun _ h _ => .inl h)) (HF.out.mono (fun _ h _ => .inr h)) (by omega) (by have := aQ (n := f) (k := 1) (by unfold LB; omega); omega)).mono ?_;rintro e wn ⟨va', rfl, hb, hu⟩;rw [← HSC.out.1] at hu;have HA := Lib.hid (hu.mono (G := fun b => w.heap.size ≤ b) (fun b h _ => Nat.le_trans hB.size h)); clear hu;replace et := ah et hb;replace HVA := Lib.hid (HVA.out.below hb);replace HVB := Lib.hid (HVB.out.below hb);replace HF := Lib.hid (HF.out.below hb);replace hB := hB.trans (hb.mono hB.size);clear hb;dsimp only;go_wp2_with fail
 refine (iJ _ (fun b => F b ∨ w.heap.size ≤ b) _ _ b f (HVB.out.mono (fun _ h _ => .inl h)) (HF.out.mono (fun _ h _ => .inr h)) (by rw [← HN.out]; omega) (by have := aQ (n := f) (k := 1) (by unfold LB; omega); omega)).mono ?_;rintro e wn ⟨vb', rfl, hb, hu⟩;rw [← HSC.out.2] at hu;have HB := Lib.hid (hu.mono (G := fun b => w.heap.size ≤ b) (fun b h _ => Nat.le_trans hB.size h)); clear hu;replace et := ah et hb;replace HVA := Lib.hid (HVA.out.below hb);replace HVB := Lib.hid (HVB.out.below hb);replace HF := Lib.hid (HF.out.below hb);replace HA := Lib.hid (HA.out.below hb);replace hB := hB.trans (hb.mono hB.size);clear hb;dsimp only;clear et HVA HVB Dt hb1' i1;obtain ⟨Aa, ca, rfl, hca, hNa'⟩ := HA.out;obtain ⟨Ab, cb, rfl, hcb, hNb'⟩ := HB.out;obtain ⟨ba, oa, rfl, _, hba1, _⟩ := hNa' (by rw [← HLA.out]; omega);obtain ⟨bb, ob, rfl, _, hbb1, hxb⟩ := hNb' (by rw [HBL.out]; omega);obtain ⟨t', ht2⟩ := aA (l := dig b') (k := n1) (by rw [HBL.out]; omega);have et := hxb n1 t' ht2;unfold bJ at et; rw [Nat.mul_one] at et;have ht'l : t' < 1000000000 := (aI b').get ht2;have HTP := Lib.hid (show (dig b').getD ((dig b').length - 1) 0 = t' by rw [HBL.out, show n - 1 = n1 by omega]; exact aF ht2);have ht'1 : 1 ≤ t' := by have := (mO aby).1; rw [HTP.out] at this; exact this
 rw [← HLA.out] at hca HA ⊢;rw [HBL.out] at hcb HB ⊢;clear hNa' hNb' hxb ht2;have i1 : (n : Int) - 1 = (n1 : Int) := by omega
 obtain ⟨m, hm⟩ : ∃ m, m + n = la + 1 := ⟨la + 1 - n, by omega⟩;have hwm : IntKind.i64.wrap (IntKind.i64.wrap ((la : Int) - (n : Int)) + 1) = (m : Int) := by rw [IntWalk.i64_in ((la : Int) - (n : Int)) (by omega), IntWalk.i64_in _ (by omega)]; omega
 have HAL := Lib.hid (show Ah wn (fun b => w.heap.size ≤ b) (.slice (some ⟨ba, oa, none⟩) (dig a').length ca) (dig a') by rw [← HLA.out]; exact HA.out);have HDR := Lib.hid (show Ah wn (fun b => w.heap.size ≤ b) (.slice (some ⟨ba, oa + m, none⟩) ((dig a').drop m).length (ca - m)) ((dig a').drop m) from HAL.out.drop (by rw [← HLA.out]; omega) _ _ rfl);have hdl : ((dig a').drop m).length = la - m := by rw [List.length_drop, ← HLA.out]
 have HDL := Lib.hid hdl;obtain ⟨D, hD⟩ : ∃ D, D = (dig a').drop m := ⟨_, rfl⟩;rw [← hD] at HDR HDL hdl;have HDE := Lib.hid hD; clear hD HAL;have hwb := hB.size;go_wp2_with fail
 clear hfI i1;refine wp_region_held_drew (S := fun _ => True) (by kernel_rfl) trivial (fun hHeld => ?_);refine tk0 [0,1,2,3,4,6,7,8,9,10,11,12] ?_;iterate 12 (refine tk (v := ?_) rfl (by kernel_rfl) (by kernel_rfl) (by kernel_rfl) (fun _ _ _ h => h) (Or.inl ⟨by rfl, ?_⟩) hHeld ?_;rotate_left;(focus intro wx hSx;(try dsimp only at hSx);go_split_ands;go_simp;try with_reducible rfl);try simp only [Act.put, lq1, lq2, lq3, lq4, lq5, lq6])
 refine tk1 ?_;clear hwm;refine oM (js := [5, 13, 14, 15, 16]) ((Hold.of (Fact.limbs (fun b => w.heap.size ≤ b) D) (.slice (some ⟨ba, oa + m, none⟩) D.length (ca - m))).and (Hold.below wn.heap.size wn))
  [(5, Fact.zeros wn.heap.size m), (13, Fact.limbs (fun b => w.heap.size ≤ b) D), (14, Fact.limbs (fun b => w.heap.size ≤ b) D), (15, Fact.zeros wn.heap.size m), (16, Fact.limbs (fun b => w.heap.size ≤ b) D)] (by kernel_rfl) ⟨Ah.on HDR.out (Same.drewN _ _ 1), Nat.le_refl _, aB (Below.refl _ wn) 1⟩ (fun _ _ => trivial) ?_
 refine Flow.cons (o := _) rfl (fun wk hS hf K hK => ?_) (fun v5 => ?_)
 ·refine ifT' rfl ?_;refine acw _ _ _ 51 rfl 115 (.int .u32 0) 4 Tryz.underlying51 Tryz.infoU32 rfl m rfl rfl (by omega) (by omega) ?_;intro w1 hb1 hz1 hr1;exact hK.out _ _ hb1 ⟨_, rfl, hS.2.1, by rw [dX]; exact hr1⟩
 try simp only [Act.put, lq1, lq2, lq3, lq4, lq5, lq6]
 refine Flow.cons (o := _) rfl (fun wk hS hf K hK => ?_) (fun v13 => ?_)
 ·have hSl := hS.1;go_simp;try simp only [Int.toNat_natCast]
  have hml : m ≤ la := by omega
  rw [if_pos hml];rw [show la - m = D.length from hdl.symm];by_cases hcm : ca = m
  ·have hD0 : D = [] := List.eq_nil_of_length_eq_zero (by omega);rw [if_pos hcm];refine hK.out _ _ (Below.refl _ _) ?_;show Ah wk _ _ D;rw [hD0];exact fM _ _ _ _
  ·rw [if_neg hcm];exact hK.out _ _ (Below.refl _ _) hSl
 try simp only [Act.put, lq1, lq2, lq3, lq4, lq5, lq6]
 refine Flow.cons (o := _) rfl (fun wk hS hf K hK => ?_) (fun v14 => ?_)
 ·have f13 := iD (f := Fact.limbs (fun b => w.heap.size ≤ b) D) (hf (13, v13) (by simp) (by kernel_rfl)) rfl;refine ifT' rfl ?_;refine xW _ _ 51 Tryz.underlying51 rfl none (fun _ h => by cases h) v13 D rfl rfl f13 (by omega) ?_;intro u w' hb hi;exact hK.out _ _ hb (Ah.keep hi.limbs (fun b h _ => Nat.le_trans (Nat.le_trans hwb hS.2.1) h) (Same.refl _ _))
 try simp only [Act.put, lq1, lq2, lq3, lq4, lq5, lq6]
 refine Flow.cons (o := _) rfl (fun wk hS hf K hK => ?_) (fun v15 => ?_)
 ·have f5 := iD (f := Fact.zeros wn.heap.size m) (hf (5, v5) (by simp) (by kernel_rfl)) rfl;go_simp;exact hK.out _ _ (Below.refl _ _) f5
 try simp only [Act.put, lq1, lq2, lq3, lq4, lq5, lq6]
 refine Flow.cons (o := _) rfl (fun wk hS hf K hK => ?_) (fun v16 => ?_)
 ·have f14 := iD (f := Fact.limbs (fun b => w.heap.size ≤ b) D) (hf (14, v14) (by simp) (by kernel_rfl)) rfl;go_simp;exact hK.out _ _ (Below.refl _ _) f14
 try simp only [Act.put, lq1, lq2, lq3, lq4, lq5, lq6]
 refine Flow.nil (fun wE hS hf => ?_);have f15 := iD (f := Fact.zeros wn.heap.size m) (hf (15, v15) (by simp)) rfl;have f16 := iD (f := Fact.limbs (fun b => w.heap.size ≤ b) D) (hf (16, v16) (by simp)) rfl;obtain ⟨_, hSz, hSb⟩ := hS;obtain ⟨bq, hv15, hbq, hrq⟩ := f15;dsimp only at hv15;subst hv15;have HRQ := Lib.hid hrq;have hBE : Below wn.heap.size wn wE := hSb;have hBQ := hrq.lt;have hR0 : ay D < b' := by
  rw [HDE.out];refine Nat.lt_of_lt_of_le (adv a' m) ?_;have h1 := uo aby;rw [HBL.out] at h1;rw [← HLA.out, show la - m = n - 1 by omega];exact h1
 have HR0 := Lib.hid hR0;have HR16 := Lib.hid (show Ad wE (fun b => w.heap.size ≤ b) v16 (ay D) by unfold Ad; rw [HDE.out, afq, ← HDE.out]; exact f16);clear hf f16 hrq hHeld HDR hdl et hR0 hSz;have i4 : (la : Int) - (n : Int) = (m : Int) - 1 := by omega
 go_wp2_with fail
 clear i4;try generalize IntKind.i64.wrap ((la : Int) - (n : Int)) = jk
 go_loopw [5, 9, 10, 11, 12] (fun rv iv _ _ _ wr => ∃ (k R : Nat) (Q : List Nat), k ≤ m ∧ iv = .int .i64 ((k : Int) - 1) ∧ ay ((dig a').drop k) = b' * ay (Q.drop k) + R ∧ R < b' ∧ Q.length = m ∧ Limbs Q ∧ Row wr bq 115 (aO Q) ∧
  ((k = m ∧ Ad wr (fun b => w.heap.size ≤ b) rv R) ∨ AP (bq + 1) (dig R) rv wr) ∧ Below wn.heap.size wn wr ∧ wE.heap.size ≤ wr.heap.size) (fun _ iv _ _ _ _ => (intOf iv + 1).toNat)
 case atStart =>
  refine ⟨m, ay D, List.replicate m 0, Nat.le_refl _, rfl, ?_, HR0.out, by simp, Limbs.zeros _, HRQ.out, .inl ⟨rfl, HR16.out⟩, hBE, Nat.le_refl _⟩;rw [← HDE.out, List.drop_of_length_le (by simp)];simp [ay]
 case round =>
  clear HRQ HR0 HR16 hBE;obtain ⟨k, R, Q, hk, rfl, hinv, hR, hQl, agN, hrq, hown, hbel, hsz⟩ := hrel;have hzw := hbel.size;have hB2 : Below w.heap.size w wr := hB.trans (hbel.mono hwb);have HQL := Lib.hid hQl; have HQM := Lib.hid agN; have HI := Lib.hid hinv; have HO := Lib.hid hown;have hvr : Ad wr (fun b => w.heap.size ≤ b) u5 R := by
   rcases hown with h | h
   ·exact h.2
   ·exact Ah.keep h.limbs (fun b hb _ => by omega) (Same.refl _ _)
  have hRl : (dig R).length ≤ n := by have := aK (Nat.le_of_lt hR); rw [HBL.out] at this; exact this
  clear hQl agN hinv hown;rcases Nat.eq_zero_or_pos k with h0 | h0
  ·subst h0;have acD : AP (bq + 1) (dig R) u5 wr := by
    rcases HO.out with h | h
    ·omega
    ·exact h
   clear hvr HO;have hsc := vk (a := a) (b := b) (f := f) (q := ay Q) (r := R) (by omega) (by have := HI.out; rw [List.drop_zero, List.drop_zero, aS, HSC.out.1, HSC.out.2] at this; exact this) (by rw [← HSC.out.2]; exact hR);have HQR := Lib.hid hsc; clear hsc;have hfd : dig f = [f] := iV (by omega) (by unfold LB; omega);obtain ⟨Af, cf, hvf, hcf, hNf⟩ := HF.out;have hfl : (dig f).length = 1 := by rw [hfd]; rfl
   obtain ⟨bf, of, rfl, _, hbf, hxf⟩ := hNf (by omega);have ef : wn.cell? ⟨bf, of, none⟩ = some (.int .u32 (f : Int)) := by
    have := hxf 0 f (by rw [hfd]; rfl);unfold bJ at this;simpa using this
   rw [hfl] at hvf hcf;subst hvf;obtain ⟨Ar, cr, rfl, hcr, hrr⟩ := acD;obtain ⟨t0, ht0⟩ : ∃ t0, t0 = (dig R).length := ⟨_, rfl⟩;rw [← ht0] at hcr hrr hRl ⊢;have HT0 := Lib.hid ht0;have afv : Ah wr (fun b => w.heap.size ≤ b) (.slice (some ⟨bq, 0, none⟩) m m) Q := iR hrq (by show w.heap.size ≤ bq; omega) HQL.out (Nat.le_refl _);clear hNf hxf hfd hfl HI;rcases Nat.eq_zero_or_pos t0 with h0 | hpos
   ·subst h0;have HR0 := Lib.hid (show R = 0 by rw [← aae]; exact HT0.out.symm);have HQW := Lib.hid afv; clear afv;clear ht0;obtain ⟨wp, rfl⟩ : ∃ wp : World, wp = wr := ⟨_, rfl⟩;go_wp2_with fail
    go_loopw [13, 14] (fun _ iv wr => iv = .int .i64 (-1) ∧ wp = wr) (fun _ _ _ => 0)
    case atStart => exact ⟨rfl, rfl⟩
    case round =>
     obtain ⟨rfl, rfl⟩ := hrel;go_wp2_with fail
     refine (jL wp (fun b => w.heap.size ≤ b) (some ⟨bq, 0, none⟩) m m Q HQL.out HQW.out (by omega)).mono ?_;rintro e w' ⟨rfl, rfl⟩;have HTQ := Lib.hid (Ah.trim HQL.out HQW.out HQM.out);dsimp only;go_wp2_with fail
     refine (jL wp (fun b => w.heap.size ≤ b) Ar 0 cr [] rfl (fM _ _ _ _) (by omega)).mono ?_;rintro e w' ⟨rfl, rfl⟩;dsimp only;go_wp2
     go_ret2;refine ⟨_, rfl, hB2, _, _, rfl, ?_, ?_⟩
     ·rw [← HQR.out.1]; exact HTQ.out.mono fun b hb _ => .inr hb
     ·rw [← HQR.out.2, HR0.out, Nat.zero_div];exact Ad.zero _ _ _ _
   ·obtain ⟨g, rest, rfl, hg, hrow⟩ := hrr hpos;have hglt := hrow.lt;have BI := Lib.hid hrow;clear hrr afv hrow ht0;have HRQ2 := Lib.hid hrq; clear hrq;have hd0 : ay ((dig R).drop t0) = 0 := by rw [List.drop_of_length_le (by rw [← HT0.out]; omega)]; rfl
    obtain ⟨wp, rfl⟩ : ∃ wp : World, wp = wr := ⟨_, rfl⟩;go_wp2_with fail
    go_loopw [13, 14] (fun sv iv wr => ∃ (kk s : Nat) (l : List Nat), kk ≤ t0 ∧ iv = .int .i64 ((kk : Int) - 1) ∧ sv = .int .u64 (s : Int) ∧ s < f ∧ l.length = t0 ∧ l.take kk = (dig R).take kk ∧ ay ((dig R).drop kk) = f * ay (l.drop kk) + s ∧ Limbs l ∧
     Row wr g 115 (aO l ++ rest) ∧ Row wr bq 115 (aO Q) ∧ Below wn.heap.size wn wr ∧ wp.heap.size ≤ wr.heap.size) (fun _ iv _ => (intOf iv + 1).toNat)
    case atStart =>
     exact ⟨t0, 0, dig R, Nat.le_refl _, rfl, rfl, by omega, HT0.out.symm, rfl, by rw [hd0]; omega, aI R, BI.out, HRQ2.out, hbel, Nat.le_refl _⟩
    case round =>
     clear BI HRQ2 hd0;obtain ⟨kk, s, l, hkk, rfl, rfl, hsf, hll, htk, hinv, hlim, hrow, hrq, jr, hsz2⟩ := hrel;have HTK := Lib.hid htk; have HINV := Lib.hid hinv; have Du := Lib.hid hlim; have HLL := Lib.hid hll;have hef : wr.cell? ⟨bf, of, none⟩ = some (.int .u32 (f : Int)) := (aJ jr bf of hbf).trans ef;have hzb := jr.size;have hBw : Below w.heap.size w wr := hB.trans (jr.mono hwb);clear htk hinv hlim;rcases Nat.eq_zero_or_pos kk with h0 | h0
     ·subst h0;have hfin : ay l = R / f := by
       have h1 := HINV.out;rw [List.drop_zero, List.drop_zero, aS] at h1;rw [h1, Nat.mul_add_div (by omega), Nat.div_eq_of_lt hsf, Nat.add_zero]
      have HFIN := Lib.hid hfin;have HQW := Lib.hid (show Ah wr (fun b => w.heap.size ≤ b) (.slice (some ⟨bq, 0, none⟩) m m) Q from iR hrq (by show w.heap.size ≤ bq; omega) HQL.out (Nat.le_refl _));have HRW := Lib.hid (show Ah wr (fun b => w.heap.size ≤ b) (.slice (some ⟨g, 0, none⟩) t0 cr) l from (AP.limbs (B := w.heap.size) ⟨_, cr, by rw [hll], by omega, fun _ => ⟨g, rest, rfl, by omega, hrow⟩⟩));clear hfin hrow hrq hll;go_wp2_with fail
      refine (jL wr (fun b => w.heap.size ≤ b) (some ⟨bq, 0, none⟩) m m Q HQL.out HQW.out (by omega)).mono ?_;rintro e w' ⟨rfl, rfl⟩;have HTQ := Lib.hid (Ah.trim HQL.out HQW.out HQM.out);dsimp only;go_wp2_with fail
      refine (jL wr (fun b => w.heap.size ≤ b) (some ⟨g, 0, none⟩) t0 cr l HLL.out HRW.out (by omega)).mono ?_;rintro e w' ⟨rfl, rfl⟩;have HTR := Lib.hid (Ah.trim HLL.out HRW.out Du.out);dsimp only;go_wp2
      go_ret2;refine ⟨_, rfl, hBw, _, _, rfl, ?_, ?_⟩
      ·rw [← HQR.out.1]; exact HTQ.out.mono fun b hb _ => .inr hb
      ·rw [← HQR.out.2, ← HFIN.out]; exact HTR.out.mono fun b hb _ => .inr hb
     ·obtain ⟨k2, rfl⟩ : ∃ k2, kk = k2 + 1 := ⟨kk - 1, by omega⟩;have e3 : ((k2 + 1 : Nat) : Int) - 1 = (k2 : Int) := by omega
      rw [e3];obtain ⟨y, hy⟩ := aA (l := l) (k := k2) (by omega);have hyl : y < 1000000000 := Du.out.get hy;have hyd : (dig R)[k2]? = some y := by
       have h1 : (l.take (k2 + 1))[k2]? = ((dig R).take (k2 + 1))[k2]? := by rw [HTK.out]
       rw [List.getElem?_take_of_lt (by omega), List.getElem?_take_of_lt (by omega), hy] at h1;exact h1.symm
      have hyc : (aO l ++ rest)[k2]? = some (.int .u32 (y : Int)) := by
       rw [List.getElem?_append_left (by simp; omega)];exact aT hy
      have ey := hrow.cell hyc;have fy := hrow.frozen k2;obtain ⟨e, he⟩ : ∃ e, e = (s * LB + y) / f := ⟨_, rfl⟩;obtain ⟨s2, hs2⟩ : ∃ s2, s2 = (s * LB + y) % f := ⟨_, rfl⟩;have hel : e < LB := by rw [he]; exact pV hsf hyl
      have hs2l : s2 < f := by rw [hs2]; exact Nat.mod_lt _ (by omega)
      have hqI : ((s : Int) * 1000000000 + (y : Int)) / (f : Int) = (e : Int) := by
       rw [he, ← jT]; congr 1
      have hrI : ((s : Int) * 1000000000 + (y : Int)) % (f : Int) = (s2 : Int) := by
       rw [hs2, ← nR]; congr 1
      have HST := Lib.hid (rG (A := 0) (q := l) (a := dig R) (i := k2) (d := f) (r := s) (r' := s2) (s := e) (by omega) HINV.out (by rw [aF hyd, he, hs2]; exact (Nat.div_add_mod _ _).symm));have Dz := Lib.hid hrow; have HRQ3 := Lib.hid hrq;have hgw : g < wr.heap.size := by omega
      have hell : e < 1000000000 := hel;clear he hs2 hyd hyc hy hrow hrq hll;go_wp2
      go_roundw
      case rel =>
       refine ⟨k2, s2, l.set k2 e, by omega, by go_num, by go_num, hs2l, by rw [List.length_set]; exact HLL.out, ?_, HST.out, Du.out.set hel, ?_, ?_, ?_, ?_⟩
       ·have h1 := HTK.out;have h2 := congrArg (List.take k2) h1;rw [List.take_take, List.take_take, Nat.min_eq_left (by omega)] at h2;rw [List.take_set_of_le (by omega)];exact h2
       ·have h := Dz.out.set k2 (.int .u32 (e : Int));rw [List.set_append_left _ _ (by have := HLL.out; simp; omega), aV] at h;exact h
       ·exact HRQ3.out.other (a := ⟨g, k2, none⟩) (by simp; omega) _
       ·exact jr.setCell (p := ⟨g, k2, none⟩) (by show wn.heap.size ≤ g; omega) _
       ·simp; omega
      case measure => simp [intOf]
  ·obtain ⟨j, rfl⟩ : ∃ j, k = j + 1 := ⟨k - 1, by omega⟩;have e1 : ((j + 1 : Nat) : Int) - 1 = (j : Int) := by omega
   rw [e1];have hjm : j < m := by omega
   have hjla : j < la := by omega
   have hRA := HA.out.below hbel;obtain ⟨x, hx'⟩ := aA (l := dig a') (k := j) (by rw [← HLA.out]; omega);have ex : wr.cell? ⟨ba, oa + j, none⟩ = some (.int .u32 (x : Int)) := by
    obtain ⟨A2, c2, hE, _, hh⟩ := hRA;cases hE
    obtain ⟨b2, o2, hE2, _, _, hxx⟩ := hh (by rw [← HLA.out]; omega);cases hE2
    have := hxx j x hx';unfold bJ at this; rw [Nat.mul_one] at this;exact this
   have hxl : x < 1000000000 := (aI a').get hx';have HX := Lib.hid (aF hx');clear hx' hRA;have HVR := Lib.hid hvr;obtain ⟨Ar, cr, rfl, hcr, _⟩ := hvr;obtain ⟨wp, rfl⟩ : ∃ wp : World, wp = wr := ⟨_, rfl⟩;go_wp2_with (at_builtin; refine abr (w := wp) (F := fun b => w.heap.size ≤ b) rfl _ _ 51 Tryz.underlying51 rfl x _ (dig R) rfl rfl rfl HVR.out (by omega) ?_; intro A3 c3 w3 hb3 hi3; have HI3 := Lib.hid hi3; clear hi3)
   have hz3 := hb3.size;refine (jL w3 (fun b => wp.heap.size ≤ b) A3 ((dig R).length + 1) c3 (x :: dig R) (by simp) HI3.out (by omega)).mono ?_;rintro e w' ⟨rfl, rfl⟩;have htr := Ah.trim (by simp) HI3.out (fun y hy => by
    rcases List.mem_cons.1 hy with h | h
    ·subst h; exact hxl
    ·exact aI R y h)
   rw [show ay (x :: dig R) = x + LB * R by show x + LB * ay (dig R) = _; rw [aS]] at htr;obtain ⟨hRb, hRrl⟩ := abt (x := x) hR HBL.out hxl;obtain ⟨Rr, hRr⟩ : ∃ Rr, Rr = x + LB * R := ⟨_, rfl⟩;rw [← hRr] at htr hRb hRrl;have HRR := Lib.hid hRr;have hte : cZ (x :: dig R) ((dig R).length + 1) = (dig Rr).length := by
    obtain ⟨A5, c5, he, _⟩ := htr;injection he
   rw [hte] at htr ⊢;have HTR := Lib.hid htr;obtain ⟨lr, hlr⟩ : ∃ lr, lr = (dig Rr).length := ⟨_, rfl⟩;rw [← hlr] at hRrl HTR ⊢;have HLR := Lib.hid hlr;have hxr : ∀ k y : Nat, (dig Rr)[k]? = some y → ∃ b o, A3 = some ⟨b, o, none⟩ ∧ w3.cell? ⟨b, o + k, none⟩ = some (.int .u32 (y : Int)) := by
    intro k y hk;obtain ⟨A5, c5, he, _, hh⟩ := htr;cases he
    obtain ⟨b5, o5, e5, _, _, hx5⟩ := hh (by have := aH hk; omega);have h9 := hx5 k y hk;unfold bJ at h9; rw [Nat.mul_one] at h9;exact ⟨b5, o5, e5, h9⟩
   have HXR := Lib.hid hxr;clear hRr hte hlr hxr htr HI3 HVR hcr;dsimp only;go_wp2_with fail
   go_loopw [10, 11] (fun lv kv wr => ∃ kk L : Nat, kk ≤ lr ∧ (n1 ≤ kk ∨ kk = lr) ∧ kv = .int .i64 ((kk : Int) - 1) ∧ lv = .int .u64 (L : Int) ∧ L = ay ((dig Rr).drop kk) ∧ w3 = wr) (fun _ kv _ => (intOf kv + 1).toNat)
   case atStart => exact ⟨lr, 0, Nat.le_refl _, .inr rfl, rfl, rfl, by rw [List.drop_of_length_le (by rw [← HLR.out]; omega)]; rfl, rfl⟩
   case round =>
    obtain ⟨kk, L, hkk, hkn, rfl, rfl, hL, rfl⟩ := hrel;have HLL := Lib.hid hL;clear hL;by_cases hkc : n1 + 1 ≤ kk
    ·obtain ⟨k1, rfl⟩ : ∃ k1, kk = k1 + 1 := ⟨kk - 1, by omega⟩;have e2 : ((k1 + 1 : Nat) : Int) - 1 = (k1 : Int) := by omega
     rw [e2];obtain ⟨y, hy⟩ := aA (l := dig Rr) (k := k1) (by rw [← HLR.out]; omega);obtain ⟨b5, o5, rfl, ey⟩ := HXR.out k1 y hy;have hyl : y < 1000000000 := (aI Rr).get hy;have hL1 : L < 1000000000 := by
      rw [HLL.out];refine Nat.lt_of_lt_of_le (adv Rr (k1 + 1)) ?_;rw [← HLR.out];have : LB ^ (lr - (k1 + 1)) ≤ LB ^ 1 := Nat.pow_le_pow_right (by decide) (by omega);simpa using this
     have HNX := Lib.hid (ad4 (n := n) hy HLL.out);clear hy;have hi5 : (n : Int) - 1 = (n1 : Int) := by omega
     have hc5 : decide ((n1 : Int) ≤ (k1 : Int)) = true := decide_eq_true (by omega);go_wp2
     go_roundw
     case rel => exact ⟨k1, L * LB + y, by omega, by omega, by go_num, by go_num, HNX.out, by first | rfl | trivial⟩
     case measure => simp [intOf]
    ·have hLv : L = Rr / LB ^ n1 := by
      rw [HLL.out];rcases hkn with h | h
      ·rw [show kk = n1 by omega, yS _ (aI Rr), aS]
      ·rw [h, List.drop_of_length_le (by rw [← HLR.out]; omega)];have h2 := jl Rr;rw [← HLR.out] at h2;have h3 : LB ^ lr ≤ LB ^ n1 := Nat.pow_le_pow_right (by decide) (by omega);rw [Nat.div_eq_of_lt (by omega)]; rfl
     have HLV := Lib.hid hLv;clear hLv HLL;have hi5 : (n : Int) - 1 = (n1 : Int) := by omega
     have hc5 : decide ((n1 : Int) ≤ (kk : Int) - 1) = false := decide_eq_false (by omega);have hbn : ay [] = 0 := rfl;have hge := aeN (b := b') (r := Rr) aby hRb;rw [HBL.out, show n - 1 = n1 by omega, show (dig b').getD n1 0 = t' by have := HTP.out; rwa [HBL.out, show n - 1 = n1 by omega] at this, ← HLV.out] at hge;obtain ⟨q, hq⟩ : ∃ q, q = L / t' := ⟨_, rfl⟩;rw [← hq] at hge;have hqI : (L : Int) / (t' : Int) = (q : Int) := by rw [hq, jT]
     have hLlt : L < 1000000000000000000 := by
      rw [HLV.out];refine (Nat.div_lt_iff_lt_mul (AU _)).2 ?_;refine Nat.lt_of_lt_of_le (jl Rr) ?_;rw [← HLR.out, show (1000000000000000000 : Nat) = LB ^ 2 by decide, ← Nat.pow_add];exact Nat.pow_le_pow_right (by decide) (by omega)
     have hql : q < 1000000000000000000 := by rw [hq]; exact Nat.lt_of_le_of_lt (Nat.div_le_self _ _) hLlt
     have HGE := Lib.hid hge;have HB3 := Lib.hid ((HB.out.below hbel).below hb3);clear hq hge hkn;go_wp2_with fail
     all_goals
      go_loopw [12] (fun dv wr => ∃ d : Nat, dv = .int .u64 (d : Int) ∧ Rr / b' ≤ d ∧ d < 1000000000 ∧ Below w3.heap.size w3 wr) (fun dv _ => (intOf dv).toNat)
      case atStart =>
       first
        | exact ⟨q, by first | rfl | go_num, by have := HGE.out; omega, by omega, Below.refl _ _⟩
        | exact ⟨999999999, by first | rfl | go_num, by have := HGE.out; unfold LB at this; omega, by omega, Below.refl _ _⟩
      case round =>
       obtain ⟨d, rfl, hdge, hdl, hb4⟩ := hrel;have hz4 := hb4.size;have HD := Lib.hid hdge;clear hdge;have HBR := Lib.hid (HB3.out.below hb4);have HRR4 := Lib.hid (Ad.below (n := Rr) HTR.out hb4);go_wp2_with fail
       refine (rX wr d (by omega)).mono ?_;rintro e w5 ⟨vd, rfl, hb5, hvd⟩;have HVD := Lib.hid hvd; clear hvd;have hz5 := hb5.size;have HBR5 := Lib.hid (HBR.out.below hb5);have HRR5 := Lib.hid (Ad.below (n := Rr) HRR4.out hb5);dsimp only;go_wp2_with fail
       refine (iJ w5 (fun b => w.heap.size ≤ b) _ _ b' d HBR5.out (HVD.out.mono (fun b hb _ => by omega)) (by rw [HBL.out]; omega) (by have := aQ (n := d) (k := 1) (by unfold LB; omega); omega)).mono ?_;rintro e w6 ⟨vt, rfl, hb6, hvt⟩;have HVT := Lib.hid hvt; clear hvt;have hz6 := hb6.size;have HRR6 := Lib.hid (Ad.below (n := Rr) HRR5.out hb6);have hltd : (dig (b' * d)).length ≤ n + 1 := Nat.le_trans (dh _ _) (by rw [HBL.out]; have := aQ (n := d) (k := 1) (by unfold LB; omega); omega);dsimp only;go_wp2_with fail
       refine (oN w6 (fun b => w.heap.size ≤ b) _ _ (b' * d) Rr (HVT.out.mono (fun b hb _ => by omega)) (HRR6.out.mono (fun b hb _ => by omega)) (by omega) (by rw [← HLR.out]; omega)).mono ?_;rintro e w7 ⟨_, rfl, hb7, rfl⟩;have hb47 : Below w3.heap.size w3 w7 := hb4.trans ((hb5.trans ((hb6.trans (hb7.mono hz6)).mono hz5)).mono hz4);by_cases hgt : Rr < b' * d
       ·have hdd : decide (0 < bI (b' * d) Rr) = true := decide_eq_true (abu.2 hgt);have ahb : Rr / b' < d := (Nat.div_lt_iff_lt_mul (by omega)).2 (by rw [Nat.mul_comm]; exact hgt);have hd1 : 1 ≤ d := Nat.lt_of_le_of_lt (Nat.zero_le _) ahb;have HDL := Lib.hid ahb;clear hgt ahb;dsimp only;go_wp2
        go_roundw
        case rel => exact ⟨d - 1, by go_num, Nat.le_sub_one_of_lt HDL.out, by omega, hb47⟩
        case measure => simp [intOf]; omega
       ·have hdd : decide (0 < bI (b' * d) Rr) = false := decide_eq_false (fun h => hgt (abu.1 h));have hde : d = Rr / b' := aeO aby HD.out (by omega);have Dv := Lib.hid hde;clear hgt hde;have hz7 := hb7.size;have HBR7 := Lib.hid (HBR5.out.below (hb6.trans (hb7.mono hz6)));have HRR7 := Lib.hid (Ad.below (n := Rr) HRR6.out hb7);have hz47 := hb47.size;dsimp only;go_wp2_with fail
        refine (rX w7 d (by omega)).mono ?_;rintro e w8 ⟨vd, rfl, hb8, hvd⟩;have HVD8 := Lib.hid hvd; clear hvd;have hz8 := hb8.size;dsimp only;go_wp2_with fail
        refine (iJ w8 (fun b => w.heap.size ≤ b) _ _ b' d (HBR7.out.below hb8) (HVD8.out.mono (fun b hb _ => by omega)) (by rw [HBL.out]; omega) (by have := aQ (n := d) (k := 1) (by unfold LB; omega); omega)).mono ?_;rintro e w9 ⟨vt, rfl, hb9, hvt⟩;have HVT9 := Lib.hid hvt; clear hvt;have hz9 := hb9.size;have hle9 : b' * d ≤ Rr := by rw [Dv.out]; exact Nat.mul_div_le _ _
        dsimp only;go_wp2_with fail
        refine (rP w9 (fun b => w.heap.size ≤ b) _ _ Rr (b' * d) ((Ad.below (n := Rr) HRR7.out (hb8.trans (hb9.mono hz8))).mono (fun b hb _ => by omega)) (HVT9.out.mono (fun b hb _ => by omega)) hle9 (by rw [← HLR.out]; omega)).mono ?_;rintro e w10 ⟨_, rfl, hb10, l10, A10, c10, rfl, hn10, hl10, afw⟩;have acD := l9 afw hl10;rw [hn10, show Rr - b' * d = Rr % b' from adD Dv.out] at acD;have afx : Below w3.heap.size w3 w10 := hb47.trans ((hb8.trans ((hb9.trans (hb10.mono hz9)).mono hz8)).mono hz47);have afy : Below wp.heap.size wp w10 := hb3.trans (afx.mono hz3);have hbqw : bq < wp.heap.size := Nat.lt_of_lt_of_le hBQ hsz;have adw := hrq.below afy hbqw;have hz10 := hb10.size;have HCOP := Lib.hid acD;have hvl : ∃ v10, v10 = Value.slice A10 (cZ l10 l10.length) c10 := ⟨_, rfl⟩;obtain ⟨v10, hv10⟩ := hvl;have HV10 := Lib.hid hv10;have hqd : Q.length = m := HQL.out;have hjQ : (aO Q).length = m := by simp [hqd]
        obtain ⟨yq, hyq⟩ := aA (l := aO Q) (k := j) (by omega);have hcq := adw.cell hyq;have hfq := adw.frozen j;have afz : Below wn.heap.size wn w10 := hbel.trans (afy.mono hzw);have DC := Lib.hid afz;have DF := Lib.hid adw;have HNXT := Lib.hid (adE (a := dig a') (q := Q) (i := j) (b := b') (r := R) (d := d) (by omega) HI.out (by rw [HX.out, ← HRR.out]; exact Dv.out));have hbq2 : bq + 1 ≤ w9.heap.size := by omega
        have hwq : wE.heap.size ≤ w10.heap.size := by omega
        clear afw hn10 hl10 acD hyq adw hb10 hb9 hb8 hb7 hb6 hb5 hb4 afx afy afz hle9 hv10 hrq;dsimp only;go_wp2
        go_roundw
        case rel =>
         refine ⟨j, Rr % b', Q.set j d, by omega, by go_num, ?_, Nat.mod_lt _ (by omega), by rw [List.length_set]; exact hqd, HQM.out.set hdl, ?_, .inr ?_, ?_, ?_⟩
         ·have h := HNXT.out;rw [HX.out, ← HRR.out] at h;exact h
         ·have h := DF.out.set j (.int .u32 (d : Int));rw [aV] at h;exact h
         ·refine AP.lower (B := w9.heap.size) (HCOP.out.other (fun g hg _ => ?_)) hbq2;exact Below.heap_setCell _ _ _ _ (fun e => by simp at e; omega)
         ·exact DC.out.setCell (p := ⟨bq, j, none⟩) hbq _
         ·simp; exact hwq
        case measure => simp [intOf]
set_option maxHeartbeats 1600000 in
theorem uK (w : World) (F : Ac) (va vb : Value) (a b : Nat) (ha : Ad w F va a) (hb : Ad w F vb b) (hb0 : b ≠ 0) (hla : (dig a).length ≤ 50000) (hlb : (dig b).length ≤ 50000) :
  Calls Tryz.prog 106 #[va, vb] w (Ret w (BM F w.heap.size a b)) := by
 by_cases hlt : a < b
 ·have hord : decide (bI a b < 0) = true := by rw [fZ hlt]; rfl
  have HLT := Lib.hid hlt;have HVA := Lib.hid ha; have HVB := Lib.hid hb;clear ha hb hlt hb0;go_enter Tryz.func106, Tryz.ntmps106;go_wp2_with fail
  refine (oN w F _ _ a b HVA.out HVB.out (by omega) (by omega)).mono ?_;rintro e wn ⟨_, rfl, hb1, rfl⟩;generalize bI a b = od at *;dsimp only;go_wp2
  go_ret2;refine ⟨_, rfl, hb1, _, _, rfl, ?_, ?_⟩
  ·rw [Nat.div_eq_of_lt HLT.out]; exact Ad.zero _ _ _ _
  ·rw [Nat.mod_eq_of_lt HLT.out]; exact HVA.out.ext hb1
 ·exact acC w F va vb a b ha hb hb0 hla (by omega)
set_option maxRecDepth 100000 in
set_option maxHeartbeats 1600000 in
theorem fK (w : World) (F : Ac) (va vb : Value) (a0 b0 : Nat) (ha : Ad w F va a0) (hb : Ad w F vb b0) (hla : (dig a0).length ≤ 50000) (hlb : (dig b0).length ≤ 50000) :
  Calls Tryz.prog 105 #[va, vb] w (Ret w fun v w' => Ad w' (Ext F w.heap.size) v (Nat.gcd a0 b0)) := by
 have HA := Lib.hid ha; have HB := Lib.hid hb;clear ha hb;obtain ⟨G, hG⟩ : ∃ G, G = Nat.gcd a0 b0 := ⟨_, rfl⟩;rw [← hG];have HG := Lib.hid hG; clear hG;go_enter Tryz.func105, Tryz.ntmps105;go_wp2_with fail
 go_loopg [0, 1, 5, 6] b0 (fun f va vb _ _ wr => ∃ a b, b = f ∧ Ad wr (Ext F w.heap.size) va a ∧ Ad wr (Ext F w.heap.size) vb b ∧ G = Nat.gcd a b ∧ (dig a).length ≤ 50000 ∧ (dig b).length ≤ 50000 ∧ Below w.heap.size w wr)
 case atStart => exact ⟨a0, b0, rfl, HA.out.mono (fun b h _ => .inl h), HB.out.mono (fun b h _ => .inl h), HG.out, hla, hlb, Below.refl _ _⟩
 case round =>
  clear HA HB hla hlb HG;obtain ⟨a, b, rfl, hna, hnb, sW, hla, hlb, hbel⟩ := hrel;have HNA := Lib.hid hna; have HNB := Lib.hid hnb; have HGC := Lib.hid sW;obtain ⟨A, c, rfl, hc, _⟩ := hna;obtain ⟨B, d, rfl, hd, _⟩ := hnb;have hz := hbel.size;clear sW;by_cases hb0 : b = 0
  ·have d1 : decide (0 < (dig b).length) = false := decide_eq_false (by rw [hb0, aW]; simp);have HF := Lib.hid (show G = a by rw [HGC.out, hb0, Nat.gcd_zero_right]);clear hb0;go_wp2
   go_ret;exact ⟨_, rfl, hbel, by rw [HF.out]; exact HNA.out⟩
  ·have d1 : decide (0 < (dig b).length) = true := decide_eq_true (aU.2 hb0);have HB0 := Lib.hid hb0;have hml : a % b < b := Nat.mod_lt _ (by omega);clear hb0;go_wp2_with fail
   refine (uK wr (Ext F w.heap.size) _ _ a b HNA.out HNB.out HB0.out hla hlb).mono ?_;rintro e w2 ⟨_, rfl, hb2, vq, vr, rfl, hq, hr⟩;have HR := Lib.hid hr;clear hq hr;have hlr : (dig (a % b)).length ≤ 50000 := by have := aK (Nat.le_of_lt hml); omega
   have HML := Lib.hid hml;go_wp2
   go_roundg (a % b)
   case measure => exact HML.out
   case rel => exact ⟨b, a % b, rfl, HNB.out.below hb2, HR.out.mono (fun b hb _ => hb.elim id fun h => .inr (by omega)), by rw [HGC.out, Nat.gcd_comm, Nat.gcd_rec, Nat.gcd_comm], hlb, hlr, hbel.trans (hb2.mono hz)⟩
theorem agl {neg : Bool} {n d g : Nat} (hd : d ≠ 0) (hn : n ≠ 0) (hg : g = Nat.gcd n d) : au (mkRat (sgI neg n) d) = ⟨neg, dig (n / g), dig (d / g)⟩ := by
 have h := iW (sgI neg n) hd;rw [lG, ← hg] at h;unfold au;rw [h.1, h.2.1, jD _ hd, qB hn]
theorem acE : au 0 = ⟨false, [], [1]⟩ := by
 unfold au;rw [show (0 : Rat).num = 0 from rfl, show (0 : Rat).den = 1 from rfl, Int.natAbs_zero, aW, gJ]; rfl
set_option maxRecDepth 100000 in
set_option maxHeartbeats 1600000 in
theorem kK (w : World) (F : Ac) (neg : Bool) (vn vd : Value) (n d : Nat) (hn : Ad w F vn n) (hd : Ad w F vd d) (hd0 : d ≠ 0) (hln : (dig n).length ≤ 50000) (hld : (dig d).length ≤ 50000) :
  Calls Tryz.prog 69 #[.bool neg, vn, vd] w (Ret w fun v w' => RtV w' (Ext F w.heap.size) v (mkRat (sgI neg n) d)) := by
 have HN := Lib.hid hn.old; have HD := Lib.hid hd.old;obtain ⟨A, c, rfl, hc, _⟩ := hn;obtain ⟨B, e, rfl, he, _⟩ := hd;by_cases h0 : n = 0
 ·have HZ := Lib.hid (show mkRat (sgI neg n) d = 0 by rw [h0, aau]);have hl0 : (((dig n).length : Int) == 0) = true := by rw [h0, aW]; rfl
  clear h0 hd0;go_enter Tryz.func69, Tryz.ntmps69;go_wp2
  obtain ⟨W, hW, hr, hr2, hB, hz⟩ := alloc2 w 53 #[.bool false, .slice none 0 0, .slice (some ⟨w.heap.size + 1, 0, none⟩) 1 1] 115 #[.int .u32 1];rw [← hW];clear hW;have t0 := hr.cell (i := 0) rfl;have t1 := hr.cell (i := 1) rfl;have t2 := hr.cell (i := 2) rfl;refine bodyPost_ret (v := .agg #[.bool false, .slice none 0 0, .slice (some ⟨w.heap.size + 1, 0, none⟩) 1 1]) (by simp [results, Tryz.results69, go_sem, t0, t1, t2]) rfl ?_;refine ⟨_, rfl, hB, ?_⟩;unfold RtV;rw [HZ.out, acE];refine Ak.make rfl (fM _ _ _ _) ?_;have h2 := Row.limbs (l := [1]) (by simpa [aO] using hr2) (F := Ext F w.heap.size) (.inr (by omega)) (n := 1) (c := 1) (by simp) (Nat.le_refl _);simpa using h2
 ·obtain ⟨g, hg⟩ : ∃ g, g = Nat.gcd n d := ⟨_, rfl⟩;have HLR := Lib.hid (agl (neg := neg) hd0 h0 hg);have hg0 : g ≠ 0 := by rw [hg]; exact Nat.ne_of_gt (Nat.gcd_pos_of_pos_right _ (Nat.pos_of_ne_zero hd0))
  have hlg : (dig g).length ≤ 50000 := Nat.le_trans (aK (by rw [hg]; exact Nat.gcd_le_right _ (Nat.pos_of_ne_zero hd0))) hld;have hl0 : (((dig n).length : Int) == 0) = false := by have := aU.2 h0; exact beq_false_of_ne (by omega)
  have HG := Lib.hid hg;clear hg h0 hd0;go_enter Tryz.func69, Tryz.ntmps69;go_wp2_with fail
  obtain ⟨W, hW, hr, hB, hz'⟩ := aC w 53 #[.bool false, .slice none 0 0, .slice none 0 0];rw [← hW];clear hW;have hz : w.heap.size + 1 ≤ W.heap.size := by omega
  clear hz';replace HN := Lib.hid (Ad.below (n := n) HN.out hB); replace HD := Lib.hid (Ad.below (n := d) HD.out hB);refine (fK _ _ _ _ n d HN.out HD.out hln hld).mono ?_;rintro e wn ⟨vg, rfl, hb, hu⟩;rw [← HG.out] at hu;have HGG := Lib.hid (hu.mono (G := (Ext (Old F w.heap.size) (w.heap.size + 1))) (fun b hb _ => hb.elim .inl fun h => .inr (by omega))); clear hu;replace HN := Lib.hid (HN.out.below hb);replace HD := Lib.hid (HD.out.below hb);replace hr := hr.below hb hr.lt;replace hz := Nat.le_trans hz hb.size;replace hB := hB.trans (hb.mono hB.size);clear hb;dsimp only;go_wp2_with fail
  refine (uK _ (Ext (Old F w.heap.size) (w.heap.size + 1)) _ _ n g (Ad.mono HN.out (fun b hb _ => .inl hb)) HGG.out hg0 hln hlg).mono ?_;rintro e wn ⟨_, rfl, hb, vq, vr, rfl, hu, hu2⟩;have HQ := Lib.hid (hu.mono (G := (Ext (Old F w.heap.size) (w.heap.size + 1))) (fun b hb _ => hb.elim id fun h => .inr (by omega)));obtain ⟨Aq, cq, rfl, _, _⟩ := hu;clear hu2;replace HN := Lib.hid (HN.out.below hb);replace HD := Lib.hid (HD.out.below hb);replace HGG := Lib.hid (HGG.out.below hb);replace hr := hr.below hb hr.lt;replace hz := Nat.le_trans hz hb.size;replace hB := hB.trans (hb.mono hB.size);clear hb;dsimp only;go_wp2_with fail
  refine (uK _ (Ext (Old F w.heap.size) (w.heap.size + 1)) _ _ d g (Ad.mono HD.out (fun b hb _ => .inl hb)) HGG.out hg0 hld hlg).mono ?_;rintro e wn ⟨_, rfl, hb, vq2, vr2, rfl, hu, hu2⟩;have HP := Lib.hid (hu.mono (G := (Ext (Old F w.heap.size) (w.heap.size + 1))) (fun b hb _ => hb.elim id fun h => .inr (by omega)));obtain ⟨Ap, cp, rfl, _, _⟩ := hu;clear hu2;replace HN := Lib.hid (HN.out.below hb);replace HD := Lib.hid (HD.out.below hb);replace HGG := Lib.hid (HGG.out.below hb);replace HQ := Lib.hid (HQ.out.below hb);replace hr := hr.below hb hr.lt;replace hz := Nat.le_trans hz hb.size;replace hB := hB.trans (hb.mono hB.size);clear hb;dsimp only;have q0 := hr.cell (i := 0) rfl;have y0 := hr.frozen 0;have q1 := hr.cell (i := 1) rfl;have y1 := hr.frozen 1;have q2 := hr.cell (i := 2) rfl;have y2 := hr.frozen 2;go_wp2
  obtain ⟨Wz, hWz, hrz, hwz, hkz⟩ := aX hr (.bool neg) (.slice Aq (dig (n / g)).length cq) (.slice Ap (dig (d / g)).length cp);rw [← hWz];clear hWz q0 q1 q2 y0 y1 y2;have t0 := hrz.cell (i := 0) rfl;have t1 := hrz.cell (i := 1) rfl;have t2 := hrz.cell (i := 2) rfl;refine bodyPost_ret (v := .agg #[.bool neg, .slice Aq (dig (n / g)).length cq, .slice Ap (dig (d / g)).length cp]) (by simp [results, Tryz.results69, go_sem, t0, t1, t2]) rfl ?_;exact ⟨_, rfl, hwz _ _ (Nat.le_refl _) hB, by unfold RtV; rw [HLR.out]; exact (Ak.make (r := ⟨neg, dig (n / g), dig (d / g)⟩) rfl HQ.out HP.out).keep (fun b hb _ => hb.elim (fun h => .inl h.1) fun h => .inr (by omega)) (hkz _ (fun h => h.elim (fun h => by have := h.2; omega) fun h => by omega))⟩
end Go.Proofs.YtkcheepafifjaaaGreatDoor
