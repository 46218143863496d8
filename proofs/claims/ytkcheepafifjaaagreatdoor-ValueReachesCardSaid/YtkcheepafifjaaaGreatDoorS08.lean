/- Division by a small number: wide.short, long.short; products with a small number in n limbs: wide.scaled, long.times. -/
import Derived.Test.YtkcheepafifjaaaGreatDoorS07
import Derived.Test.YtkcheepafifjaaaGreatDoorS01
set_option linter.all false
namespace Go.Proofs.YtkcheepafifjaaaGreatDoor
open Go.RowKit
theorem jT (a b : Nat) : (a : Int) / (b : Int) = ((a / b : Nat) : Int) := (Int.natCast_ediv a b).symm
theorem nR (a b : Nat) : (a : Int) % (b : Int) = ((a % b : Nat) : Int) := (Int.natCast_emod a b).symm
theorem pV {r d x : Nat} (hr : r < d) (hx : x < LB) : (r * LB + x) / d < LB := by
 rw [Nat.div_lt_iff_lt_mul (by omega)];have := Nat.mul_le_mul_right LB (show r + 1 ≤ d by omega);rw [Nat.add_mul, Nat.one_mul] at this;rw [Nat.mul_comm LB d]; omega
set_option maxRecDepth 100000 in
set_option maxHeartbeats 3200000 in
theorem xH (w : World) (F : Ac) (va : Value) (a d : Nat) (ha : Ad w F va a) (hla : (dig a).length ≤ 200000) (hd0 : 1 ≤ d) (hd1 : d ≤ 1000000000) :
  Calls Tryz.prog 162 #[va, .int .u64 (d : Int)] w (Ret w fun v w' => ∃ vq, v = .tuple #[vq, .int .u64 ((a % d : Nat) : Int)] ∧ Ad w' (fun b => w.heap.size ≤ b) vq (a / d)) := by
 obtain ⟨A, c, rfl, hc, hNa⟩ := ha;have HA := Lib.hid hNa; clear hNa;go_enter Tryz.func162, Tryz.ntmps162;go_wp2_with (at_make; refine fE _ rfl _ _ 50 rfl 115 (.int .u32 0) 4 Tryz.underlying50 Tryz.infoU32 rfl (dig a).length rfl rfl (by omega) (by omega) ?_; intro w1 hb1 hz1 hrow1)
 have HR1 := Lib.hid hrow1; clear hrow1;go_loopw [5, 6] (fun rv i wr => ∃ (k : Nat) (l : List Nat) (r : Nat), k ≤ (dig a).length ∧ i = .int .i64 ((k : Int) - 1) ∧ rv = .int .u64 (r : Int) ∧ r < d ∧ l.length = (dig a).length ∧ Limbs l ∧ ay ((dig a).drop k) = d * ay (l.drop k) + r ∧
  Row wr w.heap.size 115 (aO l) ∧ Below w.heap.size w wr) (fun _ i _ => (intOf i + 1).toNat)
 case atStart => exact ⟨(dig a).length, List.replicate (dig a).length 0, 0, Nat.le_refl _, rfl, rfl, by omega, by simp, Limbs.zeros _, by rw [List.drop_length, List.drop_eq_nil_of_le (by simp)]; simp [ay], by rw [dX]; exact HR1.out, hb1⟩
 case round =>
  obtain ⟨k, l, r, hk, rfl, rfl, hr, hlen, hlim, hinv, hrow, hbel⟩ := hrel;have HL := Lib.hid hlen; have HI := Lib.hid hinv; have HO := Lib.hid hrow; have HM := Lib.hid hlim;have hold := aJ hbel;rcases Nat.eq_zero_or_pos k with h0 | h0
  ·subst h0;have hF : ay l = a / d ∧ r = a % d := by
    have h1 := hinv;rw [List.drop_zero, List.drop_zero, aS] at h1;rw [h1];exact ⟨by rw [Nat.mul_comm, Nat.add_comm, Nat.add_mul_div_right _ _ (by omega), Nat.div_eq_of_lt hr, Nat.zero_add], by rw [Nat.mul_comm, Nat.add_comm, Nat.add_mul_mod_self_right, Nat.mod_eq_of_lt hr]⟩
   have HF := Lib.hid hF;clear hF hinv hlim hlen;go_wp2_with fail
   refine (lN wr (fun b => w.heap.size ≤ b) (some ⟨w.heap.size, 0, none⟩) (dig a).length (dig a).length l HL.out ?_ (by omega)).mono ?_
   ·have := hrow.limbs (F := fun b => w.heap.size ≤ b) (Nat.le_refl _) (n := l.length) (c := (dig a).length) (Nat.le_refl _) (by rw [HL.out]; exact Nat.le_refl _);rw [List.take_length, HL.out] at this;exact this
   rintro e w' ⟨rfl, rfl⟩;go_wp2
   go_ret2;refine ⟨_, rfl, hbel, _, by rw [← HF.out.2]; rfl, ?_⟩;have := dO HO.out HM.out (F := fun b => w.heap.size ≤ b) (Nat.le_refl _) (c := (dig a).length) HL.out (Nat.le_refl _);rw [HF.out.1] at this;exact this
  ·obtain ⟨j, rfl⟩ : ∃ j, k = j + 1 := ⟨k - 1, by omega⟩;obtain ⟨b1, o1, rfl, _, hb1', hx⟩ := HA.out (by omega);obtain ⟨x, hx'⟩ := aA (l := dig a) (k := j) (by omega);have ex := hx j x hx';unfold bJ at ex; rw [Nat.mul_one] at ex;have hxl : x < 1000000000 := (aI a).get hx';have HX := Lib.hid (aF hx');obtain ⟨z, hz⟩ := aA (l := l) (k := j) (by omega);have rc := hrow.cell (aT hz);have fc := hrow.frozen j;clear hx hx' hz hlen hinv hrow hlim;have hql : (r * 1000000000 + x) / d < 1000000000 := pV hr hxl;have hrl : (r * 1000000000 + x) % d < d := Nat.mod_lt _ (by omega);have HQ := Lib.hid (Nat.div_add_mod (r * 1000000000 + x) d).symm;have hqI : ((r : Int) * 1000000000 + (x : Int)) / (d : Int) = (((r * 1000000000 + x) / d : Nat) : Int) := by rw [← jT]; rfl
   have hrI : ((r : Int) * 1000000000 + (x : Int)) % (d : Int) = (((r * 1000000000 + x) % d : Nat) : Int) := by rw [← nR]; rfl
   generalize (r * 1000000000 + x) / d = q at *;generalize (r * 1000000000 + x) % d = r' at *;have e1 : ((j + 1 : Nat) : Int) - 1 = (j : Int) := by omega
   rw [e1]; clear e1;go_wp2
   go_roundw
   case rel =>
    refine ⟨j, l.set j q, r', by omega, by go_num, by rw [hrI], hrl, by rw [List.length_set, HL.out], HM.out.set hql, rG (A := 0) (by rw [HL.out]; omega) HI.out (by rw [HX.out]; exact HQ.out), ?_, hbel.setCell (Nat.le_refl _) _⟩;have hr := HO.out.set j (.int .u32 (q : Int));rw [aV] at hr;exact hr
   case measure => simp [intOf]
set_option maxRecDepth 100000 in
set_option maxHeartbeats 3200000 in
theorem xI (w : World) (F : Ac) (va : Value) (a d : Nat) (ha : Ad w F va a) (hla : (dig a).length ≤ 200000) (hd0 : 1 ≤ d) (hd1 : d ≤ 1000000000) :
  Calls Tryz.prog 196 #[va, .int .u32 (d : Int)] w (Ret w fun v w' => ∃ vq, v = .tuple #[vq, .int .u32 ((a % d : Nat) : Int)] ∧ Ad w' (fun b => w.heap.size ≤ b) vq (a / d)) := by
 obtain ⟨A, c, rfl, hc, hNa⟩ := ha;have HA := Lib.hid hNa; clear hNa;go_enter Tryz.func196, Tryz.ntmps196;go_wp2_with (at_make; refine fE _ rfl _ _ 51 rfl 115 (.int .u32 0) 4 Tryz.underlying51 Tryz.infoU32 rfl (dig a).length rfl rfl (by omega) (by omega) ?_; intro w1 hb1 hz1 hrow1)
 have HR1 := Lib.hid hrow1; clear hrow1;go_loopw [7, 8] (fun rv i wr => ∃ (k : Nat) (l : List Nat) (r : Nat), k ≤ (dig a).length ∧ i = .int .i64 ((k : Int) - 1) ∧ rv = .int .u64 (r : Int) ∧ r < d ∧ l.length = (dig a).length ∧ Limbs l ∧ ay ((dig a).drop k) = d * ay (l.drop k) + r ∧
  Row wr w.heap.size 115 (aO l) ∧ Below w.heap.size w wr) (fun _ i _ => (intOf i + 1).toNat)
 case atStart => exact ⟨(dig a).length, List.replicate (dig a).length 0, 0, Nat.le_refl _, rfl, rfl, by omega, by simp, Limbs.zeros _, by rw [List.drop_length, List.drop_eq_nil_of_le (by simp)]; simp [ay], by rw [dX]; exact HR1.out, hb1⟩
 case round =>
  obtain ⟨k, l, r, hk, rfl, rfl, hr, hlen, hlim, hinv, hrow, hbel⟩ := hrel;have HL := Lib.hid hlen; have HI := Lib.hid hinv; have HO := Lib.hid hrow; have HM := Lib.hid hlim;have hold := aJ hbel;rcases Nat.eq_zero_or_pos k with h0 | h0
  ·subst h0;have hF : ay l = a / d ∧ r = a % d := by
    have h1 := hinv;rw [List.drop_zero, List.drop_zero, aS] at h1;rw [h1];exact ⟨by rw [Nat.mul_comm, Nat.add_comm, Nat.add_mul_div_right _ _ (by omega), Nat.div_eq_of_lt hr, Nat.zero_add], by rw [Nat.mul_comm, Nat.add_comm, Nat.add_mul_mod_self_right, Nat.mod_eq_of_lt hr]⟩
   have HF := Lib.hid hF;clear hF hinv hlim hlen;go_wp2_with fail
   refine (qF wr (fun b => w.heap.size ≤ b) (some ⟨w.heap.size, 0, none⟩) (dig a).length (dig a).length l HL.out ?_ (by omega)).mono ?_
   ·have := hrow.limbs (F := fun b => w.heap.size ≤ b) (Nat.le_refl _) (n := l.length) (c := (dig a).length) (Nat.le_refl _) (by rw [HL.out]; exact Nat.le_refl _);rw [List.take_length, HL.out] at this;exact this
   rintro e w' ⟨rfl, rfl⟩;go_wp2
   go_ret2;refine ⟨_, rfl, hbel, _, by rw [← HF.out.2]; rfl, ?_⟩;have := dO HO.out HM.out (F := fun b => w.heap.size ≤ b) (Nat.le_refl _) (c := (dig a).length) HL.out (Nat.le_refl _);rw [HF.out.1] at this;exact this
  ·obtain ⟨j, rfl⟩ : ∃ j, k = j + 1 := ⟨k - 1, by omega⟩;obtain ⟨b1, o1, rfl, _, hb1', hx⟩ := HA.out (by omega);obtain ⟨x, hx'⟩ := aA (l := dig a) (k := j) (by omega);have ex := hx j x hx';unfold bJ at ex; rw [Nat.mul_one] at ex;have hxl : x < 1000000000 := (aI a).get hx';have HX := Lib.hid (aF hx');obtain ⟨z, hz⟩ := aA (l := l) (k := j) (by omega);have rc := hrow.cell (aT hz);have fc := hrow.frozen j;clear hx hx' hz hlen hinv hrow hlim;have hql : (r * 1000000000 + x) / d < 1000000000 := pV hr hxl;have hrl : (r * 1000000000 + x) % d < d := Nat.mod_lt _ (by omega);have HQ := Lib.hid (Nat.div_add_mod (r * 1000000000 + x) d).symm;have hqI : ((r : Int) * 1000000000 + (x : Int)) / (d : Int) = (((r * 1000000000 + x) / d : Nat) : Int) := by rw [← jT]; rfl
   have hrI : ((r : Int) * 1000000000 + (x : Int)) % (d : Int) = (((r * 1000000000 + x) % d : Nat) : Int) := by rw [← nR]; rfl
   generalize (r * 1000000000 + x) / d = q at *;generalize (r * 1000000000 + x) % d = r' at *;have e1 : ((j + 1 : Nat) : Int) - 1 = (j : Int) := by omega
   rw [e1]; clear e1;go_wp2
   go_roundw
   case rel =>
    refine ⟨j, l.set j q, r', by omega, by go_num, by rw [hrI], hrl, by rw [List.length_set, HL.out], HM.out.set hql, rG (A := 0) (by rw [HL.out]; omega) HI.out (by rw [HX.out]; exact HQ.out), ?_, hbel.setCell (Nat.le_refl _) _⟩;have hr := HO.out.set j (.int .u32 (q : Int));rw [aV] at hr;exact hr
   case measure => simp [intOf]
theorem mW {o a : List Nat} {k d c s c' : Nat} (hk : k < o.length) (h : ay (o.take k) + LB ^ k * c = ay (a.take k) * d) (hs : s + LB * c' = c + a.getD k 0 * d) :
  ay ((o.set k s).take (k + 1)) + LB ^ (k + 1) * c' = ay (a.take (k + 1)) * d := by
 rw [jo hk, bg, Nat.pow_succ];have e : LB ^ k * (s + LB * c') = LB ^ k * (c + a.getD k 0 * d) := by rw [hs]
 grind
theorem xJ {o : List Nat} {n c T : Nat} (ho : Limbs o) (hl : o.length = n) (h : ay (o.take n) + LB ^ n * c = T) (hT : T < LB ^ n) : ay o = T := by
 rw [List.take_of_length_le (by omega)] at h;rcases Nat.eq_zero_or_pos c with h0 | h0
 ·subst h0; omega
 ·have : LB ^ n * 1 ≤ LB ^ n * c := Nat.mul_le_mul_left _ h0;omega
set_option maxRecDepth 100000 in
set_option maxHeartbeats 3200000 in
theorem vH (w : World) (F : Ac) (va : Value) (a d n : Nat) (ha : Ad w F va a) (hla : (dig a).length ≤ n) (hn : n ≤ 200000) (hd0 : 1 ≤ d) (hd1 : d ≤ 1000000000) (hT : a * d < LB ^ n) :
  Calls Tryz.prog 163 #[va, .int .u64 (d : Int), .int .i64 (n : Int)] w (Ret w fun v w' => v = .slice (some ⟨w.heap.size, 0, none⟩) n n ∧ ∃ l, l.length = n ∧ Limbs l ∧ ay l = a * d ∧ Row w' w.heap.size 115 (aO l)) := by
 obtain ⟨A, c, rfl, hc, hNa⟩ := ha;have HA := Lib.hid hNa; clear hNa;have HT := Lib.hid hT; clear hT;go_enter Tryz.func163, Tryz.ntmps163;go_wp2_with (at_make; refine fE _ rfl _ _ 50 rfl 115 (.int .u32 0) 4 Tryz.underlying50 Tryz.infoU32 rfl n rfl rfl (by omega) (by omega) ?_; intro w1 hb1 hz1 hrow1)
 have HR1 := Lib.hid hrow1; clear hrow1;go_loopw [8, 15] (fun cv i wr => ∃ (k : Nat) (l : List Nat) (cr : Nat), k ≤ n ∧ i = .int .i64 (k : Int) ∧ cv = .int .u64 (cr : Int) ∧ cr < 1000000000 ∧ l.length = n ∧ Limbs l ∧ ay (l.take k) + LB ^ k * cr = ay ((dig a).take k) * d ∧
  Row wr w.heap.size 115 (aO l) ∧ Below w.heap.size w wr) (fun _ i _ => n - (intOf i).toNat)
 case atStart => exact ⟨0, List.replicate n 0, 0, by omega, rfl, rfl, by omega, by simp, Limbs.zeros _, by simp [ay], by rw [dX]; exact HR1.out, hb1⟩
 case round =>
  obtain ⟨k, l, cr, hk, rfl, rfl, hcr, hlen, hlim, hinv, hrow, hbel⟩ := hrel;have HL := Lib.hid hlen; have HI := Lib.hid hinv; have HO := Lib.hid hrow; have HM := Lib.hid hlim;have hold := aJ hbel;by_cases hlt : k < n
  ·obtain ⟨z, hz⟩ := aA (l := l) (k := k) (by omega);have rc := hrow.cell (aT hz);have fc := hrow.frozen k;clear hz hlen hinv hrow hlim;by_cases hlt2 : k < (dig a).length
   ·obtain ⟨b1, o1, rfl, _, hb1', hx⟩ := HA.out (by omega);obtain ⟨x, hx'⟩ := aA hlt2;have ex := hx k x hx';unfold bJ at ex; rw [Nat.mul_one] at ex;have hxl : x < 1000000000 := (aI a).get hx';have HX := Lib.hid (aF hx');have hpb : x * d ≤ 999999999000000000 := Nat.le_trans (Nat.mul_le_mul (show x ≤ 999999999 by omega) hd1) (by decide);obtain ⟨p, hp⟩ : ∃ p, p = x * d := ⟨_, rfl⟩;have hpI : (x : Int) * (d : Int) = (p : Int) := by rw [hp]; simp
    rw [← hp] at hpb;have HP := Lib.hid hp;clear hx hx' hp;go_wp2
    go_roundw
    case rel =>
     refine ⟨k + 1, l.set k ((cr + p) % 1000000000), (cr + p) / 1000000000, by omega, by go_num, by go_num, by omega, by rw [List.length_set, HL.out], HM.out.set (by show _ < 1000000000; omega), mW (by rw [HL.out]; exact hlt) HI.out (by rw [HX.out, ← HP.out]; show _ + 1000000000 * _ = _; omega), ?_, hbel.setCell (Nat.le_refl _) _⟩;have hr := HO.out.set k (.int .u32 (((cr + p) % 1000000000 : Nat) : Int));rw [aV] at hr;exact hr
    case measure => simp [intOf]; omega
   ·have hdd : decide (k < (dig a).length) = false := decide_eq_false hlt2;have HX := Lib.hid (bZ (l := dig a) (k := k) (by omega));go_wp2
    go_roundw
    case rel =>
     refine ⟨k + 1, l.set k (cr % 1000000000), cr / 1000000000, by omega, by go_num, by go_num, by omega, by rw [List.length_set, HL.out], HM.out.set (by show _ < 1000000000; omega), mW (by rw [HL.out]; exact hlt) HI.out (by rw [HX.out, Nat.zero_mul]; show _ + 1000000000 * _ = _; omega), ?_, hbel.setCell (Nat.le_refl _) _⟩;have hr := HO.out.set k (.int .u32 ((cr % 1000000000 : Nat) : Int));rw [aV] at hr;exact hr
    case measure => simp [intOf]; omega
  ·obtain rfl : k = n := by omega
   have hF : ay l = a * d := by
    have h1 := hinv;rw [List.take_of_length_le (l := dig a) hla, aS] at h1;exact xJ hlim hlen h1 HT.out
   have HF := Lib.hid hF;clear hF hinv hlim hlen hrow;go_wp2
   go_ret;exact ⟨_, rfl, hbel, rfl, l, HL.out, HM.out, HF.out, HO.out⟩
set_option maxRecDepth 100000 in
set_option maxHeartbeats 3200000 in
theorem xK (w : World) (F : Ac) (va : Value) (a d n : Nat) (ha : Ad w F va a) (hla : (dig a).length ≤ n) (hn : n ≤ 200000) (hd0 : 1 ≤ d) (hd1 : d ≤ 1000000000) (hT : a * d < LB ^ n) :
  Calls Tryz.prog 197 #[va, .int .u64 (d : Int), .int .i64 (n : Int)] w (Ret w fun v w' => v = .slice (some ⟨w.heap.size, 0, none⟩) n n ∧ ∃ l, l.length = n ∧ Limbs l ∧ ay l = a * d ∧ Row w' w.heap.size 115 (aO l)) := by
 obtain ⟨A, c, rfl, hc, hNa⟩ := ha;have HA := Lib.hid hNa; clear hNa;have HT := Lib.hid hT; clear hT;go_enter Tryz.func197, Tryz.ntmps197;go_wp2_with (at_make; refine fE _ rfl _ _ 51 rfl 115 (.int .u32 0) 4 Tryz.underlying51 Tryz.infoU32 rfl n rfl rfl (by omega) (by omega) ?_; intro w1 hb1 hz1 hrow1)
 have HR1 := Lib.hid hrow1; clear hrow1;go_loopw [8, 14] (fun cv i wr => ∃ (k : Nat) (l : List Nat) (cr : Nat), k ≤ n ∧ i = .int .i64 (k : Int) ∧ cv = .int .u64 (cr : Int) ∧ cr < 1000000000 ∧ l.length = n ∧ Limbs l ∧ ay (l.take k) + LB ^ k * cr = ay ((dig a).take k) * d ∧
  Row wr w.heap.size 115 (aO l) ∧ Below w.heap.size w wr) (fun _ i _ => n - (intOf i).toNat)
 case atStart => exact ⟨0, List.replicate n 0, 0, by omega, rfl, rfl, by omega, by simp, Limbs.zeros _, by simp [ay], by rw [dX]; exact HR1.out, hb1⟩
 case round =>
  obtain ⟨k, l, cr, hk, rfl, rfl, hcr, hlen, hlim, hinv, hrow, hbel⟩ := hrel;have HL := Lib.hid hlen; have HI := Lib.hid hinv; have HO := Lib.hid hrow; have HM := Lib.hid hlim;have hold := aJ hbel;by_cases hlt : k < n
  ·obtain ⟨z, hz⟩ := aA (l := l) (k := k) (by omega);have rc := hrow.cell (aT hz);have fc := hrow.frozen k;clear hz hlen hinv hrow hlim;by_cases hlt2 : k < (dig a).length
   ·obtain ⟨b1, o1, rfl, _, hb1', hx⟩ := HA.out (by omega);obtain ⟨x, hx'⟩ := aA hlt2;have ex := hx k x hx';unfold bJ at ex; rw [Nat.mul_one] at ex;have hxl : x < 1000000000 := (aI a).get hx';have HX := Lib.hid (aF hx');have hpb : x * d ≤ 999999999000000000 := Nat.le_trans (Nat.mul_le_mul (show x ≤ 999999999 by omega) hd1) (by decide);obtain ⟨p, hp⟩ : ∃ p, p = x * d := ⟨_, rfl⟩;have hpI : (x : Int) * (d : Int) = (p : Int) := by rw [hp]; simp
    rw [← hp] at hpb;have HP := Lib.hid hp;clear hx hx' hp;go_wp2
    go_roundw
    case rel =>
     refine ⟨k + 1, l.set k ((cr + p) % 1000000000), (cr + p) / 1000000000, by omega, by go_num, by go_num, by omega, by rw [List.length_set, HL.out], HM.out.set (by show _ < 1000000000; omega), mW (by rw [HL.out]; exact hlt) HI.out (by rw [HX.out, ← HP.out]; show _ + 1000000000 * _ = _; omega), ?_, hbel.setCell (Nat.le_refl _) _⟩;have hr := HO.out.set k (.int .u32 (((cr + p) % 1000000000 : Nat) : Int));rw [aV] at hr;exact hr
    case measure => simp [intOf]; omega
   ·have hdd : decide (k < (dig a).length) = false := decide_eq_false hlt2;have HX := Lib.hid (bZ (l := dig a) (k := k) (by omega));go_wp2
    go_roundw
    case rel =>
     refine ⟨k + 1, l.set k (cr % 1000000000), cr / 1000000000, by omega, by go_num, by go_num, by omega, by rw [List.length_set, HL.out], HM.out.set (by show _ < 1000000000; omega), mW (by rw [HL.out]; exact hlt) HI.out (by rw [HX.out, Nat.zero_mul]; show _ + 1000000000 * _ = _; omega), ?_, hbel.setCell (Nat.le_refl _) _⟩;have hr := HO.out.set k (.int .u32 ((cr % 1000000000 : Nat) : Int));rw [aV] at hr;exact hr
    case measure => simp [intOf]; omega
  ·obtain rfl : k = n := by omega
   have hF : ay l = a * d := by
    have h1 := hinv;rw [List.take_of_length_le (l := dig a) hla, aS] at h1;exact xJ hlim hlen h1 HT.out
   have HF := Lib.hid hF;clear hF hinv hlim hlen hrow;go_wp2
   go_ret;exact ⟨_, rfl, hbel, rfl, l, HL.out, HM.out, HF.out, HO.out⟩
def CB (w : World) (bu : Nat) (P u S v : List Nat) (n : Nat) (e : Ending) (w' : World) : Prop :=
 e = .returned (.int .u32 ((ay u / ay v : Nat) : Int)) ∧ (∃ u', u'.length = n + 1 ∧ Limbs u' ∧ ay u' = ay u % ay v ∧ Row w' bu 115 (aO (P ++ u' ++ S))) ∧ w.grownBy w' (some bu)
theorem iQ {a w : World} {g : Nat} (h : a.grownBy w (some g)) (o : Nat) (u : Value) : a.grownBy (w.setCell ⟨g, o, none⟩ u) (some g) := by
 have hb := Below.heap_setCell w ⟨g, o, none⟩ u;refine ⟨?_, ?_, ?_, by simpa using h.size, fun k hk hne => (hb k (by simpa using hne)).trans (h.block k hk hne)⟩
 all_goals (unfold World.setCell; first | exact h.os | exact h.tape | exact h.output)
theorem sS {a w : World} {r : Option Nat} (h : a.grownBy w r) (n : Nat) : a.grownBy (w.drewN n) r := ⟨h.os, h.tape, h.output, h.size, h.block⟩
theorem xM (w : World) (row : Option Nat) : w.grownBy w row := ⟨rfl, rfl, rfl, Nat.le_refl _, fun _ _ _ => rfl⟩
theorem Row.grown {w w' : World} {b g : Nat} {t : TypeId} {vs : List Value} (h : Row w b t vs) (k : w.grownBy w' (some g)) (hne : b ≠ g) : Row w' b t vs := h.of_block (k.block b h.lt (by simpa using hne))
def oZ (q r v2 u2 : Nat) : Bool := decide (r < LB ∧ (LB ≤ q ∨ r * LB + u2 < q * v2))
theorem sU (q r v2 u2 : Nat) : oZ q r v2 u2 = true ↔ (r < LB ∧ (LB ≤ q ∨ r * LB + u2 < q * v2)) := by unfold oZ; simp
set_option maxRecDepth 100000 in
set_option maxHeartbeats 6400000 in
theorem adS (w : World) (bu bv : Nat) (P u S v : List Nat) (j n cu cv : Nat) (hP : P.length = j) (hu : Row w bu 115 (aO (P ++ u ++ S))) (hv : Row w bv 115 (aO v)) (hne : bv ≠ bu) (he : Est u v n) (hn : n ≤ 200000) (hj : j ≤ 200000) (hcu : n + 1 ≤ cu) (hcv : n ≤ cv) :
  Calls Tryz.prog 164 #[.slice (some ⟨bu, j, none⟩) (n + 1) cu, .slice (some ⟨bv, 0, none⟩) n cv] w (CB w bu P u S v n) := by
 have hn2 := he.n2;obtain ⟨n1, hn1⟩ : ∃ n1, n1 + 1 = n := ⟨n - 1, by omega⟩;obtain ⟨n2, ag2⟩ : ∃ n2, n2 + 2 = n := ⟨n - 2, by omega⟩;have i1 : (n : Int) - 1 = (n1 : Int) := by omega
 have i2 : (n : Int) - 2 = (n2 : Int) := by omega
 have l1 : n1 < n := by omega
 have l2 : n2 < n := by omega
 have ul := he.ul;have vl := he.vl;obtain ⟨top, htop⟩ := aA (l := v) (k := n1) (by omega);obtain ⟨v2, hv2⟩ := aA (l := v) (k := n2) (by omega);obtain ⟨un, hun⟩ := aA (l := u) (k := n) (by omega);obtain ⟨u1, hu1⟩ := aA (l := u) (k := n1) (by omega);obtain ⟨u2, hu2⟩ := aA (l := u) (k := n2) (by omega);have ct := hv.cell (aT htop);have cv2 := hv.cell (aT hv2);have cun := hu.cell (aT ((iT hP (by omega)).trans hun));have cu1 := hu.cell (aT ((iT hP (by omega)).trans hu1));have cu2 := hu.cell (aT ((iT hP (by omega)).trans hu2));have topl : top < 1000000000 := he.lv.get htop;have v2l : v2 < 1000000000 := he.lv.get hv2;have unl : un < 1000000000 := he.lu.get hun;have u1l : u1 < 1000000000 := he.lu.get hu1;have u2l : u2 < 1000000000 := he.lu.get hu2;have gt : v.getD (n - 1) 0 = top := by rw [show n - 1 = n1 by omega]; exact aF htop
 have gv2 : v.getD (n - 2) 0 = v2 := by rw [show n - 2 = n2 by omega]; exact aF hv2
 have gun : u.getD n 0 = un := aF hun;have gu1 : u.getD (n - 1) 0 = u1 := by rw [show n - 1 = n1 by omega]; exact aF hu1
 have gu2 : u.getD (n - 2) 0 = u2 := by rw [show n - 2 = n2 by omega]; exact aF hu2
 have aga : 500000000 ≤ top := by have := he.half; rw [gt] at this; unfold LB at this; omega
 have hq0 := Nat.div_add_mod (un * 1000000000 + u1) top;have hr0 := Nat.mod_lt (un * 1000000000 + u1) (show 0 < top by omega);have hqI : ((un : Int) * 1000000000 + (u1 : Int)) / (top : Int) = (((un * 1000000000 + u1) / top : Nat) : Int) := by rw [← jT]; rfl
 have hrI : ((un : Int) * 1000000000 + (u1 : Int)) % (top : Int) = (((un * 1000000000 + u1) % top : Nat) : Int) := by rw [← nR]; rfl
 generalize (un * 1000000000 + u1) / top = q0 at *;generalize (un * 1000000000 + u1) % top = r0 at *;have ace : u.getD n 0 * LB + u.getD (n - 1) 0 = q0 * v.getD (n - 1) 0 + r0 := by rw [gun, gu1, gt, show LB = 1000000000 from rfl, ← hq0, Nat.mul_comm]
 obtain ⟨ae3, hle0⟩ := he.first ace (by rw [gt]; exact hr0);have HE := Lib.hid he; have HQ0 := Lib.hid ace; have C9 := Lib.hid ae3;have HG := Lib.hid (And.intro gt (And.intro gv2 (And.intro gun (And.intro gu1 gu2))));have HU := Lib.hid hu; have HV := Lib.hid hv; have HPP := Lib.hid hP;have hblt := hu.lt; have ag3 := hv.lt;have HUL := Lib.hid ul; have HVL := Lib.hid vl;have HNE := Lib.hid hne;clear he ace ae3 gt gv2 gun gu1 gu2 hu hv hP ul vl hq0 htop hv2 hun hu1 hu2 hn1 ag2 hne;go_enter Tryz.func164, Tryz.ntmps164;go_wp2
 go_quiet (fail)
 go_wp2
 go_quiet (fail)
 go_wp2
 go_loopw [7, 8] (fun qv rv wr => ∃ (q r z : Nat), qv = .int .u64 (q : Int) ∧ rv = .int .u64 (r : Int) ∧ u.getD n 0 * LB + u.getD (n - 1) 0 = q * v.getD (n - 1) 0 + r ∧ ay u / ay v ≤ q ∧ q ≤ 1000000002 ∧ r < 2000000000 ∧ wr = w.drewN z) (fun qv _ _ => (intOf qv).toNat)
 case atStart => exact ⟨q0, r0, _, by rw [hqI], by rw [hrI], HQ0.out, C9.out, hle0, by omega, by simp only [World.drewN_drewN]; rfl⟩
 case round =>
  clear HQ0 C9 hle0 hr0 hqI hrI;obtain ⟨q, r, z, rfl, rfl, hq, hge, ae4, hrl, rfl⟩ := hrel;have HQ := Lib.hid hq; have HGE := Lib.hid hge;clear hq hge;have hpb : q * v2 ≤ 1000000001000000000 := by
   have := Nat.mul_le_mul ae4 (show v2 ≤ 999999999 by omega);omega
  obtain ⟨p, hp⟩ : ∃ p, p = q * v2 := ⟨_, rfl⟩;have hpI : (q : Int) * (v2 : Int) = (p : Int) := by rw [hp]; simp
  rw [← hp] at hpb;have HP := Lib.hid hp; clear hp;have hbad : oZ q r v2 u2 = decide (r < 1000000000 ∧ (1000000000 ≤ q ∨ r * 1000000000 + u2 < p)) := by unfold oZ; rw [HP.out]
  have HBAD := Lib.hid hbad; clear hbad;go_upto_region 5 with fail
  go_cut [80] from 55 to 85 (fun b wx => b = .bool (oZ q r v2 u2) ∧ ∃ z, wx = w.drewN z)
  case first =>
   by_cases c1 : r < 1000000000
   ·by_cases c2 : 1000000000 ≤ q
    ·have HB := Lib.hid (show oZ q r v2 u2 = true by rw [HBAD.out]; exact decide_eq_true ⟨c1, .inl c2⟩);have d1 : decide ((r : Int) < 1000000000) = true := decide_eq_true (by omega);have d2 : decide ((1000000000 : Int) ≤ (q : Int)) = true := decide_eq_true (by omega);go_quiet (fail)
     go_wp2_with fail
     go_meet
     exact ⟨by rw [HB.out], by simp only [World.drewN_drewN]; exact ⟨_, rfl⟩⟩
    ·have d1 : decide ((r : Int) < 1000000000) = true := decide_eq_true (by omega);have d2 : decide ((1000000000 : Int) ≤ (q : Int)) = false := decide_eq_false (by omega);by_cases c3 : r * 1000000000 + u2 < p
     ·have HB := Lib.hid (show oZ q r v2 u2 = true by rw [HBAD.out]; exact decide_eq_true ⟨c1, .inr c3⟩);have d3 : decide ((r : Int) * 1000000000 + (u2 : Int) < (p : Int)) = true := decide_eq_true (by omega);go_quiet (fail)
      go_wp2_with fail
      go_meet
      exact ⟨by rw [HB.out], by simp only [World.drewN_drewN]; exact ⟨_, rfl⟩⟩
     ·have HB := Lib.hid (show oZ q r v2 u2 = false by rw [HBAD.out]; exact decide_eq_false (by omega));have d3 : decide ((r : Int) * 1000000000 + (u2 : Int) < (p : Int)) = false := decide_eq_false (by omega);go_quiet (fail)
      go_wp2_with fail
      go_meet
      exact ⟨by rw [HB.out], by simp only [World.drewN_drewN]; exact ⟨_, rfl⟩⟩
   ·have HB := Lib.hid (show oZ q r v2 u2 = false by rw [HBAD.out]; exact decide_eq_false (by omega));have d1 : decide ((r : Int) < 1000000000) = false := decide_eq_false (by omega);go_quiet (fail)
    go_wp2_with fail
    go_meet
    exact ⟨by rw [HB.out], by simp only [World.drewN_drewN]; exact ⟨_, rfl⟩⟩
  case rest =>
   obtain ⟨rfl, z', rfl⟩ := hcut;cases hb : oZ q r v2 u2
   ·have hbf : ¬ (r < LB ∧ (LB ≤ q ∨ r * LB + u.getD (n - 2) 0 < q * v.getD (n - 2) 0)) := by
     intro h; rw [HG.out.2.2.2.2, HG.out.2.1] at h;have := (sU q r v2 u2).2 h;rw [hb] at this; cases this
    obtain ⟨a1, a2, a3⟩ := HE.out.almost HQ.out HGE.out hbf;have hqB : q < 1000000000 := a1;have HAL := Lib.hid (And.intro a2 a3);clear hb hbf a1 a2 a3 HQ HGE ae4 hrl hpb hpI HP HBAD;have acf : w.grownBy (w.drewN z') (some bu) := sS (xM _ _) _;have acg : Row (w.drewN z') bu 115 (aO (P ++ u ++ S)) := HU.out.dN _;clear ct cv2 cun cu1 cu2;obtain ⟨W0, hW0⟩ : ∃ W0, W0 = w.drewN z' := ⟨_, rfl⟩;rw [← hW0] at acf acg;go_wp2
    rw [← hW0];clear hW0;go_loopw [9, 10, 87] (fun cv bv' i wr => ∃ (k cr br : Nat) (u' : List Nat), k ≤ n ∧ i = .int .i64 (k : Int) ∧ cv = .int .u64 (cr : Int) ∧ bv' = .int .i64 (br : Int) ∧ cr < 1000000000 ∧ br ≤ 1 ∧ BO u v q k (cr + br) u' ∧
     Row wr bu 115 (aO (P ++ u' ++ S)) ∧ w.grownBy wr (some bu)) (fun _ _ i _ => n - (intOf i).toNat)
    case atStart => exact ⟨0, 0, 0, u, by omega, rfl, rfl, rfl, by omega, by omega, BO.start HE.out.lu, acg, acf⟩
    case round =>
     clear acg acf;obtain ⟨k, cr, br, u', hk, rfl, rfl, rfl, hcr, hbr, hms, hrow, hgr⟩ := hrel;have uH : u'.length = n + 1 := by rw [hms.len, HUL.out]
     have HMS := Lib.hid hms; have HRW := Lib.hid hrow; have HGR := Lib.hid hgr;have hrv := HV.out.grown hgr HNE.out;by_cases hlt : k < n
     ·obtain ⟨y, hy⟩ := aA (l := v) (k := k) (by rw [HVL.out]; exact hlt);obtain ⟨x, hx⟩ := aA (l := u') (k := k) (by omega);have cy := hrv.cell (aT hy);have cx := hrow.cell (aT ((iT HPP.out (by omega)).trans hx));have fx := hrow.frozen (j + k);have hyl : y < 1000000000 := HE.out.lv.get hy;have hxl : x < 1000000000 := hms.limbs.get hx;have HY := Lib.hid (aF hy);have HX := Lib.hid (show u.getD k 0 = x by
       have := jJ hms.rest;rw [hx] at this;exact aF this.symm)
      have hpb := qx (x := q) (y := y) hqB hyl;obtain ⟨p, hp⟩ : ∃ p, p = q * y := ⟨_, rfl⟩;have hpI : (q : Int) * (y : Int) = (p : Int) := by rw [hp]; simp
      rw [← hp] at hpb;have HP := Lib.hid hp;have wo : k < u'.length := by omega
      clear hy hx hms hrow hgr hrv hp uH;by_cases hs : (x : Int) - (br : Int) - ((p : Int) + (cr : Int)) % 1000000000 < 0
      ·obtain ⟨s, hs'⟩ : ∃ s, s + br + (p + cr) % 1000000000 = x + 1000000000 := ⟨x + 1000000000 - (br + (p + cr) % 1000000000), by omega⟩;have HS := Lib.hid hs'; clear hs';go_wp2
       go_roundw
       case rel =>
        refine ⟨k + 1, (p + cr) / 1000000000, 1, u'.set k s, by omega, by go_num, by go_num, rfl, by omega, by omega, HMS.out.step (by rw [HUL.out]; omega) ?_ (by have := HS.out; show _ < 1000000000; omega), ?_, iQ HGR.out _ _⟩
        ·have := HS.out; rw [HX.out, HY.out, ← HP.out]; show _ = _ + 1000000000 * _; omega
        ·have hr := HRW.out.set (j + k) (.int .u32 (s : Int));rw [aV, set_mid HPP.out wo] at hr;have hss := HS.out;rw [show (s : Int) = (x : Int) - (br : Int) - ((p : Int) + (cr : Int)) % 1000000000 + 1000000000 by omega] at hr;exact hr
       case measure => simp [intOf]; omega
      ·have hdd : decide ((x : Int) - (br : Int) - ((p : Int) + (cr : Int)) % 1000000000 < 0) = false := decide_eq_false hs;obtain ⟨s, hs'⟩ : ∃ s, s + br + (p + cr) % 1000000000 = x := ⟨x - (br + (p + cr) % 1000000000), by omega⟩;have HS := Lib.hid hs'; clear hs';go_wp2
       go_roundw
       case rel =>
        refine ⟨k + 1, (p + cr) / 1000000000, 0, u'.set k s, by omega, by go_num, by go_num, rfl, by omega, by omega, HMS.out.step (by rw [HUL.out]; omega) ?_ (by have := HS.out; show _ < 1000000000; omega), ?_, iQ HGR.out _ _⟩
        ·have := HS.out; rw [HX.out, HY.out, ← HP.out]; show _ = _ + 1000000000 * _; omega
        ·have hr := HRW.out.set (j + k) (.int .u32 (s : Int));rw [aV, set_mid HPP.out wo] at hr;have hss := HS.out;rw [show (s : Int) = (x : Int) - (br : Int) - ((p : Int) + (cr : Int)) % 1000000000 by omega] at hr;exact hr
       case measure => simp [intOf]; omega
     ·obtain rfl : k = n := by omega
      have hxn : u'[k]? = u[k]? := jJ hms.rest;have hun' : u[k]? = some un := by
       have h1 := HG.out.2.2.1;obtain ⟨y, hy⟩ := aA (l := u) (k := k) (by rw [HUL.out]; omega);rw [aF hy] at h1;rw [hy, h1]
      have cx := hrow.cell (aT ((iT HPP.out (by omega)).trans (hxn.trans hun')));have HUN := Lib.hid (show u.getD k 0 = un from HG.out.2.2.1);have BL := Lib.hid uH;clear hms hrow hgr hxn hun' uH hlt;go_upto_if 132 with fail
      go_cut [7, 14, 15, 16] from 122 to 158 (fun q7 _ _ _ wx => ∃ u3 : List Nat, q7 = .int .u64 ((ay u / ay v : Nat) : Int) ∧ u3.length = k + 1 ∧ Limbs u3 ∧ ay (u3.take k) = ay u % ay v ∧ Row wx bu 115 (aO (P ++ u3 ++ S)) ∧ w.grownBy wx (some bu))
      case first =>
       by_cases hs : (un : Int) - (br : Int) - (cr : Int) < 0
       ·have hneg : u.getD k 0 < cr + br := by rw [HUN.out]; omega
        have HNG := Lib.hid hneg;have hq1 : 1 ≤ q := by
         rcases Nat.eq_zero_or_pos q with h0 | h0
         ·exfalso
          have he := sK HE.out HMS.out;have hl := mP HMS.out.limbs (n := k) (by rw [BL.out]; omega);have h1 : LB ^ k * (u.getD k 0 + 1) ≤ LB ^ k * (cr + br) := Nat.mul_le_mul_left _ hneg;rw [Nat.mul_add, Nat.mul_one] at h1;rw [h0, Nat.zero_mul] at he;omega
         ·exact h0
        clear hneg;go_wp2
        go_loopw [14, 136] (fun ov i wi => ∃ (m o : Nat) (u2' : List Nat), m ≤ k ∧ i = .int .i64 (m : Int) ∧ ov = .int .u32 (o : Int) ∧ o ≤ 1 ∧ BX u' v m o u2' ∧
         Row wi bu 115 (aO (P ++ u2' ++ S)) ∧ w.grownBy wi (some bu)) (fun _ i _ => k - (intOf i).toNat)
        case atStart => exact ⟨0, 0, u', by omega, rfl, rfl, by omega, BX.start HMS.out.limbs, HRW.out, HGR.out⟩
        case round =>
         clear cx;obtain ⟨m, o, u2', hm, rfl, rfl, ho, hma, hrow, hgr⟩ := hrel;have HMA := Lib.hid hma; have CJ := Lib.hid hrow; have CO := Lib.hid hgr;have hrv := HV.out.grown hgr HNE.out;have wo : u2'.length = k + 1 := by rw [hma.len, BL.out]
         by_cases hmt : m < k
         ·obtain ⟨y, hy⟩ := aA (l := v) (k := m) (by rw [HVL.out]; exact hmt);obtain ⟨x, hx⟩ := aA (l := u2') (k := m) (by omega);have cy := hrv.cell (aT hy);have cx := hrow.cell (aT ((iT HPP.out (by omega)).trans hx));have fx := hrow.frozen (j + m);have hyl : y < 1000000000 := HE.out.lv.get hy;have hxl : x < 1000000000 := hma.limbs.get hx;have HY := Lib.hid (aF hy);have HX := Lib.hid (show u'.getD m 0 = x by
           have := jJ hma.rest;rw [hx] at this;exact aF this.symm)
          have hm2 : m < u2'.length := by omega
          clear hy hx hma hrow hgr hrv wo;have hs2 : (∃ s, x + y + o = s + 1000000000) ∨ x + y + o < 1000000000 := by
           by_cases h : 1000000000 ≤ x + y + o
           ·exact .inl ⟨x + y + o - 1000000000, by omega⟩
           ·exact .inr (by omega)
          rcases hs2 with ⟨s, hs2⟩ | hs2
          ·have hdd : decide ((1000000000 : Int) ≤ (x : Int) + (y : Int) + (o : Int)) = true := decide_eq_true (by omega);have hsI : (1000000000 : Int) ≤ (x : Int) + (y : Int) + (o : Int) := by omega
           have HS := Lib.hid hs2; clear hs2;go_wp2
           go_quiet (fail)
           go_wp2
           go_roundw
           case rel =>
            refine ⟨m + 1, 1, u2'.set m s, by omega, by go_num, rfl, by omega, HMA.out.step (by rw [BL.out]; omega) (by have := HS.out; rw [HX.out, HY.out]; show _ + 1000000000 * _ = _; omega) (by have := HS.out; show _ < 1000000000; omega), ?_, iQ (sS CO.out _) _ _⟩;have hr := (CJ.out.dN nq).set (j + m) (.int .u32 (s : Int));rw [aV, set_mid HPP.out hm2] at hr;have hss := HS.out;rw [show (s : Int) = (x : Int) + (y : Int) + (o : Int) - 1000000000 by omega] at hr;exact hr
           case measure => simp [intOf]; omega
          ·have hdd : decide ((1000000000 : Int) ≤ (x : Int) + (y : Int) + (o : Int)) = false := decide_eq_false (by omega);go_wp2
           go_quiet (fail)
           go_wp2
           go_roundw
           case rel =>
            refine ⟨m + 1, 0, u2'.set m (x + y + o), by omega, by go_num, rfl, by omega, HMA.out.step (by rw [BL.out]; omega) (by rw [HX.out, HY.out]; show _ + 1000000000 * _ = _; omega) (by show _ < 1000000000; omega), ?_, iQ (sS CO.out _) _ _⟩;have hr := (CJ.out.dN nq).set (j + m) (.int .u32 ((x + y + o : Nat) : Int));rw [aV, set_mid HPP.out hm2] at hr;exact hr
           case measure => simp [intOf]; omega
         ·obtain rfl : m = k := by omega
          have HB := Lib.hid (y9 HE.out HMS.out HAL.out.1 HAL.out.2 HNG.out hma);clear hma hrow hgr hrv;go_wp2_with fail
          go_meet
          exact ⟨u2', by have := HB.out.1; go_num, wo, HMA.out.limbs, HB.out.2, CJ.out, CO.out⟩
       ·have hdd : decide ((un : Int) - (br : Int) - (cr : Int) < 0) = false := decide_eq_false hs;have HB := Lib.hid (wS HE.out HMS.out HAL.out.1 HAL.out.2 (by rw [HUN.out]; omega));go_wp2_with fail
        go_meet
        exact ⟨u', by rw [← HB.out.1], BL.out, HMS.out.limbs, HB.out.2, HRW.out, HGR.out⟩
      case rest =>
       clear cx HMS HRW HGR BL;obtain ⟨u3, rfl, ach, ae5, aa4, hrow3, ag4⟩ := hcut;obtain ⟨x, hx⟩ := aA (l := u3) (k := k) (by omega);have cx := hrow3.cell (aT ((iT HPP.out (by omega)).trans hx));have fx := hrow3.frozen (j + k);have hQlt : ay u / ay v < 1000000000 := HE.out.q_lt;have HLN := Lib.hid (zh ach aa4);have Dq := Lib.hid ach;have hk3 : k < u3.length := by omega
       clear hx ach aa4;generalize hQ : ay u / ay v = Q at *;have HQQ := Lib.hid hQ; clear hQ;go_wp2
       go_ret;refine ⟨by rw [HQQ.out]; rfl, ⟨u3.set k 0, by rw [List.length_set, Dq.out], ae5.set (by decide), HLN.out, ?_⟩, iQ ag4 _ _⟩;have hr := hrow3.set (j + k) (.int .u32 ((0 : Nat) : Int));rw [aV, set_mid HPP.out hk3] at hr;exact hr
   ·have hbt := (sU q r v2 u2).1 hb;have HT := Lib.hid hbt;have hrLB : r < 1000000000 := hbt.1;clear hb hbt;have hq1 : 1 ≤ q := by
     have h := HT.out.2;rcases Nat.eq_zero_or_pos q with h0 | h0
     ·subst h0; rcases h with h | h
      ·exact absurd h (by decide)
      ·simp at h
     ·exact h0
    go_wp2
    go_roundw
    case rel =>
     refine ⟨q - 1, r + top, z', ?_, ?_, ?_, ?_, by omega, by omega, rfl⟩
     ·go_num
     ·go_num
     ·rw [HQ.out, HG.out.1];obtain ⟨q', rfl⟩ : ∃ q', q = q' + 1 := ⟨q - 1, by omega⟩;rw [Nat.add_sub_cancel, Nat.add_mul, Nat.one_mul]; omega
     ·have := HE.out.y8 HQ.out (HT.out.2.imp id fun h => by rw [HG.out.2.2.2.2, HG.out.2.1]; exact h);omega
    case measure => simp [intOf]; omega
set_option maxRecDepth 100000 in
set_option maxHeartbeats 6400000 in
theorem aci (w : World) (bu bv : Nat) (P u S v : List Nat) (j n cu cv : Nat) (hP : P.length = j) (hu : Row w bu 115 (aO (P ++ u ++ S))) (hv : Row w bv 115 (aO v)) (hne : bv ≠ bu) (he : Est u v n) (hn : n ≤ 200000) (hj : j ≤ 200000) (hcu : n + 1 ≤ cu) (hcv : n ≤ cv) :
  Calls Tryz.prog 198 #[.slice (some ⟨bu, j, none⟩) (n + 1) cu, .slice (some ⟨bv, 0, none⟩) n cv] w (CB w bu P u S v n) := by
 have hn2 := he.n2;obtain ⟨n1, hn1⟩ : ∃ n1, n1 + 1 = n := ⟨n - 1, by omega⟩;obtain ⟨n2, ag2⟩ : ∃ n2, n2 + 2 = n := ⟨n - 2, by omega⟩;have i1 : (n : Int) - 1 = (n1 : Int) := by omega
 have i2 : (n : Int) - 2 = (n2 : Int) := by omega
 have l1 : n1 < n := by omega
 have l2 : n2 < n := by omega
 have ul := he.ul;have vl := he.vl;obtain ⟨top, htop⟩ := aA (l := v) (k := n1) (by omega);obtain ⟨v2, hv2⟩ := aA (l := v) (k := n2) (by omega);obtain ⟨un, hun⟩ := aA (l := u) (k := n) (by omega);obtain ⟨u1, hu1⟩ := aA (l := u) (k := n1) (by omega);obtain ⟨u2, hu2⟩ := aA (l := u) (k := n2) (by omega);have ct := hv.cell (aT htop);have cv2 := hv.cell (aT hv2);have cun := hu.cell (aT ((iT hP (by omega)).trans hun));have cu1 := hu.cell (aT ((iT hP (by omega)).trans hu1));have cu2 := hu.cell (aT ((iT hP (by omega)).trans hu2));have topl : top < 1000000000 := he.lv.get htop;have v2l : v2 < 1000000000 := he.lv.get hv2;have unl : un < 1000000000 := he.lu.get hun;have u1l : u1 < 1000000000 := he.lu.get hu1;have u2l : u2 < 1000000000 := he.lu.get hu2;have gt : v.getD (n - 1) 0 = top := by rw [show n - 1 = n1 by omega]; exact aF htop
 have gv2 : v.getD (n - 2) 0 = v2 := by rw [show n - 2 = n2 by omega]; exact aF hv2
 have gun : u.getD n 0 = un := aF hun;have gu1 : u.getD (n - 1) 0 = u1 := by rw [show n - 1 = n1 by omega]; exact aF hu1
 have gu2 : u.getD (n - 2) 0 = u2 := by rw [show n - 2 = n2 by omega]; exact aF hu2
 have aga : 500000000 ≤ top := by have := he.half; rw [gt] at this; unfold LB at this; omega
 have hq0 := Nat.div_add_mod (un * 1000000000 + u1) top;have hr0 := Nat.mod_lt (un * 1000000000 + u1) (show 0 < top by omega);have hqI : ((un : Int) * 1000000000 + (u1 : Int)) / (top : Int) = (((un * 1000000000 + u1) / top : Nat) : Int) := by rw [← jT]; rfl
 have hrI : ((un : Int) * 1000000000 + (u1 : Int)) % (top : Int) = (((un * 1000000000 + u1) % top : Nat) : Int) := by rw [← nR]; rfl
 generalize (un * 1000000000 + u1) / top = q0 at *;generalize (un * 1000000000 + u1) % top = r0 at *;have ace : u.getD n 0 * LB + u.getD (n - 1) 0 = q0 * v.getD (n - 1) 0 + r0 := by rw [gun, gu1, gt, show LB = 1000000000 from rfl, ← hq0, Nat.mul_comm]
 obtain ⟨ae3, hle0⟩ := he.first ace (by rw [gt]; exact hr0);have HE := Lib.hid he; have HQ0 := Lib.hid ace; have C9 := Lib.hid ae3;have HG := Lib.hid (And.intro gt (And.intro gv2 (And.intro gun (And.intro gu1 gu2))));have HU := Lib.hid hu; have HV := Lib.hid hv; have HPP := Lib.hid hP;have hblt := hu.lt; have ag3 := hv.lt;have HUL := Lib.hid ul; have HVL := Lib.hid vl;have HNE := Lib.hid hne;clear he ace ae3 gt gv2 gun gu1 gu2 hu hv hP ul vl hq0 htop hv2 hun hu1 hu2 hn1 ag2 hne;go_enter Tryz.func198, Tryz.ntmps198;go_wp2
 go_quiet (fail)
 go_wp2
 go_quiet (fail)
 go_wp2
 go_loopw [7, 8] (fun qv rv wr => ∃ (q r z : Nat), qv = .int .u64 (q : Int) ∧ rv = .int .u64 (r : Int) ∧ u.getD n 0 * LB + u.getD (n - 1) 0 = q * v.getD (n - 1) 0 + r ∧ ay u / ay v ≤ q ∧ q ≤ 1000000002 ∧ r < 2000000000 ∧ wr = w.drewN z) (fun qv _ _ => (intOf qv).toNat)
 case atStart => exact ⟨q0, r0, _, by rw [hqI], by rw [hrI], HQ0.out, C9.out, hle0, by omega, by simp only [World.drewN_drewN]; rfl⟩
 case round =>
  clear HQ0 C9 hle0 hr0 hqI hrI;obtain ⟨q, r, z, rfl, rfl, hq, hge, ae4, hrl, rfl⟩ := hrel;have HQ := Lib.hid hq; have HGE := Lib.hid hge;clear hq hge;have hpb : q * v2 ≤ 1000000001000000000 := by
   have := Nat.mul_le_mul ae4 (show v2 ≤ 999999999 by omega);omega
  obtain ⟨p, hp⟩ : ∃ p, p = q * v2 := ⟨_, rfl⟩;have hpI : (q : Int) * (v2 : Int) = (p : Int) := by rw [hp]; simp
  rw [← hp] at hpb;have HP := Lib.hid hp; clear hp;have hbad : oZ q r v2 u2 = decide (r < 1000000000 ∧ (1000000000 ≤ q ∨ r * 1000000000 + u2 < p)) := by unfold oZ; rw [HP.out]
  have HBAD := Lib.hid hbad; clear hbad;go_upto_region 4 with fail
  go_cut [74] from 49 to 84 (fun b wx => b = .bool (oZ q r v2 u2) ∧ ∃ z, wx = w.drewN z)
  case first =>
   by_cases c1 : r < 1000000000
   ·by_cases c2 : 1000000000 ≤ q
    ·have HB := Lib.hid (show oZ q r v2 u2 = true by rw [HBAD.out]; exact decide_eq_true ⟨c1, .inl c2⟩);have d1 : decide ((r : Int) < 1000000000) = true := decide_eq_true (by omega);have d2 : decide ((1000000000 : Int) ≤ (q : Int)) = true := decide_eq_true (by omega);go_quiet (fail)
     go_wp2_with fail
     go_meet
     exact ⟨by rw [HB.out], by simp only [World.drewN_drewN]; exact ⟨_, rfl⟩⟩
    ·have d1 : decide ((r : Int) < 1000000000) = true := decide_eq_true (by omega);have d2 : decide ((1000000000 : Int) ≤ (q : Int)) = false := decide_eq_false (by omega);by_cases c3 : r * 1000000000 + u2 < p
     ·have HB := Lib.hid (show oZ q r v2 u2 = true by rw [HBAD.out]; exact decide_eq_true ⟨c1, .inr c3⟩);have d3 : decide ((r : Int) * 1000000000 + (u2 : Int) < (p : Int)) = true := decide_eq_true (by omega);go_quiet (fail)
      go_wp2_with fail
      go_meet
      exact ⟨by rw [HB.out], by simp only [World.drewN_drewN]; exact ⟨_, rfl⟩⟩
     ·have HB := Lib.hid (show oZ q r v2 u2 = false by rw [HBAD.out]; exact decide_eq_false (by omega));have d3 : decide ((r : Int) * 1000000000 + (u2 : Int) < (p : Int)) = false := decide_eq_false (by omega);go_quiet (fail)
      go_wp2_with fail
      go_meet
      exact ⟨by rw [HB.out], by simp only [World.drewN_drewN]; exact ⟨_, rfl⟩⟩
   ·have HB := Lib.hid (show oZ q r v2 u2 = false by rw [HBAD.out]; exact decide_eq_false (by omega));have d1 : decide ((r : Int) < 1000000000) = false := decide_eq_false (by omega);go_quiet (fail)
    go_wp2_with fail
    go_meet
    exact ⟨by rw [HB.out], by simp only [World.drewN_drewN]; exact ⟨_, rfl⟩⟩
  case rest =>
   obtain ⟨rfl, z', rfl⟩ := hcut;cases hb : oZ q r v2 u2
   ·have hbf : ¬ (r < LB ∧ (LB ≤ q ∨ r * LB + u.getD (n - 2) 0 < q * v.getD (n - 2) 0)) := by
     intro h; rw [HG.out.2.2.2.2, HG.out.2.1] at h;have := (sU q r v2 u2).2 h;rw [hb] at this; cases this
    obtain ⟨a1, a2, a3⟩ := HE.out.almost HQ.out HGE.out hbf;have hqB : q < 1000000000 := a1;have HAL := Lib.hid (And.intro a2 a3);clear hb hbf a1 a2 a3 HQ HGE ae4 hrl hpb hpI HP HBAD;have acf : w.grownBy (w.drewN z') (some bu) := sS (xM _ _) _;have acg : Row (w.drewN z') bu 115 (aO (P ++ u ++ S)) := HU.out.dN _;clear ct cv2 cun cu1 cu2;obtain ⟨W0, hW0⟩ : ∃ W0, W0 = w.drewN z' := ⟨_, rfl⟩;rw [← hW0] at acf acg;go_wp2
    rw [← hW0];clear hW0;go_loopw [9, 87] (fun cv i wr => ∃ (k cr : Nat) (u' : List Nat), k ≤ n ∧ i = .int .i64 (k : Int) ∧ cv = .int .u64 (cr : Int) ∧ cr ≤ 1000000000 ∧ BO u v q k cr u' ∧
     Row wr bu 115 (aO (P ++ u' ++ S)) ∧ w.grownBy wr (some bu)) (fun _ i _ => n - (intOf i).toNat)
    case atStart => exact ⟨0, 0, u, by omega, rfl, rfl, by omega, BO.start HE.out.lu, acg, acf⟩
    case round =>
     clear acg acf;obtain ⟨k, cr, u', hk, rfl, rfl, hcr, hms, hrow, hgr⟩ := hrel;have uH : u'.length = n + 1 := by rw [hms.len, HUL.out]
     have HMS := Lib.hid hms; have HRW := Lib.hid hrow; have HGR := Lib.hid hgr;have hrv := HV.out.grown hgr HNE.out;by_cases hlt : k < n
     ·obtain ⟨y, hy⟩ := aA (l := v) (k := k) (by rw [HVL.out]; exact hlt);obtain ⟨x, hx⟩ := aA (l := u') (k := k) (by omega);have cy := hrv.cell (aT hy);have cx := hrow.cell (aT ((iT HPP.out (by omega)).trans hx));have fx := hrow.frozen (j + k);have hyl : y < 1000000000 := HE.out.lv.get hy;have hxl : x < 1000000000 := hms.limbs.get hx;have HY := Lib.hid (aF hy);have HX := Lib.hid (show u.getD k 0 = x by
       have := jJ hms.rest;rw [hx] at this;exact aF this.symm)
      have hpb := qx (x := q) (y := y) hqB hyl;obtain ⟨p, hp⟩ : ∃ p, p = q * y := ⟨_, rfl⟩;have hpI : (q : Int) * (y : Int) = (p : Int) := by rw [hp]; simp
      rw [← hp] at hpb;have HP := Lib.hid hp;have wo : k < u'.length := by omega
      clear hy hx hms hrow hgr hrv hp uH;by_cases hs : (x : Int) - ((p : Int) + (cr : Int)) % 1000000000 < 0
      ·obtain ⟨s, hs'⟩ : ∃ s, s + (p + cr) % 1000000000 = x + 1000000000 := ⟨x + 1000000000 - ((p + cr) % 1000000000), by omega⟩;have HS := Lib.hid hs'; clear hs';go_wp2
       go_roundw
       case rel =>
        refine ⟨k + 1, (p + cr) / 1000000000 + 1, u'.set k s, by omega, by go_num, by go_num, by omega, HMS.out.step (by rw [HUL.out]; omega) ?_ (by have := HS.out; show _ < 1000000000; omega), ?_, iQ HGR.out _ _⟩
        ·have := HS.out; rw [HX.out, HY.out, ← HP.out]; show _ = _ + 1000000000 * _; omega
        ·have hr := HRW.out.set (j + k) (.int .u32 (s : Int));rw [aV, set_mid HPP.out wo] at hr;have hss := HS.out;rw [show (s : Int) = (x : Int) - ((p : Int) + (cr : Int)) % 1000000000 + 1000000000 by omega] at hr;exact hr
       case measure => simp [intOf]; omega
      ·have hdd : decide ((x : Int) - ((p : Int) + (cr : Int)) % 1000000000 < 0) = false := decide_eq_false hs;obtain ⟨s, hs'⟩ : ∃ s, s + (p + cr) % 1000000000 = x := ⟨x - ((p + cr) % 1000000000), by omega⟩;have HS := Lib.hid hs'; clear hs';go_wp2
       go_roundw
       case rel =>
        refine ⟨k + 1, (p + cr) / 1000000000, u'.set k s, by omega, by go_num, by go_num, by omega, HMS.out.step (by rw [HUL.out]; omega) ?_ (by have := HS.out; show _ < 1000000000; omega), ?_, iQ HGR.out _ _⟩
        ·have := HS.out; rw [HX.out, HY.out, ← HP.out]; show _ = _ + 1000000000 * _; omega
        ·have hr := HRW.out.set (j + k) (.int .u32 (s : Int));rw [aV, set_mid HPP.out wo] at hr;have hss := HS.out;rw [show (s : Int) = (x : Int) - ((p : Int) + (cr : Int)) % 1000000000 by omega] at hr;exact hr
       case measure => simp [intOf]; omega
     ·obtain rfl : k = n := by omega
      have hxn : u'[k]? = u[k]? := jJ hms.rest;have hun' : u[k]? = some un := by
       have h1 := HG.out.2.2.1;obtain ⟨y, hy⟩ := aA (l := u) (k := k) (by rw [HUL.out]; omega);rw [aF hy] at h1;rw [hy, h1]
      have cx := hrow.cell (aT ((iT HPP.out (by omega)).trans (hxn.trans hun')));have HUN := Lib.hid (show u.getD k 0 = un from HG.out.2.2.1);have BL := Lib.hid uH;clear hms hrow hgr hxn hun' uH hlt;go_upto_if 127 with fail
      go_cut [7, 14, 15, 16, 17] from 121 to 153 (fun q7 _ _ _ _ wx => ∃ u3 : List Nat, q7 = .int .u64 ((ay u / ay v : Nat) : Int) ∧ u3.length = k + 1 ∧ Limbs u3 ∧ ay (u3.take k) = ay u % ay v ∧ Row wx bu 115 (aO (P ++ u3 ++ S)) ∧ w.grownBy wx (some bu))
      case first =>
       by_cases hs : un < cr
       ·have hneg : u.getD k 0 < cr := by rw [HUN.out]; omega
        have HNG := Lib.hid hneg;have hq1 : 1 ≤ q := by
         rcases Nat.eq_zero_or_pos q with h0 | h0
         ·exfalso
          have he := sK HE.out HMS.out;have hl := mP HMS.out.limbs (n := k) (by rw [BL.out]; omega);have h1 : LB ^ k * (u.getD k 0 + 1) ≤ LB ^ k * cr := Nat.mul_le_mul_left _ hneg;rw [Nat.mul_add, Nat.mul_one] at h1;rw [h0, Nat.zero_mul] at he;omega
         ·exact h0
        clear hneg;go_wp2
        go_loopw [14, 132] (fun ov i wi => ∃ (m o : Nat) (u2' : List Nat), m ≤ k ∧ i = .int .i64 (m : Int) ∧ ov = .int .u32 (o : Int) ∧ o ≤ 1 ∧ BX u' v m o u2' ∧
         Row wi bu 115 (aO (P ++ u2' ++ S)) ∧ w.grownBy wi (some bu)) (fun _ i _ => k - (intOf i).toNat)
        case atStart => exact ⟨0, 0, u', by omega, rfl, rfl, by omega, BX.start HMS.out.limbs, HRW.out, HGR.out⟩
        case round =>
         clear cx;obtain ⟨m, o, u2', hm, rfl, rfl, ho, hma, hrow, hgr⟩ := hrel;have HMA := Lib.hid hma; have CJ := Lib.hid hrow; have CO := Lib.hid hgr;have hrv := HV.out.grown hgr HNE.out;have wo : u2'.length = k + 1 := by rw [hma.len, BL.out]
         by_cases hmt : m < k
         ·obtain ⟨y, hy⟩ := aA (l := v) (k := m) (by rw [HVL.out]; exact hmt);obtain ⟨x, hx⟩ := aA (l := u2') (k := m) (by omega);have cy := hrv.cell (aT hy);have cx := hrow.cell (aT ((iT HPP.out (by omega)).trans hx));have fx := hrow.frozen (j + m);have hyl : y < 1000000000 := HE.out.lv.get hy;have hxl : x < 1000000000 := hma.limbs.get hx;have HY := Lib.hid (aF hy);have HX := Lib.hid (show u'.getD m 0 = x by
           have := jJ hma.rest;rw [hx] at this;exact aF this.symm)
          have hm2 : m < u2'.length := by omega
          clear hy hx hma hrow hgr hrv wo;have hs2 : (∃ s, x + y + o = s + 1000000000) ∨ x + y + o < 1000000000 := by
           by_cases h : 1000000000 ≤ x + y + o
           ·exact .inl ⟨x + y + o - 1000000000, by omega⟩
           ·exact .inr (by omega)
          rcases hs2 with ⟨s, hs2⟩ | hs2
          ·have hdd : decide ((1000000000 : Int) ≤ (x : Int) + (y : Int) + (o : Int)) = true := decide_eq_true (by omega);have hsI : (1000000000 : Int) ≤ (x : Int) + (y : Int) + (o : Int) := by omega
           have HS := Lib.hid hs2; clear hs2;go_wp2
           go_roundw
           case rel =>
            refine ⟨m + 1, 1, u2'.set m s, by omega, by go_num, rfl, by omega, HMA.out.step (by rw [BL.out]; omega) (by have := HS.out; rw [HX.out, HY.out]; show _ + 1000000000 * _ = _; omega) (by have := HS.out; show _ < 1000000000; omega), ?_, iQ CO.out _ _⟩;have hr := CJ.out.set (j + m) (.int .u32 (s : Int));rw [aV, set_mid HPP.out hm2] at hr;have hss := HS.out;rw [show (s : Int) = (x : Int) + (y : Int) + (o : Int) - 1000000000 by omega] at hr;exact hr
           case measure => simp [intOf]; omega
          ·have hdd : decide ((1000000000 : Int) ≤ (x : Int) + (y : Int) + (o : Int)) = false := decide_eq_false (by omega);go_wp2
           go_roundw
           case rel =>
            refine ⟨m + 1, 0, u2'.set m (x + y + o), by omega, by go_num, rfl, by omega, HMA.out.step (by rw [BL.out]; omega) (by rw [HX.out, HY.out]; show _ + 1000000000 * _ = _; omega) (by show _ < 1000000000; omega), ?_, iQ CO.out _ _⟩;have hr := CJ.out.set (j + m) (.int .u32 ((x + y + o : Nat) : Int));rw [aV, set_mid HPP.out hm2] at hr;exact hr
           case measure => simp [intOf]; omega
         ·obtain rfl : m = k := by omega
          have HB := Lib.hid (y9 HE.out HMS.out HAL.out.1 HAL.out.2 HNG.out hma);clear hma hrow hgr hrv;go_wp2_with fail
          go_meet
          exact ⟨u2', by have := HB.out.1; go_num, wo, HMA.out.limbs, HB.out.2, CJ.out, CO.out⟩
       ·have hdd : decide (un < cr) = false := decide_eq_false hs;have HB := Lib.hid (wS HE.out HMS.out HAL.out.1 HAL.out.2 (by rw [HUN.out]; omega));go_wp2_with fail
        go_meet
        exact ⟨u', by rw [← HB.out.1], BL.out, HMS.out.limbs, HB.out.2, HRW.out, HGR.out⟩
      case rest =>
       clear cx HMS HRW HGR BL;obtain ⟨u3, rfl, ach, ae5, aa4, hrow3, ag4⟩ := hcut;obtain ⟨x, hx⟩ := aA (l := u3) (k := k) (by omega);have cx := hrow3.cell (aT ((iT HPP.out (by omega)).trans hx));have fx := hrow3.frozen (j + k);have hQlt : ay u / ay v < 1000000000 := HE.out.q_lt;have HLN := Lib.hid (zh ach aa4);have Dq := Lib.hid ach;have hk3 : k < u3.length := by omega
       clear hx ach aa4;generalize hQ : ay u / ay v = Q at *;have HQQ := Lib.hid hQ; clear hQ;go_wp2
       go_ret;refine ⟨by rw [HQQ.out]; rfl, ⟨u3.set k 0, by rw [List.length_set, Dq.out], ae5.set (by decide), HLN.out, ?_⟩, iQ ag4 _ _⟩;have hr := hrow3.set (j + k) (.int .u32 ((0 : Nat) : Int));rw [aV, set_mid HPP.out hk3] at hr;exact hr
   ·have hbt := (sU q r v2 u2).1 hb;have HT := Lib.hid hbt;have hrLB : r < 1000000000 := hbt.1;clear hb hbt;have hq1 : 1 ≤ q := by
     have h := HT.out.2;rcases Nat.eq_zero_or_pos q with h0 | h0
     ·subst h0; rcases h with h | h
      ·exact absurd h (by decide)
      ·simp at h
     ·exact h0
    go_wp2
    go_roundw
    case rel =>
     refine ⟨q - 1, r + top, z', ?_, ?_, ?_, ?_, by omega, by omega, rfl⟩
     ·go_num
     ·go_num
     ·rw [HQ.out, HG.out.1];obtain ⟨q', rfl⟩ : ∃ q', q = q' + 1 := ⟨q - 1, by omega⟩;rw [Nat.add_sub_cancel, Nat.add_mul, Nat.one_mul]; omega
     ·have := HE.out.y8 HQ.out (HT.out.2.imp id fun h => by rw [HG.out.2.2.2.2, HG.out.2.1]; exact h);omega
    case measure => simp [intOf]; omega
end Go.Proofs.YtkcheepafifjaaaGreatDoor
