/- The greatest common divisor by halves; the first digits of a number. The plain law. -/
import Derived.Test.YtkcheepafifjaaaGreatDoorS01
set_option linter.all false
namespace Go.Proofs.YtkcheepafifjaaaGreatDoor
theorem ou (k m : Nat) : (∀ i, i < k → (2 ^ k * (2 * m + 1)).testBit i = false) ∧ (2 ^ k * (2 * m + 1)).testBit k = true := by
 constructor
 ·intro i hi;rw [Nat.mul_comm, Nat.testBit_mul_two_pow];simp; omega
 ·rw [Nat.mul_comm, Nat.testBit_mul_two_pow];simp
theorem ahO {j k m n : Nat} (h : 2 ^ j * (2 * m + 1) = 2 ^ k * (2 * n + 1)) : j = k := by
 rcases Nat.lt_trichotomy j k with h1 | h1 | h1
 ·have := (ou k n).1 j h1;rw [← h, (ou j m).2] at this;cases this
 ·exact h1
 ·have := (ou j m).1 k h1;rw [h, (ou k n).2] at this;cases this
theorem ahE {i j s m n r : Nat} (h : (2 ^ i * (2 * m + 1)) ||| (2 ^ j * (2 * n + 1)) = 2 ^ s * (2 * r + 1)) : s = min i j := by
 have hi := ou i m;have hj := ou j n;have hs := ou s r;rw [← h] at hs;have hs1 := hs.2;rw [Nat.testBit_or, Bool.or_eq_true] at hs1;have a1 : min i j ≤ s := by
  rcases Nat.lt_or_ge s (min i j) with h1 | h1
  ·rw [hi.1 s (by omega), hj.1 s (by omega)] at hs1;simp at hs1
  ·exact h1
 have a2 : s ≤ min i j := by
  rcases Nat.lt_or_ge (min i j) s with h1 | h1
  ·have := hs.1 _ h1;rw [Nat.testBit_or, Bool.or_eq_false_iff] at this;rcases Nat.le_total i j with h2 | h2
   ·rw [Nat.min_eq_left h2, hi.2] at this;simp at this
   ·rw [Nat.min_eq_right h2, hj.2] at this;simp at this
  ·exact h1
 omega
theorem afZ (k m : Nat) : Nat.Coprime (2 * m + 1) (2 ^ k) := by
 apply Nat.Coprime.pow_right
 show Nat.gcd (2 * m + 1) 2 = 1;rw [Nat.gcd_comm, Nat.gcd_rec, show (2 * m + 1) % 2 = 1 by omega]; rfl
theorem wG (k m b : Nat) : Nat.gcd (2 * m + 1) (2 ^ k * b) = Nat.gcd (2 * m + 1) b := Nat.Coprime.gcd_mul_left_cancel_right _ (afZ k m).symm
theorem af0 {a b i j s m n r : Nat} (ha : a = 2 ^ i * (2 * m + 1)) (hb : b = 2 ^ j * (2 * n + 1)) (hs : (a ||| b) = 2 ^ s * (2 * r + 1)) : Nat.gcd (2 * m + 1) b * 2 ^ s = Nat.gcd a b := by
 have he : s = min i j := ahE (by rw [← ha, ← hb]; exact hs);rw [hb, wG, ha, he];rcases Nat.le_total i j with h | h
 ·rw [Nat.min_eq_left h];obtain ⟨d, rfl⟩ : ∃ d, j = i + d := ⟨j - i, by omega⟩;rw [Nat.pow_add, Nat.mul_assoc, Nat.gcd_mul_left, wG, Nat.mul_comm]
 ·rw [Nat.min_eq_right h];obtain ⟨d, rfl⟩ : ∃ d, i = j + d := ⟨i - j, by omega⟩;rw [Nat.pow_add, Nat.mul_assoc, Nat.gcd_mul_left, Nat.gcd_comm (2 ^ d * _), wG, Nat.mul_comm, Nat.gcd_comm]
theorem af2 {l : List Nat} {n iL T : Nat} (hl : l.length ≤ n) (hn : 3 ≤ n) (hT : iL * T = LB) (hL : Limbs l) :
  (l.getD (n - 1) 0 * LB + l.getD (n - 2) 0) * iL + l.getD (n - 3) 0 * iL / LB = ay l / (LB ^ (n - 3) * T) := by
 have hTp : 0 < T := by
  rcases Nat.eq_zero_or_pos T with h | h
  ·subst h; simp at hT
  ·exact h
 have htp : 0 < iL := by
  rcases Nat.eq_zero_or_pos iL with h | h
  ·subst h; simp at hT
  ·exact h
 have e0 : ay l = ay (l.take (n - 3)) + LB ^ (n - 3) * (l.getD (n - 3) 0 + LB * (l.getD (n - 2) 0 + LB * l.getD (n - 1) 0)) := by
  by_cases h3 : n - 3 ≤ l.length
  ·rw [dM l h3, bC, show n - 3 + 1 = n - 2 by omega, bC, show n - 2 + 1 = n - 1 by omega, bC, show n - 1 + 1 = n by omega, List.drop_eq_nil_of_le hl];simp [ay]
  ·rw [List.take_of_length_le (by omega), bZ (by omega), bZ (by omega), bZ (by omega)];simp
 have e1 : ay (l.take (n - 3)) < LB ^ (n - 3) := by
  have := dL (hL.take (n - 3));have h2 : LB ^ (l.take (n - 3)).length ≤ LB ^ (n - 3) := Nat.pow_le_pow_right (by decide) (by rw [List.length_take]; omega);omega
 rw [e0, ← Nat.div_div_eq_div_mul, Nat.add_mul_div_left _ _ (AU _), Nat.div_eq_of_lt e1, Nat.zero_add];generalize l.getD (n - 3) 0 = z;generalize l.getD (n - 2) 0 = y;generalize l.getD (n - 1) 0 = x;have e2 : z + LB * (y + LB * x) = z + T * (iL * (y + LB * x)) := by rw [← hT]; grind
 rw [e2, Nat.add_mul_div_left _ _ hTp];have e3 : z * iL / LB = z / T := by rw [← hT, Nat.mul_comm z, Nat.mul_div_mul_left _ _ htp]
 rw [e3, Nat.add_comm (x * LB), Nat.mul_comm x, Nat.mul_comm iL, Nat.add_comm]
theorem af4 {l : List Nat} {n iL T : Nat} (hl : l.length = n) (hn : 3 ≤ n) (hT : iL * T = LB) (hL : Limbs l) (ht : l.getD (n - 1) 0 * iL < LB) : ay l / (LB ^ (n - 3) * T) < 1000000000000000000 := by
 have hTp : 0 < T := by
  rcases Nat.eq_zero_or_pos T with h | h
  ·subst h; simp at hT
  ·exact h
 rw [Nat.div_lt_iff_lt_mul (Nat.mul_pos (AU _) hTp)];have h1 : (l.getD (n - 1) 0 + 1) * iL ≤ LB := by
  have : l.getD (n - 1) 0 < T := by
   rcases Nat.lt_or_ge (l.getD (n - 1) 0) T with h | h
   ·exact h
   ·have := Nat.mul_le_mul_left iL h;rw [Nat.mul_comm iL (l.getD _ _)] at this;omega
  have h9 : (l.getD (n - 1) 0 + 1) * iL ≤ T * iL := Nat.mul_le_mul_right iL this;rw [Nat.mul_comm T] at h9;omega
 have h2 : ay l < LB ^ (n - 1) * (l.getD (n - 1) 0 + 1) := by
  rw [dM l (i := n - 1) (by omega), bC, show n - 1 + 1 = n by omega, List.drop_eq_nil_of_le (by omega)];have := dL (hL.take (n - 1));rw [List.length_take, Nat.min_eq_left (by omega)] at this;rw [Nat.mul_add (LB ^ (n - 1)) _ 1];simp [ay] at *;omega
 have h3 : LB ^ (n - 1) * (l.getD (n - 1) 0 + 1) * iL ≤ LB ^ (n - 1) * LB := by rw [Nat.mul_assoc]; exact Nat.mul_le_mul_left _ h1
 have htp : 0 < iL := by
  rcases Nat.eq_zero_or_pos iL with h | h
  ·subst h; simp at hT
  ·exact h
 have h4 : LB ^ (n - 1) * LB = 1000000000000000000 * (LB ^ (n - 3) * T) * iL := by
  have : LB ^ (n - 1) = LB ^ (n - 3) * LB ^ 2 := by rw [← Nat.pow_add]; congr 1; omega
  rw [this, ← hT];have : (iL * T) ^ 2 = 1000000000000000000 := by rw [hT]; decide
  rw [this]; grind
 rw [h4] at h3;have h5 := Nat.le_of_mul_le_mul_right h3 htp;omega
theorem front_eq {l : List Nat} {n : Nat} (hl : l.length ≤ n) (hn : 2 ≤ n) (hL : Limbs l) : l.getD (n - 1) 0 * LB + l.getD (n - 2) 0 = ay l / LB ^ (n - 2) := by
 have e0 : ay l = ay (l.take (n - 2)) + LB ^ (n - 2) * (l.getD (n - 2) 0 + LB * l.getD (n - 1) 0) := by
  by_cases h3 : n - 2 ≤ l.length
  ·rw [dM l h3, bC, show n - 2 + 1 = n - 1 by omega, bC, show n - 1 + 1 = n by omega, List.drop_eq_nil_of_le hl];simp [ay]
  ·rw [List.take_of_length_le (by omega), bZ (by omega), bZ (by omega)];simp
 have e1 : ay (l.take (n - 2)) < LB ^ (n - 2) := by
  have := dL (hL.take (n - 2));have h2 : LB ^ (l.take (n - 2)).length ≤ LB ^ (n - 2) := Nat.pow_le_pow_right (by decide) (by rw [List.length_take]; omega);omega
 rw [e0, Nat.add_mul_div_left _ _ (AU _), Nat.div_eq_of_lt e1, Nat.zero_add, Nat.mul_comm LB, Nat.add_comm]
def sgI (neg : Bool) (n : Nat) : Int := if neg then -(n : Int) else (n : Int)
def bU (x : Rat) : Bool := decide (x.num < 0)
theorem lG (neg : Bool) (n : Nat) : (sgI neg n).natAbs = n := by unfold sgI; split <;> simp
theorem qB {neg : Bool} {n : Nat} (h : n ≠ 0) : decide (sgI neg n < 0) = neg := by
 unfold sgI; cases neg <;> simp <;> omega
theorem jA (x : Rat) : sgI (bU x) x.num.natAbs = x.num := by
 unfold sgI bU;by_cases h : x.num < 0
 ·rw [if_pos (by simpa using h)]; omega
 ·rw [if_neg (by simpa using h)]; omega
theorem sN (neg : Bool) : sgI neg 0 = 0 := by unfold sgI; cases neg <;> rfl
theorem af5 (a b : Bool) (m n : Nat) : sgI (a != b) (m * n) = sgI a m * sgI b n := by
 unfold sgI; cases a <;> cases b <;> simp [Int.neg_mul, Int.mul_neg]
theorem jK (a : Bool) (m n : Nat) : sgI a (m * n) = sgI a m * (n : Int) := by
 unfold sgI; cases a <;> simp [Int.neg_mul]
theorem ahx {t : Int} {neg : Bool} {n : Nat} (ha : t.natAbs = n) (hs : t ≠ 0 → decide (t < 0) = neg) : t = sgI neg n := by
 by_cases h : t = 0
 ·subst h; simp at ha; subst ha; rw [sN]
 ·have := hs h;unfold sgI;cases neg
  ·simp at this; simp; omega
  ·simp at this; simp; omega
theorem iW (n : Int) {d : Nat} (hd : d ≠ 0) : (mkRat n d).num.natAbs = n.natAbs / Nat.gcd n.natAbs d ∧ (mkRat n d).den = d / Nat.gcd n.natAbs d ∧ ((mkRat n d).num < 0 ↔ n < 0) := by
 have hg : 0 < d.gcd n.natAbs := Nat.gcd_pos_of_pos_left _ (Nat.pos_of_ne_zero hd);rw [Rat.num_mkRat, Rat.den_mkRat, if_neg hd, if_neg hd, Nat.gcd_comm n.natAbs d];have hdv : ((d.gcd n.natAbs : Nat) : Int) ∣ n := Int.ofNat_dvd_left.2 (Nat.gcd_dvd_right _ _);refine ⟨?_, rfl, ?_⟩
 ·rw [Int.natAbs_ediv_of_dvd hdv]; rfl
 ·obtain ⟨c, hc⟩ := hdv;generalize d.gcd n.natAbs = G at *;rw [hc, Int.mul_ediv_cancel_left _ (by omega)];constructor
  ·intro h;exact Int.mul_neg_of_pos_of_neg (by omega) h
  ·intro h;rcases Int.lt_or_le c 0 with h1 | h1
   ·exact h1
   ·have := Int.mul_nonneg (show (0 : Int) ≤ (G : Nat) by omega) h1;omega
theorem jD (n : Int) {d : Nat} (hd : d ≠ 0) : bU (mkRat n d) = decide (n < 0) := by
 unfold bU; rw [decide_eq_decide]; exact (iW n hd).2.2
theorem kF {neg : Bool} {n d : Nat} (hd : d ≠ 0) (h : Nat.gcd n d = 1) : (mkRat (sgI neg n) d).num.natAbs = n ∧ (mkRat (sgI neg n) d).den = d := by
 have := iW (sgI neg n) hd;rw [lG, h, Nat.div_one, Nat.div_one] at this;exact ⟨this.1, this.2.1⟩
theorem o8 (x : Rat) : mkRat (sgI (bU x) x.num.natAbs) x.den = x := by rw [jA, Rat.mkRat_self]
theorem iY (x : Rat) : Nat.gcd x.num.natAbs x.den = 1 := x.reduced
theorem jg (x : Rat) : x.num.natAbs = 0 ↔ x = 0 := by rw [Int.natAbs_eq_zero, Rat.num_eq_zero]
theorem agW (x y : Rat) {g l r : Nat} (hg : g = Nat.gcd x.den y.den) (hl : l = x.den / g) (hr : r = y.den / g) : x + y = mkRat (x.num * r + y.num * l) (l * y.den) := by
 have hgp : 0 < g := by rw [hg]; exact Nat.gcd_pos_of_pos_left _ x.den_pos
 have e1 : l * g = x.den := by rw [hl, hg]; exact Nat.div_mul_cancel (Nat.gcd_dvd_left _ _)
 have e2 : r * g = y.den := by rw [hr, hg]; exact Nat.div_mul_cancel (Nat.gcd_dvd_right _ _)
 rw [Rat.add_def'];have e3 : x.num * (y.den : Int) + y.num * (x.den : Int) = (x.num * r + y.num * l) * (g : Nat) := by
  rw [← e1, ← e2]; simp only [Int.natCast_mul]; grind
 have e4 : x.den * y.den = (l * y.den) * g := by rw [← e1]; grind
 rw [e3, e4, Rat.mkRat_mul_right (by omega)]
theorem adF (x y : Rat) {g l r f : Nat} {t : Int} (hg : g = Nat.gcd x.den y.den) (hl : l = x.den / g) (hr : r = y.den / g) (ht : t = x.num * r + y.num * l) (hf : f = Nat.gcd t.natAbs g) :
  (x + y).num.natAbs = t.natAbs / f ∧ (x + y).den = l * (y.den / f) ∧ bU (x + y) = decide (t < 0) := by
 have hgp : 0 < g := by rw [hg]; exact Nat.gcd_pos_of_pos_left _ x.den_pos
 have hlp : l ≠ 0 := by
  intro h0;have e1 : l * g = x.den := by rw [hl, hg]; exact Nat.div_mul_cancel (Nat.gcd_dvd_left _ _)
  rw [h0] at e1;have := x.den_pos;omega
 have hd : l * y.den ≠ 0 := Nat.mul_ne_zero hlp y.den_nz;have e := agW x y hg hl hr;rw [← ht] at e;have hp := iW t hd;have ha := Rat.add.aux x y hg hl hr;simp only at ha;rw [← ht] at ha;rw [← ha, ← hf] at hp;have hfg : f ∣ y.den := by
  rw [hf]; refine Nat.dvd_trans (Nat.gcd_dvd_right _ _) ?_;rw [hg]; exact Nat.gcd_dvd_right _ _
 rw [e];refine ⟨hp.1, ?_, ?_⟩
 ·rw [hp.2.1, Nat.mul_div_assoc _ hfg]
 ·exact jD t hd
theorem adG (x y : Rat) : (x * y).num.natAbs = (x.num.natAbs / Nat.gcd x.num.natAbs y.den) * (y.num.natAbs / Nat.gcd y.num.natAbs x.den) ∧
  (x * y).den = (x.den / Nat.gcd y.num.natAbs x.den) * (y.den / Nat.gcd x.num.natAbs y.den) ∧ (x ≠ 0 → y ≠ 0 → bU (x * y) = (bU x != bU y)) := by
 have hd : x.den * y.den ≠ 0 := Nat.mul_ne_zero x.den_nz y.den_nz;have hp := iW (x.num * y.num) hd;rw [← Rat.mul_def', Int.natAbs_mul] at hp;have hg : Nat.gcd (x.num.natAbs * y.num.natAbs) (x.den * y.den) = Nat.gcd x.num.natAbs y.den * Nat.gcd y.num.natAbs x.den := by
  have c1 := iY x;have c2 := iY y;generalize x.num.natAbs = a at *;generalize y.num.natAbs = b at *;generalize x.den = c at *;generalize y.den = d at *;obtain ⟨a', ha⟩ := Nat.gcd_dvd_left a d;obtain ⟨d', hd'⟩ := Nat.gcd_dvd_right a d;obtain ⟨b', hb⟩ := Nat.gcd_dvd_left b c;obtain ⟨c', hc⟩ := Nat.gcd_dvd_right b c;have hdp : 0 < d := Nat.pos_of_ne_zero fun h => hd (by rw [h, Nat.mul_zero])
  have hcp : 0 < c := Nat.pos_of_ne_zero fun h => hd (by rw [h, Nat.zero_mul])
  have hf : 0 < Nat.gcd a d := Nat.gcd_pos_of_pos_right _ hdp;have hg : 0 < Nat.gcd b c := Nat.gcd_pos_of_pos_right _ hcp;have k1 : Nat.Coprime a' d' := by
   have : Nat.gcd a d * Nat.gcd a' d' = Nat.gcd a d := by rw [← Nat.gcd_mul_left, ← ha, ← hd']
   exact Nat.eq_of_mul_eq_mul_left hf (by rw [this, Nat.mul_one])
  have k2 : Nat.Coprime b' c' := by
   have : Nat.gcd b c * Nat.gcd b' c' = Nat.gcd b c := by rw [← Nat.gcd_mul_left, ← hb, ← hc]
   exact Nat.eq_of_mul_eq_mul_left hg (by rw [this, Nat.mul_one])
  have k3 : Nat.Coprime a' c' := by
   refine Nat.Coprime.coprime_dvd_left ⟨_, (ha.trans (Nat.mul_comm _ _))⟩ (Nat.Coprime.coprime_dvd_right ⟨_, (hc.trans (Nat.mul_comm _ _))⟩ c1)
  have k4 : Nat.Coprime b' d' := by
   refine Nat.Coprime.coprime_dvd_left ⟨_, (hb.trans (Nat.mul_comm _ _))⟩ (Nat.Coprime.coprime_dvd_right ⟨_, (hd'.trans (Nat.mul_comm _ _))⟩ c2)
  generalize Nat.gcd a d = f at *;generalize Nat.gcd b c = g at *;have e1 : a * b = f * g * (a' * b') := by rw [ha, hb]; grind
  have e2 : c * d = f * g * (c' * d') := by rw [hc, hd']; grind
  rw [e1, e2, Nat.gcd_mul_left, show Nat.gcd (a' * b') (c' * d') = 1 from Nat.Coprime.mul_left (Nat.Coprime.mul_right k3 k1) (Nat.Coprime.mul_right k2 k4), Nat.mul_one]
 refine ⟨?_, ?_, ?_⟩
 ·rw [hp.1, hg];exact Nat.mul_div_mul_comm (Nat.gcd_dvd_left _ _) (Nat.gcd_dvd_left _ _)
 ·rw [hp.2.1, hg, Nat.mul_comm (Nat.gcd x.num.natAbs y.den)];exact Nat.mul_div_mul_comm (Nat.gcd_dvd_right _ _) (Nat.gcd_dvd_right _ _)
 ·intro hx hy;have hx' : x.num ≠ 0 := fun h => hx (Rat.num_eq_zero.1 h)
  have hy' : y.num ≠ 0 := fun h => hy (Rat.num_eq_zero.1 h)
  rw [Rat.mul_def', jD _ hd];unfold bU;rcases Int.lt_or_lt_of_ne hx' with h1 | h1 <;> rcases Int.lt_or_lt_of_ne hy' with h2 | h2
  ·have := Int.mul_pos_of_neg_of_neg h1 h2;simp [h1, h2]; omega
  ·have := Int.mul_neg_of_neg_of_pos h1 h2;simp [h1, show ¬ y.num < 0 by omega]; omega
  ·have := Int.mul_neg_of_pos_of_neg h1 h2;simp [h2, show ¬ x.num < 0 by omega]; omega
  ·have := Int.mul_pos h1 h2;simp [show ¬ y.num < 0 by omega, show ¬ x.num < 0 by omega]; omega
def iG (x y : Rat) : Int := if x < y then -1 else if x = y then 0 else 1
theorem dh (a b : Nat) : (dig (a * b)).length ≤ (dig a).length + (dig b).length :=
 aQ (by rw [Nat.pow_add]; exact Nat.mul_lt_mul'' (jl a) (jl b))
theorem o9 (a b : Nat) : (dig (a + b)).length ≤ max (dig a).length (dig b).length + 1 := by
 refine aQ ?_;have h1 : a < LB ^ max (dig a).length (dig b).length := Nat.lt_of_lt_of_le (jl a) (Nat.pow_le_pow_right (by decide) (Nat.le_max_left _ _));have h2 : b < LB ^ max (dig a).length (dig b).length := Nat.lt_of_lt_of_le (jl b) (Nat.pow_le_pow_right (by decide) (Nat.le_max_right _ _));rw [Nat.pow_succ];generalize LB ^ max (dig a).length (dig b).length = M at *;unfold LB;omega
theorem bD (a b : Nat) : (dig (a / b)).length ≤ (dig a).length := aK (Nat.div_le_self a b)
def rl (x : Rat) : Nat := max (dig x.num.natAbs).length (dig x.den).length
theorem fO (x : Rat) : (dig x.num.natAbs).length ≤ rl x := Nat.le_max_left _ _
theorem fP (x : Rat) : (dig x.den).length ≤ rl x := Nat.le_max_right _ _
theorem agJ {n : Int} {d k : Nat} (hd : d ≠ 0) (h1 : (dig n.natAbs).length ≤ k) (h2 : (dig d).length ≤ k) : rl (mkRat n d) ≤ k := by
 have h := iW n hd;unfold rl;rw [h.1, h.2.1];exact Nat.max_le.2 ⟨Nat.le_trans (bD _ _) h1, Nat.le_trans (bD _ _) h2⟩
theorem uq (x y : Rat) : rl (x * y) ≤ rl x + rl y := by
 rw [Rat.mul_def'];refine agJ (Nat.mul_ne_zero x.den_nz y.den_nz) ?_ ?_
 ·rw [Int.natAbs_mul];exact Nat.le_trans (dh _ _) (Nat.add_le_add (fO x) (fO y))
 ·exact Nat.le_trans (dh _ _) (Nat.add_le_add (fP x) (fP y))
theorem aag (x y : Rat) : rl (x + y) ≤ rl x + rl y + 1 := by
 rw [Rat.add_def'];have a1 := fO x; have a2 := fO y; have a3 := fP x; have a4 := fP y;refine agJ (Nat.mul_ne_zero x.den_nz y.den_nz) ?_ ?_
 ·have h1 : (x.num * (y.den : Int) + y.num * (x.den : Int)).natAbs ≤ x.num.natAbs * y.den + y.num.natAbs * x.den := by
   refine Nat.le_trans (Int.natAbs_add_le _ _) ?_;rw [Int.natAbs_mul, Int.natAbs_mul]; exact Nat.le_refl _
  have h2 := aK h1;have h3 := o9 (x.num.natAbs * y.den) (y.num.natAbs * x.den);have h4 := dh x.num.natAbs y.den;have h5 := dh y.num.natAbs x.den;omega
 ·have := dh x.den y.den;omega
theorem agX (x : Rat) : rl (-x) = rl x := by unfold rl; rw [Rat.neg_num, Rat.neg_den, Int.natAbs_neg]
theorem qE : rl 0 = 1 := by unfold rl; rw [show (0 : Rat).num = 0 from rfl, show (0 : Rat).den = 1 from rfl, Int.natAbs_zero, aW, gJ]; rfl
theorem wV (n : Int) : rl (n : Rat) = max (dig n.natAbs).length 1 := by unfold rl; rw [Rat.num_intCast, Rat.den_intCast, gJ]; rfl
theorem uw {y : Rat} (hy : y ≠ 0) : (y⁻¹).num.natAbs = y.den ∧ (y⁻¹).den = y.num.natAbs ∧ bU y⁻¹ = bU y := by
 have hn : y.num ≠ 0 := fun h => hy (Rat.num_eq_zero.1 h)
 rw [Rat.inv_def];have hnd : y.num.natAbs ≠ 0 := by omega
 have e : Rat.divInt (y.den : Int) y.num = mkRat (sgI (bU y) y.den) y.num.natAbs := by
  have h1 : y.num = sgI (bU y) y.num.natAbs := (jA y).symm;have h2 : Rat.divInt (y.den : Int) y.num = Rat.divInt (y.den : Int) (sgI (bU y) y.num.natAbs) := by rw [← h1]
  rw [h2];unfold sgI;cases bU y
  ·simp [Rat.divInt_ofNat]
  ·simp only [if_true];rw [← Rat.neg_divInt_neg, Int.neg_neg, Rat.divInt_ofNat]
 rw [e];have hg : Nat.gcd y.den y.num.natAbs = 1 := by rw [Nat.gcd_comm]; exact iY y
 have hp := kF (neg := bU y) hnd hg;refine ⟨hp.1, hp.2, ?_⟩;rw [jD _ hnd];exact qB y.den_nz
theorem aeQ {y : Rat} (hy : y ≠ 0) : rl y⁻¹ = rl y := by
 unfold rl; rw [(uw hy).1, (uw hy).2.1, Nat.max_comm]
theorem af6 {x y : Rat} (hn : x.num.natAbs = y.num.natAbs) (hd : x.den = y.den) (hs : bU x = bU y) : x = y := by
 rw [← o8 x, ← o8 y, hn, hd, hs]
theorem adH : bU 0 = false := rfl
theorem aeR {x : Rat} (h : x ≠ 0) : bU (-x) = !bU x := by
 have : x.num ≠ 0 := fun e => h (Rat.num_eq_zero.1 e)
 unfold bU;rw [Rat.neg_num];rcases Int.lt_or_lt_of_ne this with h1 | h1
 ·simp [h1]; omega
 ·have : ¬ x.num < 0 := by omega
  simp [this]; omega
theorem ahF (n : Nat) : bU (n : Rat) = false := by
 unfold bU; rw [Rat.num_natCast]; simp
theorem agY (x : Rat) : dig x.den ≠ [] := fun h => x.den_nz (ku.1 h)
theorem adI {x y : Rat} (hx : x.den = 1) (hy : y.den = 1) : (x + y).den = 1 ∧ (x + y).num = x.num + y.num := by
 have ex : x = (x.num : Rat) := Rat.ext (Rat.num_intCast _).symm (by rw [hx, Rat.den_intCast]);have ey : y = (y.num : Rat) := Rat.ext (Rat.num_intCast _).symm (by rw [hy, Rat.den_intCast]);have e : x + y = ((x.num + y.num : Int) : Rat) := by
  rw [Rat.intCast_add, ← ex, ← ey]
 rw [e];exact ⟨Rat.den_intCast _, Rat.num_intCast _⟩
def jR (x : Rat) : Int := if x.num.natAbs = 0 then 0 else if bU x then -1 else 1
theorem wH (x : Rat) : jR x = if x.num < 0 then -1 else if x.num = 0 then 0 else 1 := by
 unfold jR bU;by_cases h : x.num = 0
 ·simp [h]
 ·by_cases h1 : x.num < 0 <;> simp [h, h1]
theorem wW (x y : Rat) : x = y ↔ x.num * y.den = y.num * x.den := by
 constructor
 ·rintro rfl; rfl
 ·intro h;exact Rat.le_antisymm ((Rat.le_iff x y).2 (Int.le_of_eq h)) ((Rat.le_iff y x).2 (Int.le_of_eq h.symm))
theorem wI (x y : Rat) : iG x y = if x.num * y.den < y.num * x.den then -1 else if x.num * y.den = y.num * x.den then 0 else 1 := by
 unfold iG;by_cases h : x < y
 ·rw [if_pos h, if_pos ((Rat.lt_iff x y).1 h)]
 ·rw [if_neg h, if_neg (fun e => h ((Rat.lt_iff x y).2 e))];by_cases h2 : x = y
  ·rw [if_pos h2, if_pos ((wW x y).1 h2)]
  ·rw [if_neg h2, if_neg (fun e => h2 ((wW x y).2 e))]
theorem aaW {x y : Rat} (h : jR x < jR y) : iG x y = -1 ∧ iG y x = 1 := by
 have dx : (0 : Int) < x.den := by have := x.den_pos; omega
 have dy : (0 : Int) < y.den := by have := y.den_pos; omega
 have hl : x.num * y.den < y.num * x.den := by
  rw [wH, wH] at h;rcases Int.lt_trichotomy x.num 0 with h1 | h1 | h1
  ·rw [if_pos h1] at h;have a1 := Int.mul_neg_of_neg_of_pos h1 dy;have a2 : 0 ≤ y.num := by
    rcases Int.lt_or_le y.num 0 with h2 | h2
    ·rw [if_pos h2] at h; omega
    ·exact h2
   have := Int.mul_nonneg a2 (Int.le_of_lt dx);omega
  ·rw [if_neg (by omega), if_pos h1] at h;rw [h1];have a2 : 0 < y.num := by
    rcases Int.lt_trichotomy y.num 0 with h2 | h2 | h2
    ·rw [if_pos h2] at h; omega
    ·rw [if_neg (by omega), if_pos h2] at h; omega
    ·exact h2
   have := Int.mul_pos a2 dx;omega
  ·rw [if_neg (by omega), if_neg (by omega)] at h;split at h
   ·omega
   ·split at h <;> omega
 rw [wI, wI, if_pos hl, if_neg (by omega), if_neg (by omega)];exact ⟨rfl, rfl⟩
theorem aeS {x y : Rat} (h : jR x = jR y) (h0 : jR x = 0) : iG x y = 0 := by
 have key : ∀ z : Rat, jR z = 0 → z.num = 0 := by
  intro z hz;rw [wH] at hz;by_cases h1 : z.num < 0
  ·rw [if_pos h1] at hz; omega
  ·rw [if_neg h1] at hz;by_cases h2 : z.num = 0
   ·exact h2
   ·rw [if_neg h2] at hz; omega
 have hx := key x h0;have hy := key y (by rw [← h, h0]);rw [wI, hx, hy]; simp
theorem aeT {x y : Rat} (h : jR x = jR y) (h0 : jR x ≠ 0) : iG x y = jR x * bI (x.num.natAbs * y.den) (y.num.natAbs * x.den) := by
 have ex := jA x;have ey := jA y;have hn : bU x = bU y := by
  have hx0 : x.num.natAbs ≠ 0 := fun e => h0 (by unfold jR; rw [if_pos e])
  have hy0 : y.num.natAbs ≠ 0 := fun e => h0 (by rw [h]; unfold jR; rw [if_pos e])
  unfold jR at h;rw [if_neg hx0, if_neg hy0] at h;cases hx : bU x <;> cases hy : bU y <;> rw [hx, hy] at h <;> simp at h ⊢
 have hx0 : x.num.natAbs ≠ 0 := fun e => h0 (by unfold jR; rw [if_pos e])
 have e1 : x.num * y.den = sgI (bU x) (x.num.natAbs * y.den) := by rw [jK, ex]
 have e2 : y.num * x.den = sgI (bU x) (y.num.natAbs * x.den) := by rw [jK, hn, ey]
 rw [wI, e1, e2];unfold jR bI;rw [if_neg hx0];generalize x.num.natAbs * y.den = a;generalize y.num.natAbs * x.den = b;cases bU x
 ·simp only [sgI, Bool.false_eq_true, if_false, Int.one_mul];split <;> split <;> (try split) <;> (try split) <;> omega
 ·simp only [sgI, if_true];split <;> split <;> (try split) <;> (try split) <;> omega
theorem aeU (x y : Rat) : iG x y = jR (x + -y) := by
 unfold iG;rw [wH];have h1 : x < y ↔ (x + -y).num < 0 := by
  have h0 : (x + -y).num < 0 ↔ ¬ 0 ≤ x + -y := by rw [← Rat.num_nonneg]; omega
  rw [h0];constructor <;> intro h <;> grind
 have h2 : x = y ↔ (x + -y).num = 0 := by
  rw [Rat.num_eq_zero];constructor <;> intro h <;> grind
 by_cases a : x < y
 ·rw [if_pos a, if_pos (h1.1 a)]
 ·rw [if_neg a, if_neg (fun e => a (h1.2 e))];by_cases b : x = y
  ·rw [if_pos b, if_pos (h2.1 b)]
  ·rw [if_neg b, if_neg (fun e => b (h2.2 e))]
theorem yL (x y : Rat) : iG x y = 0 ↔ x = y := by
 unfold iG;split
 ·rename_i h
  constructor
  ·intro e; omega
  ·rintro rfl; exact absurd h Rat.lt_irrefl
 ·split
  ·rename_i h; simp [h]
  ·rename_i h; simp [h]
theorem af7 (x y : Rat) : 0 < iG x y ↔ y < x := by
 unfold iG;split
 ·rename_i h
  constructor
  ·intro e; omega
  ·intro e; grind
 ·split
  ·rename_i h; subst h; simp [Rat.lt_irrefl]
  ·rename_i h1 h2
   constructor
   ·intro _; grind
   ·intro _; omega
def bQ (l : List Nat) : Int := if 1024 < l.length then 4 else if l.any (fun x => decide (LB ≤ x)) then 3 else if l.getLast? = some 0 then 3 else 0
theorem zi {l : List Nat} (h : bQ l = 0) : l = dig (ay l) ∧ l.length ≤ 1024 := by
 unfold bQ at h;by_cases h1 : 1024 < l.length
 ·rw [if_pos h1] at h; omega
 ·rw [if_neg h1] at h;by_cases h2 : l.any (fun x => decide (LB ≤ x)) = true
  ·rw [if_pos h2] at h; omega
  ·rw [if_neg h2] at h;by_cases h3 : l.getLast? = some 0
   ·rw [if_pos h3] at h; omega
   ·refine ⟨(nM (fun x hx => ?_) h3).symm, by omega⟩;rcases Nat.lt_or_ge x LB with h4 | h4
    ·exact h4
    ·exact absurd (List.any_eq_true.2 ⟨x, hx, decide_eq_true h4⟩) h2
theorem agZ {n : Nat} (h : (dig n).length ≤ 1024) : bQ (dig n) = 0 := by
 unfold bQ;rw [if_neg (by omega)];have h2 : (dig n).any (fun x => decide (LB ≤ x)) = false := by
  rw [Bool.eq_false_iff];intro he;obtain ⟨x, hx, h3⟩ := List.any_eq_true.1 he;have := aI n x hx;have := of_decide_eq_true h3;omega
 rw [h2, if_neg (by decide), if_neg (nN n)]
end Go.Proofs.YtkcheepafifjaaaGreatDoor
