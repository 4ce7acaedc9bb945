/- Plain arithmetic: Knuth's division step; powers modulo a number. No program in sight. -/
set_option linter.unusedVariables false
set_option linter.unusedSimpArgs false
namespace Go.Proofs.YtjbojoeafdkkeaaGreatDoor

/-- A fact in a box: neither the walk's rewriting nor unification looks into it. -/
structure Bx (p : Prop) : Prop where
  out : p

/-- The true quotient is at most the guess. -/
theorem kd_guess (a u1 y1 y0 : Nat) (h1 : 0 < y1) (hu : u1 < 4294967296) :
    (a * 4294967296 + u1) / (y1 * 4294967296 + y0) ≤ a / y1 := by
  rw [Nat.le_div_iff_mul_le h1]
  have h := Nat.div_mul_le_self (a * 4294967296 + u1) (y1 * 4294967296 + y0)
  generalize (a * 4294967296 + u1) / (y1 * 4294967296 + y0) = t at *
  rw [Nat.mul_add] at h
  have e : t * (y1 * 4294967296) = t * y1 * 4294967296 := by rw [Nat.mul_assoc]
  have e2 : 0 ≤ t * y0 := Nat.zero_le _
  omega

/-- The true quotient has 32 bits. -/
theorem kd_lt (a u1 y : Nat) (ha : a < y) (hu : u1 < 4294967296) : (a * 4294967296 + u1) / y < 4294967296 := by
  rw [Nat.div_lt_iff_lt_mul (by omega)]
  omega

/-- One correction: the guess was too great. -/
theorem kd_dec (a u1 y1 y0 q r : Nat) (hq : q * y1 + r = a) (ha : a < y1 * 4294967296 + y0) (hu : u1 < 4294967296)
    (ht : (a * 4294967296 + u1) / (y1 * 4294967296 + y0) ≤ q) (h : 4294967296 ≤ q ∨ 4294967296 * r + u1 < q * y0) :
    1 ≤ q ∧ (q - 1) * y1 + (r + y1) = a ∧ (a * 4294967296 + u1) / (y1 * 4294967296 + y0) ≤ q - 1 := by
  have hlt := kd_lt a u1 _ ha hu
  have hp : (a * 4294967296 + u1) / (y1 * 4294967296 + y0) < q := by
    rcases h with h | h
    · omega
    · rw [Nat.div_lt_iff_lt_mul (show 0 < y1 * 4294967296 + y0 by omega)]
      rw [Nat.mul_add]
      have e : q * (y1 * 4294967296) = q * y1 * 4294967296 := by rw [Nat.mul_assoc]
      omega
  have h1 : 1 ≤ q := Nat.lt_of_le_of_lt (Nat.zero_le _) hp
  refine ⟨h1, ?_, Nat.le_sub_one_of_lt hp⟩
  obtain ⟨p, rfl⟩ : ∃ p, q = p + 1 := ⟨q - 1, by omega⟩
  rw [Nat.add_mul] at hq
  simp only [Nat.add_sub_cancel]
  omega

/-- No correction is wanted: the guess is right. -/
theorem kd_done (a u1 y1 y0 q r : Nat) (hy : 0 < y1) (hq : q * y1 + r = a)
    (ht : (a * 4294967296 + u1) / (y1 * 4294967296 + y0) ≤ q) (h : q * y0 ≤ 4294967296 * r + u1) :
    q = (a * 4294967296 + u1) / (y1 * 4294967296 + y0) := by
  refine Nat.le_antisymm ?_ ht
  rw [Nat.le_div_iff_mul_le (show 0 < y1 * 4294967296 + y0 by omega), Nat.mul_add]
  have e : q * (y1 * 4294967296) = q * y1 * 4294967296 := by rw [Nat.mul_assoc]
  omega

/-- The rest has outgrown 32 bits: the guess is right. -/
theorem kd_done' (a u1 y1 y0 q r : Nat) (hy : 0 < y1) (hy0 : y0 < 4294967296) (ha : a < y1 * 4294967296 + y0) (hq : q * y1 + r = a) (hr : 4294967296 ≤ r)
    (ht : (a * 4294967296 + u1) / (y1 * 4294967296 + y0) ≤ q) :
    q = (a * 4294967296 + u1) / (y1 * 4294967296 + y0) := by
  have hlt : q < 4294967296 := by
    rcases Nat.lt_or_ge q 4294967296 with h | h
    · exact h
    · have := Nat.mul_le_mul_right y1 h
      omega
  refine kd_done a u1 y1 y0 q r hy hq ht ?_
  have := Nat.mul_le_mul (Nat.le_of_lt hlt) (Nat.le_of_lt hy0)
  have e : 4294967296 * 4294967296 ≤ 4294967296 * r := Nat.mul_le_mul_left _ hr
  omega

theorem div_small (a y1 : Nat) (h1 : 2147483648 ≤ y1) (ha : a < 18446744073709551616) : a / y1 < 9000000000 := by
  rw [Nat.div_lt_iff_lt_mul (show 0 < y1 by omega)]
  have := Nat.mul_le_mul_left 9000000000 h1
  omega
theorem mul_small (q y0 : Nat) (hq : q < 4294967296) (hy : y0 < 4294967296) : q * y0 < 18446744073709551616 := by
  have := Nat.mul_le_mul (show q ≤ 4294967295 by omega) (show y0 ≤ 4294967295 by omega)
  omega

/-- Two digits make the quotient. -/
theorem kd_two (u h l y : Nat) (hy : 0 < y) (hu : u = (h * 4294967296 + l)) :
    u / y = h / y * 4294967296 + ((h % y) * 4294967296 + l) / y ∧ u % y = ((h % y) * 4294967296 + l) % y := by
  subst hu
  have e : h * 4294967296 + l = ((h % y) * 4294967296 + l) + y * (h / y * 4294967296) := by
    have h1 := Nat.div_add_mod h y
    have h2 : h * 4294967296 = (y * (h / y) + h % y) * 4294967296 := by rw [h1]
    rw [h2, Nat.add_mul, Nat.mul_assoc y]
    omega
  rw [e]
  constructor
  · rw [Nat.add_mul_div_left _ _ hy]; omega
  · rw [Nat.add_mul_mod_self_left]

/-- A common factor of dividend and divisor. -/
theorem kd_scale (u y s : Nat) (hs : 0 < s) : (u * s) / (y * s) = u / y ∧ (u * s) % (y * s) / s = u % y := by
  constructor
  · exact Nat.mul_div_mul_right u y hs
  · rw [Nat.mul_mod_mul_right, Nat.mul_div_cancel _ hs]


/-! The same over Int: the walk's own numbers. -/
theorem spread (t y1 y0 : Int) : t * (y1 * 4294967296 + y0) = t * y1 * 4294967296 + t * y0 := by rw [Int.mul_add, Int.mul_assoc]

theorem kdI_guess (a u1 y1 y0 : Int) (ha : 0 ≤ a) (hu0 : 0 ≤ u1) (hy : 0 < y1) (hy0 : 0 ≤ y0) (hu : u1 < 4294967296) :
    (a * 4294967296 + u1) / (y1 * 4294967296 + y0) ≤ a / y1 := by
  rw [Int.le_ediv_iff_mul_le hy]
  have hp : 0 < y1 * 4294967296 + y0 := by omega
  have h := Int.ediv_mul_le (a * 4294967296 + u1) (Int.ne_of_gt hp)
  have h0 : 0 ≤ (a * 4294967296 + u1) / (y1 * 4294967296 + y0) := Int.ediv_nonneg (by omega) (by omega)
  generalize (a * 4294967296 + u1) / (y1 * 4294967296 + y0) = t at *
  rw [spread] at h
  have e2 := Int.mul_nonneg h0 hy0
  omega

theorem kdI_lt (a u1 y : Int) (ha : a < y) (hy : 0 < y) (hu : u1 < 4294967296) : (a * 4294967296 + u1) / y < 4294967296 := by
  rw [Int.ediv_lt_iff_lt_mul hy]
  omega

theorem kdI_dec (a u1 y1 y0 q r : Int) (hy : 0 < y1) (hy0 : 0 ≤ y0) (hq : q * y1 + r = a) (ha : a < y1 * 4294967296 + y0) (ha0 : 0 ≤ a) (hu0 : 0 ≤ u1) (hu : u1 < 4294967296)
    (ht : (a * 4294967296 + u1) / (y1 * 4294967296 + y0) ≤ q) (h : 4294967296 ≤ q ∨ 4294967296 * r + u1 < q * y0) :
    1 ≤ q ∧ (q - 1) * y1 + (r + y1) = a ∧ (a * 4294967296 + u1) / (y1 * 4294967296 + y0) ≤ q - 1 := by
  have hp0 : 0 < y1 * 4294967296 + y0 := by omega
  have hlt := kdI_lt a u1 _ ha hp0 hu
  have h0 : 0 ≤ (a * 4294967296 + u1) / (y1 * 4294967296 + y0) := Int.ediv_nonneg (by omega) (by omega)
  have hp : (a * 4294967296 + u1) / (y1 * 4294967296 + y0) < q := by
    rcases h with h | h
    · omega
    · rw [Int.ediv_lt_iff_lt_mul hp0, spread]
      omega
  refine ⟨by omega, ?_, by omega⟩
  rw [Int.sub_mul]
  omega

theorem kdI_done (a u1 y1 y0 q r : Int) (hy : 0 < y1) (hy0 : 0 ≤ y0) (hq : q * y1 + r = a)
    (ht : (a * 4294967296 + u1) / (y1 * 4294967296 + y0) ≤ q) (h : q * y0 ≤ 4294967296 * r + u1) :
    q = (a * 4294967296 + u1) / (y1 * 4294967296 + y0) := by
  have hp0 : 0 < y1 * 4294967296 + y0 := by omega
  refine Int.le_antisymm ?_ ht
  rw [Int.le_ediv_iff_mul_le hp0, spread]
  omega

theorem kdI_done' (a u1 y1 y0 q r : Int) (hy : 0 < y1) (hy0 : 0 ≤ y0) (hyl : y0 < 4294967296) (ha : a < y1 * 4294967296 + y0) (hu0 : 0 ≤ u1) (hq0 : 0 ≤ q) (hq : q * y1 + r = a) (hr : 4294967296 ≤ r)
    (ht : (a * 4294967296 + u1) / (y1 * 4294967296 + y0) ≤ q) :
    q = (a * 4294967296 + u1) / (y1 * 4294967296 + y0) := by
  have hlt : q < 4294967296 := by
    rcases Int.lt_or_le q 4294967296 with h | h
    · exact h
    · have := Int.mul_le_mul_of_nonneg_right h (Int.le_of_lt hy)
      omega
  refine kdI_done a u1 y1 y0 q r hy hy0 hq ht ?_
  have := Int.mul_le_mul (Int.le_of_lt hlt) (Int.le_of_lt hyl) hy0 (by omega)
  have e : (4294967296 : Int) * 4294967296 ≤ 4294967296 * r := Int.mul_le_mul_of_nonneg_left hr (by omega)
  omega

theorem divI_small (a y1 : Int) (h1 : 2147483648 ≤ y1) (h0 : 0 ≤ a) (ha : a < 18446744073709551616) : a / y1 < 9000000000 := by
  rw [Int.ediv_lt_iff_lt_mul (by omega)]
  have := Int.mul_le_mul_of_nonneg_left h1 (show (0 : Int) ≤ 9000000000 by omega)
  omega
theorem mulI_small (q y0 : Int) (hq0 : 0 ≤ q) (hq : q < 4294967296) (h0 : 0 ≤ y0) (hy : y0 < 4294967296) : q * y0 < 18446744073709551616 := by
  have := Int.mul_le_mul (show q ≤ 4294967295 by omega) (show y0 ≤ 4294967295 by omega) h0 (by omega)
  omega
end Go.Proofs.YtjbojoeafdkkeaaGreatDoor

namespace Go.Proofs.YtjbojoeafdkkeaaGreatDoor

/-- a to the power n modulo P. -/
def pwr (a : Int) (n : Nat) : Int := a ^ n % 4611686018427377339
theorem pwr_zero (a : Int) : pwr a 0 = 1 := by simp [pwr]
theorem pwr_succ (a : Int) (n : Nat) : pwr a (n + 1) = pwr a n * a % 4611686018427377339 := by
  unfold pwr
  rw [Int.pow_succ, Int.mul_emod (a ^ n) a, Int.mul_emod (a ^ n % 4611686018427377339) a, Int.emod_emod]
theorem pwr_nonneg (a : Int) (n : Nat) : 0 ≤ pwr a n := Int.emod_nonneg _ (by decide)
theorem pwr_lt (a : Int) (n : Nat) : pwr a n < 4611686018427377339 := Int.emod_lt_of_pos _ (by decide)
theorem pwr_add (a : Int) (m n : Nat) : pwr a (m + n) = pwr a m * pwr a n % 4611686018427377339 := by
  unfold pwr
  rw [Int.pow_add, Int.mul_emod]
theorem pwr_double (a : Int) (n : Nat) : pwr a (2 * n) = pwr a n * pwr a n % 4611686018427377339 := by
  rw [Nat.two_mul, pwr_add]
theorem pwr_mod (a : Int) (n : Nat) : pwr (a % 4611686018427377339) n = pwr a n := by
  induction n with
  | zero => simp [pwr_zero]
  | succ n ih => rw [pwr_succ, pwr_succ, ih, Int.mul_emod, Int.emod_emod, ← Int.mul_emod]
theorem pwr_mul (a b : Int) (n : Nat) : pwr (a * b) n = pwr a n * pwr b n % 4611686018427377339 := by
  unfold pwr
  rw [Int.mul_pow, Int.mul_emod]
theorem pwr_pwr (a : Int) (m n : Nat) : pwr (pwr a m) n = pwr a (m * n) := by
  induction n with
  | zero => simp [pwr_zero]
  | succ n ih => rw [pwr_succ, ih, Nat.mul_succ, pwr_add]
theorem pwr_one (n : Nat) : pwr 1 n = 1 := by
  induction n with
  | zero => exact pwr_zero 1
  | succ n ih => rw [pwr_succ, ih]; decide

/-- The value of a list of bits, the most significant one first. -/
def bval (l : List Bool) : Nat := l.foldl (fun v b => 2 * v + if b then 1 else 0) 0
theorem bval_nil : bval [] = 0 := rfl
theorem bval_snoc (l : List Bool) (b : Bool) : bval (l ++ [b]) = 2 * bval l + if b then 1 else 0 := by simp [bval, List.foldl_append]

/-- How a power is reckoned (for the kernel): at most 'f' halvings. -/
def pwf : Nat → Nat → Nat → Nat
  | 0, _, _ => 1
  | f + 1, a, k => if k = 0 then 1 else if k % 2 = 1 then pwf f (a * a % 4611686018427377339) (k / 2) * a % 4611686018427377339 else pwf f (a * a % 4611686018427377339) (k / 2)
theorem pwf_eq : ∀ (f a k : Nat), k < 2 ^ f → ((pwf f a k : Nat) : Int) = pwr a k := by
  intro f
  induction f with
  | zero => intro a k hk; obtain rfl : k = 0 := by simpa using hk
            simp [pwf, pwr_zero]
  | succ f ih =>
    intro a k hk
    rw [Nat.pow_succ] at hk
    have h2 := ih (a * a % 4611686018427377339) (k / 2) (by omega)
    have e : ((a * a % 4611686018427377339 : Nat) : Int) = (a : Int) * (a : Int) % 4611686018427377339 := by rw [← Int.natCast_mul]; omega
    have e2 : pwr ((a * a % 4611686018427377339 : Nat) : Int) (k / 2) = pwr (a : Int) (2 * (k / 2)) := by
      rw [e, pwr_mod, pwr_mul, ← pwr_double]
    unfold pwf
    by_cases h0 : k = 0
    · subst h0; simp [pwr_zero]
    · rw [if_neg h0]
      by_cases h1 : k % 2 = 1
      · rw [if_pos h1]
        have ek : k = 2 * (k / 2) + 1 := by omega
        have : ((pwf f (a * a % 4611686018427377339) (k / 2) * a % 4611686018427377339 : Nat) : Int) = ((pwf f (a * a % 4611686018427377339) (k / 2) : Nat) : Int) * (a : Int) % 4611686018427377339 := by
          rw [← Int.natCast_mul]; omega
        rw [this, h2, e2]
        conv => rhs; rw [ek, pwr_succ]
      · rw [if_neg h1, h2, e2]
        congr 1
        omega

attribute [irreducible] pwr

/-- P's elements: 1 ≤ a < P with a^Q = 1. -/
def elt (a : Int) : Bool := decide (1 ≤ a) && (decide (a < 4611686018427377339) && (pwr a 2305843009213688669 == 1))
theorem elt_iff (a : Int) : elt a = true ↔ 1 ≤ a ∧ a < 4611686018427377339 ∧ pwr a 2305843009213688669 = 1 := by
  simp [elt]
theorem elt_pos {a : Int} (h : elt a = true) : 1 ≤ a := ((elt_iff a).1 h).1
theorem elt_lt {a : Int} (h : elt a = true) : a < 4611686018427377339 := ((elt_iff a).1 h).2.1
theorem elt_q {a : Int} (h : elt a = true) : pwr a 2305843009213688669 = 1 := ((elt_iff a).1 h).2.2

theorem elt_pwr {a : Int} (h : elt a = true) (n : Nat) : elt (pwr a n) = true := by
  rw [elt_iff]
  have hq : pwr (pwr a n) 2305843009213688669 = 1 := by
    rw [pwr_pwr, Nat.mul_comm, ← pwr_pwr, elt_q h, pwr_one]
  refine ⟨?_, pwr_lt a n, hq⟩
  rcases Int.lt_or_le (pwr a n) 1 with h1 | h1
  · exfalso
    have h0 := pwr_nonneg a n
    have e : pwr a n = 0 := by omega
    rw [e, show (2305843009213688669 : Nat) = 2305843009213688668 + 1 from rfl, pwr_succ] at hq
    simp at hq
  · exact h1
theorem elt_mul {a b : Int} (ha : elt a = true) (hb : elt b = true) : elt (a * b % 4611686018427377339) = true := by
  rw [elt_iff]
  have hq : pwr (a * b % 4611686018427377339) 2305843009213688669 = 1 := by
    rw [pwr_mod, pwr_mul, elt_q ha, elt_q hb]; decide
  have h0 : 0 ≤ a * b % 4611686018427377339 := Int.emod_nonneg _ (by decide)
  refine ⟨?_, Int.emod_lt_of_pos _ (by decide), hq⟩
  rcases Int.lt_or_le (a * b % 4611686018427377339) 1 with h1 | h1
  · exfalso
    have e : a * b % 4611686018427377339 = 0 := by omega
    rw [e, show (2305843009213688669 : Nat) = 2305843009213688668 + 1 from rfl, pwr_succ] at hq
    simp at hq
  · exact h1
theorem elt_four : elt 4 = true := by
  rw [elt_iff]
  refine ⟨by decide, by decide, ?_⟩
  have h := pwf_eq 62 4 2305843009213688669 (by decide)
  have e : pwf 62 4 2305843009213688669 = 1 := by decide +kernel
  rw [e] at h
  exact h.symm
theorem elt_one : elt 1 = true := by rw [elt_iff]; exact ⟨by decide, by decide, pwr_one _⟩
end Go.Proofs.YtjbojoeafdkkeaaGreatDoor
