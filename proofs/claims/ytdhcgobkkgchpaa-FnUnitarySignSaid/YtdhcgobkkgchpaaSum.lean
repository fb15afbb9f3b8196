/- Plain sums over the numbers from 1 up to a number, over divisors, and their laws: no program in sight. No conditions. -/
import Derived.RowKit
set_option linter.unusedVariables false
set_option linter.unusedSimpArgs false
namespace Go.Proofs.Ytdhcgobkkgchpaa.Math

def T (g : Nat → Int) : Nat → Int
  | 0 => 0
  | n + 1 => T g n + g (n + 1)

theorem T_congr {g h : Nat → Int} : ∀ n, (∀ d, 1 ≤ d → d ≤ n → g d = h d) → T g n = T h n
  | 0, _ => rfl
  | n + 1, H => by
    simp only [T]
    rw [T_congr n (fun d h1 h2 => H d h1 (by omega)), H (n + 1) (by omega) (by omega)]

theorem T_add (g h : Nat → Int) : ∀ n, T (fun d => g d + h d) n = T g n + T h n
  | 0 => rfl
  | n + 1 => by simp only [T]; rw [T_add g h n]; omega

theorem T_sub (g h : Nat → Int) : ∀ n, T (fun d => g d - h d) n = T g n - T h n
  | 0 => rfl
  | n + 1 => by simp only [T]; rw [T_sub g h n]; omega

theorem T_mul (c : Int) (g : Nat → Int) : ∀ n, T (fun d => c * g d) n = c * T g n
  | 0 => by simp [T]
  | n + 1 => by simp only [T]; rw [T_mul c g n, Int.mul_add]

theorem T_zero {g : Nat → Int} : ∀ n, (∀ d, 1 ≤ d → d ≤ n → g d = 0) → T g n = 0
  | 0, _ => rfl
  | n + 1, H => by
    simp only [T]
    rw [T_zero n (fun d h1 h2 => H d h1 (by omega)), H (n + 1) (by omega) (by omega)]; rfl

theorem T_const (c : Int) : ∀ n, T (fun _ => c) n = n * c
  | 0 => by simp [T]
  | n + 1 => by simp only [T]; rw [T_const c n, Int.natCast_add, Int.add_mul]; simp

theorem T_le {g h : Nat → Int} : ∀ n, (∀ d, 1 ≤ d → d ≤ n → g d ≤ h d) → T g n ≤ T h n
  | 0, _ => Int.le_refl _
  | n + 1, H => by
    simp only [T]
    have h1 := T_le n (fun d h1 h2 => H d h1 (by omega))
    have h2 := H (n + 1) (by omega) (by omega)
    omega

theorem T_split (g : Nat → Int) (n : Nat) : ∀ m, T g (n + m) = T g n + T (fun i => g (n + i)) m
  | 0 => by simp [T]
  | m + 1 => by
    rw [show n + (m + 1) = (n + m) + 1 from rfl]
    simp only [T]
    rw [T_split g n m, show n + m + 1 = n + (m + 1) from rfl]; omega

/-- What is 0 beyond n adds nothing. -/
theorem T_ext {g : Nat → Int} {n m : Nat} (h : n ≤ m) (H : ∀ d, n < d → d ≤ m → g d = 0) : T g m = T g n := by
  obtain ⟨k, rfl⟩ : ∃ k, m = n + k := ⟨m - n, by omega⟩
  rw [T_split, T_zero k (fun d h1 h2 => H (n + d) (by omega) (by omega))]; omega

/-- Over multiples of p alone. -/
theorem T_multiples (g : Nat → Int) {p : Nat} (hp : 1 ≤ p) : ∀ n, T (fun d => if d % p = 0 then g (d / p) else 0) (p * n) = T g n
  | 0 => by simp [T]
  | n + 1 => by
    obtain ⟨q, rfl⟩ : ∃ q, p = q + 1 := ⟨p - 1, by omega⟩
    rw [Nat.mul_succ, T_split, T_multiples g hp n]
    simp only [T]
    have h1 : T (fun i => if ((q + 1) * n + i) % (q + 1) = 0 then g (((q + 1) * n + i) / (q + 1)) else 0) q = 0 := by
      refine T_zero q (fun d h1 h2 => ?_)
      rw [if_neg]
      rw [Nat.mul_add_mod, Nat.mod_eq_of_lt (by omega)]; omega
    have h2 : ((q + 1) * n + (q + 1)) % (q + 1) = 0 := by simp
    have h3 : ((q + 1) * n + (q + 1)) / (q + 1) = n + 1 := by
      rw [← Nat.mul_succ, Nat.mul_div_cancel_left _ (by omega)]
    rw [h1, if_pos h2, h3]; omega

/-- A period of m, q times. -/
theorem T_period (g : Nat → Int) (m : Nat) (H : ∀ d, g (m + d) = g d) : ∀ q, T g (m * q) = q * T g m
  | 0 => by simp [T]
  | q + 1 => by
    rw [show m * (q + 1) = m + m * q by rw [Nat.mul_succ]; omega, T_split, T_congr _ (fun d _ _ => H d), T_period g m H q, Int.natCast_add, Int.add_mul]
    simp; omega

theorem T_swap (g : Nat → Nat → Int) (m : Nat) : ∀ n, T (fun i => T (fun j => g i j) m) n = T (fun j => T (fun i => g i j) n) m
  | 0 => by
    simp only [T]
    rw [T_zero m (fun _ _ _ => rfl)]
  | n + 1 => by
    simp only [T]
    rw [T_swap g m n, ← T_add]

/-- One term alone. -/
theorem T_one (c : Int) {a : Nat} (ha : 1 ≤ a) : ∀ n, a ≤ n → T (fun d => if d = a then c else 0) n = c
  | 0, h => by omega
  | n + 1, h => by
    simp only [T]
    by_cases e : a = n + 1
    · rw [T_zero n (fun d h1 h2 => if_neg (by omega)), if_pos e.symm]; omega
    · rw [T_one c ha n (by omega), if_neg (by omega)]; omega

/-- The sum over all divisors. -/
def D (f : Nat → Int) (n : Nat) : Int := T (fun d => if n % d = 0 then f d else 0) n

theorem D_congr {f g : Nat → Int} {n : Nat} (h : ∀ d, 1 ≤ d → d ≤ n → n % d = 0 → f d = g d) : D f n = D g n := by
  refine T_congr n (fun d h1 h2 => ?_)
  by_cases e : n % d = 0
  · rw [if_pos e, if_pos e, h d h1 h2 e]
  · rw [if_neg e, if_neg e]

theorem D_add (f g : Nat → Int) (n : Nat) : D (fun d => f d + g d) n = D f n + D g n := by
  unfold D
  rw [← T_add]
  refine T_congr n (fun d h1 h2 => ?_)
  by_cases e : n % d = 0
  · simp only [if_pos e]
  · simp only [if_neg e, Int.add_zero]

theorem D_mul (c : Int) (f : Nat → Int) (n : Nat) : D (fun d => c * f d) n = c * D f n := by
  unfold D
  rw [← T_mul]
  refine T_congr n (fun d h1 h2 => ?_)
  by_cases e : n % d = 0
  · simp only [if_pos e]
  · simp only [if_neg e, Int.mul_zero]

theorem D_le {f g : Nat → Int} {n : Nat} (h : ∀ d, 1 ≤ d → d ≤ n → n % d = 0 → f d ≤ g d) : D f n ≤ D g n := by
  refine T_le n (fun d h1 h2 => ?_)
  by_cases e : n % d = 0
  · rw [if_pos e, if_pos e]; exact h d h1 h2 e
  · rw [if_neg e, if_neg e]; exact Int.le_refl _

/-- Up to any number at least n. -/
theorem D_upto (f : Nat → Int) {n m : Nat} (hn : 1 ≤ n) (h : n ≤ m) : T (fun d => if n % d = 0 then f d else 0) m = D f n := by
  refine T_ext h (fun d h1 h2 => if_neg ?_)
  rw [Nat.mod_eq_of_lt h1]; omega

theorem D_one (f : Nat → Int) : D f 1 = f 1 := by simp [D, T]

/-- A prime number. -/
def Pr (p : Nat) : Prop := 2 ≤ p ∧ ∀ d, d ∣ p → d = 1 ∨ d = p

theorem Pr.coprime {p a : Nat} (hp : Pr p) (h : ¬ p ∣ a) : Nat.Coprime p a := by
  rcases hp.2 _ (Nat.gcd_dvd_left p a) with e | e
  · exact e
  · exact absurd (e ▸ Nat.gcd_dvd_right p a) h

theorem Pr.dvd_mul {p a b : Nat} (hp : Pr p) (h : p ∣ a * b) : p ∣ a ∨ p ∣ b := by
  by_cases ha : p ∣ a
  · exact .inl ha
  · exact .inr ((hp.coprime ha).dvd_of_dvd_mul_left h)

theorem Pr.dvd_pow {p a : Nat} (hp : Pr p) : ∀ k, p ∣ a ^ k → p ∣ a
  | 0, h => by
    have h1 : p ≤ 1 := Nat.le_of_dvd (by omega) (by rw [Nat.pow_zero] at h; exact h)
    have := hp.1
    omega
  | k + 1, h => by
    rw [Nat.pow_succ] at h
    rcases hp.dvd_mul h with h | h
    · exact hp.dvd_pow k h
    · exact h

theorem mod_dvd {n d : Nat} : n % d = 0 ↔ d ∣ n := (Nat.dvd_iff_mod_eq_zero).symm

/-- f, but 0 at multiples of p. -/
def nz (p : Nat) (f : Nat → Int) (d : Nat) : Int := if d % p = 0 then 0 else f d

theorem D_prime (f : Nat → Int) {p n : Nat} (hp : Pr p) (hn : 1 ≤ n) : D f (p * n) = D (fun d => f (p * d)) n + D (nz p f) n := by
  have hp2 := hp.1
  have hpn : n ≤ p * n := Nat.le_mul_of_pos_left n (by omega)
  have e1 : D f (p * n) = T (fun d => (if d % p = 0 then (fun j => if n % j = 0 then f (p * j) else 0) (d / p) else 0) + (if n % d = 0 then nz p f d else 0)) (p * n) := by
    unfold D
    refine T_congr _ (fun d h1 h2 => ?_)
    by_cases hd : d % p = 0
    · have hnz : nz p f d = 0 := by unfold nz; rw [if_pos hd]
      obtain ⟨j, rfl⟩ := mod_dvd.1 hd
      rw [if_pos hd, hnz, Nat.mul_div_cancel_left _ (by omega)]
      have : (p * n) % (p * j) = 0 ↔ n % j = 0 := by
        rw [Nat.mul_mod_mul_left]
        constructor
        · intro h
          rcases Nat.mul_eq_zero.1 h with h | h
          · omega
          · exact h
        · intro h; rw [h]; simp
      by_cases hj : n % j = 0
      · simp only [if_pos hj, if_pos (this.2 hj)]; simp
      · have hj' : ¬ (p * n) % (p * j) = 0 := fun h => hj (this.1 h)
        simp only [if_neg hj, if_neg hj']; simp
    · have hnz : nz p f d = f d := by unfold nz; rw [if_neg hd]
      rw [if_neg hd, hnz]
      have hc : Nat.Coprime d p := (hp.coprime (fun h => ?_)).symm
      · have : (p * n) % d = 0 ↔ n % d = 0 := by
          rw [mod_dvd, mod_dvd]
          exact ⟨fun h => hc.dvd_of_dvd_mul_left h, fun h => Nat.dvd_trans h (Nat.dvd_mul_left n p)⟩
        by_cases hj : n % d = 0
        · rw [if_pos hj, if_pos (this.2 hj)]; simp
        · rw [if_neg hj, if_neg (fun h => hj (this.1 h))]; simp
      · exact hd (mod_dvd.2 h)
  rw [e1, T_add, T_multiples (fun j => if n % j = 0 then f (p * j) else 0) (by omega), D_upto _ hn hpn]
  rfl

theorem nz_nz (p : Nat) (f : Nat → Int) : nz p (nz p f) = nz p f := by
  funext d
  unfold nz
  by_cases h : d % p = 0
  · simp only [if_pos h]
  · simp only [if_neg h]

theorem D_nz_pow (f : Nat → Int) {p m : Nat} (hp : Pr p) (hm : 1 ≤ m) (h : ¬ p ∣ m) : ∀ k, D (nz p f) (p ^ k * m) = D f m
  | 0 => by
    rw [Nat.pow_zero, Nat.one_mul]
    refine D_congr (fun d h1 h2 hd => ?_)
    unfold nz
    rw [if_neg]
    intro h'
    exact h (Nat.dvd_trans (mod_dvd.1 h') (mod_dvd.1 hd))
  | k + 1 => by
    have hp2 := hp.1
    have hk : 1 ≤ p ^ k * m := Nat.mul_pos (Nat.pow_pos (by omega)) hm
    rw [Nat.pow_succ, Nat.mul_comm (p ^ k) p, Nat.mul_assoc, D_prime _ hp hk, nz_nz, D_nz_pow f hp hm h k]
    have : D (fun d => nz p f (p * d)) (p ^ k * m) = 0 := by
      refine T_zero _ (fun d _ _ => ?_)
      have e : nz p f (p * d) = 0 := by unfold nz; rw [if_pos (Nat.mul_mod_right p d)]
      simp only [e]
      split <;> rfl
    rw [this]; omega

/-- Divisors of one more power of p. -/
theorem D_pow (f : Nat → Int) {p m : Nat} (hp : Pr p) (hm : 1 ≤ m) (h : ¬ p ∣ m) (k : Nat) : D f (p ^ (k + 1) * m) = D (fun d => f (p * d)) (p ^ k * m) + D f m := by
  have hp2 := hp.1
  have hk : 1 ≤ p ^ k * m := Nat.mul_pos (Nat.pow_pos (by omega)) hm
  rw [Nat.pow_succ, Nat.mul_comm (p ^ k) p, Nat.mul_assoc, D_prime _ hp hk, D_nz_pow f hp hm h k]

end Go.Proofs.Ytdhcgobkkgchpaa.Math
