/- Sums over divisors and over unitary divisors, by primes: no program in sight. No conditions. -/
import Derived.Test.YtdhcgobkkgchpaaPhi
set_option linter.unusedVariables false
set_option linter.unusedSimpArgs false
namespace Go.Proofs.Ytdhcgobkkgchpaa.Math

/-- 1, p, p times p, and so on up to the power k, added. -/
def gs (p : Nat) : Nat → Nat
  | 0 => 1
  | k + 1 => gs p k + p ^ (k + 1)

theorem gs_step (p : Nat) : ∀ k, gs p (k + 1) = p * gs p k + 1
  | 0 => by simp [gs]; omega
  | k + 1 => by
    have e : gs p (k + 1 + 1) = gs p (k + 1) + p ^ (k + 2) := rfl
    have e2 : p * gs p (k + 1) = p * gs p k + p * p ^ (k + 1) := by rw [← Nat.mul_add]; rfl
    have e3 : p ^ (k + 2) = p * p ^ (k + 1) := Nat.pow_succ'
    have := gs_step p k
    omega

theorem gs_pos (p : Nat) : ∀ k, 1 ≤ gs p k
  | 0 => Nat.le_refl _
  | k + 1 => by have := gs_pos p k; simp only [gs]; omega

theorem gs_lt {p : Nat} (h : 2 ≤ p) : ∀ k, gs p k + 1 ≤ 2 * p ^ k
  | 0 => by simp [gs]
  | k + 1 => by
    have h1 := gs_lt h k
    have h2 : 2 * p ^ k ≤ p * p ^ k := Nat.mul_le_mul_right _ h
    have e : p ^ (k + 1) = p * p ^ k := Nat.pow_succ'
    simp only [gs]; omega

theorem gs_le {p k : Nat} (h : 2 ≤ p) (hk : 1 ≤ k) : gs p k ≤ p ^ k * p ^ k := by
  have h1 := gs_lt h k
  have h2 : 2 ≤ p ^ k := by
    obtain ⟨j, rfl⟩ : ∃ j, k = j + 1 := ⟨k - 1, by omega⟩
    rw [Nat.pow_succ]
    have := Nat.le_mul_of_pos_left p (show 0 < p ^ j from Nat.pow_pos (by omega))
    omega
  have h3 : 2 * p ^ k ≤ p ^ k * p ^ k := Nat.mul_le_mul_right _ h2
  omega

theorem gs_mono (p : Nat) {j k : Nat} (h : j ≤ k) : gs p j ≤ gs p k := by
  induction k with
  | zero => rw [show j = 0 by omega]; exact Nat.le_refl _
  | succ k ih =>
    by_cases e : j = k + 1
    · rw [e]; exact Nat.le_refl _
    · have := ih (by omega)
      simp only [gs]; omega

/-- The sum of all divisors, by primes. -/
def sgF (acc : Nat) : List (Nat × Nat) → Nat
  | [] => acc
  | x :: l => sgF (acc * gs x.1 x.2) l

/-- The sum of all unitary divisors, by primes. -/
def usF (acc : Nat) : List (Nat × Nat) → Nat
  | [] => acc
  | x :: l => usF (acc * (x.1 ^ x.2 + 1)) l

theorem D_id_pow {q m : Nat} (hq : Pr q) (hm : 1 ≤ m) (h : ¬ q ∣ m) : ∀ k, D (fun d => (d : Int)) (q ^ k * m) = (gs q k : Int) * D (fun d => (d : Int)) m
  | 0 => by rw [Nat.pow_zero, Nat.one_mul]; simp [gs]
  | k + 1 => by
    rw [D_pow _ hq hm h k]
    have e : D (fun d => ((q * d : Nat) : Int)) (q ^ k * m) = D (fun d => (q : Int) * (d : Int)) (q ^ k * m) := D_congr (fun d _ _ _ => by rw [Int.natCast_mul])
    rw [e, D_mul, D_id_pow hq hm h k, gs_step, Int.natCast_add, Int.natCast_mul, Int.add_mul, Int.mul_assoc]
    simp

theorem sgF_D {n : Nat} (hn : 1 ≤ n) : ∀ acc : Nat, (sgF acc (facs n) : Int) = acc * D (fun d => (d : Int)) n := by
  refine facs_induct (P := fun n l => ∀ acc : Nat, (sgF acc l : Int) = acc * D (fun d => (d : Int)) n) ?_ ?_ hn
  · intro acc; rw [D_one]; simp [sgF]
  · intro q k m l hq hk hm hqm ih acc
    simp only [sgF]
    rw [ih, D_id_pow hq hm hqm, Int.natCast_mul, Int.mul_assoc]

/-- The sum over all unitary divisors. -/
def U (f : Nat → Int) (n : Nat) : Int := D (fun d => if Nat.gcd d (n / d) == 1 then f d else 0) n

/-- The sum of what D tells at d, at q times d, and so on. -/
def SD (g : Nat → Int) (q m : Nat) : Nat → Int
  | 0 => D g m
  | k + 1 => SD g q m k + D (fun e => g (q ^ (k + 1) * e)) m

theorem SD_shift (g : Nat → Int) (q m : Nat) : ∀ k, SD (fun d => g (q * d)) q m k + D g m = SD g q m (k + 1)
  | 0 => by simp only [SD]; rw [Nat.pow_one]; omega
  | k + 1 => by
    have e := SD_shift g q m k
    have e1 : SD (fun d => g (q * d)) q m (k + 1) = SD (fun d => g (q * d)) q m k + D (fun e => g (q * (q ^ (k + 1) * e))) m := rfl
    have e2 : SD g q m (k + 2) = SD g q m (k + 1) + D (fun e => g (q ^ (k + 2) * e)) m := rfl
    have e3 : D (fun e => g (q * (q ^ (k + 1) * e))) m = D (fun e => g (q ^ (k + 2) * e)) m :=
      D_congr (fun d _ _ _ => by rw [← Nat.mul_assoc, ← Nat.pow_succ'])
    rw [e1, e2, ← e, e3]; omega

theorem D_SD {q m : Nat} (hq : Pr q) (hm : 1 ≤ m) (h : ¬ q ∣ m) : ∀ k (g : Nat → Int), D g (q ^ k * m) = SD g q m k
  | 0, g => by rw [Nat.pow_zero, Nat.one_mul]; rfl
  | k + 1, g => by rw [D_pow g hq hm h k, D_SD hq hm h k, SD_shift]

theorem ite_b {a b : Bool} (h : a = b) (x y : Int) : (if a = true then x else y) = (if b = true then x else y) := by rw [h]

theorem bone {a b : Nat} (h : a = 1 ↔ b = 1) : (a == 1) = (b == 1) := by
  by_cases e : a = 1
  · rw [e, h.1 e]
  · have := fun e' => e (h.2 e')
    rw [beq_eq_false_iff_ne.2 e, beq_eq_false_iff_ne.2 this]

theorem pow_self {q k : Nat} (h : 1 ≤ k) : q ∣ q ^ k := by
  obtain ⟨j, rfl⟩ : ∃ j, k = j + 1 := ⟨k - 1, by omega⟩
  rw [Nat.pow_succ]; exact Nat.dvd_mul_left _ _

theorem two_pow_inj {a b : Nat} (h : 2 ^ a = 2 ^ b) : a = b := by
  rcases Nat.lt_trichotomy a b with e | e | e
  · have := Nat.pow_lt_pow_right (show 1 < 2 by omega) e; omega
  · exact e
  · have := Nat.pow_lt_pow_right (show 1 < 2 by omega) e; omega

/-- Unitary divisors of a prime's power times what it does not divide. -/
theorem U_pow (f : Nat → Int) {q k m : Nat} (hq : Pr q) (hk : 1 ≤ k) (hm : 1 ≤ m) (h : ¬ q ∣ m) : U f (q ^ k * m) = U f m + U (fun d => f (q ^ k * d)) m := by
  have h2 := hq.1
  unfold U
  rw [D_SD hq hm h]
  have hpos : 0 < q ^ k := Nat.pow_pos (by omega)
  have first : D (fun d => if (Nat.gcd d (q ^ k * m / d) == 1) = true then f d else 0) m = D (fun d => if (Nat.gcd d (m / d) == 1) = true then f d else 0) m := by
    refine D_congr (fun d h1 _ hd => ?_)
    have hdm := mod_dvd.1 hd
    have hc : Nat.Coprime d (q ^ k) := Nat.Coprime.symm (Nat.Coprime.pow_left k (hq.coprime (fun h' => h (Nat.dvd_trans h' hdm))))
    have e : q ^ k * m / d = q ^ k * (m / d) := Nat.mul_div_assoc _ hdm
    refine ite_b (bone ?_) _ _
    rw [e, gcd_mul_one]
    exact ⟨fun x => x.2, fun x => ⟨hc, x⟩⟩
  have mid : ∀ i, 1 ≤ i → i < k → D (fun e => if (Nat.gcd (q ^ i * e) (q ^ k * m / (q ^ i * e)) == 1) = true then f (q ^ i * e) else 0) m = 0 := by
    intro i hi hik
    refine T_zero m (fun e h1 _ => ?_)
    by_cases he : m % e = 0
    · rw [if_pos he]
      refine if_neg ?_
      intro hb
      have hb := eq_of_beq hb
      obtain ⟨c, hc⟩ := mod_dvd.1 he
      have e2 : q ^ k * m / (q ^ i * e) = q ^ (k - i) * c := by
        have : q ^ k * m = (q ^ i * e) * (q ^ (k - i) * c) := by
          rw [hc, show q ^ k = q ^ i * q ^ (k - i) by rw [← Nat.pow_add]; congr 1; omega]
          simp only [Nat.mul_comm, Nat.mul_left_comm, Nat.mul_assoc]
        rw [this, Nat.mul_div_cancel_left _ (Nat.mul_pos (Nat.pow_pos (by omega)) h1)]
      have d1 : q ∣ q ^ i * e := Nat.dvd_trans (pow_self (by omega)) (Nat.dvd_mul_right _ _)
      have d2 : q ∣ q ^ (k - i) * c := Nat.dvd_trans (pow_self (by omega)) (Nat.dvd_mul_right _ _)
      rw [e2] at hb
      have := Nat.dvd_gcd d1 d2
      rw [hb] at this
      have := Nat.le_of_dvd (by omega) this
      omega
    · rw [if_neg he]
  have last : D (fun e => if (Nat.gcd (q ^ k * e) (q ^ k * m / (q ^ k * e)) == 1) = true then f (q ^ k * e) else 0) m = D (fun e => if (Nat.gcd e (m / e) == 1) = true then f (q ^ k * e) else 0) m := by
    refine D_congr (fun e h1 _ he => ?_)
    obtain ⟨c, hc⟩ := mod_dvd.1 he
    have hc1 : m / e = c := by rw [hc, Nat.mul_div_cancel_left _ h1]
    have hc2 : q ^ k * m / (q ^ k * e) = c := by rw [Nat.mul_div_mul_left _ _ hpos, hc1]
    have hcop : Nat.Coprime (q ^ k) c := Nat.Coprime.pow_left k (hq.coprime (fun h' => h (by rw [hc]; exact Nat.dvd_trans h' (Nat.dvd_mul_left _ _))))
    rw [hc1, hc2]
    refine ite_b (bone ?_) _ _
    rw [hcop.gcd_mul_left_cancel e]
  have all : ∀ j, j < k → SD (fun d => if (Nat.gcd d (q ^ k * m / d) == 1) = true then f d else 0) q m j = D (fun d => if (Nat.gcd d (m / d) == 1) = true then f d else 0) m := by
    intro j
    induction j with
    | zero => intro _; exact first
    | succ j ih =>
      intro hj
      simp only [SD]
      rw [ih (by omega), mid (j + 1) (by omega) hj]; omega
  obtain ⟨j, rfl⟩ : ∃ j, k = j + 1 := ⟨k - 1, by omega⟩
  simp only [SD]
  rw [all j (by omega), last]

theorem U_one (f : Nat → Int) : U f 1 = f 1 := by unfold U; rw [D_one]; rfl

theorem U_congr {f g : Nat → Int} {n : Nat} (h : ∀ d, 1 ≤ d → d ≤ n → n % d = 0 → f d = g d) : U f n = U g n := by
  unfold U
  refine D_congr (fun d h1 h2 h3 => ?_)
  rw [h d h1 h2 h3]

theorem U_mul (c : Int) (f : Nat → Int) (n : Nat) : U (fun d => c * f d) n = c * U f n := by
  unfold U
  rw [← D_mul]
  refine D_congr (fun d _ _ _ => ?_)
  by_cases e : (Nat.gcd d (n / d) == 1) = true
  · rw [if_pos e, if_pos e]
  · rw [if_neg e, if_neg e]; simp

theorem usF_U {n : Nat} (hn : 1 ≤ n) : ∀ acc : Nat, (usF acc (facs n) : Int) = acc * U (fun d => (d : Int)) n := by
  refine facs_induct (P := fun n l => ∀ acc : Nat, (usF acc l : Int) = acc * U (fun d => (d : Int)) n) ?_ ?_ hn
  · intro acc; rw [U_one]; simp [usF]
  · intro q k m l hq hk hm hqm ih acc
    simp only [usF]
    rw [ih, U_pow _ hq hk hm hqm]
    have e : U (fun d => ((q ^ k * d : Nat) : Int)) m = U (fun d => ((q ^ k : Nat) : Int) * (d : Int)) m := U_congr (fun d _ _ _ => by rw [Int.natCast_mul])
    rw [e, U_mul, Int.natCast_mul, Int.mul_assoc, Int.natCast_add, Int.add_mul]
    congr 1
    rw [Int.add_comm, Int.natCast_one, Int.one_mul]

/-- How many unitary divisors there are. -/
theorem U_count {n : Nat} (hn : 1 ≤ n) : U (fun _ => 1) n = 2 ^ (facs n).length := by
  refine facs_induct (P := fun n l => U (fun _ => 1) n = 2 ^ l.length) ?_ ?_ hn
  · rw [U_one]; rfl
  · intro q k m l hq hk hm hqm ih
    rw [U_pow _ hq hk hm hqm, ih, List.length_cons, Int.pow_succ]; omega

/-- One prime more. -/
theorem facs_more {q k m : Nat} (hq : Pr q) (hk : 1 ≤ k) (hm : 1 ≤ m) (h : ¬ q ∣ m) : (facs (q ^ k * m)).length = (facs m).length + 1 := by
  have h2 := hq.1
  have hpos : 1 ≤ q ^ k * m := Nat.mul_pos (Nat.pow_pos (by omega)) hm
  have e1 := U_count hpos
  rw [U_pow _ hq hk hm h, U_count hm] at e1
  have e2 : (2 : Int) ^ ((facs m).length + 1) = 2 ^ (facs (q ^ k * m)).length := by rw [← e1, Int.pow_succ]; omega
  have e3 : (2 : Nat) ^ ((facs m).length + 1) = 2 ^ (facs (q ^ k * m)).length := by exact_mod_cast e2
  exact (two_pow_inj e3).symm

/-- 1 for an even number of primes, -1 for an odd one. -/
def us (n : Nat) : Int := if (facs n).length % 2 = 0 then 1 else -1

theorem us_more {q k m : Nat} (hq : Pr q) (hk : 1 ≤ k) (hm : 1 ≤ m) (h : ¬ q ∣ m) : us (q ^ k * m) = -1 * us m := by
  unfold us
  rw [facs_more hq hk hm h]
  by_cases e : (facs m).length % 2 = 0
  · rw [if_pos e, if_neg (by omega)]; rfl
  · rw [if_neg e, if_pos (by omega)]; rfl

/-- The signs of all unitary divisors are together 0, but 1 for the number 1. -/
theorem U_us {n : Nat} (hn : 1 ≤ n) : U us n = if n = 1 then 1 else 0 := by
  rcases F_head _ 2 n rfl (by omega) hn (Rough.two n) with ⟨h, e⟩ | ⟨q, k, m, a1, a2, a3, a4, a5, a6, a7, a8, a9⟩
  · subst h
    rw [U_one, if_pos rfl]
    unfold us facs
    rw [e]; rfl
  · have hd : ¬ q ∣ m := fun h => a6 (mod_dvd.2 h)
    rw [if_neg (show ¬ n = 1 by omega), a5, U_pow us a1 a3 a4 hd]
    have e : U (fun d => us (q ^ k * d)) m = U (fun d => -1 * us d) m :=
      U_congr (fun d h1 _ h3 => us_more a1 a3 h1 (fun h => hd (Nat.dvd_trans h (mod_dvd.1 h3))))
    rw [e, U_mul]
    omega

/-- All unitary divisors, in ascending order. -/
def unis (n : Nat) : List Nat := (divs n).filter (fun d => Nat.gcd d (n / d) == 1)

theorem unis_mem {n x : Nat} : x ∈ unis n ↔ (1 ≤ x ∧ x ≤ n ∧ n % x = 0) ∧ Nat.gcd x (n / x) = 1 := by
  unfold unis; rw [List.mem_filter, divs_mem]; simp

theorem unis_asc (n : Nat) : (unis n).Pairwise (· < ·) := (L_asc (dv n) n).filter _

theorem sumL_filter (f : Nat → Int) (p : Nat → Bool) : ∀ l, sumL f (l.filter p) = sumL (fun d => if p d = true then f d else 0) l
  | [] => rfl
  | x :: l => by
    rw [List.filter_cons]
    by_cases h : p x = true
    · rw [if_pos h]; simp only [sumL]; rw [sumL_filter f p l, if_pos h]
    · rw [if_neg h]; simp only [sumL]; rw [sumL_filter f p l, if_neg h]; omega

theorem sum_unis (f : Nat → Int) (n : Nat) : sumL f (unis n) = U f n := by
  unfold unis U; rw [sumL_filter, sum_divs]

theorem sumL_one : ∀ l : List Nat, sumL (fun _ => 1) l = l.length
  | [] => rfl
  | x :: l => by simp only [sumL]; rw [sumL_one l]; simp; omega

theorem unis_length {n : Nat} (hn : 1 ≤ n) : (unis n).length = 2 ^ (facs n).length := by
  have h1 := sumL_one (unis n)
  rw [sum_unis, U_count hn] at h1
  exact_mod_cast h1.symm

/-- What is left of unitary divisors, the last one first, are the unitary divisors. -/
theorem unis_pairs {n : Nat} (hn : 1 ≤ n) : ((unis n).map (fun d => n / d)).reverse = unis n := by
  refine asc_ext ?_ (unis_asc n) (fun x => ?_)
  · rw [List.pairwise_reverse, List.pairwise_map]
    refine (unis_asc n).imp_of_mem (fun {a b} ha hb hab => ?_)
    obtain ⟨⟨a1, a2, a3⟩, _⟩ := unis_mem.1 ha
    obtain ⟨⟨b1, b2, b3⟩, _⟩ := unis_mem.1 hb
    obtain ⟨x, hx⟩ := mod_dvd.1 a3
    obtain ⟨y, hy⟩ := mod_dvd.1 b3
    have e1 : n / a = x := by rw [hx, Nat.mul_div_cancel_left _ (by omega)]
    have e2 : n / b = y := by rw [hy, Nat.mul_div_cancel_left _ (by omega)]
    rw [e1, e2]
    rcases Nat.lt_or_ge y x with h | h
    · exact h
    · have h1 : a * x ≤ a * y := Nat.mul_le_mul_left a h
      have h2 : a * y < b * y := by
        refine Nat.mul_lt_mul_of_pos_right hab ?_
        rcases Nat.eq_zero_or_pos y with h' | h'
        · rw [h'] at hy; omega
        · exact h'
      omega
  · have key : ∀ d, d ∈ unis n → n / d ∈ unis n := by
      intro d hd
      obtain ⟨⟨d1, d2, d3⟩, d4⟩ := unis_mem.1 hd
      have hdn := mod_dvd.1 d3
      have hpos : 1 ≤ n / d := Nat.div_pos d2 d1
      refine unis_mem.2 ⟨⟨hpos, Nat.div_le_self _ _, mod_dvd.2 (Nat.div_dvd_of_dvd hdn)⟩, ?_⟩
      rw [Nat.div_div_self hdn (by omega), Nat.gcd_comm]; exact d4
    rw [List.mem_reverse, List.mem_map]
    constructor
    · rintro ⟨d, hd, rfl⟩; exact key d hd
    · intro hx
      refine ⟨n / x, key x hx, ?_⟩
      obtain ⟨⟨d1, d2, d3⟩, _⟩ := unis_mem.1 hx
      exact Nat.div_div_self (mod_dvd.1 d3) (by omega)

/-- What is multiplied stays small: one step. -/
theorem small_step {acc g P R : Nat} (ha : 1 ≤ acc) (hg : 1 ≤ g) (hgP : g ≤ P * P) (hR : 1 ≤ R) (hb : acc * ((P * R) * (P * R)) ≤ 100000000) : acc * g * (R * R) ≤ 100000000 ∧ 1 ≤ acc * g ∧ acc * g ≤ 100000000 ∧ P ≤ 10000 ∧ acc ≤ 100000000 := by
  have h1 : acc * g * (R * R) ≤ acc * (P * P) * (R * R) := Nat.mul_le_mul_right _ (Nat.mul_le_mul_left _ hgP)
  have h2 : acc * (P * P) * (R * R) = acc * ((P * R) * (P * R)) := by simp only [Nat.mul_comm, Nat.mul_left_comm]
  have h3 : 1 ≤ R * R := Nat.mul_pos hR hR
  have h4 : acc * g ≤ acc * g * (R * R) := Nat.le_mul_of_pos_right _ h3
  have h5 : 1 ≤ acc * g := Nat.mul_pos ha hg
  have h6 : acc ≤ acc * g := Nat.le_mul_of_pos_right _ hg
  have h7 : P * P ≤ acc * (P * P) * (R * R) := by
    have a1 : P * P ≤ acc * (P * P) := Nat.le_mul_of_pos_left _ ha
    have a2 : acc * (P * P) ≤ acc * (P * P) * (R * R) := Nat.le_mul_of_pos_right _ h3
    omega
  refine ⟨by omega, h5, by omega, ?_, by omega⟩
  rcases Nat.lt_or_ge 10000 P with h | h
  · have : 10001 * 10001 ≤ P * P := Nat.mul_le_mul h h
    omega
  · exact h

end Go.Proofs.Ytdhcgobkkgchpaa.Math
