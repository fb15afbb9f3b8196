/- The primes of a number, each with how often it divides it, and the lists of divisors: no program in sight. No conditions. -/
import Derived.Test.YtdhcgobkkgchpaaSum
set_option linter.unusedVariables false
set_option linter.unusedSimpArgs false
namespace Go.Proofs.Ytdhcgobkkgchpaa.Math

/-- What is left of n when p is taken out as often as may be, and how often that is. -/
def strip (p n : Nat) : Nat × Nat :=
  if h : 2 ≤ p ∧ 1 ≤ n ∧ n % p = 0 then ((strip p (n / p)).1, (strip p (n / p)).2 + 1) else (n, 0)
termination_by n
decreasing_by all_goals exact Nat.div_lt_self h.2.1 (by omega)

theorem strip_yes {p n : Nat} (h2 : 2 ≤ p) (h1 : 1 ≤ n) (h : n % p = 0) : strip p n = ((strip p (n / p)).1, (strip p (n / p)).2 + 1) := by
  rw [strip]; exact dif_pos ⟨h2, h1, h⟩

theorem strip_no {p n : Nat} (h : ¬ n % p = 0) : strip p n = (n, 0) := by
  rw [strip]; exact dif_neg (fun e => h e.2.2)

theorem strip_spec {p : Nat} (h2 : 2 ≤ p) : ∀ n, 1 ≤ n → n = p ^ (strip p n).2 * (strip p n).1 ∧ 1 ≤ (strip p n).1 ∧ ¬ (strip p n).1 % p = 0 ∧ (strip p n).1 ≤ n := by
  intro n
  induction n using Nat.strongRecOn with
  | ind n ih =>
    intro h1
    by_cases h : n % p = 0
    · have hlt : n / p < n := Nat.div_lt_self h1 (by omega)
      have hpos : 1 ≤ n / p := Nat.div_pos (Nat.le_of_dvd h1 (mod_dvd.1 h)) (by omega)
      obtain ⟨e1, e2, e3, e4⟩ := ih (n / p) hlt hpos
      rw [strip_yes h2 h1 h]
      refine ⟨?_, e2, e3, by simp only; omega⟩
      simp only
      rw [Nat.pow_succ, Nat.mul_assoc, Nat.mul_comm p, ← Nat.mul_assoc, ← e1, Nat.div_mul_cancel (mod_dvd.1 h)]
    · rw [strip_no h]
      exact ⟨by simp, h1, h, Nat.le_refl _⟩

theorem strip_le (p n : Nat) : (strip p n).1 ≤ n := by
  induction n using Nat.strongRecOn with
  | ind n ih =>
    by_cases h : 2 ≤ p ∧ 1 ≤ n ∧ n % p = 0
    · rw [strip_yes h.1 h.2.1 h.2.2]
      have hlt : n / p < n := Nat.div_lt_self h.2.1 (by omega)
      have := ih (n / p) hlt
      simp only; omega
    · rw [strip, dif_neg h]; exact Nat.le_refl _

theorem strip_pos {p n : Nat} (h2 : 2 ≤ p) (h1 : 1 ≤ n) : 0 < (strip p n).2 ↔ n % p = 0 := by
  by_cases h : n % p = 0
  · rw [strip_yes h2 h1 h]; simp [h]
  · rw [strip_no h]; simp [h]

/-- The primes from p on that divide n, each with how often. -/
def F (p n : Nat) : List (Nat × Nat) :=
  if h : p ≤ n then (if 0 < (strip p n).2 then (p, (strip p n).2) :: F (p + 1) (strip p n).1 else F (p + 1) n) else []
termination_by n + 1 - p
decreasing_by
  · have := strip_le p n; omega
  · omega

def facs (n : Nat) : List (Nat × Nat) := F 2 n

theorem F_end {p n : Nat} (h : ¬ p ≤ n) : F p n = [] := by rw [F, dif_neg h]

theorem F_yes {p n : Nat} (h : p ≤ n) (h2 : 2 ≤ p) (h0 : n % p = 0) : F p n = (p, (strip p n).2) :: F (p + 1) (strip p n).1 := by
  rw [F, dif_pos h, if_pos ((strip_pos h2 (by omega)).2 h0)]

theorem F_no {p n : Nat} (h : p ≤ n) (h2 : 2 ≤ p) (h0 : ¬ n % p = 0) : F p n = F (p + 1) n := by
  rw [F, dif_pos h, if_neg (fun e => h0 ((strip_pos h2 (by omega)).1 e))]

/-- No number from 2 up to below p divides n. -/
def Rough (p n : Nat) : Prop := ∀ d, 2 ≤ d → d < p → ¬ n % d = 0

theorem Rough.prime {p n : Nat} (h : Rough p n) (h2 : 2 ≤ p) (h0 : n % p = 0) : Pr p := by
  refine ⟨h2, fun d hd => ?_⟩
  have hle := Nat.le_of_dvd (by omega) hd
  have hpos := Nat.pos_of_dvd_of_pos hd (by omega)
  by_cases e1 : d = 1
  · exact .inl e1
  · by_cases e2 : d = p
    · exact .inr e2
    · exact absurd (mod_dvd.2 (Nat.dvd_trans hd (mod_dvd.1 h0))) (h d (by omega) (by omega))

theorem Rough.step {p n : Nat} (h : Rough p n) (h2 : 2 ≤ p) (h1 : 1 ≤ n) : Rough (p + 1) (strip p n).1 := by
  obtain ⟨e1, e2, e3, e4⟩ := strip_spec h2 n h1
  intro d hd hlt h0
  by_cases e : d = p
  · subst e; exact e3 h0
  · refine h d hd (by omega) ?_
    rw [mod_dvd] at h0 ⊢
    rw [e1]
    exact Nat.dvd_trans h0 (Nat.dvd_mul_left _ _)

theorem Rough.next {p n : Nat} (h : Rough p n) (h0 : ¬ n % p = 0) : Rough (p + 1) n := by
  intro d hd hlt
  by_cases e : d = p
  · subst e; exact h0
  · exact h d hd (by omega)

theorem Rough.two (n : Nat) : Rough 2 n := fun d h1 h2 => by omega

/-- How the list of primes begins: none for 1, or a prime, how often it divides, and the list of what is left. -/
theorem F_head (d : Nat) : ∀ p n, n + 1 - p = d → 2 ≤ p → 1 ≤ n → Rough p n →
    (n = 1 ∧ F p n = []) ∨ ∃ q k m, Pr q ∧ p ≤ q ∧ 1 ≤ k ∧ 1 ≤ m ∧ n = q ^ k * m ∧ ¬ m % q = 0 ∧ m < n ∧ Rough (q + 1) m ∧ F p n = (q, k) :: F (q + 1) m := by
  induction d with
  | zero =>
    intro p n hd h2 h1 hr
    by_cases e : n = 1
    · exact .inl ⟨e, F_end (by omega)⟩
    · exact absurd (Nat.mod_self n) (hr n (by omega) (by omega))
  | succ d ih =>
    intro p n hd h2 h1 hr
    have hle : p ≤ n := by omega
    by_cases h0 : n % p = 0
    · obtain ⟨e1, e2, e3, e4⟩ := strip_spec h2 n h1
      have hk := (strip_pos h2 h1).2 h0
      refine .inr ⟨p, (strip p n).2, (strip p n).1, hr.prime h2 h0, Nat.le_refl _, hk, e2, e1, e3, ?_, hr.step h2 h1, F_yes hle h2 h0⟩
      rw [strip_yes h2 h1 h0]
      have := strip_le p (n / p)
      have hlt : n / p < n := Nat.div_lt_self h1 (by omega)
      simp only; omega
    · rcases ih (p + 1) n (by omega) (by omega) h1 (hr.next h0) with ⟨h, _⟩ | ⟨q, k, m, a1, a2, a3, a4, a5, a6, a7, a8, a9⟩
      · omega
      · exact .inr ⟨q, k, m, a1, by omega, a3, a4, a5, a6, a7, a8, by rw [F_no hle h2 h0, a9]⟩

/-- Whatever holds of 1 and goes on by one prime's power that divides the number most holds of every number and its list of primes. -/
theorem F_induct {P : Nat → List (Nat × Nat) → Prop} (h1 : P 1 [])
    (hs : ∀ q k m l, Pr q → 1 ≤ k → 1 ≤ m → ¬ q ∣ m → P m l → P (q ^ k * m) ((q, k) :: l)) : ∀ n p, 2 ≤ p → 1 ≤ n → Rough p n → P n (F p n) := by
  intro n
  induction n using Nat.strongRecOn with
  | ind n ih =>
    intro p h2 hn hr
    rcases F_head _ p n rfl h2 hn hr with ⟨h, e⟩ | ⟨q, k, m, a1, a2, a3, a4, a5, a6, a7, a8, a9⟩
    · rw [e, h]; exact h1
    · have := a1.1
      rw [a9]
      have hP := ih m a7 (q + 1) (by omega) a4 a8
      have := hs q k m _ a1 a3 a4 (fun h => a6 (mod_dvd.2 h)) hP
      rw [a5]; exact this

theorem facs_induct {P : Nat → List (Nat × Nat) → Prop} (h1 : P 1 [])
    (hs : ∀ q k m l, Pr q → 1 ≤ k → 1 ≤ m → ¬ q ∣ m → P m l → P (q ^ k * m) ((q, k) :: l)) {n : Nat} (hn : 1 ≤ n) : P n (facs n) :=
  F_induct h1 hs n 2 (by omega) hn (Rough.two n)

/-- A number that no lesser one but 1 divides is alone. -/
theorem F_alone (d : Nat) : ∀ p n, n - p = d → 2 ≤ p → p ≤ n → Rough n n → F p n = [(n, 1)] := by
  induction d with
  | zero =>
    intro p n hd h2 hle hr
    have e : p = n := by omega
    subst e
    have hs : strip p p = (1, 1) := by
      rw [strip_yes h2 (by omega) (Nat.mod_self p), Nat.div_self (by omega), strip_no]
      rw [Nat.mod_eq_of_lt (by omega)]; omega
    rw [F_yes hle h2 (Nat.mod_self p), hs]
    simp only
    rw [F_end (by omega)]
  | succ d ih =>
    intro p n hd h2 hle hr
    rw [F_no hle h2 (hr p h2 (by omega))]
    exact ih (p + 1) n (by omega) (by omega) (by omega) hr

/-- Where p times p is greater than a number that nothing below p divides, the number is a prime. -/
theorem Rough.square {p n : Nat} (h : Rough p n) (hp : n < p * p) : Rough n n := by
  intro d hd hlt h0
  by_cases e : d < p
  · exact h d hd e h0
  · obtain ⟨c, hc⟩ := mod_dvd.1 h0
    have hc2 : 2 ≤ c := by
      rcases Nat.lt_or_ge c 2 with h' | h'
      · have : d * c ≤ d * 1 := Nat.mul_le_mul_left d (by omega)
        omega
      · exact h'
    have hcp : c < p := by
      rcases Nat.lt_or_ge c p with h' | h'
      · exact h'
      · have : p * p ≤ d * c := Nat.mul_le_mul (by omega) h'
        omega
    exact h c hc2 hcp (mod_dvd.2 ⟨d, by rw [hc, Nat.mul_comm]⟩)

/-- The numbers from 1 up to n of which p holds, in ascending order. -/
def L (p : Nat → Bool) : Nat → List Nat
  | 0 => []
  | n + 1 => if p (n + 1) then L p n ++ [n + 1] else L p n

theorem L_yes {p : Nat → Bool} {n : Nat} (h : p (n + 1) = true) : L p (n + 1) = L p n ++ [n + 1] := by simp only [L]; rw [if_pos h]
theorem L_no {p : Nat → Bool} {n : Nat} (h : ¬ p (n + 1) = true) : L p (n + 1) = L p n := by simp only [L]; rw [if_neg h]

theorem L_mem (p : Nat → Bool) (x : Nat) : ∀ n, x ∈ L p n ↔ 1 ≤ x ∧ x ≤ n ∧ p x = true
  | 0 => by simp [L]; omega
  | n + 1 => by
    by_cases h : p (n + 1) = true
    · rw [L_yes h, List.mem_append, L_mem p x n, List.mem_singleton]
      constructor
      · rintro (⟨a, b, c⟩ | rfl)
        · exact ⟨a, by omega, c⟩
        · exact ⟨by omega, by omega, h⟩
      · rintro ⟨a, b, c⟩
        by_cases e : x = n + 1
        · exact .inr e
        · exact .inl ⟨a, by omega, c⟩
    · rw [L_no h, L_mem p x n]
      constructor
      · rintro ⟨a, b, c⟩; exact ⟨a, by omega, c⟩
      · rintro ⟨a, b, c⟩
        refine ⟨a, ?_, c⟩
        by_cases e : x = n + 1
        · subst e; exact absurd c h
        · omega

theorem L_asc (p : Nat → Bool) : ∀ n, (L p n).Pairwise (· < ·)
  | 0 => by simp [L]
  | n + 1 => by
    by_cases h : p (n + 1) = true
    · rw [L_yes h, List.pairwise_append]
      refine ⟨L_asc p n, List.pairwise_singleton _ _, fun a ha b hb => ?_⟩
      have := ((L_mem p a n).1 ha).2.1
      rw [List.mem_singleton] at hb; omega
    · rw [L_no h]; exact L_asc p n

theorem L_length_le (p : Nat → Bool) : ∀ n, (L p n).length ≤ n
  | 0 => by simp [L]
  | n + 1 => by
    have := L_length_le p n
    by_cases h : p (n + 1) = true
    · rw [L_yes h, List.length_append]; simp; exact this
    · rw [L_no h]; omega

/-- Two ascending lists with the same elements are the same. -/
theorem asc_ext : ∀ {l m : List Nat}, l.Pairwise (· < ·) → m.Pairwise (· < ·) → (∀ x, x ∈ l ↔ x ∈ m) → l = m
  | [], [], _, _, _ => rfl
  | [], b :: m, _, _, h => by have := (h b).2 (by simp); simp at this
  | a :: l, [], _, _, h => by have := (h a).1 (by simp); simp at this
  | a :: l, b :: m, hl, hm, h => by
    rw [List.pairwise_cons] at hl hm
    have e : a = b := by
      have h1 : a ∈ b :: m := (h a).1 (by simp)
      have h2 : b ∈ a :: l := (h b).2 (by simp)
      rw [List.mem_cons] at h1 h2
      rcases h1 with h1 | h1
      · exact h1
      · rcases h2 with h2 | h2
        · exact h2.symm
        · have := hm.1 a h1
          have := hl.1 b h2
          omega
    subst e
    congr 1
    refine asc_ext hl.2 hm.2 (fun x => ⟨fun hx => ?_, fun hx => ?_⟩)
    · have := (h x).1 (List.mem_cons_of_mem _ hx)
      rw [List.mem_cons] at this
      rcases this with e | h'
      · have := hl.1 x hx; omega
      · exact h'
    · have := (h x).2 (List.mem_cons_of_mem _ hx)
      rw [List.mem_cons] at this
      rcases this with e | h'
      · have := hm.1 x hx; omega
      · exact h'

/-- The sum over a list. -/
def sumL (f : Nat → Int) : List Nat → Int
  | [] => 0
  | x :: l => f x + sumL f l

theorem sumL_append (f : Nat → Int) : ∀ l m, sumL f (l ++ m) = sumL f l + sumL f m
  | [], m => by simp [sumL]
  | x :: l, m => by simp only [List.cons_append, sumL]; rw [sumL_append f l m]; omega

theorem sumL_L (f : Nat → Int) (p : Nat → Bool) : ∀ n, sumL f (L p n) = T (fun d => if p d = true then f d else 0) n
  | 0 => rfl
  | n + 1 => by
    by_cases h : p (n + 1) = true
    · rw [L_yes h, sumL_append, sumL_L f p n]; simp only [T, sumL, if_pos h]; omega
    · rw [L_no h, sumL_L f p n]; simp only [T, if_neg h]; omega

theorem length_L (p : Nat → Bool) : ∀ n, ((L p n).length : Int) = T (fun d => if p d = true then 1 else 0) n
  | 0 => rfl
  | n + 1 => by
    by_cases h : p (n + 1) = true
    · rw [L_yes h, List.length_append]; simp only [T, if_pos h]; rw [← length_L p n]; simp
    · rw [L_no h]; simp only [T, if_neg h]; rw [← length_L p n]; omega

/-- Does d divide n? -/
def dv (n d : Nat) : Bool := n % d == 0

theorem dv_iff {n d : Nat} : dv n d = true ↔ n % d = 0 := by unfold dv; simp

/-- All divisors of a number, in ascending order. -/
def divs (n : Nat) : List Nat := L (dv n) n

theorem sum_divs (f : Nat → Int) (n : Nat) : sumL f (divs n) = D f n := by
  unfold divs D
  rw [sumL_L]
  refine T_congr n (fun d _ _ => ?_)
  by_cases h : n % d = 0
  · rw [if_pos h, if_pos (dv_iff.2 h)]
  · rw [if_neg h, if_neg (fun e => h (dv_iff.1 e))]

theorem divs_mem {n x : Nat} : x ∈ divs n ↔ 1 ≤ x ∧ x ≤ n ∧ n % x = 0 := by
  unfold divs; rw [L_mem, dv_iff]

/-- The small divisor of a pair of two different ones. -/
def sm (n d : Nat) : Bool := n % d == 0 && decide (d * d < n)

theorem sm_iff {n d : Nat} : sm n d = true ↔ n % d = 0 ∧ d * d < n := by unfold sm; simp

/-- Divisors up to c, where c times c is no greater and c + 1 times c + 1 is greater, and what is left of those whose square is less, the last one first: these are all. -/
theorem divs_pairs {n c : Nat} (hn : 1 ≤ n) (hc : c * c ≤ n) (hc1 : n < (c + 1) * (c + 1)) : L (dv n) c ++ ((L (sm n) c).map (fun d => n / d)).reverse = divs n := by
  refine asc_ext ?_ (L_asc _ _) (fun x => ?_)
  · rw [List.pairwise_append]
    refine ⟨L_asc _ _, ?_, fun a ha b hb => ?_⟩
    · rw [List.pairwise_reverse, List.pairwise_map]
      refine (L_asc (sm n) c).imp_of_mem (fun {a b} ha hb hab => ?_)
      obtain ⟨a1, a2, a3⟩ := (L_mem _ _ _).1 ha
      obtain ⟨b1, b2, b3⟩ := (L_mem _ _ _).1 hb
      obtain ⟨x, hx⟩ := mod_dvd.1 (sm_iff.1 a3).1
      obtain ⟨y, hy⟩ := mod_dvd.1 (sm_iff.1 b3).1
      have e1 : n / a = x := by rw [hx, Nat.mul_div_cancel_left _ (by omega)]
      have e2 : n / b = y := by rw [hy, Nat.mul_div_cancel_left _ (by omega)]
      rw [e1, e2]
      rcases Nat.lt_or_ge y x with h | h
      · exact h
      · have h1 : a * x ≤ a * y := Nat.mul_le_mul_left a h
        have h2 : a * y < b * y := by
          refine Nat.mul_lt_mul_of_pos_right hab ?_
          rcases Nat.eq_zero_or_pos y with h' | h'
          · rw [h'] at hy; omega
          · exact h'
        omega
    · rw [List.mem_reverse, List.mem_map] at hb
      obtain ⟨d, hd, rfl⟩ := hb
      obtain ⟨a1, a2, a3⟩ := (L_mem _ _ _).1 ha
      obtain ⟨d1, d2, d3⟩ := (L_mem _ _ _).1 hd
      obtain ⟨y, hy⟩ := mod_dvd.1 (sm_iff.1 d3).1
      have e2 : n / d = y := by rw [hy, Nat.mul_div_cancel_left _ (by omega)]
      rw [e2]
      have hlt := (sm_iff.1 d3).2
      have hdy : d < y := by
        rcases Nat.lt_or_ge d y with h | h
        · exact h
        · have : d * y ≤ d * d := Nat.mul_le_mul_left d h
          omega
      rcases Nat.lt_or_ge a y with h | h
      · exact h
      · have h1 : y * y ≤ c * c := Nat.mul_le_mul (by omega) (by omega)
        have h2 : d * y < y * y := Nat.mul_lt_mul_of_pos_right hdy (by omega)
        omega
  · rw [List.mem_append, List.mem_reverse, List.mem_map, divs_mem, L_mem, dv_iff]
    constructor
    · rintro (⟨a, b, e⟩ | ⟨d, hd, rfl⟩)
      · exact ⟨a, Nat.le_of_dvd hn (mod_dvd.1 e), e⟩
      · obtain ⟨d1, d2, d3⟩ := (L_mem _ _ _).1 hd
        have hdv := mod_dvd.1 (sm_iff.1 d3).1
        refine ⟨Nat.div_pos (Nat.le_of_dvd hn hdv) (by omega), Nat.div_le_self _ _, mod_dvd.2 (Nat.div_dvd_of_dvd hdv)⟩
    · rintro ⟨a, b, e⟩
      by_cases h : x ≤ c
      · exact .inl ⟨a, h, e⟩
      · right
        obtain ⟨y, hy⟩ := mod_dvd.1 e
        have hy1 : 1 ≤ y := by
          rcases Nat.eq_zero_or_pos y with h' | h'
          · rw [h'] at hy; omega
          · exact h'
        have hyc : y ≤ c := by
          rcases Nat.lt_or_ge c y with h' | h'
          · have : (c + 1) * (c + 1) ≤ x * y := Nat.mul_le_mul (by omega) (by omega)
            omega
          · exact h'
        refine ⟨y, (L_mem _ _ _).2 ⟨hy1, hyc, sm_iff.2 ⟨?_, ?_⟩⟩, ?_⟩
        · rw [hy]; exact Nat.mul_mod_left _ _
        · have : y * y < x * y := Nat.mul_lt_mul_of_pos_right (by omega) hy1
          omega
        · rw [hy, Nat.mul_div_cancel _ (by omega)]

theorem sumL_nonneg : ∀ (l : List Nat), 0 ≤ sumL (fun x => (x : Int)) l
  | [] => Int.le_refl _
  | x :: l => by
    have := sumL_nonneg l
    simp only [sumL]; omega

theorem T_nonneg {g : Nat → Int} (h : ∀ d, 0 ≤ g d) : ∀ n, 0 ≤ T g n
  | 0 => Int.le_refl _
  | n + 1 => by
    have := T_nonneg h n
    have := h (n + 1)
    simp only [T]; omega

/-- The sum of the divisors up to c is at most c times the number. -/
theorem T_small (n c : Nat) : 0 ≤ T (fun d => if n % d = 0 then (d : Int) else 0) c ∧ T (fun d => if n % d = 0 then (d : Int) else 0) c ≤ (c : Int) * (n + c) := by
  refine ⟨T_nonneg (fun d => by split <;> omega) c, ?_⟩
  rw [← T_const ((n : Int) + c) c]
  refine T_le c (fun d h1 h2 => ?_)
  split <;> omega

theorem D_id_le (n : Nat) : D (fun d => (d : Int)) n ≤ (n : Int) * n := by
  rw [← T_const (n : Int) n]
  refine T_le n (fun d h1 h2 => ?_)
  simp only
  split <;> omega

theorem D_nonneg {f : Nat → Int} (h : ∀ d, 0 ≤ f d) (n : Nat) : 0 ≤ D f n := by
  refine T_nonneg (fun d => ?_) n
  have := h d
  split <;> omega

theorem D_id_ge {n : Nat} (hn : 1 ≤ n) : (n : Int) ≤ D (fun d => (d : Int)) n := by
  obtain ⟨m, rfl⟩ : ∃ m, n = m + 1 := ⟨n - 1, by omega⟩
  unfold D
  simp only [T]
  rw [if_pos (Nat.mod_self _)]
  have := T_nonneg (g := fun d => if (m + 1) % d = 0 then (d : Int) else 0) (fun d => by split <;> omega) m
  omega

theorem Rough.toPr {n : Nat} (h2 : 2 ≤ n) (h : Rough n n) : Pr n := h.prime h2 (Nat.mod_self n)

theorem Pr.rough {n : Nat} (h : Pr n) : Rough n n := by
  intro d hd hlt h0
  rcases h.2 d (mod_dvd.1 h0) with e | e <;> omega

theorem divs_pr {n : Nat} (h : Pr n) : divs n = [1, n] := by
  have h2 := h.1
  refine asc_ext (L_asc _ _) (by simp; omega) (fun x => ?_)
  rw [divs_mem, List.mem_cons, List.mem_singleton]
  constructor
  · rintro ⟨_, _, e⟩; exact h.2 x (mod_dvd.1 e)
  · rintro (rfl | rfl)
    · exact ⟨by omega, by omega, Nat.mod_one n⟩
    · exact ⟨by omega, by omega, Nat.mod_self _⟩

theorem divs_two {n : Nat} (hn : 1 ≤ n) (h : (divs n).length = 2) : Pr n := by
  have h1 : 1 ∈ divs n := divs_mem.2 ⟨by omega, hn, Nat.mod_one n⟩
  have h2 : n ∈ divs n := divs_mem.2 ⟨hn, Nat.le_refl _, Nat.mod_self n⟩
  have key : ∀ d, d ∣ n → d ∈ divs n := fun d hd => divs_mem.2 ⟨Nat.pos_of_dvd_of_pos hd hn, Nat.le_of_dvd hn hd, mod_dvd.2 hd⟩
  have hasc : (divs n).Pairwise (· < ·) := L_asc (dv n) n
  match hm : divs n, h with
  | [a, b], _ =>
    rw [hm] at h1 h2 key hasc
    have ha : a ∈ divs n := by rw [hm]; simp
    have ha1 := (divs_mem.1 ha).1
    have hb : b ∈ divs n := by rw [hm]; simp
    have hb1 := (divs_mem.1 hb).2.1
    simp at h1 h2 key hasc
    have hn2 : 2 ≤ n := by omega
    refine ⟨hn2, fun d hd => ?_⟩
    have := key d hd
    omega

theorem divs_length {n : Nat} (hn : 1 ≤ n) : (divs n).length = 2 ↔ Pr n :=
  ⟨divs_two hn, fun h => by rw [divs_pr h]; rfl⟩

/-- What the list of primes of a number holds. -/
theorem F_bounds {n p : Nat} (h2 : 2 ≤ p) (hn : 1 ≤ n) (hr : Rough p n) : ∀ x ∈ F p n, 2 ≤ x.1 ∧ x.1 ≤ n ∧ 1 ≤ x.2 ∧ x.2 ≤ n := by
  refine F_induct (P := fun n l => ∀ x ∈ l, 2 ≤ x.1 ∧ x.1 ≤ n ∧ 1 ≤ x.2 ∧ x.2 ≤ n) (by simp) ?_ n p h2 hn hr
  intro q k m l hq hk hm hqm ih x hx
  have hq2 := hq.1
  have hpw : k < q ^ k := Nat.lt_pow_self (by omega)
  have hle : q ≤ q ^ k := by
    obtain ⟨j, rfl⟩ : ∃ j, k = j + 1 := ⟨k - 1, by omega⟩
    rw [Nat.pow_succ]
    exact Nat.le_mul_of_pos_left q (Nat.pow_pos (by omega))
  have h1 : q ^ k ≤ q ^ k * m := Nat.le_mul_of_pos_right _ hm
  have h3 : m ≤ q ^ k * m := Nat.le_mul_of_pos_left _ (Nat.pow_pos (by omega))
  rw [List.mem_cons] at hx
  rcases hx with rfl | hx
  · exact ⟨hq2, by simp only; omega, hk, by simp only; omega⟩
  · have := ih x hx; omega

theorem facs_bounds {n : Nat} (hn : 1 ≤ n) : ∀ x ∈ facs n, 2 ≤ x.1 ∧ x.1 ≤ n ∧ 1 ≤ x.2 ∧ x.2 ≤ n := F_bounds (by omega) hn (Rough.two n)

def prodF : List (Nat × Nat) → Nat
  | [] => 1
  | x :: l => x.1 ^ x.2 * prodF l

theorem prodF_facs {n : Nat} (hn : 1 ≤ n) : prodF (facs n) = n := by
  refine facs_induct (P := fun n l => prodF l = n) rfl ?_ hn
  intro q k m l _ _ _ _ ih
  simp only [prodF]; rw [ih]

theorem prodF_pos : ∀ {l : List (Nat × Nat)}, (∀ x ∈ l, 2 ≤ x.1) → 1 ≤ prodF l
  | [], _ => Nat.le_refl _
  | x :: l, h => by
    simp only [prodF]
    have h1 := prodF_pos (l := l) (fun y hy => h y (by simp [hy]))
    have := h x (by simp)
    exact Nat.mul_pos (Nat.pow_pos (by omega)) h1

/-- The list of primes is no longer than the number. -/
theorem facs_length {n : Nat} (hn : 1 ≤ n) : (facs n).length < 2 * n := by
  refine facs_induct (P := fun n l => l.length < 2 * n) (by simp) ?_ hn
  intro q k m l hq hk hm _ ih
  have hq2 := hq.1
  have h1 : 2 ≤ q ^ k := by
    obtain ⟨j, rfl⟩ : ∃ j, k = j + 1 := ⟨k - 1, by omega⟩
    rw [Nat.pow_succ]
    have := Nat.le_mul_of_pos_left q (show 0 < q ^ j from Nat.pow_pos (by omega))
    omega
  have h2 : 2 * m ≤ q ^ k * m := Nat.mul_le_mul_right m h1
  simp only [List.length_cons]; omega

theorem div_pos_of {p n : Nat} (hp : 1 ≤ p) (h1 : 1 ≤ n) (h : n % p = 0) : 1 ≤ n / p := Nat.div_pos (Nat.le_of_dvd h1 (mod_dvd.1 h)) hp

end Go.Proofs.Ytdhcgobkkgchpaa.Math
