/- The program's PowerModulo answers as the reference's, for every three whole numbers. No conditions. -/
import Derived.Test.YtnbffmgjeeohgaaPFnExactPowerModulox1
import Derived.Test.YtnbffmgjeeohgaaEvs
namespace Go.Proofs.Ytnbffmgjeeohgaa.Pure
open Go.RowKit Go.Proofs.Ytnbffmgjeeohgaa.PFnExactPowerModulo Go.Proofs.YtnbffmgjeeohgaaW.PrintWords Go.Proofs.YtnbffmgjeeohgaaW.PrintLast Go.Proofs.YtnbffmgjeeohgaaW.PrintMore Go.Proofs.Ytnbffmgjeeohgaa.Math
set_option linter.unusedVariables false
set_option linter.unusedSimpArgs false

theorem l1In_eq (a lo hi : Int) : spec_l1In.f a lo hi = some (decide (lo ≤ a ∧ a ≤ hi)) := by
  unfold spec_l1In.f
  by_cases h : lo ≤ a
  · rw [if_pos h]; simp [h]
  · rw [if_neg h]; simp [h]

/-- What is left of a power. -/
def pmI (a t n : Int) : Int := if inN a ∧ (0 ≤ t ∧ t ≤ 1000000) ∧ inN n then ((a.toNat ^ t.toNat % n.toNat : Nat) : Int) else -1
theorem pm_even {t n out sq : Nat} (h : t % 2 = 0) : out * (sq * sq % n) ^ (t / 2) % n = out * sq ^ t % n := by
  have e : sq ^ t = (sq * sq) ^ (t / 2) := by
    rw [Nat.mul_pow, ← Nat.pow_add]; congr 1; omega
  rw [Nat.mul_mod, ← Nat.pow_mod, ← Nat.mul_mod, e]
theorem pm_odd {t n out sq : Nat} (h : ¬ t % 2 = 0) : (out * sq % n) * (sq * sq % n) ^ (t / 2) % n = out * sq ^ t % n := by
  have e : sq ^ t = sq * (sq * sq) ^ (t / 2) := by
    rw [Nat.mul_pow, ← Nat.pow_add, ← Nat.pow_succ']; congr 1; omega
  rw [Nat.mul_mod, ← Nat.pow_mod, Nat.mod_mod, ← Nat.mul_mod, e, Nat.mul_assoc]
theorem one_tmod (n : Nat) : (1 : Int) % (n : Int) = ((1 % n : Nat) : Int) := rfl
theorem mul_small {a b n : Nat} (hn : n ≤ 10000) (h1 : a ≤ n) (h2 : b ≤ n) : a * b ≤ 100000000 := by
  have : a * b ≤ 10000 * 10000 := Nat.mul_le_mul (by omega) (by omega)
  omega
theorem spec_PowerModulo_l {n : Nat} (h1 : 1 ≤ n) (h2 : n ≤ 10000) : ∀ (t out sq : Nat), t ≤ 1000000 → out < n → sq < n →
    Ev (fun k => spec_PowerModulo.l0 k (n : Int) (out : Int) (sq : Int) (t : Int)) ((out * sq ^ t % n : Nat) : Int) := by
  intro t
  induction t using Nat.strongRecOn with
  | ind t ih =>
    intro out sq ht ho hs
    have m1 := mul_small h2 (Nat.le_of_lt hs) (Nat.le_of_lt hs)
    have m2 := mul_small h2 (Nat.le_of_lt ho) (Nat.le_of_lt hs)
    refine Ev_suc ?_
    have c0 : ¬ (n : Int) = 0 := by omega
    simp only [spec_PowerModulo.l0, tmod2]
    rw [w64_mul (a := sq) (b := sq) (by omega), w64_mul (a := out) (b := sq) (by omega), tdiv2, w64_nat (i := t / 2) (by omega)]
    simp only [tmod_nat]
    by_cases h0 : t = 0
    · subst h0
      have c1 : ¬ ((0 : Nat) : Int) > 0 := by omega
      simp only [if_neg c1]
      rw [Nat.pow_zero, Nat.mul_one, Nat.mod_eq_of_lt ho]
      exact Ev.now _
    · have c1 : (t : Int) > 0 := by omega
      simp only [if_pos c1, if_neg c0]
      by_cases hp : t % 2 = 0
      · have c2 : ¬ ((t % 2 : Nat) : Int) = 1 := by omega
        simp only [if_neg c2]
        rw [← pm_even hp]
        exact ih (t / 2) (by omega) out _ (by omega) ho (Nat.mod_lt _ (by omega))
      · have c2 : ((t % 2 : Nat) : Int) = 1 := by omega
        simp only [if_pos c2]
        rw [← pm_odd hp]
        exact ih (t / 2) (by omega) _ _ (by omega) (Nat.mod_lt _ (by omega)) (Nat.mod_lt _ (by omega))
theorem pm_start (a t n : Nat) : (1 % n) * (a % n) ^ t % n = a ^ t % n := by
  rw [Nat.mul_mod, Nat.mod_mod, ← Nat.pow_mod, ← Nat.mul_mod, Nat.one_mul]
theorem spec_PowerModulo_j {a t n : Nat} (hn : 1 ≤ n) (hn2 : n ≤ 10000) (ht : t ≤ 1000000) : Ev (fun k => spec_PowerModulo.j0 k (a : Int) (t : Int) (n : Int) false) ((a ^ t % n : Nat) : Int) := by
  refine Ev_suc ?_
  have c0 : ¬ (n : Int) = 0 := by omega
  simp only [spec_PowerModulo.j0, Bool.false_eq_true, if_false, if_neg c0, one_tmod, tmod_nat]
  rw [← pm_start]
  exact spec_PowerModulo_l hn hn2 t _ _ ht (Nat.mod_lt _ (by omega)) (Nat.mod_lt _ (by omega))
theorem spec_PowerModulo_no (a t n : Int) : Ev (fun k => spec_PowerModulo.j0 k a t n true) (-1) := by
  refine Ev_suc ?_
  simp only [spec_PowerModulo.j0, if_true]
  exact Ev.now _
theorem spec_PowerModulo_ev (a t n : Int) : Ev (fun k => spec_PowerModulo.f k a t n) (pmI a t n) := by
  unfold spec_PowerModulo.f pmI
  by_cases h1 : inN a
  · by_cases h2 : 0 ≤ t ∧ t ≤ 1000000
    · by_cases h3 : inN n
      · obtain ⟨x, rfl, _, _⟩ := inN_nat h1
        obtain ⟨m, rfl, _, _⟩ := inN_nat h3
        obtain ⟨s, rfl⟩ := Int.eq_ofNat_of_zero_le h2.1
        rw [if_pos ⟨h1, h2, h3⟩]
        simp only [l1In_eq, Option.bind_some, decide_eq_true_eq, if_pos (show 1 ≤ (x : Int) ∧ (x : Int) ≤ 10000 from h1), if_pos h2, decide_eq_true (show 1 ≤ (m : Int) ∧ (m : Int) ≤ 10000 from h3), Bool.not_true, Int.toNat_natCast]
        exact spec_PowerModulo_j (by omega) (by omega) (by omega)
      · rw [if_neg (fun e => h3 e.2.2)]
        simp only [l1In_eq, Option.bind_some, decide_eq_true_eq, if_pos (show 1 ≤ a ∧ a ≤ 10000 from h1), if_pos h2, decide_eq_false (show ¬ (1 ≤ n ∧ n ≤ 10000) from h3), Bool.not_false]
        exact spec_PowerModulo_no a t n
    · rw [if_neg (fun e => h2 e.2.1)]
      simp only [l1In_eq, Option.bind_some, decide_eq_true_eq, if_pos (show 1 ≤ a ∧ a ≤ 10000 from h1), if_neg h2]
      exact spec_PowerModulo_no a t n
  · rw [if_neg (fun e => h1 e.1)]
    simp only [l1In_eq, Option.bind_some, decide_eq_true_eq, if_neg (show ¬ (1 ≤ a ∧ a ≤ 10000) from h1)]
    exact spec_PowerModulo_no a t n

theorem numberOk_eq (a : Int) : impl_numberOk.f a = some (decide (inN a)) := by
  unfold impl_numberOk.f inN
  by_cases h : 1 ≤ a
  · rw [if_pos h]; simp [h]
  · rw [if_neg h]; simp [h]

theorem impl_PowerModulo_l {n : Nat} (h1 : 1 ≤ n) (h2 : n ≤ 10000) : ∀ (t out sq : Nat), t ≤ 1000000 → out < n → sq < n →
    Ev (fun k => impl_PowerModulo.l0 k (t : Int) (n : Int) (out : Int) (sq : Int)) ((out * sq ^ t % n : Nat) : Int) := by
  intro t
  induction t using Nat.strongRecOn with
  | ind t ih =>
    intro out sq ht ho hs
    have m1 := mul_small h2 (Nat.le_of_lt hs) (Nat.le_of_lt hs)
    have m2 := mul_small h2 (Nat.le_of_lt ho) (Nat.le_of_lt hs)
    refine Ev_suc ?_
    have c0 : ¬ (n : Int) = 0 := by omega
    simp only [impl_PowerModulo.l0, tmod2]
    rw [w64_mul (a := sq) (b := sq) (by omega), w64_mul (a := out) (b := sq) (by omega), tdiv2, w64_nat (i := t / 2) (by omega)]
    simp only [tmod_nat]
    by_cases h0 : t = 0
    · subst h0
      have c1 : ¬ ((0 : Nat) : Int) > 0 := by omega
      simp only [if_neg c1]
      rw [Nat.pow_zero, Nat.mul_one, Nat.mod_eq_of_lt ho]
      exact Ev.now _
    · have c1 : (t : Int) > 0 := by omega
      simp only [if_pos c1, if_neg c0]
      by_cases hp : t % 2 = 0
      · have c2 : ((t % 2 : Nat) : Int) = 0 := by omega
        simp only [if_pos c2]
        rw [← pm_even hp]
        exact ih (t / 2) (by omega) out _ (by omega) ho (Nat.mod_lt _ (by omega))
      · have c2 : ¬ ((t % 2 : Nat) : Int) = 0 := by omega
        simp only [if_neg c2]
        rw [← pm_odd hp]
        exact ih (t / 2) (by omega) _ _ (by omega) (Nat.mod_lt _ (by omega)) (Nat.mod_lt _ (by omega))
theorem impl_PowerModulo_j {a t n : Nat} (hn : 1 ≤ n) (hn2 : n ≤ 10000) (ht : t ≤ 1000000) : Ev (fun k => impl_PowerModulo.j0 k (a : Int) (t : Int) (n : Int) false) ((a ^ t % n : Nat) : Int) := by
  refine Ev_suc ?_
  have c0 : ¬ (n : Int) = 0 := by omega
  simp only [impl_PowerModulo.j0, Bool.false_eq_true, if_false, if_neg c0, one_tmod, tmod_nat]
  rw [← pm_start]
  exact impl_PowerModulo_l hn hn2 t _ _ ht (Nat.mod_lt _ (by omega)) (Nat.mod_lt _ (by omega))
theorem impl_PowerModulo_no (a t n : Int) : Ev (fun k => impl_PowerModulo.j0 k a t n true) (-1) := by
  refine Ev_suc ?_
  simp only [impl_PowerModulo.j0, if_true]
  exact Ev.now _
theorem impl_PowerModulo_ev (a t n : Int) : Ev (fun k => impl_PowerModulo.f k a t n) (pmI a t n) := by
  unfold impl_PowerModulo.f pmI
  by_cases h1 : inN a
  · by_cases h3 : inN n
    · by_cases h2 : t < 0
      · rw [if_neg (fun e => by have := e.2.1; omega)]
        simp only [numberOk_eq, Option.bind_some, decide_eq_true_eq, if_pos h1, if_pos h3, if_pos h2]
        exact impl_PowerModulo_no a t n
      · by_cases h4 : t > 1000000
        · rw [if_neg (fun e => by have := e.2.1; omega)]
          simp only [numberOk_eq, Option.bind_some, decide_eq_true_eq, if_pos h1, if_pos h3, if_neg h2, decide_eq_true h4]
          exact impl_PowerModulo_no a t n
        · obtain ⟨x, rfl, _, _⟩ := inN_nat h1
          obtain ⟨m, rfl, _, _⟩ := inN_nat h3
          obtain ⟨s, rfl⟩ := Int.eq_ofNat_of_zero_le (show 0 ≤ t by omega)
          rw [if_pos ⟨h1, by omega, h3⟩]
          simp only [numberOk_eq, Option.bind_some, decide_eq_true_eq, if_pos h1, if_pos h3, if_neg h2, decide_eq_false h4, Int.toNat_natCast]
          exact impl_PowerModulo_j (by omega) (by omega) (by omega)
    · rw [if_neg (fun e => h3 e.2.2)]
      simp only [numberOk_eq, Option.bind_some, decide_eq_true_eq, if_pos h1, if_neg h3]
      exact impl_PowerModulo_no a t n
  · rw [if_neg (fun e => h1 e.1)]
    simp only [numberOk_eq, Option.bind_some, decide_eq_true_eq, if_neg h1]
    exact impl_PowerModulo_no a t n

theorem FnExactPowerModulo : laws_FnExactPowerModulo.Pure := by
  intro a t n _ _ _
  refine Ev.rounds (r := true) ?_
  unfold laws_FnExactPowerModulo.f
  refine Ev.bind (spec_PowerModulo_ev a t n) (Ev.bind (impl_PowerModulo_ev a t n) ?_)
  simp only [if_true]
  exact Ev.now _

end Go.Proofs.Ytnbffmgjeeohgaa.Pure
