/- The program's SharedSum answers as the reference's, for every whole number. No conditions. -/
import Derived.Test.YtnbffmgjeeohgaaPFnExactSharedSumx1
import Derived.Test.YtnbffmgjeeohgaaEvs
namespace Go.Proofs.Ytnbffmgjeeohgaa.Pure
open Go.RowKit Go.Proofs.Ytnbffmgjeeohgaa.PFnExactSharedSum Go.Proofs.YtnbffmgjeeohgaaW.PrintWords Go.Proofs.YtnbffmgjeeohgaaW.PrintLast Go.Proofs.YtnbffmgjeeohgaaW.PrintMore Go.Proofs.Ytnbffmgjeeohgaa.Math
set_option linter.unusedVariables false
set_option linter.unusedSimpArgs false

theorem l1In_eq (a lo hi : Int) : spec_l1In.f a lo hi = some (decide (lo ≤ a ∧ a ≤ hi)) := by
  unfold spec_l1In.f
  by_cases h : lo ≤ a
  · rw [if_pos h]; simp [h]
  · rw [if_neg h]; simp [h]

theorem spec_CommonOf_l : ∀ (b a : Nat), Ev (fun k => spec_CommonOf.l0 k (a : Int) (b : Int)) ((Nat.gcd a b : Nat) : Int) := by
  intro b
  induction b using Nat.strongRecOn with
  | ind b ih =>
    intro a
    refine Ev_suc ?_
    simp only [spec_CommonOf.l0]
    by_cases hb : b = 0
    · subst hb
      simp only [Int.natCast_zero, gt_iff_lt, Int.lt_irrefl, if_false, Nat.gcd_zero_right]
      exact Ev.now _
    · have h : ¬ ((b : Int) = 0) := by omega
      have h' : (b : Int) > 0 := by omega
      simp only [if_pos h', if_neg h, tmod_nat]
      rw [Nat.gcd_comm a b, Nat.gcd_rec b a, Nat.gcd_comm]
      exact ih (a % b) (Nat.mod_lt _ (by omega)) b
/-- What two numbers share, -1 where one is none. -/
def cmI (a b : Int) : Int := if inN a ∧ inN b then ((Nat.gcd a.toNat b.toNat : Nat) : Int) else -1
theorem cmI_nat {a b : Nat} (h1 : 1 ≤ a) (h2 : a ≤ 10000) (h3 : 1 ≤ b) (h4 : b ≤ 10000) : cmI a b = ((Nat.gcd a b : Nat) : Int) := by
  unfold cmI inN
  rw [if_pos (by omega)]; rfl
theorem spec_CommonOf_ev (a b : Int) : Ev (fun k => spec_CommonOf.f k a b) (cmI a b) := by
  unfold spec_CommonOf.f cmI inN
  by_cases h1 : 1 ≤ a ∧ a ≤ 10000
  · by_cases h2 : 1 ≤ b ∧ b ≤ 10000
    · obtain ⟨n, rfl, _, _⟩ := inN_nat h1
      obtain ⟨m, rfl, _, _⟩ := inN_nat h2
      simp only [l1In_eq, Option.bind_some, decide_eq_true_eq, if_pos h1, decide_eq_true h2, if_pos (And.intro h1 h2), Int.toNat_natCast, Bool.not_true]
      refine Ev_suc ?_
      simp only [spec_CommonOf.j0, Bool.false_eq_true, if_false]
      exact spec_CommonOf_l m n
    · simp only [l1In_eq, Option.bind_some, decide_eq_true_eq, if_pos h1, decide_eq_false h2, if_neg (fun e : (1 ≤ a ∧ a ≤ 10000) ∧ (1 ≤ b ∧ b ≤ 10000) => h2 e.2), Bool.not_false]
      refine Ev_suc ?_
      simp only [spec_CommonOf.j0, if_true]
      exact Ev.now _
  · simp only [l1In_eq, Option.bind_some, decide_eq_true_eq, if_neg h1, if_neg (fun e : (1 ≤ a ∧ a ≤ 10000) ∧ (1 ≤ b ∧ b ≤ 10000) => h1 e.1)]
    refine Ev_suc ?_
    simp only [spec_CommonOf.j0, if_true]
    exact Ev.now _

/-- The sum of what all numbers up to n share with it. -/
def ssI (a : Int) : Int := if 1 ≤ a ∧ a ≤ 500 then T (fun k => ((Nat.gcd k a.toNat : Nat) : Int)) a.toNat else -1
theorem ss_small {n : Nat} (hn : 1 ≤ n) (hn2 : n ≤ 500) (c : Nat) : 0 ≤ T (fun k => ((Nat.gcd k n : Nat) : Int)) c ∧ T (fun k => ((Nat.gcd k n : Nat) : Int)) c ≤ (c : Int) * 500 := by
  refine ⟨T_nonneg (fun d => by omega) c, ?_⟩
  rw [← T_const (500 : Int) c]
  refine T_le c (fun d h1 h2 => ?_)
  have := Nat.gcd_le_right d (show 0 < n by omega)
  omega
theorem spec_SharedSum_l {n : Nat} (hn : 1 ≤ n) (hn2 : n ≤ 500) (d : Nat) : ∀ c, c ≤ n → n - c = d →
    Ev (fun k => spec_SharedSum.l0 k (n : Int) (T (fun k => ((Nat.gcd k n : Nat) : Int)) c) ((c + 1 : Nat) : Int)) (T (fun k => ((Nat.gcd k n : Nat) : Int)) n) := by
  induction d with
  | zero =>
    intro c h1 h2
    have e : c = n := by omega
    subst e
    refine Ev_suc ?_
    simp only [spec_SharedSum.l0, if_neg (show ¬ ((c + 1 : Nat) : Int) ≤ (c : Int) by omega)]
    exact Ev.now _
  | succ d ih =>
    intro c h1 h2
    refine Ev_suc ?_
    simp only [spec_SharedSum.l0, if_pos (show ((c + 1 : Nat) : Int) ≤ (n : Int) by omega)]
    have b1 := ss_small hn hn2 c
    have b2 : (c : Int) * 500 ≤ 500 * 500 := Int.mul_le_mul (by omega) (by omega) (by omega) (by omega)
    have b3 := Nat.gcd_le_right (c + 1) (show 0 < n by omega)
    refine Ev.bind (spec_CommonOf_ev _ _) ?_
    rw [cmI_nat (by omega) (by omega) hn (by omega), w64 (by omega) (by omega), w64_succ (by omega)]
    exact ih (c + 1) (by omega) (by omega)
theorem spec_SharedSum_ev (a : Int) : Ev (fun k => spec_SharedSum.f k a) (ssI a) := by
  unfold spec_SharedSum.f ssI
  by_cases h : 1 ≤ a ∧ a ≤ 500
  · obtain ⟨n, rfl, h1, h2⟩ := inN_nat (a := a) ⟨h.1, by omega⟩
    simp only [l1In_eq, Option.bind_some, decide_eq_true_eq, if_pos h, Int.toNat_natCast]
    exact spec_SharedSum_l h1 (by omega) n 0 (by omega) (by omega)
  · simp only [l1In_eq, Option.bind_some, decide_eq_true_eq, if_neg h]
    exact Ev.now _

theorem impl_gcd_l : ∀ (b a : Nat), Ev (fun k => impl_gcd.l0 k (a : Int) (b : Int)) ((Nat.gcd a b : Nat) : Int) := by
  intro b
  induction b using Nat.strongRecOn with
  | ind b ih =>
    intro a
    refine Ev_suc ?_
    simp only [impl_gcd.l0]
    by_cases hb : b = 0
    · subst hb
      simp only [Int.natCast_zero, if_true, Nat.gcd_zero_right]
      exact Ev.now _
    · have h : ¬ ((b : Int) = 0) := by omega
      simp only [if_neg h, tmod_nat]
      rw [Nat.gcd_comm a b, Nat.gcd_rec b a, Nat.gcd_comm]
      exact ih (a % b) (Nat.mod_lt _ (by omega)) b
theorem impl_gcd_ev (a b : Nat) : Ev (fun k => impl_gcd.f k (a : Int) (b : Int)) ((Nat.gcd a b : Nat) : Int) := impl_gcd_l b a

theorem impl_SharedSum_l {n : Nat} (hn : 1 ≤ n) (hn2 : n ≤ 500) (d : Nat) : ∀ c, c ≤ n → n - c = d →
    Ev (fun k => impl_SharedSum.l0 k (n : Int) (T (fun k => ((Nat.gcd k n : Nat) : Int)) c) ((c + 1 : Nat) : Int)) (T (fun k => ((Nat.gcd k n : Nat) : Int)) n) := by
  induction d with
  | zero =>
    intro c h1 h2
    have e : c = n := by omega
    subst e
    refine Ev_suc ?_
    simp only [impl_SharedSum.l0, if_neg (show ¬ ((c + 1 : Nat) : Int) ≤ (c : Int) by omega)]
    exact Ev.now _
  | succ d ih =>
    intro c h1 h2
    refine Ev_suc ?_
    simp only [impl_SharedSum.l0, if_pos (show ((c + 1 : Nat) : Int) ≤ (n : Int) by omega)]
    have b1 := ss_small hn hn2 c
    have b2 : (c : Int) * 500 ≤ 500 * 500 := Int.mul_le_mul (by omega) (by omega) (by omega) (by omega)
    have b3 := Nat.gcd_le_right (c + 1) (show 0 < n by omega)
    refine Ev.bind (impl_gcd_ev (c + 1) n) ?_
    rw [w64 (by omega) (by omega), w64_succ (by omega)]
    exact ih (c + 1) (by omega) (by omega)
theorem impl_SharedSum_no (a : Int) : Ev (fun k => impl_SharedSum.j0 k a true) (-1) := by
  refine Ev_suc ?_
  simp only [impl_SharedSum.j0, if_true]
  exact Ev.now _
theorem impl_SharedSum_ev (a : Int) : Ev (fun k => impl_SharedSum.f k a) (ssI a) := by
  unfold impl_SharedSum.f ssI
  by_cases h1 : a < 1
  · rw [if_neg (show ¬ (1 ≤ a ∧ a ≤ 500) by omega)]
    simp only [if_pos h1]
    exact impl_SharedSum_no a
  · by_cases h2 : a > 500
    · rw [if_neg (show ¬ (1 ≤ a ∧ a ≤ 500) by omega)]
      simp only [if_neg h1, decide_eq_true h2]
      exact impl_SharedSum_no a
    · rw [if_pos (show 1 ≤ a ∧ a ≤ 500 by omega)]
      obtain ⟨n, rfl, h3, h4⟩ := inN_nat (a := a) ⟨by omega, by omega⟩
      simp only [if_neg h1, decide_eq_false h2, Int.toNat_natCast]
      refine Ev_suc ?_
      simp only [impl_SharedSum.j0, Bool.false_eq_true, if_false]
      exact impl_SharedSum_l h3 (by omega) n 0 (by omega) (by omega)

theorem FnExactSharedSum : laws_FnExactSharedSum.Pure := by
  intro a _
  refine Ev.rounds (r := true) ?_
  unfold laws_FnExactSharedSum.f
  refine Ev.bind (spec_SharedSum_ev a) (Ev.bind (impl_SharedSum_ev a) ?_)
  simp only [if_true]
  exact Ev.now _

end Go.Proofs.Ytnbffmgjeeohgaa.Pure
