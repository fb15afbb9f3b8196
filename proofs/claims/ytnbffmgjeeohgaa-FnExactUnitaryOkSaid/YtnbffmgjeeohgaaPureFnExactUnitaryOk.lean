/- The program's UnitaryOk answers as the reference's, for every two whole numbers. No conditions. -/
import Derived.Test.YtnbffmgjeeohgaaPFnExactUnitaryOkx1
import Derived.Test.YtnbffmgjeeohgaaEvs
namespace Go.Proofs.Ytnbffmgjeeohgaa.Pure
open Go.RowKit Go.Proofs.Ytnbffmgjeeohgaa.PFnExactUnitaryOk Go.Proofs.YtnbffmgjeeohgaaW.PrintWords Go.Proofs.YtnbffmgjeeohgaaW.PrintLast Go.Proofs.YtnbffmgjeeohgaaW.PrintMore Go.Proofs.Ytnbffmgjeeohgaa.Math
set_option linter.unusedVariables false
set_option linter.unusedSimpArgs false

theorem l1In_eq (a lo hi : Int) : spec_l1In.f a lo hi = some (decide (lo ≤ a ∧ a ≤ hi)) := by
  unfold spec_l1In.f
  by_cases h : lo ≤ a
  · rw [if_pos h]; simp [h]
  · rw [if_neg h]; simp [h]

/-- Does a number divide another one, both from 1 up to the greatest number? -/
def dvI (d n : Int) : Bool := decide (inN d ∧ inN n ∧ n.toNat % d.toNat = 0)
theorem spec_DividesOk_eq (d n : Int) : spec_DividesOk.f d n = some (dvI d n) := by
  unfold spec_DividesOk.f dvI inN
  by_cases h1 : 1 ≤ d ∧ d ≤ 10000
  · by_cases h2 : 1 ≤ n ∧ n ≤ 10000
    · obtain ⟨a, rfl, _, _⟩ := inN_nat h1
      obtain ⟨b, rfl, _, _⟩ := inN_nat h2
      have h0 : ¬ ((a : Int) = 0) := by omega
      simp only [l1In_eq, Option.bind_some, decide_eq_true_eq, if_pos h1, if_pos h2, if_neg h0, tmod_nat, Int.toNat_natCast, h1, h2, and_self, true_and]
      congr 1
      by_cases e : b % a = 0
      · simp [e]
      · simp [e]; omega
    · simp only [l1In_eq, Option.bind_some, decide_eq_true_eq, if_pos h1, if_neg h2]
      simp [h2]
  · simp only [l1In_eq, Option.bind_some, decide_eq_true_eq, if_neg h1]
    simp [h1]

theorem spec_CommonOf_l : ∀ (b a : Nat), Ev (fun k => spec_CommonOf.l0 k (a : Int) (b : Int)) ((Nat.gcd a b : Nat) : Int) := by
  intro b
  induction b using Nat.strongRecOn with
  | ind b ih =>
    intro a
    refine Ev_suc ?_
    simp only [spec_CommonOf.l0]
    by_cases hb : b = 0
    · subst hb
      simp only [Int.natCast_zero, gt_iff_lt, Int.lt_irrefl, if_false, Nat.gcd_zero_right]
      exact Ev.now _
    · have h : ¬ ((b : Int) = 0) := by omega
      have h' : (b : Int) > 0 := by omega
      simp only [if_pos h', if_neg h, tmod_nat]
      rw [Nat.gcd_comm a b, Nat.gcd_rec b a, Nat.gcd_comm]
      exact ih (a % b) (Nat.mod_lt _ (by omega)) b
/-- What two numbers share, -1 where one is none. -/
def cmI (a b : Int) : Int := if inN a ∧ inN b then ((Nat.gcd a.toNat b.toNat : Nat) : Int) else -1
theorem cmI_nat {a b : Nat} (h1 : 1 ≤ a) (h2 : a ≤ 10000) (h3 : 1 ≤ b) (h4 : b ≤ 10000) : cmI a b = ((Nat.gcd a b : Nat) : Int) := by
  unfold cmI inN
  rw [if_pos (by omega)]; rfl
theorem spec_CommonOf_ev (a b : Int) : Ev (fun k => spec_CommonOf.f k a b) (cmI a b) := by
  unfold spec_CommonOf.f cmI inN
  by_cases h1 : 1 ≤ a ∧ a ≤ 10000
  · by_cases h2 : 1 ≤ b ∧ b ≤ 10000
    · obtain ⟨n, rfl, _, _⟩ := inN_nat h1
      obtain ⟨m, rfl, _, _⟩ := inN_nat h2
      simp only [l1In_eq, Option.bind_some, decide_eq_true_eq, if_pos h1, decide_eq_true h2, if_pos (And.intro h1 h2), Int.toNat_natCast, Bool.not_true]
      refine Ev_suc ?_
      simp only [spec_CommonOf.j0, Bool.false_eq_true, if_false]
      exact spec_CommonOf_l m n
    · simp only [l1In_eq, Option.bind_some, decide_eq_true_eq, if_pos h1, decide_eq_false h2, if_neg (fun e : (1 ≤ a ∧ a ≤ 10000) ∧ (1 ≤ b ∧ b ≤ 10000) => h2 e.2), Bool.not_false]
      refine Ev_suc ?_
      simp only [spec_CommonOf.j0, if_true]
      exact Ev.now _
  · simp only [l1In_eq, Option.bind_some, decide_eq_true_eq, if_neg h1, if_neg (fun e : (1 ≤ a ∧ a ≤ 10000) ∧ (1 ≤ b ∧ b ≤ 10000) => h1 e.1)]
    refine Ev_suc ?_
    simp only [spec_CommonOf.j0, if_true]
    exact Ev.now _

theorem spec_ApartOk_ev (a b : Int) : Ev (fun k => spec_ApartOk.f k a b) (cmI a b == 1) := by
  unfold spec_ApartOk.f
  exact Ev.bind (spec_CommonOf_ev a b) (Ev.now _)

/-- Is a number a unitary divisor of another one? -/
def unI (d n : Int) : Bool := dvI d n && decide (Nat.gcd d.toNat (n.toNat / d.toNat) = 1)
theorem dvI_nat {d n : Int} (h : dvI d n = true) : ∃ a b : Nat, d = (a : Int) ∧ n = (b : Int) ∧ 1 ≤ a ∧ a ≤ 10000 ∧ 1 ≤ b ∧ b ≤ 10000 ∧ b % a = 0 := by
  unfold dvI at h
  obtain ⟨h1, h2, h3⟩ := of_decide_eq_true h
  obtain ⟨a, rfl, _, _⟩ := inN_nat h1
  obtain ⟨b, rfl, _, _⟩ := inN_nat h2
  exact ⟨a, b, rfl, rfl, by assumption, by assumption, by assumption, by assumption, h3⟩
theorem div_in {a b : Nat} (h1 : 1 ≤ a) (h2 : 1 ≤ b) (h3 : b % a = 0) : 1 ≤ b / a := Nat.div_pos (Nat.le_of_dvd h2 (mod_dvd.1 h3)) h1
theorem spec_UnitaryOk_ev (d n : Int) : Ev (fun k => spec_UnitaryOk.f k d n) (unI d n) := by
  unfold spec_UnitaryOk.f unI
  by_cases h : dvI d n = true
  · obtain ⟨a, b, rfl, rfl, h1, h2, h3, h4, h5⟩ := dvI_nat h
    have h0 : ¬ ((a : Int) = 0) := by omega
    have hq := div_in h1 h3 h5
    have hq' : b / a ≤ b := Nat.div_le_self b a
    simp only [spec_DividesOk_eq, Option.bind_some, h, if_true, if_neg h0, w64_div (show b ≤ 9223372036854775807 by omega), Int.toNat_natCast, Bool.true_and]
    refine Ev.bind (spec_ApartOk_ev _ _) ?_
    rw [cmI_nat h1 h2 hq (by omega)]
    have e : (((Nat.gcd a (b / a) : Nat) : Int) == 1) = decide (Nat.gcd a (b / a) = 1) := by
      by_cases e : Nat.gcd a (b / a) = 1
      · simp [e]
      · simp [e]; omega
    rw [e]
    exact Ev.now _
  · simp only [spec_DividesOk_eq, Option.bind_some, h, Bool.false_eq_true, if_false, Bool.false_and]
    exact Ev.now _

theorem numberOk_eq (a : Int) : impl_numberOk.f a = some (decide (inN a)) := by
  unfold impl_numberOk.f inN
  by_cases h : 1 ≤ a
  · rw [if_pos h]; simp [h]
  · rw [if_neg h]; simp [h]

theorem impl_DividesOk_eq (d n : Int) : impl_DividesOk.f d n = some (dvI d n) := by
  unfold impl_DividesOk.f dvI
  by_cases h1 : inN d
  · by_cases h2 : inN n
    · obtain ⟨a, rfl, _, _⟩ := inN_nat h1
      obtain ⟨b, rfl, _, _⟩ := inN_nat h2
      have h0 : ¬ ((a : Int) = 0) := by omega
      simp only [numberOk_eq, Option.bind_some, decide_eq_true_eq, if_pos h1, if_pos h2, if_neg h0, tmod_nat, Int.toNat_natCast, h1, h2, true_and]
      congr 1
      by_cases e : b % a = 0
      · simp [e]
      · simp [e]; omega
    · simp only [numberOk_eq, Option.bind_some, decide_eq_true_eq, if_pos h1, if_neg h2]
      simp [h2]
  · simp only [numberOk_eq, Option.bind_some, decide_eq_true_eq, if_neg h1]
    simp [h1]

theorem impl_gcd_l : ∀ (b a : Nat), Ev (fun k => impl_gcd.l0 k (a : Int) (b : Int)) ((Nat.gcd a b : Nat) : Int) := by
  intro b
  induction b using Nat.strongRecOn with
  | ind b ih =>
    intro a
    refine Ev_suc ?_
    simp only [impl_gcd.l0]
    by_cases hb : b = 0
    · subst hb
      simp only [Int.natCast_zero, if_true, Nat.gcd_zero_right]
      exact Ev.now _
    · have h : ¬ ((b : Int) = 0) := by omega
      simp only [if_neg h, tmod_nat]
      rw [Nat.gcd_comm a b, Nat.gcd_rec b a, Nat.gcd_comm]
      exact ih (a % b) (Nat.mod_lt _ (by omega)) b
theorem impl_gcd_ev (a b : Nat) : Ev (fun k => impl_gcd.f k (a : Int) (b : Int)) ((Nat.gcd a b : Nat) : Int) := impl_gcd_l b a

theorem impl_UnitaryOk_ev (d n : Int) : Ev (fun k => impl_UnitaryOk.f k d n) (unI d n) := by
  unfold impl_UnitaryOk.f unI
  by_cases h : dvI d n = true
  · obtain ⟨a, b, rfl, rfl, h1, h2, h3, h4, h5⟩ := dvI_nat h
    have h0 : ¬ ((a : Int) = 0) := by omega
    simp only [impl_DividesOk_eq, Option.bind_some, h, if_true, if_neg h0, w64_div (show b ≤ 9223372036854775807 by omega), Int.toNat_natCast, Bool.true_and]
    refine Ev.bind (impl_gcd_ev _ _) ?_
    have e : (((Nat.gcd a (b / a) : Nat) : Int) == 1) = decide (Nat.gcd a (b / a) = 1) := by
      by_cases e : Nat.gcd a (b / a) = 1
      · simp [e]
      · simp [e]; omega
    rw [e]
    exact Ev.now _
  · simp only [impl_DividesOk_eq, Option.bind_some, h, Bool.false_eq_true, if_false, Bool.false_and]
    exact Ev.now _

theorem FnExactUnitaryOk : laws_FnExactUnitaryOk.Pure := by
  intro a b _ _
  refine Ev.rounds (r := true) ?_
  unfold laws_FnExactUnitaryOk.f
  refine Ev.bind (spec_UnitaryOk_ev a b) (Ev.bind (impl_UnitaryOk_ev a b) ?_)
  simp only [bne_self_eq_false, Bool.false_eq_true, if_false]
  exact Ev.now _

end Go.Proofs.Ytnbffmgjeeohgaa.Pure
