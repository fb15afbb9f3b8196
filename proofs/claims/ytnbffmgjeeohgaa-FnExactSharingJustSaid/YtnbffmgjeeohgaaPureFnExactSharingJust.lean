/- The program's SharingJust answers as the reference's, for every two whole numbers. No conditions. -/
import Derived.Test.YtnbffmgjeeohgaaPFnExactSharingJustx1
import Derived.Test.YtnbffmgjeeohgaaEvs
namespace Go.Proofs.Ytnbffmgjeeohgaa.Pure
open Go.RowKit Go.Proofs.Ytnbffmgjeeohgaa.PFnExactSharingJust Go.Proofs.YtnbffmgjeeohgaaW.PrintWords Go.Proofs.YtnbffmgjeeohgaaW.PrintLast Go.Proofs.YtnbffmgjeeohgaaW.PrintMore Go.Proofs.Ytnbffmgjeeohgaa.Math
set_option linter.unusedVariables false
set_option linter.unusedSimpArgs false

theorem l1In_eq (a lo hi : Int) : spec_l1In.f a lo hi = some (decide (lo ≤ a ∧ a ≤ hi)) := by
  unfold spec_l1In.f
  by_cases h : lo ≤ a
  · rw [if_pos h]; simp [h]
  · rw [if_neg h]; simp [h]

/-- Does a number divide another one, both from 1 up to the greatest number? -/
def dvI (d n : Int) : Bool := decide (inN d ∧ inN n ∧ n.toNat % d.toNat = 0)
theorem dvI_nat {d n : Int} (h : dvI d n = true) : ∃ a b : Nat, d = (a : Int) ∧ n = (b : Int) ∧ 1 ≤ a ∧ a ≤ 10000 ∧ 1 ≤ b ∧ b ≤ 10000 ∧ b % a = 0 := by
  unfold dvI at h
  obtain ⟨h1, h2, h3⟩ := of_decide_eq_true h
  obtain ⟨a, rfl, _, _⟩ := inN_nat h1
  obtain ⟨b, rfl, _, _⟩ := inN_nat h2
  exact ⟨a, b, rfl, rfl, by assumption, by assumption, by assumption, by assumption, h3⟩
theorem spec_DividesOk_eq (d n : Int) : spec_DividesOk.f d n = some (dvI d n) := by
  unfold spec_DividesOk.f dvI inN
  by_cases h1 : 1 ≤ d ∧ d ≤ 10000
  · by_cases h2 : 1 ≤ n ∧ n ≤ 10000
    · obtain ⟨a, rfl, _, _⟩ := inN_nat h1
      obtain ⟨b, rfl, _, _⟩ := inN_nat h2
      have h0 : ¬ ((a : Int) = 0) := by omega
      simp only [l1In_eq, Option.bind_some, decide_eq_true_eq, if_pos h1, if_pos h2, if_neg h0, tmod_nat, Int.toNat_natCast, h1, h2, and_self, true_and]
      congr 1
      by_cases e : b % a = 0
      · simp [e]
      · simp [e]; omega
    · simp only [l1In_eq, Option.bind_some, decide_eq_true_eq, if_pos h1, if_neg h2]
      simp [h2]
  · simp only [l1In_eq, Option.bind_some, decide_eq_true_eq, if_neg h1]
    simp [h1]

theorem spec_CommonOf_l : ∀ (b a : Nat), Ev (fun k => spec_CommonOf.l0 k (a : Int) (b : Int)) ((Nat.gcd a b : Nat) : Int) := by
  intro b
  induction b using Nat.strongRecOn with
  | ind b ih =>
    intro a
    refine Ev_suc ?_
    simp only [spec_CommonOf.l0]
    by_cases hb : b = 0
    · subst hb
      simp only [Int.natCast_zero, gt_iff_lt, Int.lt_irrefl, if_false, Nat.gcd_zero_right]
      exact Ev.now _
    · have h : ¬ ((b : Int) = 0) := by omega
      have h' : (b : Int) > 0 := by omega
      simp only [if_pos h', if_neg h, tmod_nat]
      rw [Nat.gcd_comm a b, Nat.gcd_rec b a, Nat.gcd_comm]
      exact ih (a % b) (Nat.mod_lt _ (by omega)) b
/-- What two numbers share, -1 where one is none. -/
def cmI (a b : Int) : Int := if inN a ∧ inN b then ((Nat.gcd a.toNat b.toNat : Nat) : Int) else -1
theorem cmI_nat {a b : Nat} (h1 : 1 ≤ a) (h2 : a ≤ 10000) (h3 : 1 ≤ b) (h4 : b ≤ 10000) : cmI a b = ((Nat.gcd a b : Nat) : Int) := by
  unfold cmI inN
  rw [if_pos (by omega)]; rfl
theorem spec_CommonOf_ev (a b : Int) : Ev (fun k => spec_CommonOf.f k a b) (cmI a b) := by
  unfold spec_CommonOf.f cmI inN
  by_cases h1 : 1 ≤ a ∧ a ≤ 10000
  · by_cases h2 : 1 ≤ b ∧ b ≤ 10000
    · obtain ⟨n, rfl, _, _⟩ := inN_nat h1
      obtain ⟨m, rfl, _, _⟩ := inN_nat h2
      simp only [l1In_eq, Option.bind_some, decide_eq_true_eq, if_pos h1, decide_eq_true h2, if_pos (And.intro h1 h2), Int.toNat_natCast, Bool.not_true]
      refine Ev_suc ?_
      simp only [spec_CommonOf.j0, Bool.false_eq_true, if_false]
      exact spec_CommonOf_l m n
    · simp only [l1In_eq, Option.bind_some, decide_eq_true_eq, if_pos h1, decide_eq_false h2, if_neg (fun e : (1 ≤ a ∧ a ≤ 10000) ∧ (1 ≤ b ∧ b ≤ 10000) => h2 e.2), Bool.not_false]
      refine Ev_suc ?_
      simp only [spec_CommonOf.j0, if_true]
      exact Ev.now _
  · simp only [l1In_eq, Option.bind_some, decide_eq_true_eq, if_neg h1, if_neg (fun e : (1 ≤ a ∧ a ≤ 10000) ∧ (1 ≤ b ∧ b ≤ 10000) => h1 e.1)]
    refine Ev_suc ?_
    simp only [spec_CommonOf.j0, if_true]
    exact Ev.now _

/-- How many numbers up to n share just d with it. -/
def shT (n : Nat) (d : Int) (k : Nat) : Int := if ((Nat.gcd k n : Nat) : Int) = d then 1 else 0
def sjI (a d : Int) : Int := if dvI d a = true ∧ a ≤ 500 then T (shT a.toNat d) a.toNat else -1
theorem sh_small (n : Nat) (d : Int) (c : Nat) : 0 ≤ T (shT n d) c ∧ T (shT n d) c ≤ (c : Int) := by
  refine ⟨T_nonneg (fun k => by unfold shT; split <;> omega) c, ?_⟩
  have e := T_const (1 : Int) c
  rw [Int.mul_one] at e
  rw [← e]
  refine T_le c (fun k _ _ => ?_)
  unfold shT
  split <;> omega
theorem shT_succ (n : Nat) (d : Int) (c : Nat) : T (shT n d) (c + 1) = if ((Nat.gcd (c + 1) n : Nat) : Int) = d then T (shT n d) c + 1 else T (shT n d) c := by
  simp only [T]
  unfold shT
  split <;> omega
theorem spec_SharingJust_l {n : Nat} {d0 : Int} (hn : 1 ≤ n) (hn2 : n ≤ 500) (d : Nat) : ∀ c, c ≤ n → n - c = d →
    Ev (fun k => spec_SharingJust.l0 k (n : Int) d0 (T (shT n d0) c) ((c + 1 : Nat) : Int)) (T (shT n d0) n) := by
  induction d with
  | zero =>
    intro c h1 h2
    have e : c = n := by omega
    subst e
    refine Ev_suc ?_
    simp only [spec_SharingJust.l0, if_neg (show ¬ ((c + 1 : Nat) : Int) ≤ (c : Int) by omega)]
    exact Ev.now _
  | succ d ih =>
    intro c h1 h2
    refine Ev_suc ?_
    simp only [spec_SharingJust.l0, if_pos (show ((c + 1 : Nat) : Int) ≤ (n : Int) by omega)]
    have b1 := sh_small n d0 c
    have next := ih (c + 1) (by omega) (by omega)
    rw [shT_succ] at next
    refine Ev.bind (spec_CommonOf_ev _ _) ?_
    rw [cmI_nat (by omega) (by omega) hn (by omega), w64_succ (by omega), w64 (by omega) (by omega)]
    by_cases e : ((Nat.gcd (c + 1) n : Nat) : Int) = d0
    · simp only [if_pos e] at next ⊢; exact next
    · simp only [if_neg e] at next ⊢; exact next
theorem spec_SharingJust_no (a d : Int) : Ev (fun k => spec_SharingJust.j0 k a d true) (-1) := by
  refine Ev_suc ?_
  simp only [spec_SharingJust.j0, if_true]
  exact Ev.now _
theorem spec_SharingJust_ev (a d : Int) : Ev (fun k => spec_SharingJust.f k a d) (sjI a d) := by
  unfold spec_SharingJust.f sjI
  by_cases h : dvI d a = true
  · by_cases h2 : a > 500
    · rw [if_neg (fun e => by have := e.2; omega)]
      simp only [spec_DividesOk_eq, Option.bind_some, if_pos h, decide_eq_true h2]
      exact spec_SharingJust_no a d
    · rw [if_pos ⟨h, by omega⟩]
      simp only [spec_DividesOk_eq, Option.bind_some, if_pos h, decide_eq_false h2]
      obtain ⟨x, n, rfl, rfl, a1, a2, a3, a4, a5⟩ := dvI_nat h
      refine Ev_suc ?_
      simp only [spec_SharingJust.j0, Bool.false_eq_true, if_false, Int.toNat_natCast]
      exact spec_SharingJust_l a3 (by omega) n 0 (by omega) (by omega)
  · rw [if_neg (fun e => h e.1)]
    simp only [spec_DividesOk_eq, Option.bind_some, if_neg h]
    exact spec_SharingJust_no a d

theorem numberOk_eq (a : Int) : impl_numberOk.f a = some (decide (inN a)) := by
  unfold impl_numberOk.f inN
  by_cases h : 1 ≤ a
  · rw [if_pos h]; simp [h]
  · rw [if_neg h]; simp [h]

theorem impl_DividesOk_eq (d n : Int) : impl_DividesOk.f d n = some (dvI d n) := by
  unfold impl_DividesOk.f dvI
  by_cases h1 : inN d
  · by_cases h2 : inN n
    · obtain ⟨a, rfl, _, _⟩ := inN_nat h1
      obtain ⟨b, rfl, _, _⟩ := inN_nat h2
      have h0 : ¬ ((a : Int) = 0) := by omega
      simp only [numberOk_eq, Option.bind_some, decide_eq_true_eq, if_pos h1, if_pos h2, if_neg h0, tmod_nat, Int.toNat_natCast, h1, h2, true_and]
      congr 1
      by_cases e : b % a = 0
      · simp [e]
      · simp [e]; omega
    · simp only [numberOk_eq, Option.bind_some, decide_eq_true_eq, if_pos h1, if_neg h2]
      simp [h2]
  · simp only [numberOk_eq, Option.bind_some, decide_eq_true_eq, if_neg h1]
    simp [h1]

theorem impl_gcd_l : ∀ (b a : Nat), Ev (fun k => impl_gcd.l0 k (a : Int) (b : Int)) ((Nat.gcd a b : Nat) : Int) := by
  intro b
  induction b using Nat.strongRecOn with
  | ind b ih =>
    intro a
    refine Ev_suc ?_
    simp only [impl_gcd.l0]
    by_cases hb : b = 0
    · subst hb
      simp only [Int.natCast_zero, if_true, Nat.gcd_zero_right]
      exact Ev.now _
    · have h : ¬ ((b : Int) = 0) := by omega
      simp only [if_neg h, tmod_nat]
      rw [Nat.gcd_comm a b, Nat.gcd_rec b a, Nat.gcd_comm]
      exact ih (a % b) (Nat.mod_lt _ (by omega)) b
theorem impl_gcd_ev (a b : Nat) : Ev (fun k => impl_gcd.f k (a : Int) (b : Int)) ((Nat.gcd a b : Nat) : Int) := impl_gcd_l b a

theorem impl_SharingJust_l {n : Nat} {d0 : Int} (hn : 1 ≤ n) (hn2 : n ≤ 500) (d : Nat) : ∀ c, c ≤ n → n - c = d →
    Ev (fun k => impl_SharingJust.l0 k (n : Int) d0 (T (shT n d0) c) ((c + 1 : Nat) : Int)) (T (shT n d0) n) := by
  induction d with
  | zero =>
    intro c h1 h2
    have e : c = n := by omega
    subst e
    refine Ev_suc ?_
    simp only [impl_SharingJust.l0, if_neg (show ¬ ((c + 1 : Nat) : Int) ≤ (c : Int) by omega)]
    exact Ev.now _
  | succ d ih =>
    intro c h1 h2
    refine Ev_suc ?_
    simp only [impl_SharingJust.l0, if_pos (show ((c + 1 : Nat) : Int) ≤ (n : Int) by omega)]
    have b1 := sh_small n d0 c
    have next := ih (c + 1) (by omega) (by omega)
    rw [shT_succ] at next
    refine Ev.bind (impl_gcd_ev (c + 1) n) ?_
    rw [w64_succ (by omega), w64 (by omega) (by omega)]
    by_cases e : ((Nat.gcd (c + 1) n : Nat) : Int) = d0
    · simp only [if_pos e] at next ⊢; exact next
    · simp only [if_neg e] at next ⊢; exact next
theorem impl_SharingJust_no (a d : Int) : Ev (fun k => impl_SharingJust.j0 k a d true) (-1) := by
  refine Ev_suc ?_
  simp only [impl_SharingJust.j0, if_true]
  exact Ev.now _
theorem impl_SharingJust_ev (a d : Int) : Ev (fun k => impl_SharingJust.f k a d) (sjI a d) := by
  unfold impl_SharingJust.f sjI
  by_cases h1 : a < 1
  · rw [if_neg (fun e => by have := of_decide_eq_true (show decide _ = true from e.1); have := this.2.1.1; omega)]
    simp only [if_pos h1]
    exact impl_SharingJust_no a d
  · by_cases h2 : a > 500
    · rw [if_neg (fun e => by have := e.2; omega)]
      simp only [if_neg h1, if_pos h2]
      exact impl_SharingJust_no a d
    · by_cases h : dvI d a = true
      · rw [if_pos ⟨h, by omega⟩]
        simp only [if_neg h1, if_neg h2, impl_DividesOk_eq, Option.bind_some, h, Bool.not_true]
        obtain ⟨x, n, rfl, rfl, a1, a2, a3, a4, a5⟩ := dvI_nat h
        refine Ev_suc ?_
        simp only [impl_SharingJust.j0, Bool.false_eq_true, if_false, Int.toNat_natCast]
        exact impl_SharingJust_l a3 (by omega) n 0 (by omega) (by omega)
      · rw [if_neg (fun e => h e.1)]
        have h' : dvI d a = false := by simpa using h
        simp only [if_neg h1, if_neg h2, impl_DividesOk_eq, Option.bind_some, h', Bool.not_false]
        exact impl_SharingJust_no a d

theorem FnExactSharingJust : laws_FnExactSharingJust.Pure := by
  intro a d _ _
  refine Ev.rounds (r := true) ?_
  unfold laws_FnExactSharingJust.f
  refine Ev.bind (spec_SharingJust_ev a d) (Ev.bind (impl_SharingJust_ev a d) ?_)
  simp only [if_true]
  exact Ev.now _

end Go.Proofs.Ytnbffmgjeeohgaa.Pure
