/- The program's OrderOf answers as the reference's, for every two whole numbers. No conditions. -/
import Derived.Test.YtnbffmgjeeohgaaPFnExactOrderOfx1
import Derived.Test.YtnbffmgjeeohgaaEvs
import Derived.Test.YtnbffmgjeeohgaaEuler
namespace Go.Proofs.Ytnbffmgjeeohgaa.Pure
open Go.RowKit Go.Proofs.Ytnbffmgjeeohgaa.PFnExactOrderOf Go.Proofs.YtnbffmgjeeohgaaW.PrintWords Go.Proofs.YtnbffmgjeeohgaaW.PrintLast Go.Proofs.YtnbffmgjeeohgaaW.PrintMore Go.Proofs.Ytnbffmgjeeohgaa.Math
set_option linter.unusedVariables false
set_option linter.unusedSimpArgs false

theorem l1In_eq (a lo hi : Int) : spec_l1In.f a lo hi = some (decide (lo ≤ a ∧ a ≤ hi)) := by
  unfold spec_l1In.f
  by_cases h : lo ≤ a
  · rw [if_pos h]; simp [h]
  · rw [if_neg h]; simp [h]

theorem spec_CommonOf_l : ∀ (b a : Nat), Ev (fun k => spec_CommonOf.l0 k (a : Int) (b : Int)) ((Nat.gcd a b : Nat) : Int) := by
  intro b
  induction b using Nat.strongRecOn with
  | ind b ih =>
    intro a
    refine Ev_suc ?_
    simp only [spec_CommonOf.l0]
    by_cases hb : b = 0
    · subst hb
      simp only [Int.natCast_zero, gt_iff_lt, Int.lt_irrefl, if_false, Nat.gcd_zero_right]
      exact Ev.now _
    · have h : ¬ ((b : Int) = 0) := by omega
      have h' : (b : Int) > 0 := by omega
      simp only [if_pos h', if_neg h, tmod_nat]
      rw [Nat.gcd_comm a b, Nat.gcd_rec b a, Nat.gcd_comm]
      exact ih (a % b) (Nat.mod_lt _ (by omega)) b
/-- What two numbers share, -1 where one is none. -/
def cmI (a b : Int) : Int := if inN a ∧ inN b then ((Nat.gcd a.toNat b.toNat : Nat) : Int) else -1
theorem cmI_nat {a b : Nat} (h1 : 1 ≤ a) (h2 : a ≤ 10000) (h3 : 1 ≤ b) (h4 : b ≤ 10000) : cmI a b = ((Nat.gcd a b : Nat) : Int) := by
  unfold cmI inN
  rw [if_pos (by omega)]; rfl
theorem spec_CommonOf_ev (a b : Int) : Ev (fun k => spec_CommonOf.f k a b) (cmI a b) := by
  unfold spec_CommonOf.f cmI inN
  by_cases h1 : 1 ≤ a ∧ a ≤ 10000
  · by_cases h2 : 1 ≤ b ∧ b ≤ 10000
    · obtain ⟨n, rfl, _, _⟩ := inN_nat h1
      obtain ⟨m, rfl, _, _⟩ := inN_nat h2
      simp only [l1In_eq, Option.bind_some, decide_eq_true_eq, if_pos h1, decide_eq_true h2, if_pos (And.intro h1 h2), Int.toNat_natCast, Bool.not_true]
      refine Ev_suc ?_
      simp only [spec_CommonOf.j0, Bool.false_eq_true, if_false]
      exact spec_CommonOf_l m n
    · simp only [l1In_eq, Option.bind_some, decide_eq_true_eq, if_pos h1, decide_eq_false h2, if_neg (fun e : (1 ≤ a ∧ a ≤ 10000) ∧ (1 ≤ b ∧ b ≤ 10000) => h2 e.2), Bool.not_false]
      refine Ev_suc ?_
      simp only [spec_CommonOf.j0, if_true]
      exact Ev.now _
  · simp only [l1In_eq, Option.bind_some, decide_eq_true_eq, if_neg h1, if_neg (fun e : (1 ≤ a ∧ a ≤ 10000) ∧ (1 ≤ b ∧ b ≤ 10000) => h1 e.1)]
    refine Ev_suc ?_
    simp only [spec_CommonOf.j0, if_true]
    exact Ev.now _

theorem spec_ApartOk_ev (a b : Int) : Ev (fun k => spec_ApartOk.f k a b) (cmI a b == 1) := by
  unfold spec_ApartOk.f
  exact Ev.bind (spec_CommonOf_ev a b) (Ev.now _)

/-- k is the least power from 1 on of a that leaves 1. -/
def IsOrd (a n k : Nat) : Prop := 1 ≤ k ∧ k ≤ n ∧ a ^ k % n = 1 % n ∧ ∀ j, 1 ≤ j → j < k → ¬ a ^ j % n = 1 % n
theorem IsOrd.only {a n k m : Nat} (h : IsOrd a n k) (h' : IsOrd a n m) : k = m := by
  rcases Nat.lt_trichotomy k m with e | e | e
  · exact absurd h.2.2.1 (h'.2.2.2 k h.1 e)
  · exact e
  · exact absurd h'.2.2.1 (h.2.2.2 m h'.1 e)
/-- The answer r of OrderOf. -/
def OrdI (a n r : Int) : Prop := (¬ (inN a ∧ (1 ≤ n ∧ n ≤ 500) ∧ Nat.gcd a.toNat n.toNat = 1) ∧ r = -1) ∨ (inN a ∧ (1 ≤ n ∧ n ≤ 500) ∧ Nat.gcd a.toNat n.toNat = 1 ∧ ∃ k : Nat, r = k ∧ IsOrd a.toNat n.toNat k)
theorem one_tmod' (n : Nat) : (1 : Int) % (n : Int) = ((1 % n : Nat) : Int) := rfl
theorem spec_OrderOf_l {a n m : Nat} (ha : a ≤ 10000) (hn : 1 ≤ n) (hn2 : n ≤ 500) (hm : IsOrd a n m) (d : Nat) : ∀ c, 1 ≤ c → c ≤ m → m - c = d →
    Ev (fun k => spec_OrderOf.l0 k (a : Int) (n : Int) ((a ^ c % n : Nat) : Int) (c : Int)) (m : Int) := by
  have hmn := hm.2.1
  induction d with
  | zero =>
    intro c h1 h2 h3
    have e : c = m := by omega
    subst e
    refine Ev_suc ?_
    have c0 : ¬ (n : Int) = 0 := by omega
    simp only [spec_OrderOf.l0, if_neg c0, one_tmod', hm.2.2.1, if_true]
    exact Ev.now _
  | succ d ih =>
    intro c h1 h2 h3
    refine Ev_suc ?_
    have c0 : ¬ (n : Int) = 0 := by omega
    have hne := hm.2.2.2 c h1 (by omega)
    have c1 : ¬ ((a ^ c % n : Nat) : Int) = ((1 % n : Nat) : Int) := fun e => hne (by omega)
    simp only [spec_OrderOf.l0, if_neg c0, one_tmod', if_neg c1, tmod_nat]
    have hs1 : a ^ c % n < n := Nat.mod_lt _ hn
    have hs2 : a % n < n := Nat.mod_lt _ hn
    have hb : a ^ c % n * (a % n) ≤ 500 * 500 := Nat.mul_le_mul (by omega) (by omega)
    rw [w64_mul (by omega), w64_succ (by omega)]
    simp only [tmod_nat]
    rw [← Nat.mul_mod, ← Nat.pow_succ]
    exact ih (c + 1) (by omega) (by omega) (by omega)
theorem spec_OrderOf_no (a n : Int) : Ev (fun k => spec_OrderOf.j0 k a n true) (-1) := by
  refine Ev_suc ?_
  simp only [spec_OrderOf.j0, if_true]
  exact Ev.now _
theorem cmI_one {a n : Int} : (cmI a n == 1) = true ↔ inN a ∧ inN n ∧ Nat.gcd a.toNat n.toNat = 1 := by
  unfold cmI
  by_cases h : inN a ∧ inN n
  · rw [if_pos h, beq_iff_eq]
    exact ⟨fun e => ⟨h.1, h.2, by omega⟩, fun e => by have := e.2.2; omega⟩
  · rw [if_neg h, beq_iff_eq]
    exact ⟨fun e => by omega, fun e => absurd ⟨e.1, e.2.1⟩ h⟩
theorem spec_OrderOf_ev {a n r : Int} (hr : OrdI a n r) : Ev (fun k => spec_OrderOf.f k a n) r := by
  unfold spec_OrderOf.f
  refine Ev.bind (spec_ApartOk_ev a n) ?_
  by_cases h : (cmI a n == 1) = true
  · obtain ⟨h1, h2, h3⟩ := cmI_one.1 h
    by_cases h4 : n > 500
    · simp only [h, if_true, decide_eq_true h4]
      rcases hr with ⟨_, rfl⟩ | ⟨_, e, _⟩
      · exact spec_OrderOf_no a n
      · omega
    · simp only [h, if_true, decide_eq_false h4]
      rcases hr with ⟨e, _⟩ | ⟨_, _, _, k, rfl, hk⟩
      · exact absurd ⟨h1, ⟨h2.1, by omega⟩, h3⟩ e
      · obtain ⟨x, rfl, x1, x2⟩ := inN_nat h1
        obtain ⟨m, rfl, m1, m2⟩ := inN_nat h2
        rw [Int.toNat_natCast, Int.toNat_natCast] at hk
        refine Ev_suc ?_
        have c0 : ¬ (m : Int) = 0 := by omega
        simp only [spec_OrderOf.j0, Bool.false_eq_true, if_false, if_neg c0, tmod_nat]
        have := spec_OrderOf_l x2 m1 (by omega) hk (k - 1) 1 (by omega) hk.1 rfl
        rw [Nat.pow_one] at this
        exact this
  · have h' : (cmI a n == 1) = false := by simpa using h
    simp only [h', Bool.false_eq_true, if_false]
    rcases hr with ⟨_, rfl⟩ | ⟨e1, e2, e3, _⟩
    · exact spec_OrderOf_no a n
    · exact absurd (cmI_one.2 ⟨e1, ⟨e2.1, by omega⟩, e3⟩) h
theorem OrdI_exists (a n : Int) : ∃ r, OrdI a n r := by
  by_cases h : inN a ∧ (1 ≤ n ∧ n ≤ 500) ∧ Nat.gcd a.toNat n.toNat = 1
  · obtain ⟨k, k1, k2, k3, k4⟩ := order_exists (a := a.toNat) (n := n.toNat) (by omega) h.2.2
    exact ⟨k, .inr ⟨h.1, h.2.1, h.2.2, k, rfl, k1, k2, k3, k4⟩⟩
  · exact ⟨-1, .inl ⟨h, rfl⟩⟩

theorem numberOk_eq (a : Int) : impl_numberOk.f a = some (decide (inN a)) := by
  unfold impl_numberOk.f inN
  by_cases h : 1 ≤ a
  · rw [if_pos h]; simp [h]
  · rw [if_neg h]; simp [h]

theorem impl_gcd_l : ∀ (b a : Nat), Ev (fun k => impl_gcd.l0 k (a : Int) (b : Int)) ((Nat.gcd a b : Nat) : Int) := by
  intro b
  induction b using Nat.strongRecOn with
  | ind b ih =>
    intro a
    refine Ev_suc ?_
    simp only [impl_gcd.l0]
    by_cases hb : b = 0
    · subst hb
      simp only [Int.natCast_zero, if_true, Nat.gcd_zero_right]
      exact Ev.now _
    · have h : ¬ ((b : Int) = 0) := by omega
      simp only [if_neg h, tmod_nat]
      rw [Nat.gcd_comm a b, Nat.gcd_rec b a, Nat.gcd_comm]
      exact ih (a % b) (Nat.mod_lt _ (by omega)) b
theorem impl_gcd_ev (a b : Nat) : Ev (fun k => impl_gcd.f k (a : Int) (b : Int)) ((Nat.gcd a b : Nat) : Int) := impl_gcd_l b a

theorem impl_CommonOf_ev (a b : Int) : Ev (fun k => impl_CommonOf.f k a b) (cmI a b) := by
  unfold impl_CommonOf.f cmI
  by_cases h1 : inN a
  · by_cases h2 : inN b
    · obtain ⟨n, rfl, _, _⟩ := inN_nat h1
      obtain ⟨m, rfl, _, _⟩ := inN_nat h2
      simp only [numberOk_eq, Option.bind_some, decide_eq_true_eq, if_pos h1, if_pos h2, if_pos (And.intro h1 h2), Int.toNat_natCast]
      exact Ev.bind (impl_gcd_ev n m) (Ev.now _)
    · simp only [numberOk_eq, Option.bind_some, decide_eq_true_eq, if_pos h1, if_neg h2, if_neg (fun e : inN a ∧ inN b => h2 e.2)]
      exact Ev.now _
  · simp only [numberOk_eq, Option.bind_some, decide_eq_true_eq, if_neg h1, if_neg (fun e : inN a ∧ inN b => h1 e.1)]
    exact Ev.now _

theorem impl_ApartOk_ev (a b : Int) : Ev (fun k => impl_ApartOk.f k a b) (cmI a b == 1) := by
  unfold impl_ApartOk.f
  exact Ev.bind (impl_CommonOf_ev a b) (Ev.now _)

theorem impl_OrderOf_l {a n m : Nat} (ha : a ≤ 10000) (hn : 1 ≤ n) (hn2 : n ≤ 500) (hm : IsOrd a n m) (d : Nat) : ∀ c, 1 ≤ c → c ≤ m → m - c = d →
    Ev (fun k => impl_OrderOf.l0 k (a : Int) (n : Int) (c : Int) ((a ^ c % n : Nat) : Int)) (m : Int) := by
  have hmn := hm.2.1
  induction d with
  | zero =>
    intro c h1 h2 h3
    have e : c = m := by omega
    subst e
    refine Ev_suc ?_
    have c0 : ¬ (n : Int) = 0 := by omega
    simp only [impl_OrderOf.l0, if_neg c0, one_tmod', hm.2.2.1, if_true]
    exact Ev.now _
  | succ d ih =>
    intro c h1 h2 h3
    refine Ev_suc ?_
    have c0 : ¬ (n : Int) = 0 := by omega
    have hne := hm.2.2.2 c h1 (by omega)
    have c1 : ¬ ((a ^ c % n : Nat) : Int) = ((1 % n : Nat) : Int) := fun e => hne (by omega)
    simp only [impl_OrderOf.l0, if_neg c0, one_tmod', if_neg c1]
    have hs1 : a ^ c % n < n := Nat.mod_lt _ hn
    have hb : a ^ c % n * a ≤ 500 * 10000 := Nat.mul_le_mul (by omega) ha
    rw [w64_mul (by omega), w64_succ (by omega)]
    simp only [tmod_nat]
    have e : a ^ c % n * a % n = a ^ (c + 1) % n := by rw [Nat.pow_succ, Nat.mod_mul_mod]
    rw [e]
    exact ih (c + 1) (by omega) (by omega) (by omega)
theorem impl_OrderOf_no (a n : Int) : Ev (fun k => impl_OrderOf.j0 k a n true) (-1) := by
  refine Ev_suc ?_
  simp only [impl_OrderOf.j0, if_true]
  exact Ev.now _
theorem impl_OrderOf_ev {a n r : Int} (hr : OrdI a n r) : Ev (fun k => impl_OrderOf.f k a n) r := by
  unfold impl_OrderOf.f
  by_cases h1 : n < 1
  · simp only [if_pos h1]
    rcases hr with ⟨_, rfl⟩ | ⟨_, e, _⟩
    · exact impl_OrderOf_no a n
    · omega
  by_cases h4 : n > 500
  · simp only [if_neg h1, if_pos h4]
    rcases hr with ⟨_, rfl⟩ | ⟨_, e, _⟩
    · exact impl_OrderOf_no a n
    · omega
  simp only [if_neg h1, if_neg h4]
  refine Ev.bind (impl_ApartOk_ev a n) ?_
  by_cases h : (cmI a n == 1) = true
  · obtain ⟨h1, h2, h3⟩ := cmI_one.1 h
    simp only [h, Bool.not_true]
    rcases hr with ⟨e, _⟩ | ⟨_, _, _, k, rfl, hk⟩
    · exact absurd ⟨h1, ⟨h2.1, by omega⟩, h3⟩ e
    · obtain ⟨x, rfl, x1, x2⟩ := inN_nat h1
      obtain ⟨m, rfl, m1, m2⟩ := inN_nat h2
      rw [Int.toNat_natCast, Int.toNat_natCast] at hk
      refine Ev_suc ?_
      have c0 : ¬ (m : Int) = 0 := by omega
      simp only [impl_OrderOf.j0, Bool.false_eq_true, if_false, if_neg c0, tmod_nat]
      have := impl_OrderOf_l x2 m1 (by omega) hk (k - 1) 1 (by omega) hk.1 rfl
      rw [Nat.pow_one] at this
      exact this
  · have h' : (cmI a n == 1) = false := by simpa using h
    simp only [h', Bool.not_false]
    rcases hr with ⟨_, rfl⟩ | ⟨e1, e2, e3, _⟩
    · exact impl_OrderOf_no a n
    · exact absurd (cmI_one.2 ⟨e1, ⟨e2.1, by omega⟩, e3⟩) h

theorem FnExactOrderOf : laws_FnExactOrderOf.Pure := by
  intro a n _ _
  obtain ⟨r, hr⟩ := OrdI_exists a n
  refine Ev.rounds (r := true) ?_
  unfold laws_FnExactOrderOf.f
  refine Ev.bind (spec_OrderOf_ev hr) (Ev.bind (impl_OrderOf_ev hr) ?_)
  simp only [if_true]
  exact Ev.now _

end Go.Proofs.Ytnbffmgjeeohgaa.Pure
