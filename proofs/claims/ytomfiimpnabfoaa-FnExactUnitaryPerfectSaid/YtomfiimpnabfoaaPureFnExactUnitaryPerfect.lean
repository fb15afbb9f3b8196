/- The program's UnitaryPerfect answers as the reference's, for every whole number. No conditions. -/
import Derived.Test.YtomfiimpnabfoaaOFnExactUnitaryPerfectx2
import Derived.Test.YtomfiimpnabfoaaEvs
import Derived.Test.YtomfiimpnabfoaaMul
namespace Go.Proofs.Ytomfiimpnabfoaa.Pure
open Go.RowKit Go.Proofs.Ytomfiimpnabfoaa.PFnExactUnitaryPerfect Go.Proofs.YtomfiimpnabfoaaW.PrintWords Go.Proofs.YtomfiimpnabfoaaW.PrintLast Go.Proofs.YtomfiimpnabfoaaW.PrintMore Go.Proofs.Ytomfiimpnabfoaa.Math
set_option linter.unusedVariables false
set_option linter.unusedSimpArgs false

theorem l1In_eq (a lo hi : Int) : spec_l1In.f a lo hi = some (decide (lo ≤ a ∧ a ≤ hi)) := by
  unfold spec_l1In.f
  by_cases h : lo ≤ a
  · rw [if_pos h]; simp [h]
  · rw [if_neg h]; simp [h]

theorem numberOk_eq (a : Int) : impl_numberOk.f a = some (decide (inN a)) := by
  unfold impl_numberOk.f inN
  by_cases h : 1 ≤ a
  · rw [if_pos h]; simp [h]
  · rw [if_neg h]; simp [h]

/-- The list of primes as the program has it. -/
def facI (l : List (Nat × Nat)) : List (List Int) := l.map (fun x => [(x.1 : Int), (x.2 : Int)])
/-- The same of whatever number. -/
def factorsI (a : Int) : List (List Int) := if inN a then facI (facs a.toNat) else []
theorem facI_length (l : List (Nat × Nat)) : (facI l).length = l.length := by simp [facI]
theorem facI_get {l : List (Nat × Nat)} {i : Nat} (h : i < l.length) : rd_L1 (facI l) (i : Int) = [(l[i].1 : Int), (l[i].2 : Int)] := by
  unfold rd_L1
  rw [Int.toNat_natCast, List.getD_eq_getElem?_getD, List.getElem?_eq_getElem (by rw [facI_length]; exact h)]
  simp [facI]
theorem rd_0 (a b : Int) : rd [a, b] 0 = a := rfl
theorem rd_1 (a b : Int) : rd [a, b] 1 = b := rfl
theorem spec_fac_l1 {x0 : Int} {out : List (List Int)} {p : Nat} {r : List (List Int)} (h2 : 2 ≤ p) (hp : p ≤ 10000) (hout : out.length < 5864062014805) : ∀ (left j : Nat), 1 ≤ left → left + j ≤ 20000 →
    (0 < j + (strip p left).2 → Ev (fun k => spec_FactorsOf.l0 k x0 (out ++ [[(p : Int), ((j + (strip p left).2 : Nat) : Int)]]) ((strip p left).1 : Int) ((p + 1 : Nat) : Int)) r) →
    (j + (strip p left).2 = 0 → Ev (fun k => spec_FactorsOf.l0 k x0 out ((strip p left).1 : Int) ((p + 1 : Nat) : Int)) r) →
    Ev (fun k => spec_FactorsOf.l1 k x0 out (left : Int) (p : Int) (j : Int)) r := by
  intro left
  induction left using Nat.strongRecOn with
  | ind left ih =>
    intro j h1 hb hy hn
    refine Ev_suc ?_
    have c1 : ¬ (p : Int) = 0 := by omega
    simp only [spec_FactorsOf.l1, if_neg c1, tmod_nat]
    rw [w64_div (show left ≤ 9223372036854775807 by omega), w64_succ (show j < 9223372036854775807 by omega), w64_succ (show p < 9223372036854775807 by omega)]
    by_cases h0 : left % p = 0
    · have c2 : ((left % p : Nat) : Int) = 0 := by omega
      simp only [if_pos c2]
      rw [strip_yes h2 h1 h0] at hy hn
      have hle : left / p ≤ left / 2 := Nat.div_le_div_left h2 (by omega)
      have hlt : left / p < left := Nat.div_lt_self h1 (by omega)
      have hpos : 1 ≤ left / p := div_pos_of (by omega) h1 h0
      have e : j + 1 + (strip p (left / p)).2 = j + ((strip p (left / p)).2 + 1) := by omega
      refine ih (left / p) hlt (j + 1) hpos (by omega) (fun h => ?_) (fun h => by omega)
      rw [e]; exact hy (by simp only; omega)
    · have c2 : ¬ ((left % p : Nat) : Int) = 0 := by omega
      simp only [if_neg c2]
      rw [strip_no h0] at hy hn
      simp only [Nat.add_zero] at hy hn
      by_cases hj : 0 < j
      · have c3 : (j : Int) > 0 := by omega
        simp only [if_pos c3, if_pos hout]
        exact hy hj
      · have c3 : ¬ (j : Int) > 0 := by omega
        simp only [if_neg c3]
        exact hn (by omega)
theorem spec_fac_l0 {n : Nat} (h1n : 1 ≤ n) (h2n : n ≤ 10000) (d : Nat) : ∀ (left p : Nat) (out : List (List Int)), left + 1 - p = d → 2 ≤ p → 1 ≤ left → left ≤ n → out.length ≤ p → p ≤ 10001 →
    Ev (fun k => spec_FactorsOf.l0 k (n : Int) out (left : Int) (p : Int)) (out ++ facI (F p left)) := by
  induction d using Nat.strongRecOn with
  | ind d ih =>
    intro left p out hd h2 h1 hle hout hp
    refine Ev_suc ?_
    have hl : decide ((1 : Int) ≤ (n : Int) ∧ (n : Int) ≤ 10000) = true := decide_eq_true (by omega)
    simp only [spec_FactorsOf.l0, l1In_eq, Option.bind_some, hl]
    by_cases h : p ≤ left
    · have c1 : (p : Int) ≤ (left : Int) := Int.ofNat_le.2 h
      simp only [if_pos c1]
      refine Ev_suc ?_
      simp only [spec_FactorsOf.j1, if_true]
      have hs := strip_le p left
      refine spec_fac_l1 h2 (by omega) (by omega) left 0 h1 (by omega) (fun h' => ?_) (fun h' => ?_)
      · rw [Nat.zero_add] at h' ⊢
        have h0 := (strip_pos h2 h1).1 h'
        rw [F_yes h h2 h0]
        have e : out ++ facI ((p, (strip p left).2) :: F (p + 1) (strip p left).1) = (out ++ [[(p : Int), ((strip p left).2 : Int)]]) ++ facI (F (p + 1) (strip p left).1) := by simp [facI]
        rw [e]
        exact ih _ (by omega) _ (p + 1) _ rfl (by omega) (strip_spec h2 left h1).2.1 (by omega) (by simp; omega) (by omega)
      · rw [Nat.zero_add] at h'
        have h0 : ¬ left % p = 0 := fun e => by have := (strip_pos h2 h1).2 e; omega
        rw [F_no h h2 h0, strip_no h0]
        exact ih _ (by omega) left (p + 1) out rfl (by omega) h1 hle (by omega) (by omega)
    · have c1 : ¬ (p : Int) ≤ (left : Int) := fun e => h (Int.ofNat_le.1 e)
      simp only [if_neg c1]
      refine Ev_suc ?_
      simp only [spec_FactorsOf.j1, Bool.false_eq_true, if_false]
      rw [F_end h]
      simp only [facI, List.map_nil, List.append_nil]
      exact Ev.now _
theorem spec_FactorsOf_nat {n : Nat} (h1 : 1 ≤ n) (h2 : n ≤ 10000) : Ev (fun k => spec_FactorsOf.f k (n : Int)) (facI (facs n)) := by
  have := spec_fac_l0 h1 h2 _ n 2 [] rfl (by omega) h1 (Nat.le_refl _) (by simp) (by omega)
  rw [List.nil_append] at this
  exact this
theorem spec_FactorsOf_ev (a : Int) : Ev (fun k => spec_FactorsOf.f k a) (factorsI a) := by
  unfold factorsI
  by_cases h : inN a
  · obtain ⟨n, rfl, h1, h2⟩ := inN_nat h
    rw [if_pos h]
    exact spec_FactorsOf_nat h1 h2
  · rw [if_neg h]
    unfold spec_FactorsOf.f
    refine Ev_suc ?_
    have hj : Ev (fun k => spec_FactorsOf.j1 k a [] a 2 false) [] := by
      refine Ev_suc ?_
      simp only [spec_FactorsOf.j1, Bool.false_eq_true, if_false]
      exact Ev.now _
    simp only [spec_FactorsOf.l0, l1In_eq, Option.bind_some, decide_eq_false (show ¬ ((1 : Int) ≤ a ∧ a ≤ 10000) from h), ite_self]
    exact hj

theorem impl_fac_l1 {out : List (List Int)} {p : Nat} {r : List (List Int)} (h2 : 2 ≤ p) (hp : p ≤ 10000) (hout : out.length < 5864062014805) : ∀ (left j : Nat), 1 ≤ left → left + j ≤ 20000 →
    (0 < j + (strip p left).2 → Ev (fun k => impl_factors.l0 k ((strip p left).1 : Int) (out ++ [[(p : Int), ((j + (strip p left).2 : Nat) : Int)]]) ((p + 1 : Nat) : Int)) r) →
    (j + (strip p left).2 = 0 → Ev (fun k => impl_factors.l0 k ((strip p left).1 : Int) out ((p + 1 : Nat) : Int)) r) →
    Ev (fun k => impl_factors.l1 k (left : Int) out (p : Int) (j : Int)) r := by
  intro left
  induction left using Nat.strongRecOn with
  | ind left ih =>
    intro j h1 hb hy hn
    refine Ev_suc ?_
    have c1 : ¬ (p : Int) = 0 := by omega
    simp only [impl_factors.l1, if_neg c1, tmod_nat]
    rw [w64_div (show left ≤ 9223372036854775807 by omega), w64_succ (show j < 9223372036854775807 by omega), w64_succ (show p < 9223372036854775807 by omega)]
    by_cases h0 : left % p = 0
    · have c2 : ((left % p : Nat) : Int) = 0 := by omega
      simp only [if_pos c2]
      rw [strip_yes h2 h1 h0] at hy hn
      have hle : left / p ≤ left / 2 := Nat.div_le_div_left h2 (by omega)
      have hlt : left / p < left := Nat.div_lt_self h1 (by omega)
      have hpos : 1 ≤ left / p := div_pos_of (by omega) h1 h0
      have e : j + 1 + (strip p (left / p)).2 = j + ((strip p (left / p)).2 + 1) := by omega
      refine ih (left / p) hlt (j + 1) hpos (by omega) (fun h => ?_) (fun h => by omega)
      rw [e]; exact hy (by simp only; omega)
    · have c2 : ¬ ((left % p : Nat) : Int) = 0 := by omega
      simp only [if_neg c2]
      rw [strip_no h0] at hy hn
      simp only [Nat.add_zero] at hy hn
      by_cases hj : 0 < j
      · have c3 : (j : Int) > 0 := by omega
        simp only [if_pos c3, if_pos hout]
        exact hy hj
      · have c3 : ¬ (j : Int) > 0 := by omega
        simp only [if_neg c3]
        exact hn (by omega)
theorem impl_fac_l0 (d : Nat) : ∀ (left p : Nat) (out : List (List Int)), left + 1 - p = d → 2 ≤ p → 1 ≤ left → left ≤ 10000 → out.length ≤ p → p ≤ 10001 → Rough p left →
    Ev (fun k => impl_factors.l0 k (left : Int) out (p : Int)) (out ++ facI (F p left)) := by
  induction d using Nat.strongRecOn with
  | ind d ih =>
    intro left p out hd h2 h1 hle hout hp hr
    have hsq : p * p ≤ 100000000000 := by
      have : p * p ≤ 10001 * 10001 := Nat.mul_le_mul (by omega) (by omega)
      omega
    refine Ev_suc ?_
    simp only [impl_factors.l0]
    rw [w64_mul (by omega)]
    by_cases hone : left = 1
    · have c1 : ¬ (left : Int) > 1 := by omega
      simp only [if_neg c1]
      rw [F_end (by omega)]
      simp only [facI, List.map_nil, List.append_nil]
      exact Ev.now _
    · have c1 : (left : Int) > 1 := by omega
      simp only [if_pos c1]
      by_cases h : left < p * p
      · have c2 : ((p * p : Nat) : Int) > (left : Int) := Int.ofNat_lt.2 h
        simp only [if_pos c2]
        have hrr := hr.square h
        have hpl : p ≤ left := by
          rcases Nat.lt_or_ge left p with e | e
          · exact absurd (Nat.mod_self left) (hr left (by omega) e)
          · exact e
        rw [F_alone (left - p) p left rfl h2 hpl hrr]
        have hs : strip left left = (1, 1) := by
          rw [strip_yes (by omega) h1 (Nat.mod_self left), Nat.div_self (by omega), strip_no]
          rw [Nat.mod_eq_of_lt (by omega)]; omega
        refine Ev_suc ?_
        simp only [impl_factors.j1]
        refine impl_fac_l1 (by omega) (by omega) (by omega) left 0 h1 (by omega) (fun _ => ?_) (fun e => ?_)
        · rw [hs]
          refine Ev_suc ?_
          have c3 : ¬ ((1 : Nat) : Int) > 1 := by omega
          simp only [impl_factors.l0, if_neg c3]
          exact Ev.now _
        · rw [hs] at e; simp at e
      · have c2 : ¬ ((p * p : Nat) : Int) > (left : Int) := fun e => h (Int.ofNat_lt.1 e)
        simp only [if_neg c2]
        have hpl : p ≤ left := by
          have := Nat.le_mul_of_pos_left p (show 0 < p by omega)
          omega
        refine Ev_suc ?_
        simp only [impl_factors.j1]
        have hs := strip_le p left
        refine impl_fac_l1 h2 (by omega) (by omega) left 0 h1 (by omega) (fun h' => ?_) (fun h' => ?_)
        · rw [Nat.zero_add] at h' ⊢
          have h0 := (strip_pos h2 h1).1 h'
          rw [F_yes hpl h2 h0]
          have e : out ++ facI ((p, (strip p left).2) :: F (p + 1) (strip p left).1) = (out ++ [[(p : Int), ((strip p left).2 : Int)]]) ++ facI (F (p + 1) (strip p left).1) := by simp [facI]
          rw [e]
          exact ih _ (by omega) _ (p + 1) _ rfl (by omega) (strip_spec h2 left h1).2.1 (by omega) (by simp; omega) (by omega) (hr.step h2 h1)
        · rw [Nat.zero_add] at h'
          have h0 : ¬ left % p = 0 := fun e => by have := (strip_pos h2 h1).2 e; omega
          rw [F_no hpl h2 h0, strip_no h0]
          exact ih _ (by omega) left (p + 1) out rfl (by omega) h1 hle (by omega) (by omega) (hr.next h0)
theorem impl_factors_ev {n : Nat} (h1 : 1 ≤ n) (h2 : n ≤ 10000) : Ev (fun k => impl_factors.f k (n : Int)) (facI (facs n)) := by
  have := impl_fac_l0 _ n 2 [] rfl (by omega) h1 h2 (by simp) (by omega) (Rough.two n)
  rw [List.nil_append] at this
  exact this

/-- The sum of all unitary divisors, by primes. -/
def usuI (a : Int) : Int := if inN a then ((usF 1 (facs a.toNat) : Nat) : Int) else -1
theorem facs_uall {n : Nat} (h1 : 1 ≤ n) (h2 : n ≤ 10000) : (facs n).length ≤ 1000000 ∧ (∀ x ∈ facs n, 2 ≤ x.1 ∧ x.1 ≤ 10000 ∧ 1 ≤ x.2 ∧ x.2 ≤ 10000) ∧ prodF (facs n) ≤ 10000 :=
  ⟨by have := facs_length h1; omega, fun x hx => by have := facs_bounds h1 x hx; omega, by rw [prodF_facs h1]; exact h2⟩
theorem facs_uget {l : List (Nat × Nat)} {i : Nat} (h : i < l.length) : rd (rd_L1 (facI l) (i : Int)) 0 = (l[i].1 : Int) ∧ rd (rd_L1 (facI l) (i : Int)) 1 = (l[i].2 : Int) ∧ (rd_L1 (facI l) (i : Int)).length = 2 := by
  rw [facI_get h]; exact ⟨rfl, rfl, rfl⟩
theorem pow_one_le {p k : Nat} (h : 2 ≤ p) (hk : 1 ≤ k) : p ^ k + 1 ≤ p ^ k * p ^ k := by
  have h2 : 2 ≤ p ^ k := by
    obtain ⟨j, rfl⟩ : ∃ j, k = j + 1 := ⟨k - 1, by omega⟩
    rw [Nat.pow_succ]
    have := Nat.le_mul_of_pos_left p (show 0 < p ^ j from Nat.pow_pos (by omega))
    omega
  have h3 : 2 * p ^ k ≤ p ^ k * p ^ k := Nat.mul_le_mul_right _ h2
  omega
theorem impl_UnitarySum_l {l : List (Nat × Nat)} (hl : l.length ≤ 1000000) (hp : ∀ x ∈ l, 2 ≤ x.1 ∧ x.1 ≤ 10000 ∧ 1 ≤ x.2 ∧ x.2 ≤ 10000) (d : Nat) : ∀ (i acc : Nat), l.length - i = d → i ≤ l.length → 1 ≤ acc → acc * (prodF (l.drop i) * prodF (l.drop i)) ≤ 100000000 →
    Ev (fun k => impl_UnitarySum.l0 k (acc : Int) (facI l) (l.length : Int) (i : Int)) ((usF acc (l.drop i) : Nat) : Int) := by
  induction d with
  | zero =>
    intro i acc hd hi _ _
    have e : i = l.length := by omega
    subst e
    refine Ev_suc ?_
    simp only [impl_UnitarySum.l0, Int.lt_irrefl, if_false, List.drop_length, usF]
    exact Ev.now _
  | succ d ih =>
    intro i acc hd hi ha hb
    have hlt : i < l.length := by omega
    rw [drop_cons hlt] at hb ⊢
    simp only [prodF] at hb
    simp only [usF]
    obtain ⟨b1, b2, b3, b4⟩ := hp l[i] (List.getElem_mem hlt)
    have hR : 1 ≤ prodF (l.drop (i + 1)) := prodF_pos (fun x hx => (hp x (List.mem_of_mem_drop hx)).1)
    obtain ⟨s1, s2, s3, s4, s5⟩ := small_step ha (Nat.le_add_left 1 (l[i].1 ^ l[i].2)) (pow_one_le b1 b3) hR hb
    have next := ih (i + 1) (acc * (l[i].1 ^ l[i].2 + 1)) (by omega) (by omega) s2 s1
    obtain ⟨g0, g1, g2⟩ := facs_uget hlt
    have inner : ∀ (e j : Nat), l[i].2 - j = e → j ≤ l[i].2 →
        Ev (fun k => impl_UnitarySum.l1 k (acc : Int) (rd_L1 (facI l) (i : Int)) ((l[i].1 ^ j : Nat) : Int) (facI l) (l.length : Int) (i : Int) (l[i].2 : Int) (j : Int)) ((usF (acc * (l[i].1 ^ l[i].2 + 1)) (l.drop (i + 1)) : Nat) : Int) := by
      intro e
      induction e with
      | zero =>
        intro j he hj
        have e : j = l[i].2 := by omega
        subst e
        refine Ev_suc ?_
        simp only [impl_UnitarySum.l1, Int.lt_irrefl, if_false]
        rw [w64_succ (by omega), w64_mul (by omega), w64_succ (by omega)]
        exact next
      | succ e ihe =>
        intro j he hj
        refine Ev_suc ?_
        have c1 : (j : Int) < (l[i].2 : Int) := by omega
        have c2 : (0 : Int) < ((rd_L1 (facI l) (i : Int)).length : Int) := by rw [g2]; decide
        have m1 : l[i].1 ^ (j + 1) ≤ l[i].1 ^ l[i].2 := Nat.pow_le_pow_right (by omega) (by omega)
        have m4 : l[i].1 ^ (j + 1) = l[i].1 ^ j * l[i].1 := Nat.pow_succ _ _
        simp only [impl_UnitarySum.l1, if_pos c1, if_pos c2, g0]
        rw [w64_mul (by omega), w64_succ (by omega), ← m4]
        exact ihe (j + 1) (by omega) (by omega)
    refine Ev_suc ?_
    have c0 : (i : Int) < (l.length : Int) := by omega
    have c1 : (i : Int) < ((facI l).length : Int) := by rw [facI_length]; omega
    have c2 : (0 : Int) ≤ (i : Int) := by omega
    have c3 : (1 : Int) < ((rd_L1 (facI l) (i : Int)).length : Int) := by rw [g2]; decide
    simp only [impl_UnitarySum.l0, if_pos c0, if_pos c1, if_pos c2, if_pos c3, g1]
    exact inner l[i].2 0 (by omega) (by omega)
theorem impl_UnitarySum_nat {n : Nat} (h1 : 1 ≤ n) (h2 : n ≤ 10000) : Ev (fun k => impl_UnitarySum.f k (n : Int)) ((usF 1 (facs n) : Nat) : Int) := by
  have h : inN (n : Int) := by unfold inN; omega
  unfold impl_UnitarySum.f
  simp only [numberOk_eq, Option.bind_some, decide_eq_true_eq, if_pos h]
  refine Ev.bind (impl_factors_ev h1 h2) ?_
  obtain ⟨f1, f2, f3⟩ := facs_uall h1 h2
  rw [facI_length]
  refine impl_UnitarySum_l f1 f2 _ 0 1 rfl (by omega) (by omega) ?_
  rw [List.drop_zero, Nat.one_mul]
  have : prodF (facs n) * prodF (facs n) ≤ 10000 * 10000 := Nat.mul_le_mul f3 f3
  omega
theorem impl_UnitarySum_ev (a : Int) : Ev (fun k => impl_UnitarySum.f k a) (usuI a) := by
  unfold usuI
  by_cases h : inN a
  · obtain ⟨n, rfl, h1, h2⟩ := inN_nat h
    rw [if_pos h]
    exact impl_UnitarySum_nat h1 h2
  · unfold impl_UnitarySum.f
    simp only [numberOk_eq, Option.bind_some, decide_eq_true_eq, if_neg h]
    exact Ev.now _

theorem spec_UnitarySum_l {l : List (Nat × Nat)} (hl : l.length ≤ 1000000) (hp : ∀ x ∈ l, 2 ≤ x.1 ∧ x.1 ≤ 10000 ∧ 1 ≤ x.2 ∧ x.2 ≤ 10000) (d : Nat) : ∀ (i acc : Nat), l.length - i = d → i ≤ l.length → 1 ≤ acc → acc * (prodF (l.drop i) * prodF (l.drop i)) ≤ 100000000 →
    Ev (fun k => spec_UnitarySum.l0 k (acc : Int) (facI l) (i : Int)) ((usF acc (l.drop i) : Nat) : Int) := by
  induction d with
  | zero =>
    intro i acc hd hi _ _
    have e : i = l.length := by omega
    subst e
    refine Ev_suc ?_
    simp only [spec_UnitarySum.l0, facI_length, Int.lt_irrefl, if_false, List.drop_length, usF]
    exact Ev.now _
  | succ d ih =>
    intro i acc hd hi ha hb
    have hlt : i < l.length := by omega
    rw [drop_cons hlt] at hb ⊢
    simp only [prodF] at hb
    simp only [usF]
    obtain ⟨b1, b2, b3, b4⟩ := hp l[i] (List.getElem_mem hlt)
    have hR : 1 ≤ prodF (l.drop (i + 1)) := prodF_pos (fun x hx => (hp x (List.mem_of_mem_drop hx)).1)
    obtain ⟨s1, s2, s3, s4, s5⟩ := small_step ha (Nat.le_add_left 1 (l[i].1 ^ l[i].2)) (pow_one_le b1 b3) hR hb
    have next := ih (i + 1) (acc * (l[i].1 ^ l[i].2 + 1)) (by omega) (by omega) s2 s1
    obtain ⟨g0, g1, g2⟩ := facs_uget hlt
    have c1 : (i : Int) < ((facI l).length : Int) := by rw [facI_length]; omega
    have c2 : (0 : Int) ≤ (i : Int) := by omega
    have c3 : (1 : Int) < ((rd_L1 (facI l) (i : Int)).length : Int) := by rw [g2]; decide
    have c4 : (0 : Int) < ((rd_L1 (facI l) (i : Int)).length : Int) := by rw [g2]; decide
    have inner : ∀ (e j : Nat), l[i].2 - j = e → j ≤ l[i].2 →
        Ev (fun k => spec_UnitarySum.l1 k (acc : Int) (facI l) (i : Int) ((l[i].1 ^ j : Nat) : Int) (j : Int)) ((usF (acc * (l[i].1 ^ l[i].2 + 1)) (l.drop (i + 1)) : Nat) : Int) := by
      intro e
      induction e with
      | zero =>
        intro j he hj
        have e : j = l[i].2 := by omega
        subst e
        refine Ev_suc ?_
        simp only [spec_UnitarySum.l1, if_pos c1, if_pos c2, if_pos c3, g1, Int.lt_irrefl, if_false]
        rw [w64_succ (by omega), w64_mul (by omega), w64_succ (by omega)]
        exact next
      | succ e ihe =>
        intro j he hj
        refine Ev_suc ?_
        have d1 : (j : Int) < (l[i].2 : Int) := by omega
        have m1 : l[i].1 ^ (j + 1) ≤ l[i].1 ^ l[i].2 := Nat.pow_le_pow_right (by omega) (by omega)
        have m4 : l[i].1 ^ (j + 1) = l[i].1 ^ j * l[i].1 := Nat.pow_succ _ _
        simp only [spec_UnitarySum.l1, if_pos c1, if_pos c2, if_pos c3, if_pos c4, g0, g1, if_pos d1]
        rw [w64_mul (by omega), w64_succ (by omega), ← m4]
        exact ihe (j + 1) (by omega) (by omega)
    refine Ev_suc ?_
    simp only [spec_UnitarySum.l0, if_pos c1]
    exact inner l[i].2 0 (by omega) (by omega)
theorem spec_UnitarySum_nat {n : Nat} (h1 : 1 ≤ n) (h2 : n ≤ 10000) : Ev (fun k => spec_UnitarySum.f k (n : Int)) ((usF 1 (facs n) : Nat) : Int) := by
  unfold spec_UnitarySum.f
  simp only [l1In_eq, Option.bind_some, decide_eq_true_eq, if_pos (show 1 ≤ (n : Int) ∧ (n : Int) ≤ 10000 by omega)]
  refine Ev.bind (spec_FactorsOf_nat h1 h2) ?_
  obtain ⟨f1, f2, f3⟩ := facs_uall h1 h2
  refine spec_UnitarySum_l f1 f2 _ 0 1 rfl (by omega) (by omega) ?_
  rw [List.drop_zero, Nat.one_mul]
  have : prodF (facs n) * prodF (facs n) ≤ 10000 * 10000 := Nat.mul_le_mul f3 f3
  omega
theorem spec_UnitarySum_ev (a : Int) : Ev (fun k => spec_UnitarySum.f k a) (usuI a) := by
  unfold usuI
  by_cases h : inN a
  · obtain ⟨n, rfl, h1, h2⟩ := inN_nat h
    rw [if_pos h]
    exact spec_UnitarySum_nat h1 h2
  · unfold spec_UnitarySum.f
    simp only [l1In_eq, Option.bind_some, decide_eq_true_eq, if_neg (show ¬ (1 ≤ a ∧ a ≤ 10000) from h), if_neg h]
    exact Ev.now _

def uspI (a : Int) : Bool := decide (inN a ∧ usuI a = 2 * a)
theorem spec_UnitaryPerfect_ev (a : Int) : Ev (fun k => spec_UnitaryPerfect.f k a) (uspI a) := by
  unfold spec_UnitaryPerfect.f uspI
  by_cases h : inN a
  · obtain ⟨n, rfl, h1, h2⟩ := inN_nat h
    simp only [l1In_eq, Option.bind_some, decide_eq_true_eq, if_pos (show 1 ≤ (n : Int) ∧ (n : Int) ≤ 10000 from h)]
    refine Ev.bind (spec_UnitarySum_ev _) ?_
    rw [w64 (by omega) (by omega)]
    have e : (usuI (n : Int) == 2 * (n : Int)) = decide (inN (n : Int) ∧ usuI (n : Int) = 2 * (n : Int)) := by
      by_cases e : usuI (n : Int) = 2 * (n : Int)
      · simp [e, h]
      · simp [e]
    rw [e]
    exact Ev.now _
  · simp only [l1In_eq, Option.bind_some, decide_eq_true_eq, if_neg (show ¬ (1 ≤ a ∧ a ≤ 10000) from h), decide_eq_false (fun e : inN a ∧ usuI a = 2 * a => h e.1)]
    exact Ev.now _

theorem impl_UnitaryPerfect_ev (a : Int) : Ev (fun k => impl_UnitaryPerfect.f k a) (uspI a) := by
  unfold impl_UnitaryPerfect.f uspI
  by_cases h : inN a
  · obtain ⟨n, rfl, h1, h2⟩ := inN_nat h
    simp only [numberOk_eq, Option.bind_some, decide_eq_true_eq, if_pos h]
    refine Ev.bind (impl_UnitarySum_ev _) ?_
    rw [w64 (by omega) (by omega)]
    have e : (usuI (n : Int) == 2 * (n : Int)) = decide (inN (n : Int) ∧ usuI (n : Int) = 2 * (n : Int)) := by
      by_cases e : usuI (n : Int) = 2 * (n : Int)
      · simp [e, h]
      · simp [e]
    rw [e]
    exact Ev.now _
  · simp only [numberOk_eq, Option.bind_some, decide_eq_true_eq, if_neg h, decide_eq_false (fun e : inN a ∧ usuI a = 2 * a => h e.1)]
    exact Ev.now _

theorem FnExactUnitaryPerfect : laws_FnExactUnitaryPerfect.Pure := by
  intro a _
  refine Ev.rounds (r := true) ?_
  unfold laws_FnExactUnitaryPerfect.f
  refine Ev.bind (spec_UnitaryPerfect_ev a) (Ev.bind (impl_UnitaryPerfect_ev a) ?_)
  simp only [bne_self_eq_false, Bool.false_eq_true, if_false]
  exact Ev.now _

end Go.Proofs.Ytomfiimpnabfoaa.Pure
