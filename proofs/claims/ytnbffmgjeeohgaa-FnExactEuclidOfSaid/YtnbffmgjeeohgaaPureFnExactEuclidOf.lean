/- The program's EuclidOf answers as the reference's, for every whole number. No conditions. -/
import Derived.Test.YtnbffmgjeeohgaaOFnExactEuclidOfx2
import Derived.Test.YtnbffmgjeeohgaaEvs
namespace Go.Proofs.Ytnbffmgjeeohgaa.Pure
open Go.RowKit Go.Proofs.Ytnbffmgjeeohgaa.PFnExactEuclidOf Go.Proofs.YtnbffmgjeeohgaaW.PrintWords Go.Proofs.YtnbffmgjeeohgaaW.PrintLast Go.Proofs.YtnbffmgjeeohgaaW.PrintMore Go.Proofs.Ytnbffmgjeeohgaa.Math
set_option linter.unusedVariables false
set_option linter.unusedSimpArgs false

theorem l1In_eq (a lo hi : Int) : spec_l1In.f a lo hi = some (decide (lo ≤ a ∧ a ≤ hi)) := by
  unfold spec_l1In.f
  by_cases h : lo ≤ a
  · rw [if_pos h]; simp [h]
  · rw [if_neg h]; simp [h]

theorem numberOk_eq (a : Int) : impl_numberOk.f a = some (decide (inN a)) := by
  unfold impl_numberOk.f inN
  by_cases h : 1 ≤ a
  · rw [if_pos h]; simp [h]
  · rw [if_neg h]; simp [h]

theorem spec_PrimeOk_l {n : Nat} (h2 : 2 ≤ n) (hn2 : n ≤ 10000) (d : Nat) : ∀ p, 2 ≤ p → p ≤ n + 1 → n + 1 - p = d → Rough p n →
    Ev (fun k => spec_PrimeOk.l0 k (n : Int) (p : Int)) (primeI (n : Int)) := by
  induction d using Nat.strongRecOn with
  | ind d ih =>
    intro p hp hpn hd hr
    have hsq : p * p ≤ 100000000000 := by
      have : p * p ≤ 10001 * 10001 := Nat.mul_le_mul (by omega) (by omega)
      omega
    refine Ev_suc ?_
    simp only [spec_PrimeOk.l0]
    rw [w64_mul (by omega)]
    by_cases h : p * p ≤ n
    · have c1 : ((p * p : Nat) : Int) ≤ (n : Int) := Int.ofNat_le.2 h
      have c2 : (n : Int) ≤ 10000 := by omega
      have c3 : ¬ (p : Int) = 0 := by omega
      have hlt : p < n := by
        have : 2 * p ≤ p * p := Nat.mul_le_mul_right p hp
        omega
      simp only [if_pos c1, decide_eq_true c2]
      refine Ev_suc ?_
      simp only [spec_PrimeOk.j1, if_true, if_neg c3, tmod_nat]
      by_cases h0 : n % p = 0
      · have c4 : ((n % p : Nat) : Int) = 0 := by omega
        simp only [if_pos c4]
        have e : primeI (n : Int) = false := by
          rw [Bool.eq_false_iff]
          intro e
          have := (primeI_nat (by omega) hn2).1 e
          rcases this.2 p (mod_dvd.1 h0) with e | e <;> omega
        rw [e]
        exact Ev.now _
      · have c4 : ¬ ((n % p : Nat) : Int) = 0 := by omega
        simp only [if_neg c4]
        rw [w64_succ (by omega)]
        exact ih (n + 1 - (p + 1)) (by omega) (p + 1) (by omega) (by omega) rfl (hr.next h0)
    · have c1 : ¬ ((p * p : Nat) : Int) ≤ (n : Int) := fun e => h (Int.ofNat_le.1 e)
      simp only [if_neg c1]
      refine Ev_suc ?_
      simp only [spec_PrimeOk.j1, Bool.false_eq_true, if_false, l1In_eq, Option.bind_some]
      have e : primeI (n : Int) = true := (primeI_nat (by omega) hn2).2 ((hr.square (by omega)).toPr h2)
      rw [e, decide_eq_true (show (2 : Int) ≤ (n : Int) ∧ (n : Int) ≤ 10000 by omega)]
      exact Ev.now _
theorem spec_PrimeOk_ev (a : Int) (ha : a ≤ 9223372036854775807) : Ev (fun k => spec_PrimeOk.f k a) (primeI a) := by
  unfold spec_PrimeOk.f
  by_cases h : 2 ≤ a ∧ a ≤ 10000
  · obtain ⟨n, rfl, h1, h2⟩ := inN_nat (a := a) ⟨by omega, h.2⟩
    exact spec_PrimeOk_l (by omega) h2 (n + 1 - 2) 2 (by omega) (by omega) rfl (Rough.two n)
  · have e : primeI a = false := by
      unfold primeI
      rw [decide_eq_false_iff_not]
      rintro ⟨h1, h2⟩
      obtain ⟨n, rfl, h3, h4⟩ := inN_nat h1
      rw [Int.toNat_natCast] at h2
      have := (divs_two h3 h2).1
      exact h (by omega)
    rw [e]
    have e2 : wrap64 ((2 : Int) * 2) = 4 := by rw [w64 (by omega) (by omega)]; rfl
    have hf : decide ((2 : Int) ≤ a ∧ a ≤ 10000) = false := decide_eq_false h
    refine Ev_suc ?_
    simp only [spec_PrimeOk.l0, e2]
    have hj : Ev (fun k => spec_PrimeOk.j1 k a 2 false) false := by
      refine Ev_suc ?_
      simp only [spec_PrimeOk.j1, Bool.false_eq_true, if_false, l1In_eq, Option.bind_some, hf]
      exact Ev.now _
    by_cases h4 : (4 : Int) ≤ a
    · simp only [if_pos h4, decide_eq_false (show ¬ a ≤ 10000 by omega)]
      exact hj
    · simp only [if_neg h4]
      exact hj

/-- The number and the answer of EuclidOf. -/
def euI (a : Int) : Int × Bool := if a = 2 then (6, primeI 3) else if a = 3 then (28, primeI 7) else if a = 4 then (120, primeI 15) else if a = 5 then (496, primeI 31) else if a = 6 then (2016, primeI 63) else if a = 7 then (8128, primeI 127) else (-1, false)
theorem euI_cases {P : Int → Int × Bool → Prop} (h2 : P 2 (6, primeI 3)) (h3 : P 3 (28, primeI 7)) (h4 : P 4 (120, primeI 15)) (h5 : P 5 (496, primeI 31)) (h6 : P 6 (2016, primeI 63)) (h7 : P 7 (8128, primeI 127))
    (hn : ∀ a : Int, ¬ (2 ≤ a ∧ a ≤ 7) → P a (-1, false)) (a : Int) : P a (euI a) := by
  unfold euI
  by_cases e2 : a = 2
  · rw [if_pos e2, e2]; exact h2
  rw [if_neg e2]
  by_cases e3 : a = 3
  · rw [if_pos e3, e3]; exact h3
  rw [if_neg e3]
  by_cases e4 : a = 4
  · rw [if_pos e4, e4]; exact h4
  rw [if_neg e4]
  by_cases e5 : a = 5
  · rw [if_pos e5, e5]; exact h5
  rw [if_neg e5]
  by_cases e6 : a = 6
  · rw [if_pos e6, e6]; exact h6
  rw [if_neg e6]
  by_cases e7 : a = 7
  · rw [if_pos e7, e7]; exact h7
  rw [if_neg e7]
  exact hn a (by omega)
theorem spec_EuclidOf_ev (a : Int) : Ev (fun k => spec_EuclidOf.f k a) (euI a) := by
  refine euI_cases (P := fun a r => Ev (fun k => spec_EuclidOf.f k a) r) ?_ ?_ ?_ ?_ ?_ ?_ ?_ a
  · refine Ev.congr (f := fun k => (spec_PrimeOk.f k 3).bind fun t => some (6, t)) (fun k => by kernel_rfl) ?_
    exact Ev.bind (spec_PrimeOk_ev 3 (by omega)) (Ev.now _)
  · refine Ev.congr (f := fun k => (spec_PrimeOk.f k 7).bind fun t => some (28, t)) (fun k => by kernel_rfl) ?_
    exact Ev.bind (spec_PrimeOk_ev 7 (by omega)) (Ev.now _)
  · refine Ev.congr (f := fun k => (spec_PrimeOk.f k 15).bind fun t => some (120, t)) (fun k => by kernel_rfl) ?_
    exact Ev.bind (spec_PrimeOk_ev 15 (by omega)) (Ev.now _)
  · refine Ev.congr (f := fun k => (spec_PrimeOk.f k 31).bind fun t => some (496, t)) (fun k => by kernel_rfl) ?_
    exact Ev.bind (spec_PrimeOk_ev 31 (by omega)) (Ev.now _)
  · refine Ev.congr (f := fun k => (spec_PrimeOk.f k 63).bind fun t => some (2016, t)) (fun k => by kernel_rfl) ?_
    exact Ev.bind (spec_PrimeOk_ev 63 (by omega)) (Ev.now _)
  · refine Ev.congr (f := fun k => (spec_PrimeOk.f k 127).bind fun t => some (8128, t)) (fun k => by kernel_rfl) ?_
    exact Ev.bind (spec_PrimeOk_ev 127 (by omega)) (Ev.now _)
  · intro a h
    unfold spec_EuclidOf.f
    simp only [l1In_eq, Option.bind_some, decide_eq_true_eq, if_neg h]
    exact Ev.now _

theorem reverse_l (d : Nat) : ∀ (A M B : List Int), M.length ≤ d → A.length + M.length + B.length ≤ 1000000000 →
    Ev (fun k => slices_Reverse_int_int.l0 k (A ++ M ++ B) (A.length : Int) ((A.length : Int) + (M.length : Int) - 1)) (A ++ M.reverse ++ B) := by
  induction d using Nat.strongRecOn with
  | ind d ih =>
    intro A M B hd hb
    refine Ev_suc ?_
    simp only [slices_Reverse_int_int.l0]
    by_cases h2 : M.length ≤ 1
    · have c0 : ¬ (A.length : Int) < (A.length : Int) + (M.length : Int) - 1 := by omega
      simp only [if_neg c0]
      have e : M.reverse = M := by
        match M, h2 with
        | [], _ => rfl
        | [x], _ => rfl
      rw [e]
      exact Ev.now _
    · match M, h2 with
      | x :: M', h2 =>
        obtain ⟨N, y, rfl⟩ : ∃ N y, M' = N ++ [y] := by
          rcases List.eq_nil_or_concat M' with e | ⟨N, y, e⟩
          · rw [e] at h2; simp at h2
          · exact ⟨N, y, by rw [e, List.concat_eq_append]⟩
        have hl : (x :: (N ++ [y])).length = N.length + 2 := by simp
        rw [hl] at hd hb ⊢
        have e3 : (A.length : Int) + ((N.length + 2 : Nat) : Int) - 1 = ((A.length + (N.length + 1) : Nat) : Int) := by omega
        rw [e3]
        have hlen : (A ++ x :: (N ++ [y]) ++ B).length = A.length + N.length + 2 + B.length := by simp; omega
        have r1 : rd (A ++ x :: (N ++ [y]) ++ B) ((A.length + (N.length + 1) : Nat) : Int) = y := by
          unfold rd
          rw [Int.toNat_natCast, List.getD_eq_getElem?_getD, List.append_assoc, List.getElem?_append_right (by omega), Nat.add_sub_cancel_left]
          simp
        have r2 : rd (A ++ x :: (N ++ [y]) ++ B) (A.length : Int) = x := by
          unfold rd
          rw [Int.toNat_natCast, List.getD_eq_getElem?_getD, List.append_assoc, List.getElem?_append_right (Nat.le_refl _), Nat.sub_self]
          simp
        have hs : ((A ++ x :: (N ++ [y]) ++ B).set A.length y).set (A.length + (N.length + 1)) x = (A ++ [y]) ++ N ++ (x :: B) := by
          simp only [List.append_assoc, List.cons_append]
          rw [List.set_append_right _ _ (Nat.le_refl _), Nat.sub_self, List.set_cons_zero, List.set_append_right _ _ (by omega), Nat.add_sub_cancel_left, List.set_cons_succ,
            List.set_append_right _ _ (Nat.le_refl _), Nat.sub_self]
          simp
        have c1 : (A.length : Int) < ((A.length + (N.length + 1) : Nat) : Int) := by omega
        have c2 : (0 : Int) ≤ ((A.length + (N.length + 1) : Nat) : Int) := by omega
        have c3 : ((A.length + (N.length + 1) : Nat) : Int) < ((A ++ x :: (N ++ [y]) ++ B).length : Int) := by rw [hlen]; omega
        have c4 : (0 : Int) ≤ (A.length : Int) := by omega
        have c5 : (A.length : Int) < ((A ++ x :: (N ++ [y]) ++ B).length : Int) := by rw [hlen]; omega
        have w1 : wrap64 ((A.length : Int) + 1) = ((A ++ [y]).length : Int) := by rw [w64 (by omega) (by omega)]; simp
        have w2 : wrap64 (((A.length + (N.length + 1) : Nat) : Int) - 1) = ((A ++ [y]).length : Int) + (N.length : Int) - 1 := by rw [w64 (by omega) (by omega)]; simp; omega
        simp only [if_pos c1, if_pos c2, if_pos c3, if_pos c4, if_pos c5, r1, r2, Int.toNat_natCast, hs, w1, w2]
        have hres : A ++ (x :: (N ++ [y])).reverse ++ B = (A ++ [y]) ++ N.reverse ++ (x :: B) := by simp
        rw [hres]
        exact ih N.length (by omega) (A ++ [y]) N (x :: B) (Nat.le_refl _) (by simp; omega)
theorem reverse_ev (l : List Int) (h : l.length ≤ 1000000000) : Ev (fun k => slices_Reverse_int_int.f k l) l.reverse := by
  unfold slices_Reverse_int_int.f
  have e := reverse_l l.length [] l [] (Nat.le_refl _) (by simpa using h)
  simp only [List.nil_append, List.append_nil, List.length_nil, Int.natCast_zero, Int.zero_add] at e
  rw [w64 (by omega) (by omega)]
  exact e

theorem impl_divisors_l {n : Nat} (hn : 1 ≤ n) (hn2 : n ≤ 10000) (d : Nat) : ∀ c, c * c ≤ n → n - c = d →
    Ev (fun k => impl_divisors.l0 k (n : Int) (lI (L (dv n) c)) (lI ((L (sm n) c).map (fun d => n / d))) ((c + 1 : Nat) : Int)) (lI (divs n)) := by
  induction d using Nat.strongRecOn with
  | ind d ih =>
    intro c hc hd
    have hcn : c ≤ n := by
      rcases Nat.eq_zero_or_pos c with e | e
      · omega
      · have := Nat.le_mul_of_pos_left c e; omega
    have hsq : (c + 1) * (c + 1) ≤ 100000000000 := by
      have : (c + 1) * (c + 1) ≤ 10001 * 10001 := Nat.mul_le_mul (by omega) (by omega)
      omega
    refine Ev_suc ?_
    simp only [impl_divisors.l0]
    rw [w64_mul (by omega)]
    have l1 : (lI (L (dv n) c)).length < 17592186044416 := by rw [lI_length]; have := L_length_le (dv n) c; omega
    have l2 : (lI ((L (sm n) c).map (fun d => n / d))).length < 17592186044416 := by rw [lI_length, List.length_map]; have := L_length_le (sm n) c; omega
    have hw : wrap64 (((c + 1 : Nat) : Int) + 1) = ((c + 1 + 1 : Nat) : Int) := w64_succ (by omega)
    by_cases h : (c + 1) * (c + 1) ≤ n
    · have c1 : (((c + 1) * (c + 1) : Nat) : Int) ≤ (n : Int) := Int.ofNat_le.2 h
      have c2 : ¬ ((c + 1 : Nat) : Int) = 0 := by omega
      have hcn' : c + 1 ≤ n := by
        have := Nat.le_mul_of_pos_left (c + 1) (show 0 < c + 1 by omega); omega
      have next := ih (n - (c + 1)) (by omega) (c + 1) h rfl
      simp only [if_pos c1, if_neg c2, tmod_nat, hw, w64_div (show n ≤ 9223372036854775807 by omega)]
      by_cases h0 : n % (c + 1) = 0
      · have c3 : ((n % (c + 1) : Nat) : Int) = 0 := by omega
        rw [L_yes (dv_iff.2 h0), lI_append] at next
        simp only [if_pos c3, if_pos l1, Option.bind_some]
        by_cases hs : (c + 1) * (c + 1) < n
        · have c4 : (((c + 1) * (c + 1) : Nat) : Int) < (n : Int) := Int.ofNat_lt.2 hs
          rw [L_yes (sm_iff.2 ⟨h0, hs⟩), List.map_append, lI_append] at next
          simp only [if_pos c4, if_pos l2]
          exact next
        · have c4 : ¬ (((c + 1) * (c + 1) : Nat) : Int) < (n : Int) := fun e => hs (Int.ofNat_lt.1 e)
          rw [L_no (fun e => hs (sm_iff.1 e).2)] at next
          simp only [if_neg c4]
          exact next
      · have c3 : ¬ ((n % (c + 1) : Nat) : Int) = 0 := by omega
        rw [L_no (fun e => h0 (dv_iff.1 e)), L_no (fun e => h0 (sm_iff.1 e).1)] at next
        simp only [if_neg c3]
        exact next
    · have c1 : ¬ (((c + 1) * (c + 1) : Nat) : Int) ≤ (n : Int) := fun e => h (Int.ofNat_le.1 e)
      simp only [if_neg c1]
      refine Ev.bind (reverse_ev _ (by rw [lI_length, List.length_map]; have := L_length_le (sm n) c; omega)) ?_
      have l3 : (lI (L (dv n) c)).length + (lI ((L (sm n) c).map (fun d => n / d))).reverse.length < 17592186044416 := by
        rw [List.length_reverse, lI_length, lI_length, List.length_map]
        have := L_length_le (dv n) c
        have := L_length_le (sm n) c
        omega
      simp only [if_pos l3]
      rw [← divs_pairs hn hc (by omega)]
      have e : lI (L (dv n) c ++ ((L (sm n) c).map (fun d => n / d)).reverse) = lI (L (dv n) c) ++ (lI ((L (sm n) c).map (fun d => n / d))).reverse := by
        rw [lI_append]; simp [lI]
      rw [e]
      exact Ev.now _
theorem impl_divisors_ev {n : Nat} (hn : 1 ≤ n) (hn2 : n ≤ 10000) : Ev (fun k => impl_divisors.f k (n : Int)) (lI (divs n)) :=
  impl_divisors_l hn hn2 n 0 (by omega) rfl

theorem impl_PrimeOk_ev (a : Int) : Ev (fun k => impl_PrimeOk.f k a) (primeI a) := by
  unfold impl_PrimeOk.f primeI
  by_cases h : inN a
  · obtain ⟨n, rfl, h1, h2⟩ := inN_nat h
    simp only [numberOk_eq, Option.bind_some, decide_eq_true_eq, if_pos h, Int.toNat_natCast]
    refine Ev.bind (impl_divisors_ev h1 h2) ?_
    rw [lI_length]
    have e : (((divs n).length : Int) == 2) = decide (inN (n : Int) ∧ (divs n).length = 2) := by
      by_cases e : (divs n).length = 2
      · simp [e, h]
      · simp [e, h]; omega
    rw [e]
    exact Ev.now _
  · simp only [numberOk_eq, Option.bind_some, decide_eq_true_eq, if_neg h, h, false_and, decide_false]
    exact Ev.now _

theorem impl_EuclidOf_ev (a : Int) : Ev (fun k => impl_EuclidOf.f k a) (euI a) := by
  refine euI_cases (P := fun a r => Ev (fun k => impl_EuclidOf.f k a) r) ?_ ?_ ?_ ?_ ?_ ?_ ?_ a
  · refine Ev.congr (f := fun k => (impl_PrimeOk.f k 3).bind fun t => some (6, t)) (fun k => by kernel_rfl) ?_
    exact Ev.bind (impl_PrimeOk_ev 3) (Ev.now _)
  · refine Ev.congr (f := fun k => (impl_PrimeOk.f k 7).bind fun t => some (28, t)) (fun k => by kernel_rfl) ?_
    exact Ev.bind (impl_PrimeOk_ev 7) (Ev.now _)
  · refine Ev.congr (f := fun k => (impl_PrimeOk.f k 15).bind fun t => some (120, t)) (fun k => by kernel_rfl) ?_
    exact Ev.bind (impl_PrimeOk_ev 15) (Ev.now _)
  · refine Ev.congr (f := fun k => (impl_PrimeOk.f k 31).bind fun t => some (496, t)) (fun k => by kernel_rfl) ?_
    exact Ev.bind (impl_PrimeOk_ev 31) (Ev.now _)
  · refine Ev.congr (f := fun k => (impl_PrimeOk.f k 63).bind fun t => some (2016, t)) (fun k => by kernel_rfl) ?_
    exact Ev.bind (impl_PrimeOk_ev 63) (Ev.now _)
  · refine Ev.congr (f := fun k => (impl_PrimeOk.f k 127).bind fun t => some (8128, t)) (fun k => by kernel_rfl) ?_
    exact Ev.bind (impl_PrimeOk_ev 127) (Ev.now _)
  · intro a h
    unfold impl_EuclidOf.f
    by_cases h2 : a < 2
    · simp only [if_pos h2]; exact Ev.now _
    · simp only [if_neg h2, if_pos (show a > 7 by omega)]; exact Ev.now _

theorem FnExactEuclidOf : laws_FnExactEuclidOf.Pure := by
  intro a _
  refine Ev.rounds (r := true) ?_
  unfold laws_FnExactEuclidOf.f
  refine Ev.bind (spec_EuclidOf_ev a) (Ev.bind (impl_EuclidOf_ev a) ?_)
  simp only [if_true, bne_self_eq_false, Bool.false_eq_true, if_false]
  exact Ev.now _

end Go.Proofs.Ytnbffmgjeeohgaa.Pure
