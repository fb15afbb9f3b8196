/- What numbers share with a number, and sums of divisors at primes and multiples: no program in sight. No conditions. -/
import Derived.Test.YtplnpkagamnodaaMul
set_option linter.unusedVariables false
set_option linter.unusedSimpArgs false
namespace Go.Proofs.Ytplnpkagamnodaa.Math

/-- How many numbers share just d with d times m. -/
theorem share_cnt {d m : Nat} (hd : 1 ≤ d) : T (fun k => if Nat.gcd k (d * m) = d then 1 else 0) (d * m) = cnt m := by
  have e : T (fun k => if Nat.gcd k (d * m) = d then (1 : Int) else 0) (d * m) = T (fun k => if k % d = 0 then ap m (k / d) else 0) (d * m) := by
    refine T_congr _ (fun k _ _ => ?_)
    by_cases hk : k % d = 0
    · obtain ⟨j, rfl⟩ := mod_dvd.1 hk
      rw [if_pos hk, Nat.gcd_mul_left, Nat.mul_div_cancel_left _ (by omega)]
      by_cases hj : Nat.gcd j m = 1
      · rw [ap_yes hj, hj, if_pos (Nat.mul_one d)]
      · rw [ap_no hj, if_neg]
        intro h
        exact hj (Nat.eq_of_mul_eq_mul_left (show 0 < d by omega) (by rw [h, Nat.mul_one]))
    · rw [if_neg hk, if_neg]
      intro h
      exact hk (mod_dvd.2 (h ▸ Nat.gcd_dvd_left k (d * m)))
  rw [e, T_multiples (ap m) hd]
  rfl

theorem share_phi {d n : Nat} (hd : 1 ≤ d) (hn : 1 ≤ n) (h : n % d = 0) : T (fun k => if Nat.gcd k n = d then 1 else 0) n = (phi (n / d) : Int) := by
  obtain ⟨m, rfl⟩ := mod_dvd.1 h
  have hm : 1 ≤ m := by
    rcases Nat.eq_zero_or_pos m with e | e
    · rw [e] at hn; simp at hn
    · exact e
  rw [Nat.mul_div_cancel_left _ (by omega), phi_cnt hm]
  exact share_cnt hd

/-- Sums of what is shared are sums over divisors. -/
theorem shared_sum {n : Nat} (hn : 1 ≤ n) : T (fun k => ((Nat.gcd k n : Nat) : Int)) n = D (fun d => (d : Int) * (phi (n / d) : Int)) n := by
  have e1 : T (fun k => ((Nat.gcd k n : Nat) : Int)) n = T (fun k => T (fun d => if n % d = 0 then (d : Int) * (if Nat.gcd k n = d then 1 else 0) else 0) n) n := by
    refine T_congr _ (fun k h1 h2 => ?_)
    have hg : 1 ≤ Nat.gcd k n := Nat.gcd_pos_of_pos_left n h1
    have hg2 : Nat.gcd k n ≤ n := Nat.gcd_le_right k (show 0 < n by omega)
    rw [← T_one (((Nat.gcd k n : Nat) : Int)) hg n hg2]
    refine T_congr _ (fun d d1 d2 => ?_)
    by_cases e : d = Nat.gcd k n
    · rw [if_pos e, if_pos (mod_dvd.2 (e ▸ Nat.gcd_dvd_right k n)), if_pos e.symm, e]; omega
    · rw [if_neg e, if_neg (show ¬ Nat.gcd k n = d from fun h => e h.symm), Int.mul_zero, ite_self]
  rw [e1, T_swap]
  refine T_congr _ (fun d d1 d2 => ?_)
  by_cases h : n % d = 0
  · simp only [if_pos h]
    rw [T_mul, share_phi d1 hn h]
  · simp only [if_neg h]
    exact T_zero n (fun _ _ _ => rfl)

theorem shared_ge {n : Nat} (hn : 1 ≤ n) : 2 * (n : Int) - 1 ≤ T (fun k => ((Nat.gcd k n : Nat) : Int)) n := by
  have h : T (fun k => 1 + (if k = n then (n : Int) - 1 else 0)) n ≤ T (fun k => ((Nat.gcd k n : Nat) : Int)) n := by
    refine T_le n (fun k h1 h2 => ?_)
    have hg : 1 ≤ Nat.gcd k n := Nat.gcd_pos_of_pos_left n h1
    by_cases e : k = n
    · rw [if_pos e, e, Nat.gcd_self]; omega
    · rw [if_neg e]; omega
  rw [T_add, T_const, T_one ((n : Int) - 1) hn n (Nat.le_refl n)] at h
  omega

theorem pr7 : Pr 7 := divs_two (by omega) (by decide +kernel)
theorem pr11 : Pr 11 := divs_two (by omega) (by decide +kernel)

theorem phi_seven {n : Nat} (hn : 1 ≤ n) (h : ¬ n % 7 = 0) : (phi (7 * n) : Int) = 6 * (phi n : Int) := by
  rw [phi_cnt (by omega), phi_cnt hn, cnt_new pr7 (fun e => h (mod_dvd.2 e))]; rfl

theorem D_eleven {n : Nat} (hn : 1 ≤ n) (h : ¬ n % 11 = 0) : D (fun d => (d : Int)) (11 * n) = 12 * D (fun d => (d : Int)) n := by
  have := D_id_pow pr11 hn (fun e => h (mod_dvd.2 e)) 1
  rw [Nat.pow_one] at this
  rw [this]; rfl

/-- The sum over all divisors of how many are apart is the number. -/
theorem sum_phi {n : Nat} (hn : 1 ≤ n) : sumL (fun d => (phi d : Int)) (divs n) = n := by
  rw [sum_divs, ← D_cnt hn]
  refine D_congr (fun d h1 _ _ => phi_cnt h1)

theorem D_pr {n : Nat} (h : Pr n) : D (fun d => (d : Int)) n = n + 1 := by
  rw [← sum_divs, divs_pr h]
  simp only [sumL]; omega

/-- The proper sum is 1 for primes alone. -/
theorem pr_D {n : Nat} (hn : 1 ≤ n) (h : D (fun d => (d : Int)) n = n + 1) : Pr n := by
  have h1 : n ≠ 1 := by
    intro e
    rw [e, D_one] at h
    omega
  refine ⟨by omega, fun d hd => ?_⟩
  have hdpos := Nat.pos_of_dvd_of_pos hd hn
  have hdle := Nat.le_of_dvd hn hd
  by_cases e1 : d = 1
  · exact .inl e1
  · by_cases e2 : d = n
    · exact .inr e2
    · exfalso
      have hle : T (fun e => ((if e = 1 then (1 : Int) else 0) + (if e = d then (d : Int) else 0)) + (if e = n then (n : Int) else 0)) n ≤ D (fun d => (d : Int)) n := by
        refine T_le n (fun e _ _ => ?_)
        by_cases a1 : e = 1
        · rw [if_pos a1, if_neg (show ¬ e = d by omega), if_neg (show ¬ e = n by omega), if_pos (by rw [a1]; exact Nat.mod_one n), a1]; dsimp only; omega
        · by_cases a2 : e = d
          · rw [if_neg a1, if_pos a2, if_neg (show ¬ e = n by omega), if_pos (by rw [a2]; exact mod_dvd.2 hd), a2]; dsimp only; omega
          · by_cases a3 : e = n
            · rw [if_neg a1, if_neg a2, if_pos a3, if_pos (by rw [a3]; exact Nat.mod_self n), a3]; dsimp only; omega
            · rw [if_neg a1, if_neg a2, if_neg a3]; dsimp only; split <;> omega
      rw [T_add, T_add, T_one 1 (Nat.le_refl 1) n hn, T_one _ hdpos n hdle, T_one _ hn n (Nat.le_refl n)] at hle
      omega

/-- At a multiple there is more than the multiple of the sum. -/
theorem D_multiple {k n : Nat} (hk : 2 ≤ k) (hn : 1 ≤ n) : (k : Int) * D (fun d => (d : Int)) n + 1 ≤ D (fun d => (d : Int)) (k * n) := by
  have hkn : n ≤ k * n := Nat.le_mul_of_pos_left n (by omega)
  have hle : T (fun e => (if e % k = 0 then (fun j => if n % j = 0 then (k : Int) * (j : Int) else 0) (e / k) else 0) + (if e = 1 then (1 : Int) else 0)) (k * n) ≤ D (fun d => (d : Int)) (k * n) := by
    refine T_le _ (fun e h1 _ => ?_)
    by_cases he : e % k = 0
    · obtain ⟨j, rfl⟩ := mod_dvd.1 he
      have hj1 : ¬ k * j = 1 := by
        intro e
        have : k ∣ 1 := ⟨j, e.symm⟩
        have := Nat.le_of_dvd (by omega) this
        omega
      rw [if_pos he, if_neg hj1, Nat.mul_div_cancel_left _ (by omega)]
      by_cases hj : n % j = 0
      · have : (k * n) % (k * j) = 0 := by rw [Nat.mul_mod_mul_left, hj]; simp
        simp only [if_pos hj, if_pos this]
        rw [Int.natCast_mul]; omega
      · simp only [if_neg hj]
        split <;> omega
    · rw [if_neg he]
      by_cases e1 : e = 1
      · rw [if_pos e1, if_pos (by rw [e1]; exact Nat.mod_one _), e1]; dsimp only; omega
      · rw [if_neg e1]; dsimp only; split <;> omega
  rw [T_add, T_multiples (fun j => if n % j = 0 then (k : Int) * (j : Int) else 0) (by omega), T_one 1 (Nat.le_refl 1) _ (by omega)] at hle
  have e : T (fun j => if n % j = 0 then (k : Int) * (j : Int) else 0) n = (k : Int) * D (fun d => (d : Int)) n := by
    rw [← D_mul]; rfl
  rw [e] at hle
  exact hle

theorem D_power {q : Nat} (hq : Pr q) (k : Nat) : D (fun d => (d : Int)) (q ^ k) < 2 * ((q ^ k : Nat) : Int) := by
  have h := D_id_pow hq (Nat.le_refl 1) (fun e => by have := Nat.le_of_dvd (by omega) e; have := hq.1; omega) k
  rw [Nat.mul_one, D_one] at h
  rw [h]
  have := gs_lt hq.1 k
  omega

theorem sumL_mono {f : Nat → Int} (h : ∀ x, 0 ≤ f x) : ∀ (l : List Nat), 0 ≤ sumL f l
  | [] => Int.le_refl _
  | x :: l => by
    have := sumL_mono h l
    have := h x
    simp only [sumL]; omega

end Go.Proofs.Ytplnpkagamnodaa.Math
