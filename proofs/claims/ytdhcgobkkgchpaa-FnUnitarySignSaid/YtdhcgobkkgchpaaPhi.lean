/- How many numbers are apart from a number, by its primes: no program in sight. No conditions. -/
import Derived.Test.YtdhcgobkkgchpaaFac
set_option linter.unusedVariables false
set_option linter.unusedSimpArgs false
namespace Go.Proofs.Ytdhcgobkkgchpaa.Math

/-- 1 for a number apart from n, else 0. -/
def one (g : Nat) : Int := if g = 1 then 1 else 0
def ap (n k : Nat) : Int := one (Nat.gcd k n)
theorem ap_yes {n k : Nat} (h : Nat.gcd k n = 1) : ap n k = 1 := by unfold ap one; rw [h]; rfl
theorem ap_no {n k : Nat} (h : ¬ Nat.gcd k n = 1) : ap n k = 0 := if_neg (c := Nat.gcd k n = 1) h

/-- How many of the numbers from 1 up to n are apart from it. -/
def cnt (n : Nat) : Int := T (ap n) n

theorem cnt_one : cnt 1 = 1 := rfl

theorem gcd_period (n k : Nat) : Nat.gcd (n + k) n = Nat.gcd k n := by simp

theorem ap_period (n k : Nat) : ap n (n + k) = ap n k := by
  unfold ap; rw [gcd_period n k]

theorem Pr.coprime_iff {p a : Nat} (hp : Pr p) : Nat.gcd a p = 1 ↔ ¬ a % p = 0 := by
  constructor
  · intro h h0
    have h1 : p ∣ Nat.gcd a p := Nat.dvd_gcd (mod_dvd.1 h0) (Nat.dvd_refl p)
    rw [h] at h1
    have := Nat.le_of_dvd (by omega) h1
    have := hp.1
    omega
  · intro h
    have := hp.coprime (fun h' => h (mod_dvd.2 h'))
    exact this.symm

theorem gcd_mul_one (k p n : Nat) : Nat.gcd k (p * n) = 1 ↔ Nat.gcd k p = 1 ∧ Nat.gcd k n = 1 := Nat.coprime_mul_iff_right

theorem cnt_again {p n : Nat} (hp : Pr p) (h : p ∣ n) : cnt (p * n) = p * cnt n := by
  unfold cnt
  rw [← T_period (ap n) n (ap_period n) p, Nat.mul_comm n p]
  refine T_congr _ (fun d _ _ => ?_)
  have h2 := hp.1
  have : Nat.gcd d (p * n) = 1 ↔ Nat.gcd d n = 1 := by
    rw [gcd_mul_one]
    refine ⟨fun e => e.2, fun e => ⟨?_, e⟩⟩
    have h1 : Nat.gcd d p ∣ Nat.gcd d n := Nat.dvd_gcd (Nat.gcd_dvd_left _ _) (Nat.dvd_trans (Nat.gcd_dvd_right _ _) h)
    rw [e] at h1
    exact Nat.dvd_one.1 h1
  by_cases e : Nat.gcd d n = 1
  · rw [ap_yes e, ap_yes (this.2 e)]
  · rw [ap_no e, ap_no (fun h => e (this.1 h))]

theorem cnt_new {p n : Nat} (hp : Pr p) (h : ¬ p ∣ n) : cnt (p * n) = (p - 1) * cnt n := by
  have h2 := hp.1
  have e1 : T (ap n) (p * n) = p * cnt n := by
    rw [Nat.mul_comm p n]; exact T_period (ap n) n (ap_period n) p
  have e2 : T (ap n) (p * n) = T (fun d => ap (p * n) d + (if d % p = 0 then ap n (d / p) else 0)) (p * n) := by
    refine T_congr _ (fun d _ _ => ?_)
    have key := gcd_mul_one d p n
    rw [hp.coprime_iff] at key
    by_cases hd : d % p = 0
    · obtain ⟨j, rfl⟩ := mod_dvd.1 hd
      rw [if_pos hd, Nat.mul_div_cancel_left _ (by omega)]
      have e : Nat.gcd (p * j) n = Nat.gcd j n := (hp.coprime h).gcd_mul_left_cancel j
      rw [ap_no (fun e => (key.1 e).1 hd)]
      unfold ap
      rw [e]; omega
    · rw [if_neg hd]
      by_cases e : Nat.gcd d n = 1
      · rw [ap_yes e, ap_yes (key.2 ⟨hd, e⟩)]; rfl
      · rw [ap_no e, ap_no (fun h => e (key.1 h).2)]; rfl
  rw [T_add, T_multiples (ap n) (by omega)] at e2
  have : cnt (p * n) = T (ap (p * n)) (p * n) := rfl
  have e3 : cnt n = T (ap n) n := rfl
  rw [Int.sub_mul]
  omega

theorem cnt_pow {p m : Nat} (hp : Pr p) (h : ¬ p ∣ m) : ∀ k, cnt (p ^ (k + 1) * m) = ((p ^ k * (p - 1) : Nat) : Int) * cnt m
  | 0 => by
    have := hp.1
    rw [Nat.pow_one, cnt_new hp h]
    rw [Nat.pow_zero, Nat.one_mul, show ((p - 1 : Nat) : Int) = (p : Int) - 1 by omega]
  | k + 1 => by
    rw [Nat.pow_succ, Nat.mul_comm _ p, Nat.mul_assoc, cnt_again hp ⟨p ^ k * m, by rw [Nat.pow_succ, Nat.mul_comm _ p, Nat.mul_assoc]⟩, cnt_pow hp h k, Nat.pow_succ, Nat.mul_comm (p ^ k) p, Nat.mul_assoc, Int.natCast_mul p, Int.mul_assoc]

/-- The number, divided by each of its primes and multiplied by 1 less. -/
def phiF (acc : Nat) : List (Nat × Nat) → Nat
  | [] => acc
  | x :: l => phiF (acc / x.1 * (x.1 - 1)) l

def phi (n : Nat) : Nat := phiF n (facs n)

theorem phiF_cnt {n : Nat} (hn : 1 ≤ n) : ∀ c : Nat, (phiF (c * n) (facs n) : Int) = c * cnt n := by
  refine facs_induct (P := fun n l => ∀ c : Nat, (phiF (c * n) l : Int) = c * cnt n) ?_ ?_ hn
  · intro c; simp [phiF, cnt_one]
  · intro q k m l hq hk hm hqm ih c
    have h2 := hq.1
    obtain ⟨k, rfl⟩ : ∃ j, k = j + 1 := ⟨k - 1, by omega⟩
    simp only [phiF]
    have e : c * (q ^ (k + 1) * m) / q * (q - 1) = (c * (q ^ k * (q - 1))) * m := by
      have : c * (q ^ (k + 1) * m) = q * (c * (q ^ k * m)) := by
        rw [Nat.pow_succ]
        simp only [Nat.mul_comm, Nat.mul_left_comm]
      rw [this, Nat.mul_div_cancel_left _ (by omega)]
      simp only [Nat.mul_comm, Nat.mul_left_comm, Nat.mul_assoc]
    rw [e, ih, cnt_pow hq hqm, Int.natCast_mul, Int.mul_assoc]

theorem phi_cnt {n : Nat} (hn : 1 ≤ n) : (phi n : Int) = cnt n := by
  have := phiF_cnt hn 1
  rw [Nat.one_mul] at this
  unfold phi
  rw [this]; omega

theorem phiF_le : ∀ (l : List (Nat × Nat)) (acc : Nat), phiF acc l ≤ acc
  | [], acc => Nat.le_refl _
  | x :: l, acc => by
    have h1 := phiF_le l (acc / x.1 * (x.1 - 1))
    have h2 : acc / x.1 * (x.1 - 1) ≤ acc / x.1 * x.1 := Nat.mul_le_mul_left _ (by omega)
    have h3 := Nat.div_mul_le_self acc x.1
    simp only [phiF]; omega

/-- Over all divisors it is together the number. -/
theorem D_cnt {n : Nat} (hn : 1 ≤ n) : D cnt n = n := by
  refine facs_induct (P := fun n _ => D cnt n = n) ?_ ?_ hn
  · rw [D_one, cnt_one]; rfl
  · intro q k m l hq hk hm hqm ih
    have h2 := hq.1
    clear hk
    induction k with
    | zero => rw [Nat.pow_zero, Nat.one_mul]; exact ih
    | succ k ihk =>
      have hpos : 1 ≤ q ^ k * m := Nat.mul_pos (Nat.pow_pos (by omega)) hm
      rw [D_pow cnt hq hm hqm k]
      have e : D (fun d => cnt (q * d)) (q ^ k * m) = D (fun d => q * cnt d + (-1) * nz q cnt d) (q ^ k * m) := by
        refine D_congr (fun d h1 _ _ => ?_)
        unfold nz
        by_cases hd : d % q = 0
        · rw [cnt_again hq (mod_dvd.1 hd), if_pos hd]; omega
        · rw [cnt_new hq (fun h => hd (mod_dvd.2 h)), if_neg hd, Int.sub_mul]; omega
      rw [e, D_add, D_mul, D_mul, D_nz_pow cnt hq hm hqm, ihk, ih, Nat.pow_succ, Nat.mul_comm (q ^ k) q, Nat.mul_assoc]
      simp; omega

theorem cnt_pos {n : Nat} (hn : 1 ≤ n) : 1 ≤ cnt n := by
  have h : T (fun d => if d = 1 then (1 : Int) else 0) n ≤ cnt n := by
    refine T_le n (fun d h1 h2 => ?_)
    by_cases e : d = 1
    · subst e; rw [ap_yes (Nat.gcd_one_left n), if_pos rfl]; exact Int.le_refl _
    · rw [if_neg e]; unfold ap one; split <;> omega
  rw [T_one 1 (Nat.le_refl 1) n hn] at h
  exact h

end Go.Proofs.Ytdhcgobkkgchpaa.Math
