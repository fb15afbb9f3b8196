/- What is apart comes back to 1: Euler's theorem, and orders. No program in sight. No conditions. -/
import Derived.Test.YtplnpkagamnodaaPhi
set_option linter.unusedVariables false
set_option linter.unusedSimpArgs false
namespace Go.Proofs.Ytplnpkagamnodaa.Math

def prod : List Nat → Nat
  | [] => 1
  | x :: l => x * prod l

theorem prod_erase : ∀ {l : List Nat} {x : Nat}, x ∈ l → prod l = x * prod (l.erase x)
  | y :: l, x, h => by
    by_cases e : y = x
    · subst e; simp [prod]
    · have hx : x ∈ l := by
        rw [List.mem_cons] at h
        rcases h with h | h
        · exact absurd h.symm e
        · exact h
      rw [List.erase_cons_tail (by simpa using e)]
      simp only [prod]
      rw [prod_erase hx]
      simp only [Nat.mul_left_comm]

theorem prod_same : ∀ (l m : List Nat), l.Nodup → (∀ x ∈ l, x ∈ m) → m.length ≤ l.length → prod l = prod m
  | [], m, _, _, h => by
    have : m = [] := List.length_eq_zero_iff.1 (by simpa using h)
    rw [this]
  | x :: l, m, hl, hs, h => by
    rw [List.nodup_cons] at hl
    have hx := hs x (by simp)
    rw [prod_erase hx]
    simp only [prod]
    have hsub : ∀ y ∈ l, y ∈ m.erase x := by
      intro y hy
      refine (List.mem_erase_of_ne ?_).2 (hs y (List.mem_cons_of_mem _ hy))
      intro e
      subst e
      exact hl.1 hy
    rw [prod_same l (m.erase x) hl.2 hsub ?_]
    · rw [List.length_erase_of_mem hx]
      simp at h; omega

/-- The numbers from 1 up to n that are apart from it. -/
def units (n : Nat) : List Nat := L (fun k => Nat.gcd k n == 1) n

theorem units_mem {n x : Nat} : x ∈ units n ↔ 1 ≤ x ∧ x ≤ n ∧ Nat.gcd x n = 1 := by
  unfold units; rw [L_mem]; simp

theorem units_length (n : Nat) : ((units n).length : Int) = cnt n := by
  unfold units cnt
  rw [length_L]
  refine T_congr n (fun d _ _ => ?_)
  by_cases e : Nat.gcd d n = 1
  · rw [ap_yes e]; simp [e]
  · rw [ap_no e]; simp [e]

theorem prod_coprime {n : Nat} : ∀ (l : List Nat), (∀ x ∈ l, Nat.gcd x n = 1) → Nat.gcd (prod l) n = 1
  | [], _ => by simp [prod]
  | x :: l, h => by
    simp only [prod]
    exact Nat.Coprime.mul_left (h x (by simp)) (prod_coprime l (fun y hy => h y (by simp [hy])))

theorem prod_map (a n : Nat) : ∀ (l : List Nat), prod (l.map (fun u => a * u % n)) % n = a ^ l.length * prod l % n
  | [] => by simp [prod]
  | x :: l => by
    simp only [List.map_cons, prod, List.length_cons]
    rw [Nat.mul_mod, prod_map a n l, Nat.mod_mod, ← Nat.mul_mod, Nat.pow_succ]
    congr 1
    simp only [Nat.mul_comm, Nat.mul_left_comm, Nat.mul_assoc]

theorem mod_sub {n x y : Nat} (h : x ≤ y) : x % n = y % n ↔ n ∣ y - x := by
  constructor
  · intro e
    have := Nat.div_add_mod x n
    have := Nat.div_add_mod y n
    refine ⟨y / n - x / n, ?_⟩
    rw [Nat.mul_sub]; omega
  · rintro ⟨c, hc⟩
    rw [show y = x + n * c by omega, Nat.add_mul_mod_self_left]

/-- a times x and a times y leave the same only if x and y do. -/
theorem mul_cancel_mod {a n x y : Nat} (h : Nat.gcd a n = 1) (e : a * x % n = a * y % n) (hle : x ≤ y) : n ∣ y - x := by
  have h1 : n ∣ a * y - a * x := (mod_sub (Nat.mul_le_mul_left a hle)).1 e
  rw [← Nat.mul_sub] at h1
  exact (Nat.Coprime.symm h : Nat.Coprime n a).dvd_of_dvd_mul_left h1
theorem nodup_map {f : Nat → Nat} : ∀ {l : List Nat}, l.Nodup → (∀ x ∈ l, ∀ y ∈ l, f x = f y → x = y) → (l.map f).Nodup
  | [], _, _ => by simp
  | x :: l, h, hf => by
    rw [List.nodup_cons] at h
    rw [List.map_cons, List.nodup_cons]
    refine ⟨fun hx => ?_, nodup_map h.2 (fun a ha b hb => hf a (by simp [ha]) b (by simp [hb]))⟩
    obtain ⟨y, hy, e⟩ := List.mem_map.1 hx
    have := hf y (by simp [hy]) x (by simp) e
    exact h.1 (this ▸ hy)

theorem units_nodup (n : Nat) : (units n).Nodup := (L_asc _ n).imp (fun h => by omega)

theorem euler {a n : Nat} (hn : 1 ≤ n) (h : Nat.gcd a n = 1) : a ^ (units n).length % n = 1 % n := by
  by_cases h1 : n = 1
  · subst h1; simp [Nat.mod_one]
  · have hf : ∀ u, Nat.gcd u n = 1 → Nat.gcd (a * u % n) n = 1 := by
      intro u hu
      rw [← Nat.gcd_rec, Nat.gcd_comm]
      exact Nat.Coprime.mul_left h hu
    have hlt : ∀ u ∈ units n, u < n := by
      intro u hu
      obtain ⟨_, b, c⟩ := units_mem.1 hu
      rcases Nat.lt_or_ge u n with e | e
      · exact e
      · have : u = n := by omega
        rw [this, Nat.gcd_self] at c; omega
    have hsub : ∀ x ∈ (units n).map (fun u => a * u % n), x ∈ units n := by
      intro x hx
      obtain ⟨u, hu, rfl⟩ := List.mem_map.1 hx
      obtain ⟨_, _, c⟩ := units_mem.1 hu
      have hg := hf u c
      refine units_mem.2 ⟨?_, Nat.le_of_lt (Nat.mod_lt _ hn), hg⟩
      rcases Nat.eq_zero_or_pos (a * u % n) with e | e
      · rw [e, Nat.gcd_zero_left] at hg; omega
      · exact e
    have hnd : ((units n).map (fun u => a * u % n)).Nodup := by
      refine nodup_map (units_nodup n) (fun x hx y hy e => ?_)
      have hx1 := hlt x hx
      have hy1 := hlt y hy
      rcases Nat.le_total x y with hle | hle
      · have := mul_cancel_mod h e hle
        rcases Nat.eq_zero_or_pos (y - x) with e' | e'
        · omega
        · have := Nat.le_of_dvd e' this; omega
      · have := mul_cancel_mod h e.symm hle
        rcases Nat.eq_zero_or_pos (x - y) with e' | e'
        · omega
        · have := Nat.le_of_dvd e' this; omega
    have hp := prod_same _ (units n) hnd hsub (by simp)
    have hm := prod_map a n (units n)
    rw [hp] at hm
    have hc : Nat.gcd (prod (units n)) n = 1 := prod_coprime _ (fun x hx => (units_mem.1 hx).2.2)
    have hpos : 1 ≤ a ^ (units n).length := by
      rcases Nat.eq_zero_or_pos a with e | e
      · rw [e, Nat.gcd_zero_left] at h; omega
      · exact Nat.pow_pos e
    have hd := mul_cancel_mod (x := 1) (y := a ^ (units n).length) hc (by rw [Nat.mul_one, Nat.mul_comm]; exact hm) hpos
    exact ((mod_sub hpos).2 hd).symm

theorem euler_phi {a n : Nat} (hn : 1 ≤ n) (h : Nat.gcd a n = 1) : a ^ phi n % n = 1 % n := by
  have : phi n = (units n).length := by
    have h1 := phi_cnt hn
    have h2 := units_length n
    omega
  rw [this]; exact euler hn h

/-- The least power from 1 on that leaves 1. -/
theorem least {P : Nat → Prop} : ∀ m, (1 ≤ m ∧ P m) → ∃ k, 1 ≤ k ∧ k ≤ m ∧ P k ∧ ∀ j, 1 ≤ j → j < k → ¬ P j := by
  intro m
  induction m using Nat.strongRecOn with
  | ind m ih =>
    rintro ⟨h1, hP⟩
    by_cases h : ∃ j, 1 ≤ j ∧ j < m ∧ P j
    · obtain ⟨j, a, b, c⟩ := h
      obtain ⟨k, k1, k2, k3, k4⟩ := ih j b ⟨a, c⟩
      exact ⟨k, k1, by omega, k3, k4⟩
    · exact ⟨m, h1, Nat.le_refl _, hP, fun j a b c => h ⟨j, a, b, c⟩⟩

theorem order_exists {a n : Nat} (hn : 1 ≤ n) (h : Nat.gcd a n = 1) : ∃ k, 1 ≤ k ∧ k ≤ n ∧ a ^ k % n = 1 % n ∧ ∀ j, 1 ≤ j → j < k → ¬ a ^ j % n = 1 % n := by
  have h1 := phi_cnt hn
  have h2 := cnt_pos hn
  have h3 : phi n ≤ n := phiF_le _ _
  obtain ⟨k, k1, k2, k3, k4⟩ := least (P := fun j => a ^ j % n = 1 % n) (phi n) ⟨by omega, euler_phi hn h⟩
  exact ⟨k, k1, by omega, k3, k4⟩

theorem pow_mod_one {a n k : Nat} (h : a ^ k % n = 1 % n) : ∀ q, a ^ (k * q) % n = 1 % n
  | 0 => by simp
  | q + 1 => by rw [Nat.mul_succ, Nat.pow_add, Nat.mul_mod, pow_mod_one h q, h, ← Nat.mul_mod]

/-- The order divides whatever power leaves 1. -/
theorem order_dvd {a n k m : Nat} (h1 : 1 ≤ k) (h2 : a ^ k % n = 1 % n) (h3 : ∀ j, 1 ≤ j → j < k → ¬ a ^ j % n = 1 % n) (hm : a ^ m % n = 1 % n) : m % k = 0 := by
  rcases Nat.eq_zero_or_pos (m % k) with e | e
  · exact e
  · refine absurd ?_ (h3 (m % k) e (Nat.mod_lt _ h1))
    have e1 : a ^ m % n = a ^ (m % k) % n := by
      rw [← Nat.div_add_mod m k] 
      rw [Nat.pow_add, Nat.mul_mod, pow_mod_one h2, ← Nat.mul_mod, Nat.one_mul, Nat.mul_add_mod, Nat.mod_mod]
    rw [← e1, hm]

end Go.Proofs.Ytplnpkagamnodaa.Math
