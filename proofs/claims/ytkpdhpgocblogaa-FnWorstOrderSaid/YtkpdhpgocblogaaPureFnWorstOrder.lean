/- The program's WorstOrder answers as the reference's; each number that is apart leaves 1 to that power, and of primes it is 1 less than the prime: for every code. No conditions. -/
import Derived.Test.YtkpdhpgocblogaaPFnWorstOrderx4
import Derived.Test.YtkpdhpgocblogaaEvs
import Derived.Test.YtkpdhpgocblogaaEuler
import Derived.Test.YtkpdhpgocblogaaMul
namespace Go.Proofs.Ytkpdhpgocblogaa.Pure
open Go.RowKit Go.Proofs.Ytkpdhpgocblogaa.PFnWorstOrder Go.Proofs.YtkpdhpgocblogaaW.PrintWords Go.Proofs.YtkpdhpgocblogaaW.PrintLast Go.Proofs.YtkpdhpgocblogaaW.PrintMore Go.Proofs.Ytkpdhpgocblogaa.Math
set_option linter.unusedVariables false
set_option linter.unusedSimpArgs false

/-- k is the least power from 1 on of a that leaves 1. -/
def IsOrd (a n k : Nat) : Prop := 1 ≤ k ∧ k ≤ n ∧ a ^ k % n = 1 % n ∧ ∀ j, 1 ≤ j → j < k → ¬ a ^ j % n = 1 % n

/-- Is k apart from n? -/
def apB (n k : Nat) : Bool := Nat.gcd k n == 1

/-- The answer r of OrderOf. -/
def OrdI (a n r : Int) : Prop := (¬ (inN a ∧ (1 ≤ n ∧ n ≤ 500) ∧ Nat.gcd a.toNat n.toNat = 1) ∧ r = -1) ∨ (inN a ∧ (1 ≤ n ∧ n ≤ 500) ∧ Nat.gcd a.toNat n.toNat = 1 ∧ ∃ k : Nat, r = k ∧ IsOrd a.toNat n.toNat k)

theorem OrdI_exists (a n : Int) : ∃ r, OrdI a n r := by
  by_cases h : inN a ∧ (1 ≤ n ∧ n ≤ 500) ∧ Nat.gcd a.toNat n.toNat = 1
  · obtain ⟨k, k1, k2, k3, k4⟩ := order_exists (a := a.toNat) (n := n.toNat) (by omega) h.2.2
    exact ⟨k, .inr ⟨h.1, h.2.1, h.2.2, k, rfl, k1, k2, k3, k4⟩⟩
  · exact ⟨-1, .inl ⟨h, rfl⟩⟩

/-- The answer of OrderOf, as a function. -/
noncomputable def ordI (a n : Int) : Int := Classical.choose (OrdI_exists a n)

theorem ordI_spec (a n : Int) : OrdI a n (ordI a n) := Classical.choose_spec (OrdI_exists a n)

noncomputable def worF (n acc : Int) : List Nat → Int
  | [] => acc
  | x :: l => worF n (mx acc (ordI (x : Int) n)) l

/-- What is left of a power. -/
def pmI (a t n : Int) : Int := if inN a ∧ (0 ≤ t ∧ t ≤ 1000000) ∧ inN n then ((a.toNat ^ t.toNat % n.toNat : Nat) : Int) else -1

theorem numberOk_eq (a : Int) : impl_numberOk.f a = some (decide (inN a)) := by
  unfold impl_numberOk.f inN
  by_cases h : 1 ≤ a
  · rw [if_pos h]; simp [h]
  · rw [if_neg h]; simp [h]

theorem reverse_l (d : Nat) : ∀ (A M B : List Int), M.length ≤ d → A.length + M.length + B.length ≤ 1000000000 →
    Ev (fun k => slices_Reverse_int_int.l0 k (A ++ M ++ B) (A.length : Int) ((A.length : Int) + (M.length : Int) - 1)) (A ++ M.reverse ++ B) := by
  induction d using Nat.strongRecOn with
  | ind d ih =>
    intro A M B hd hb
    refine Ev_suc ?_
    simp only [slices_Reverse_int_int.l0]
    by_cases h2 : M.length ≤ 1
    · have c0 : ¬ (A.length : Int) < (A.length : Int) + (M.length : Int) - 1 := by omega
      simp only [if_neg c0]
      have e : M.reverse = M := by
        match M, h2 with
        | [], _ => rfl
        | [x], _ => rfl
      rw [e]
      exact Ev.now _
    · match M, h2 with
      | x :: M', h2 =>
        obtain ⟨N, y, rfl⟩ : ∃ N y, M' = N ++ [y] := by
          rcases List.eq_nil_or_concat M' with e | ⟨N, y, e⟩
          · rw [e] at h2; simp at h2
          · exact ⟨N, y, by rw [e, List.concat_eq_append]⟩
        have hl : (x :: (N ++ [y])).length = N.length + 2 := by simp
        rw [hl] at hd hb ⊢
        have e3 : (A.length : Int) + ((N.length + 2 : Nat) : Int) - 1 = ((A.length + (N.length + 1) : Nat) : Int) := by omega
        rw [e3]
        have hlen : (A ++ x :: (N ++ [y]) ++ B).length = A.length + N.length + 2 + B.length := by simp; omega
        have r1 : rd (A ++ x :: (N ++ [y]) ++ B) ((A.length + (N.length + 1) : Nat) : Int) = y := by
          unfold rd
          rw [Int.toNat_natCast, List.getD_eq_getElem?_getD, List.append_assoc, List.getElem?_append_right (by omega), Nat.add_sub_cancel_left]
          simp
        have r2 : rd (A ++ x :: (N ++ [y]) ++ B) (A.length : Int) = x := by
          unfold rd
          rw [Int.toNat_natCast, List.getD_eq_getElem?_getD, List.append_assoc, List.getElem?_append_right (Nat.le_refl _), Nat.sub_self]
          simp
        have hs : ((A ++ x :: (N ++ [y]) ++ B).set A.length y).set (A.length + (N.length + 1)) x = (A ++ [y]) ++ N ++ (x :: B) := by
          simp only [List.append_assoc, List.cons_append]
          rw [List.set_append_right _ _ (Nat.le_refl _), Nat.sub_self, List.set_cons_zero, List.set_append_right _ _ (by omega), Nat.add_sub_cancel_left, List.set_cons_succ,
            List.set_append_right _ _ (Nat.le_refl _), Nat.sub_self]
          simp
        have c1 : (A.length : Int) < ((A.length + (N.length + 1) : Nat) : Int) := by omega
        have c2 : (0 : Int) ≤ ((A.length + (N.length + 1) : Nat) : Int) := by omega
        have c3 : ((A.length + (N.length + 1) : Nat) : Int) < ((A ++ x :: (N ++ [y]) ++ B).length : Int) := by rw [hlen]; omega
        have c4 : (0 : Int) ≤ (A.length : Int) := by omega
        have c5 : (A.length : Int) < ((A ++ x :: (N ++ [y]) ++ B).length : Int) := by rw [hlen]; omega
        have w1 : wrap64 ((A.length : Int) + 1) = ((A ++ [y]).length : Int) := by rw [w64 (by omega) (by omega)]; simp
        have w2 : wrap64 (((A.length + (N.length + 1) : Nat) : Int) - 1) = ((A ++ [y]).length : Int) + (N.length : Int) - 1 := by rw [w64 (by omega) (by omega)]; simp; omega
        simp only [if_pos c1, if_pos c2, if_pos c3, if_pos c4, if_pos c5, r1, r2, Int.toNat_natCast, hs, w1, w2]
        have hres : A ++ (x :: (N ++ [y])).reverse ++ B = (A ++ [y]) ++ N.reverse ++ (x :: B) := by simp
        rw [hres]
        exact ih N.length (by omega) (A ++ [y]) N (x :: B) (Nat.le_refl _) (by simp; omega)

theorem reverse_ev (l : List Int) (h : l.length ≤ 1000000000) : Ev (fun k => slices_Reverse_int_int.f k l) l.reverse := by
  unfold slices_Reverse_int_int.f
  have e := reverse_l l.length [] l [] (Nat.le_refl _) (by simpa using h)
  simp only [List.nil_append, List.append_nil, List.length_nil, Int.natCast_zero, Int.zero_add] at e
  rw [w64 (by omega) (by omega)]
  exact e

theorem impl_divisors_l {n : Nat} (hn : 1 ≤ n) (hn2 : n ≤ 10000) (d : Nat) : ∀ c, c * c ≤ n → n - c = d →
    Ev (fun k => impl_divisors.l0 k (n : Int) (lI (L (dv n) c)) (lI ((L (sm n) c).map (fun d => n / d))) ((c + 1 : Nat) : Int)) (lI (divs n)) := by
  induction d using Nat.strongRecOn with
  | ind d ih =>
    intro c hc hd
    have hcn : c ≤ n := by
      rcases Nat.eq_zero_or_pos c with e | e
      · omega
      · have := Nat.le_mul_of_pos_left c e; omega
    have hsq : (c + 1) * (c + 1) ≤ 100000000000 := by
      have : (c + 1) * (c + 1) ≤ 10001 * 10001 := Nat.mul_le_mul (by omega) (by omega)
      omega
    refine Ev_suc ?_
    simp only [impl_divisors.l0]
    rw [w64_mul (by omega)]
    have l1 : (lI (L (dv n) c)).length < 17592186044416 := by rw [lI_length]; have := L_length_le (dv n) c; omega
    have l2 : (lI ((L (sm n) c).map (fun d => n / d))).length < 17592186044416 := by rw [lI_length, List.length_map]; have := L_length_le (sm n) c; omega
    have hw : wrap64 (((c + 1 : Nat) : Int) + 1) = ((c + 1 + 1 : Nat) : Int) := w64_succ (by omega)
    by_cases h : (c + 1) * (c + 1) ≤ n
    · have c1 : (((c + 1) * (c + 1) : Nat) : Int) ≤ (n : Int) := Int.ofNat_le.2 h
      have c2 : ¬ ((c + 1 : Nat) : Int) = 0 := by omega
      have hcn' : c + 1 ≤ n := by
        have := Nat.le_mul_of_pos_left (c + 1) (show 0 < c + 1 by omega); omega
      have next := ih (n - (c + 1)) (by omega) (c + 1) h rfl
      simp only [if_pos c1, if_neg c2, tmod_nat, hw, w64_div (show n ≤ 9223372036854775807 by omega)]
      by_cases h0 : n % (c + 1) = 0
      · have c3 : ((n % (c + 1) : Nat) : Int) = 0 := by omega
        rw [L_yes (dv_iff.2 h0), lI_append] at next
        simp only [if_pos c3, if_pos l1, Option.bind_some]
        by_cases hs : (c + 1) * (c + 1) < n
        · have c4 : (((c + 1) * (c + 1) : Nat) : Int) < (n : Int) := Int.ofNat_lt.2 hs
          rw [L_yes (sm_iff.2 ⟨h0, hs⟩), List.map_append, lI_append] at next
          simp only [if_pos c4, if_pos l2]
          exact next
        · have c4 : ¬ (((c + 1) * (c + 1) : Nat) : Int) < (n : Int) := fun e => hs (Int.ofNat_lt.1 e)
          rw [L_no (fun e => hs (sm_iff.1 e).2)] at next
          simp only [if_neg c4]
          exact next
      · have c3 : ¬ ((n % (c + 1) : Nat) : Int) = 0 := by omega
        rw [L_no (fun e => h0 (dv_iff.1 e)), L_no (fun e => h0 (sm_iff.1 e).1)] at next
        simp only [if_neg c3]
        exact next
    · have c1 : ¬ (((c + 1) * (c + 1) : Nat) : Int) ≤ (n : Int) := fun e => h (Int.ofNat_le.1 e)
      simp only [if_neg c1]
      refine Ev.bind (reverse_ev _ (by rw [lI_length, List.length_map]; have := L_length_le (sm n) c; omega)) ?_
      have l3 : (lI (L (dv n) c)).length + (lI ((L (sm n) c).map (fun d => n / d))).reverse.length < 17592186044416 := by
        rw [List.length_reverse, lI_length, lI_length, List.length_map]
        have := L_length_le (dv n) c
        have := L_length_le (sm n) c
        omega
      simp only [if_pos l3]
      rw [← divs_pairs hn hc (by omega)]
      have e : lI (L (dv n) c ++ ((L (sm n) c).map (fun d => n / d)).reverse) = lI (L (dv n) c) ++ (lI ((L (sm n) c).map (fun d => n / d))).reverse := by
        rw [lI_append]; simp [lI]
      rw [e]
      exact Ev.now _

theorem impl_divisors_ev {n : Nat} (hn : 1 ≤ n) (hn2 : n ≤ 10000) : Ev (fun k => impl_divisors.f k (n : Int)) (lI (divs n)) :=
  impl_divisors_l hn hn2 n 0 (by omega) rfl

theorem impl_PrimeOk_ev (a : Int) : Ev (fun k => impl_PrimeOk.f k a) (primeI a) := by
  unfold impl_PrimeOk.f primeI
  by_cases h : inN a
  · obtain ⟨n, rfl, h1, h2⟩ := inN_nat h
    simp only [numberOk_eq, Option.bind_some, decide_eq_true_eq, if_pos h, Int.toNat_natCast]
    refine Ev.bind (impl_divisors_ev h1 h2) ?_
    rw [lI_length]
    have e : (((divs n).length : Int) == 2) = decide (inN (n : Int) ∧ (divs n).length = 2) := by
      by_cases e : (divs n).length = 2
      · simp [e, h]
      · simp [e, h]; omega
    rw [e]
    exact Ev.now _
  · simp only [numberOk_eq, Option.bind_some, decide_eq_true_eq, if_neg h, h, false_and, decide_false]
    exact Ev.now _

theorem impl_PowerModulo_no (a t n : Int) : Ev (fun k => impl_PowerModulo.j0 k a t n true) (-1) := by
  refine Ev_suc ?_
  simp only [impl_PowerModulo.j0, if_true]
  exact Ev.now _

theorem one_tmod (n : Nat) : (1 : Int) % (n : Int) = ((1 % n : Nat) : Int) := rfl

theorem pm_start (a t n : Nat) : (1 % n) * (a % n) ^ t % n = a ^ t % n := by
  rw [Nat.mul_mod, Nat.mod_mod, ← Nat.pow_mod, ← Nat.mul_mod, Nat.one_mul]

theorem mul_small {a b n : Nat} (hn : n ≤ 10000) (h1 : a ≤ n) (h2 : b ≤ n) : a * b ≤ 100000000 := by
  have : a * b ≤ 10000 * 10000 := Nat.mul_le_mul (by omega) (by omega)
  omega

theorem pm_even {t n out sq : Nat} (h : t % 2 = 0) : out * (sq * sq % n) ^ (t / 2) % n = out * sq ^ t % n := by
  have e : sq ^ t = (sq * sq) ^ (t / 2) := by
    rw [Nat.mul_pow, ← Nat.pow_add]; congr 1; omega
  rw [Nat.mul_mod, ← Nat.pow_mod, ← Nat.mul_mod, e]

theorem pm_odd {t n out sq : Nat} (h : ¬ t % 2 = 0) : (out * sq % n) * (sq * sq % n) ^ (t / 2) % n = out * sq ^ t % n := by
  have e : sq ^ t = sq * (sq * sq) ^ (t / 2) := by
    rw [Nat.mul_pow, ← Nat.pow_add, ← Nat.pow_succ']; congr 1; omega
  rw [Nat.mul_mod, ← Nat.pow_mod, Nat.mod_mod, ← Nat.mul_mod, e, Nat.mul_assoc]

theorem impl_PowerModulo_l {n : Nat} (h1 : 1 ≤ n) (h2 : n ≤ 10000) : ∀ (t out sq : Nat), t ≤ 1000000 → out < n → sq < n →
    Ev (fun k => impl_PowerModulo.l0 k (t : Int) (n : Int) (out : Int) (sq : Int)) ((out * sq ^ t % n : Nat) : Int) := by
  intro t
  induction t using Nat.strongRecOn with
  | ind t ih =>
    intro out sq ht ho hs
    have m1 := mul_small h2 (Nat.le_of_lt hs) (Nat.le_of_lt hs)
    have m2 := mul_small h2 (Nat.le_of_lt ho) (Nat.le_of_lt hs)
    refine Ev_suc ?_
    have c0 : ¬ (n : Int) = 0 := by omega
    simp only [impl_PowerModulo.l0, tmod2]
    rw [w64_mul (a := sq) (b := sq) (by omega), w64_mul (a := out) (b := sq) (by omega), tdiv2, w64_nat (i := t / 2) (by omega)]
    simp only [tmod_nat]
    by_cases h0 : t = 0
    · subst h0
      have c1 : ¬ ((0 : Nat) : Int) > 0 := by omega
      simp only [if_neg c1]
      rw [Nat.pow_zero, Nat.mul_one, Nat.mod_eq_of_lt ho]
      exact Ev.now _
    · have c1 : (t : Int) > 0 := by omega
      simp only [if_pos c1, if_neg c0]
      by_cases hp : t % 2 = 0
      · have c2 : ((t % 2 : Nat) : Int) = 0 := by omega
        simp only [if_pos c2]
        rw [← pm_even hp]
        exact ih (t / 2) (by omega) out _ (by omega) ho (Nat.mod_lt _ (by omega))
      · have c2 : ¬ ((t % 2 : Nat) : Int) = 0 := by omega
        simp only [if_neg c2]
        rw [← pm_odd hp]
        exact ih (t / 2) (by omega) _ _ (by omega) (Nat.mod_lt _ (by omega)) (Nat.mod_lt _ (by omega))

theorem impl_PowerModulo_j {a t n : Nat} (hn : 1 ≤ n) (hn2 : n ≤ 10000) (ht : t ≤ 1000000) : Ev (fun k => impl_PowerModulo.j0 k (a : Int) (t : Int) (n : Int) false) ((a ^ t % n : Nat) : Int) := by
  refine Ev_suc ?_
  have c0 : ¬ (n : Int) = 0 := by omega
  simp only [impl_PowerModulo.j0, Bool.false_eq_true, if_false, if_neg c0, one_tmod, tmod_nat]
  rw [← pm_start]
  exact impl_PowerModulo_l hn hn2 t _ _ ht (Nat.mod_lt _ (by omega)) (Nat.mod_lt _ (by omega))

theorem impl_PowerModulo_ev (a t n : Int) : Ev (fun k => impl_PowerModulo.f k a t n) (pmI a t n) := by
  unfold impl_PowerModulo.f pmI
  by_cases h1 : inN a
  · by_cases h3 : inN n
    · by_cases h2 : t < 0
      · rw [if_neg (fun e => by have := e.2.1; omega)]
        simp only [numberOk_eq, Option.bind_some, decide_eq_true_eq, if_pos h1, if_pos h3, if_pos h2]
        exact impl_PowerModulo_no a t n
      · by_cases h4 : t > 1000000
        · rw [if_neg (fun e => by have := e.2.1; omega)]
          simp only [numberOk_eq, Option.bind_some, decide_eq_true_eq, if_pos h1, if_pos h3, if_neg h2, decide_eq_true h4]
          exact impl_PowerModulo_no a t n
        · obtain ⟨x, rfl, _, _⟩ := inN_nat h1
          obtain ⟨m, rfl, _, _⟩ := inN_nat h3
          obtain ⟨s, rfl⟩ := Int.eq_ofNat_of_zero_le (show 0 ≤ t by omega)
          rw [if_pos ⟨h1, by omega, h3⟩]
          simp only [numberOk_eq, Option.bind_some, decide_eq_true_eq, if_pos h1, if_pos h3, if_neg h2, decide_eq_false h4, Int.toNat_natCast]
          exact impl_PowerModulo_j (by omega) (by omega) (by omega)
    · rw [if_neg (fun e => h3 e.2.2)]
      simp only [numberOk_eq, Option.bind_some, decide_eq_true_eq, if_pos h1, if_neg h3]
      exact impl_PowerModulo_no a t n
  · rw [if_neg (fun e => h1 e.1)]
    simp only [numberOk_eq, Option.bind_some, decide_eq_true_eq, if_neg h1]
    exact impl_PowerModulo_no a t n

/-- A code as it is read: at most 2000 bytes. -/
def Bs (l : List Int) : Prop := l.length ≤ 2000 ∧ ∀ x ∈ l, 0 ≤ x ∧ x ≤ 255

theorem u8_range {x : Int} (h : (Lit.int .u8 x).wf = true) : 0 ≤ x ∧ x ≤ 255 := by
  simp [Lit.wf, IntKind.min, IntKind.max, IntKind.bits, IntKind.signed] at h
  omega

theorem l20Open_ev {l0 : List Int} (h : ∀ x ∈ l0, (Lit.int .u8 x).wf = true) : ∃ l, spec_l20Open.f l0 = some (l, 0) ∧ Bs l := by
  unfold spec_l20Open.f
  by_cases h1 : (l0.length : Int) > 2000
  · refine ⟨l0.take 2000, ?_, ?_, fun x hx => u8_range (h x (List.mem_of_mem_take hx))⟩
    · rw [if_pos h1, if_pos (by omega)]
    · exact List.length_take_le _ _
  · exact ⟨l0, by rw [if_neg h1], by omega, fun x hx => u8_range (h x hx)⟩

theorem rd_byte {l : List Int} (h : Bs l) (i : Int) : 0 ≤ rd l i ∧ rd l i ≤ 255 := by
  unfold rd
  rw [List.getD_eq_getElem?_getD]
  by_cases e : i.toNat < l.length
  · rw [List.getElem?_eq_getElem e]; exact h.2 _ (List.getElem_mem e)
  · rw [List.getElem?_eq_none (by omega)]; simp

theorem tmod_range {a n : Int} (ha : 0 ≤ a) (hn : 1 ≤ n) : 0 ≤ Int.tmod a n ∧ Int.tmod a n < n :=
  ⟨Int.tmod_nonneg _ ha, Int.tmod_lt_of_pos a (by omega)⟩

theorem xor_nonneg {a b : Int} (h1 : 0 ≤ a) (h2 : a < 1099511627776) (h3 : 0 ≤ b) (h4 : b < 1099511627776) : 0 ≤ Go.bits .xor .i64 a b := by
  have e : Go.bits .xor .i64 a b = wrap64 (((BitVec.ofInt 64 a ^^^ BitVec.ofInt 64 b).toNat : Nat) : Int) := i64_w _
  have ha : (BitVec.ofInt 64 a).toNat = a.toNat := by
    rw [BitVec.toNat_ofInt]; omega
  have hb : (BitVec.ofInt 64 b).toNat = b.toNat := by
    rw [BitVec.toNat_ofInt]; omega
  have hx : a.toNat ^^^ b.toNat < 2 ^ 40 := Nat.xor_lt_two_pow (by omega) (by omega)
  rw [e, BitVec.toNat_xor, ha, hb, w64_nat (by omega)]
  omega

theorem pick_ev {l : List Int} (hl : Bs l) {p n : Int} (hp : 0 ≤ p) (hp2 : p ≤ 1000000) (hn : 1 ≤ n) (hn2 : n ≤ 1000000) :
    ∃ v, Ev (fun k => spec_l20Rd_pick.f k l p n) (v, p + 1) ∧ 0 ≤ v ∧ v < n := by
  unfold spec_l20Rd_pick.f
  simp only [if_neg (show ¬ n < 1 by omega)]
  rw [w64 (x := p + 1) (by omega) (by omega)]
  by_cases h0 : (l.length : Int) = 0
  · refine ⟨0, ?_, by omega, by omega⟩
    have e : ((l.length : Int) == 0) = true := by rw [h0]; rfl
    rw [e]
    refine Ev_suc ?_
    simp only [spec_l20Rd_pick.j0, if_true]
    exact Ev.now _
  · have e : ((l.length : Int) == 0) = false := beq_eq_false_iff_ne.2 h0
    have hlen := hl.1
    rw [e]
    by_cases h1 : p < (l.length : Int)
    · have hb := rd_byte hl p
      obtain ⟨t1, t2⟩ := tmod_range (a := rd l p) (n := n) hb.1 hn
      refine ⟨Int.tmod (rd l p) n, ?_, t1, t2⟩
      refine Ev_suc ?_
      simp only [spec_l20Rd_pick.j0, Bool.false_eq_true, if_false]
      rw [w64 (x := p + 1 - 1) (by omega) (by omega), show p + 1 - 1 = p by omega, w64 (x := rd l p) (by omega) (by omega)]
      simp only [if_pos h1, if_pos hp, if_neg (show ¬ n = 0 by omega)]
      exact Ev.now _
    · obtain ⟨pn, rfl⟩ := Int.eq_ofNat_of_zero_le hp
      have hL : 0 < l.length := by omega
      have i1 : Int.tmod (pn : Int) (l.length : Int) = ((pn % l.length : Nat) : Int) := rfl
      have i2 : Int.tmod (wrap64 (wrap64 ((pn : Int) * 7) + 3)) (l.length : Int) = (((pn * 7 + 3) % l.length : Nat) : Int) := by
        rw [w64 (x := (pn : Int) * 7) (by omega) (by omega), w64 (by omega) (by omega)]; rfl
      have i3 : wrap64 (Int.tdiv (pn : Int) (l.length : Int)) = ((pn / l.length : Nat) : Int) := w64_div (by omega)
      have m1 := Nat.mod_lt pn hL
      have m2 := Nat.mod_lt (pn * 7 + 3) hL
      have m3 := Nat.div_le_self pn l.length
      obtain ⟨a1, a2⟩ := rd_byte hl ((pn % l.length : Nat) : Int)
      obtain ⟨b1, b2⟩ := rd_byte hl (((pn * 7 + 3) % l.length : Nat) : Int)
      suffices hs : ∃ v, Ev (fun k => spec_l20Rd_pick.j0 k n false l ((pn : Int) + 1)) (v, (pn : Int) + 1) ∧ 0 ≤ v ∧ v < n from hs
      refine ⟨?v, Ev_suc ?_, ?_⟩
      case refine_1 =>
        simp only [spec_l20Rd_pick.j0, Bool.false_eq_true, if_false]
        rw [w64 (x := (pn : Int) + 1 - 1) (by omega) (by omega), show (pn : Int) + 1 - 1 = (pn : Int) by omega, i1, i2, i3]
        simp only [if_neg h1, if_neg h0, if_neg (show ¬ n = 0 by omega), if_pos (show (0 : Int) ≤ ((pn % l.length : Nat) : Int) by omega), if_pos (show ((pn % l.length : Nat) : Int) < (l.length : Int) by omega), if_pos (show (0 : Int) ≤ (((pn * 7 + 3) % l.length : Nat) : Int) by omega), if_pos (show (((pn * 7 + 3) % l.length : Nat) : Int) < (l.length : Int) by omega)]
        exact Ev.now _
      case refine_2 =>
        clear i3
        generalize pn / l.length = zq at *
        have z : wrap64 (wrap64 (wrap64 (wrap64 (wrap64 (rd l ((pn % l.length : Nat) : Int)) * 131) + wrap64 (wrap64 (rd l (((pn * 7 + 3) % l.length : Nat) : Int)) * 1117)) + wrap64 ((pn : Int) * 29)) + wrap64 ((zq : Int) * 53)) =
            rd l ((pn % l.length : Nat) : Int) * 131 + rd l (((pn * 7 + 3) % l.length : Nat) : Int) * 1117 + (pn : Int) * 29 + (zq : Int) * 53 := by
          generalize rd l ((pn % l.length : Nat) : Int) = x at a1 a2
          generalize rd l (((pn * 7 + 3) % l.length : Nat) : Int) = y at b1 b2
          rw [w64 (x := x) (by omega) (by omega), w64 (x := y) (by omega) (by omega), w64 (x := x * 131) (by omega) (by omega), w64 (x := y * 1117) (by omega) (by omega), w64 (x := (pn : Int) * 29) (by omega) (by omega), w64 (x := (zq : Int) * 53) (by omega) (by omega),
            w64 (x := x * 131 + y * 1117) (by omega) (by omega), w64 (x := x * 131 + y * 1117 + (pn : Int) * 29) (by omega) (by omega), w64 (by omega) (by omega)]
        rw [z]
        generalize hz : rd l ((pn % l.length : Nat) : Int) * 131 + rd l (((pn * 7 + 3) % l.length : Nat) : Int) * 1117 + (pn : Int) * 29 + (zq : Int) * 53 = w at *
        have w1 : 0 ≤ w := by omega
        have w2 : w < 1099511627776 := by omega
        have w3 : wrap64 (Int.tdiv w 64) = w / 64 := by rw [Int.tdiv_eq_ediv_of_nonneg w1, w64 (by omega) (by omega)]
        rw [w3]
        exact tmod_range (xor_nonneg w1 w2 (by omega) (by omega)) hn

theorem DrawWorstOrder_ev {l0 : List Int} (h : ∀ x ∈ l0, (Lit.int .u8 x).wf = true) : ∃ v, Ev (fun k => spec_DrawWorstOrder.f k l0) v ∧ -30000 ≤ v ∧ v ≤ 30000 := by
  obtain ⟨l, e, hl⟩ := l20Open_ev h
  obtain ⟨v, hv, b1, b2⟩ := pick_ev hl (p := 0) (n := 103) (by omega) (by omega) (by omega) (by omega)
  refine ⟨v, ?_, by omega, by omega⟩
  unfold spec_DrawWorstOrder.f
  rw [e]
  simp only [Option.bind_some]
  exact Ev.bind hv (Ev.now _)

noncomputable def worI (a : Int) : Int := if 1 ≤ a ∧ a ≤ 100 then worF a 0 (L (apB a.toNat) a.toNat) else -1

theorem impl_WorstOrder_no (a : Int) : Ev (fun k => impl_WorstOrder.j0 k a true) (-1) := by
  refine Ev_suc ?_
  simp only [impl_WorstOrder.j0, if_true]
  exact Ev.now _

def auI (a : Int) : List Int := if 1 ≤ a ∧ a ≤ 500 then lI (L (apB a.toNat) a.toNat) else []

theorem impl_ApartUpTo_no (a : Int) : Ev (fun k => impl_ApartUpTo.j0 k a true) [] := by
  refine Ev_suc ?_
  simp only [impl_ApartUpTo.j0, if_true]
  exact Ev.now _

theorem impl_gcd_l : ∀ (b a : Nat), Ev (fun k => impl_gcd.l0 k (a : Int) (b : Int)) ((Nat.gcd a b : Nat) : Int) := by
  intro b
  induction b using Nat.strongRecOn with
  | ind b ih =>
    intro a
    refine Ev_suc ?_
    simp only [impl_gcd.l0]
    by_cases hb : b = 0
    · subst hb
      simp only [Int.natCast_zero, if_true, Nat.gcd_zero_right]
      exact Ev.now _
    · have h : ¬ ((b : Int) = 0) := by omega
      simp only [if_neg h, tmod_nat]
      rw [Nat.gcd_comm a b, Nat.gcd_rec b a, Nat.gcd_comm]
      exact ih (a % b) (Nat.mod_lt _ (by omega)) b

theorem impl_gcd_ev (a b : Nat) : Ev (fun k => impl_gcd.f k (a : Int) (b : Int)) ((Nat.gcd a b : Nat) : Int) := impl_gcd_l b a

theorem apB_iff {n k : Nat} : apB n k = true ↔ Nat.gcd k n = 1 := by unfold apB; simp

theorem impl_ApartUpTo_l {n : Nat} (hn : 1 ≤ n) (hn2 : n ≤ 500) (d : Nat) : ∀ c, c ≤ n → n - c = d →
    Ev (fun k => impl_ApartUpTo.l0 k (n : Int) (lI (L (apB n) c)) ((c + 1 : Nat) : Int)) (lI (L (apB n) n)) := by
  induction d with
  | zero =>
    intro c h1 h2
    have e : c = n := by omega
    subst e
    refine Ev_suc ?_
    simp only [impl_ApartUpTo.l0, if_neg (show ¬ ((c + 1 : Nat) : Int) ≤ (c : Int) by omega)]
    exact Ev.now _
  | succ d ih =>
    intro c h1 h2
    refine Ev_suc ?_
    simp only [impl_ApartUpTo.l0, if_pos (show ((c + 1 : Nat) : Int) ≤ (n : Int) by omega)]
    have l1 : (lI (L (apB n) c)).length < 17592186044416 := by rw [lI_length]; have := L_length_le (apB n) c; omega
    have next := ih (c + 1) (by omega) (by omega)
    refine Ev.bind (impl_gcd_ev (c + 1) n) ?_
    rw [w64_succ (by omega)]
    by_cases h0 : Nat.gcd (c + 1) n = 1
    · rw [L_yes (apB_iff.2 h0), lI_append] at next
      simp only [if_pos (show ((Nat.gcd (c + 1) n : Nat) : Int) = 1 by omega), if_pos l1]
      exact next
    · rw [L_no (fun e => h0 (apB_iff.1 e))] at next
      simp only [if_neg (show ¬ ((Nat.gcd (c + 1) n : Nat) : Int) = 1 by omega)]
      exact next

theorem impl_ApartUpTo_ev (a : Int) : Ev (fun k => impl_ApartUpTo.f k a) (auI a) := by
  unfold impl_ApartUpTo.f auI
  by_cases h1 : a < 1
  · rw [if_neg (show ¬ (1 ≤ a ∧ a ≤ 500) by omega)]
    simp only [if_pos h1]
    exact impl_ApartUpTo_no a
  · by_cases h2 : a > 500
    · rw [if_neg (show ¬ (1 ≤ a ∧ a ≤ 500) by omega)]
      simp only [if_neg h1, decide_eq_true h2]
      exact impl_ApartUpTo_no a
    · rw [if_pos (show 1 ≤ a ∧ a ≤ 500 by omega)]
      obtain ⟨n, rfl, h3, h4⟩ := inN_nat (a := a) ⟨by omega, by omega⟩
      simp only [if_neg h1, decide_eq_false h2, Int.toNat_natCast]
      refine Ev_suc ?_
      simp only [impl_ApartUpTo.j0, Bool.false_eq_true, if_false]
      exact impl_ApartUpTo_l h3 (by omega) n 0 (by omega) (by omega)

theorem lI_getw {l : List Nat} {i : Nat} (h : i < l.length) : rd (lI l) (i : Int) = ((l[i] : Nat) : Int) := by
  rw [rd_get (by rw [lI_length]; exact h)]; simp [lI]

theorem impl_OrderOf_no (a n : Int) : Ev (fun k => impl_OrderOf.j0 k a n true) (-1) := by
  refine Ev_suc ?_
  simp only [impl_OrderOf.j0, if_true]
  exact Ev.now _

/-- What two numbers share, -1 where one is none. -/
def cmI (a b : Int) : Int := if inN a ∧ inN b then ((Nat.gcd a.toNat b.toNat : Nat) : Int) else -1

theorem impl_CommonOf_ev (a b : Int) : Ev (fun k => impl_CommonOf.f k a b) (cmI a b) := by
  unfold impl_CommonOf.f cmI
  by_cases h1 : inN a
  · by_cases h2 : inN b
    · obtain ⟨n, rfl, _, _⟩ := inN_nat h1
      obtain ⟨m, rfl, _, _⟩ := inN_nat h2
      simp only [numberOk_eq, Option.bind_some, decide_eq_true_eq, if_pos h1, if_pos h2, if_pos (And.intro h1 h2), Int.toNat_natCast]
      exact Ev.bind (impl_gcd_ev n m) (Ev.now _)
    · simp only [numberOk_eq, Option.bind_some, decide_eq_true_eq, if_pos h1, if_neg h2, if_neg (fun e : inN a ∧ inN b => h2 e.2)]
      exact Ev.now _
  · simp only [numberOk_eq, Option.bind_some, decide_eq_true_eq, if_neg h1, if_neg (fun e : inN a ∧ inN b => h1 e.1)]
    exact Ev.now _

theorem impl_ApartOk_ev (a b : Int) : Ev (fun k => impl_ApartOk.f k a b) (cmI a b == 1) := by
  unfold impl_ApartOk.f
  exact Ev.bind (impl_CommonOf_ev a b) (Ev.now _)

theorem cmI_one {a n : Int} : (cmI a n == 1) = true ↔ inN a ∧ inN n ∧ Nat.gcd a.toNat n.toNat = 1 := by
  unfold cmI
  by_cases h : inN a ∧ inN n
  · rw [if_pos h, beq_iff_eq]
    exact ⟨fun e => ⟨h.1, h.2, by omega⟩, fun e => by have := e.2.2; omega⟩
  · rw [if_neg h, beq_iff_eq]
    exact ⟨fun e => by omega, fun e => absurd ⟨e.1, e.2.1⟩ h⟩

theorem one_tmod' (n : Nat) : (1 : Int) % (n : Int) = ((1 % n : Nat) : Int) := rfl

theorem impl_OrderOf_l {a n m : Nat} (ha : a ≤ 10000) (hn : 1 ≤ n) (hn2 : n ≤ 500) (hm : IsOrd a n m) (d : Nat) : ∀ c, 1 ≤ c → c ≤ m → m - c = d →
    Ev (fun k => impl_OrderOf.l0 k (a : Int) (n : Int) (c : Int) ((a ^ c % n : Nat) : Int)) (m : Int) := by
  have hmn := hm.2.1
  induction d with
  | zero =>
    intro c h1 h2 h3
    have e : c = m := by omega
    subst e
    refine Ev_suc ?_
    have c0 : ¬ (n : Int) = 0 := by omega
    simp only [impl_OrderOf.l0, if_neg c0, one_tmod', hm.2.2.1, if_true]
    exact Ev.now _
  | succ d ih =>
    intro c h1 h2 h3
    refine Ev_suc ?_
    have c0 : ¬ (n : Int) = 0 := by omega
    have hne := hm.2.2.2 c h1 (by omega)
    have c1 : ¬ ((a ^ c % n : Nat) : Int) = ((1 % n : Nat) : Int) := fun e => hne (by omega)
    simp only [impl_OrderOf.l0, if_neg c0, one_tmod', if_neg c1]
    have hs1 : a ^ c % n < n := Nat.mod_lt _ hn
    have hb : a ^ c % n * a ≤ 500 * 10000 := Nat.mul_le_mul (by omega) ha
    rw [w64_mul (by omega), w64_succ (by omega)]
    simp only [tmod_nat]
    have e : a ^ c % n * a % n = a ^ (c + 1) % n := by rw [Nat.pow_succ, Nat.mod_mul_mod]
    rw [e]
    exact ih (c + 1) (by omega) (by omega) (by omega)

theorem impl_OrderOf_ev {a n r : Int} (hr : OrdI a n r) : Ev (fun k => impl_OrderOf.f k a n) r := by
  unfold impl_OrderOf.f
  by_cases h1 : n < 1
  · simp only [if_pos h1]
    rcases hr with ⟨_, rfl⟩ | ⟨_, e, _⟩
    · exact impl_OrderOf_no a n
    · omega
  by_cases h4 : n > 500
  · simp only [if_neg h1, if_pos h4]
    rcases hr with ⟨_, rfl⟩ | ⟨_, e, _⟩
    · exact impl_OrderOf_no a n
    · omega
  simp only [if_neg h1, if_neg h4]
  refine Ev.bind (impl_ApartOk_ev a n) ?_
  by_cases h : (cmI a n == 1) = true
  · obtain ⟨h1, h2, h3⟩ := cmI_one.1 h
    simp only [h, Bool.not_true]
    rcases hr with ⟨e, _⟩ | ⟨_, _, _, k, rfl, hk⟩
    · exact absurd ⟨h1, ⟨h2.1, by omega⟩, h3⟩ e
    · obtain ⟨x, rfl, x1, x2⟩ := inN_nat h1
      obtain ⟨m, rfl, m1, m2⟩ := inN_nat h2
      rw [Int.toNat_natCast, Int.toNat_natCast] at hk
      refine Ev_suc ?_
      have c0 : ¬ (m : Int) = 0 := by omega
      simp only [impl_OrderOf.j0, Bool.false_eq_true, if_false, if_neg c0, tmod_nat]
      have := impl_OrderOf_l x2 m1 (by omega) hk (k - 1) 1 (by omega) hk.1 rfl
      rw [Nat.pow_one] at this
      exact this
  · have h' : (cmI a n == 1) = false := by simpa using h
    simp only [h', Bool.not_false]
    rcases hr with ⟨_, rfl⟩ | ⟨e1, e2, e3, _⟩
    · exact impl_OrderOf_no a n
    · exact absurd (cmI_one.2 ⟨e1, ⟨e2.1, by omega⟩, e3⟩) h

theorem impl_WorstOrder_l {n : Int} {l : List Nat} (hl : l.length ≤ 1048576) (d : Nat) : ∀ (i : Nat) (acc : Int), i ≤ l.length → l.length - i = d →
    Ev (fun k => impl_WorstOrder.l0 k n acc (lI l) (l.length : Int) (i : Int)) (worF n acc (l.drop i)) := by
  induction d with
  | zero =>
    intro i acc h1 h2
    have e : i = l.length := by omega
    subst e
    refine Ev_suc ?_
    simp only [impl_WorstOrder.l0, Int.lt_irrefl, if_false, List.drop_length, worF]
    exact Ev.now _
  | succ d ih =>
    intro i acc h1 h2
    have hlt : i < l.length := by omega
    rw [drop_cons hlt]
    simp only [worF]
    refine Ev_suc ?_
    simp only [impl_WorstOrder.l0, lI_length, if_pos (show (i : Int) < (l.length : Int) by omega), if_pos (show (0 : Int) ≤ (i : Int) by omega), lI_getw hlt]
    rw [w64_succ (by omega)]
    exact Ev.bind (impl_OrderOf_ev (ordI_spec _ _)) (ih (i + 1) _ (by omega) (by omega))

theorem impl_WorstOrder_ev (a : Int) : Ev (fun k => impl_WorstOrder.f k a) (worI a) := by
  unfold impl_WorstOrder.f worI
  by_cases h1 : a < 1
  · rw [if_neg (show ¬ (1 ≤ a ∧ a ≤ 100) by omega)]
    simp only [if_pos h1]
    exact impl_WorstOrder_no a
  · by_cases h2 : a > 100
    · rw [if_neg (show ¬ (1 ≤ a ∧ a ≤ 100) by omega)]
      simp only [if_neg h1, decide_eq_true h2]
      exact impl_WorstOrder_no a
    · rw [if_pos (show 1 ≤ a ∧ a ≤ 100 by omega)]
      obtain ⟨n, rfl, h3, h4⟩ := inN_nat (a := a) ⟨by omega, by omega⟩
      simp only [if_neg h1, decide_eq_false h2]
      refine Ev_suc ?_
      simp only [impl_WorstOrder.j0, Bool.false_eq_true, if_false]
      have e : auI (n : Int) = lI (L (apB n) n) := by unfold auI; rw [if_pos (show 1 ≤ (n : Int) ∧ (n : Int) ≤ 500 by omega)]; rfl
      refine Ev.bind (impl_ApartUpTo_ev (n : Int)) ?_
      rw [e, Int.toNat_natCast, lI_length]
      have := L_length_le (apB n) n
      have := impl_WorstOrder_l (n := (n : Int)) (l := L (apB n) n) (by omega) _ 0 0 (by omega) rfl
      rw [List.drop_zero] at this
      exact this

theorem l1In_eq (a lo hi : Int) : spec_l1In.f a lo hi = some (decide (lo ≤ a ∧ a ≤ hi)) := by
  unfold spec_l1In.f
  by_cases h : lo ≤ a
  · rw [if_pos h]; simp [h]
  · rw [if_neg h]; simp [h]

theorem spec_CommonOf_l : ∀ (b a : Nat), Ev (fun k => spec_CommonOf.l0 k (a : Int) (b : Int)) ((Nat.gcd a b : Nat) : Int) := by
  intro b
  induction b using Nat.strongRecOn with
  | ind b ih =>
    intro a
    refine Ev_suc ?_
    simp only [spec_CommonOf.l0]
    by_cases hb : b = 0
    · subst hb
      simp only [Int.natCast_zero, gt_iff_lt, Int.lt_irrefl, if_false, Nat.gcd_zero_right]
      exact Ev.now _
    · have h : ¬ ((b : Int) = 0) := by omega
      have h' : (b : Int) > 0 := by omega
      simp only [if_pos h', if_neg h, tmod_nat]
      rw [Nat.gcd_comm a b, Nat.gcd_rec b a, Nat.gcd_comm]
      exact ih (a % b) (Nat.mod_lt _ (by omega)) b

theorem spec_CommonOf_ev (a b : Int) : Ev (fun k => spec_CommonOf.f k a b) (cmI a b) := by
  unfold spec_CommonOf.f cmI inN
  by_cases h1 : 1 ≤ a ∧ a ≤ 10000
  · by_cases h2 : 1 ≤ b ∧ b ≤ 10000
    · obtain ⟨n, rfl, _, _⟩ := inN_nat h1
      obtain ⟨m, rfl, _, _⟩ := inN_nat h2
      simp only [l1In_eq, Option.bind_some, decide_eq_true_eq, if_pos h1, decide_eq_true h2, if_pos (And.intro h1 h2), Int.toNat_natCast, Bool.not_true]
      refine Ev_suc ?_
      simp only [spec_CommonOf.j0, Bool.false_eq_true, if_false]
      exact spec_CommonOf_l m n
    · simp only [l1In_eq, Option.bind_some, decide_eq_true_eq, if_pos h1, decide_eq_false h2, if_neg (fun e : (1 ≤ a ∧ a ≤ 10000) ∧ (1 ≤ b ∧ b ≤ 10000) => h2 e.2), Bool.not_false]
      refine Ev_suc ?_
      simp only [spec_CommonOf.j0, if_true]
      exact Ev.now _
  · simp only [l1In_eq, Option.bind_some, decide_eq_true_eq, if_neg h1, if_neg (fun e : (1 ≤ a ∧ a ≤ 10000) ∧ (1 ≤ b ∧ b ≤ 10000) => h1 e.1)]
    refine Ev_suc ?_
    simp only [spec_CommonOf.j0, if_true]
    exact Ev.now _

theorem spec_ApartOk_ev (a b : Int) : Ev (fun k => spec_ApartOk.f k a b) (cmI a b == 1) := by
  unfold spec_ApartOk.f
  exact Ev.bind (spec_CommonOf_ev a b) (Ev.now _)

theorem cmI_nat {a b : Nat} (h1 : 1 ≤ a) (h2 : a ≤ 10000) (h3 : 1 ≤ b) (h4 : b ≤ 10000) : cmI a b = ((Nat.gcd a b : Nat) : Int) := by
  unfold cmI inN
  rw [if_pos (by omega)]; rfl

theorem spec_ApartUpTo_l {n : Nat} (hn : 1 ≤ n) (hn2 : n ≤ 500) (d : Nat) : ∀ c, c ≤ n → n - c = d →
    Ev (fun k => spec_ApartUpTo.l0 k (n : Int) (lI (L (apB n) c)) ((c + 1 : Nat) : Int)) (lI (L (apB n) n)) := by
  induction d with
  | zero =>
    intro c h1 h2
    have e : c = n := by omega
    subst e
    refine Ev_suc ?_
    simp only [spec_ApartUpTo.l0, if_neg (show ¬ ((c + 1 : Nat) : Int) ≤ (c : Int) by omega)]
    refine Ev_suc ?_
    simp only [spec_ApartUpTo.j1, Bool.false_eq_true, if_false]
    exact Ev.now _
  | succ d ih =>
    intro c h1 h2
    refine Ev_suc ?_
    simp only [spec_ApartUpTo.l0, if_pos (show ((c + 1 : Nat) : Int) ≤ (n : Int) by omega), decide_eq_true (show (n : Int) ≤ 500 by omega)]
    refine Ev_suc ?_
    have l1 : (lI (L (apB n) c)).length < 17592186044416 := by rw [lI_length]; have := L_length_le (apB n) c; omega
    have next := ih (c + 1) (by omega) (by omega)
    simp only [spec_ApartUpTo.j1, if_true]
    refine Ev.bind (spec_ApartOk_ev _ _) ?_
    rw [cmI_nat (by omega) (by omega) hn (by omega), w64_succ (by omega)]
    by_cases h0 : Nat.gcd (c + 1) n = 1
    · rw [L_yes (apB_iff.2 h0), lI_append] at next
      have e1 : (((Nat.gcd (c + 1) n : Nat) : Int) == 1) = true := by rw [h0]; rfl
      simp only [e1, if_true, if_pos l1]
      exact next
    · rw [L_no (fun e => h0 (apB_iff.1 e))] at next
      have e1 : (((Nat.gcd (c + 1) n : Nat) : Int) == 1) = false := beq_eq_false_iff_ne.2 (by omega)
      simp only [e1, Bool.false_eq_true, if_false]
      exact next

theorem spec_ApartUpTo_ev (a : Int) : Ev (fun k => spec_ApartUpTo.f k a) (auI a) := by
  unfold auI
  by_cases h : 1 ≤ a ∧ a ≤ 500
  · obtain ⟨n, rfl, h1, h2⟩ := inN_nat (a := a) ⟨h.1, by omega⟩
    rw [if_pos h]
    exact spec_ApartUpTo_l h1 (by omega) n 0 (by omega) (by omega)
  · rw [if_neg h]
    unfold spec_ApartUpTo.f
    have hj : Ev (fun k => spec_ApartUpTo.j1 k a [] 1 false) [] := by
      refine Ev_suc ?_
      simp only [spec_ApartUpTo.j1, Bool.false_eq_true, if_false]
      exact Ev.now _
    refine Ev_suc ?_
    by_cases h1 : (1 : Int) ≤ a
    · simp only [spec_ApartUpTo.l0, if_pos h1, decide_eq_false (show ¬ a ≤ 500 from fun e => h ⟨h1, e⟩)]
      exact hj
    · simp only [spec_ApartUpTo.l0, if_neg h1]
      exact hj

theorem spec_OrderOf_no (a n : Int) : Ev (fun k => spec_OrderOf.j0 k a n true) (-1) := by
  refine Ev_suc ?_
  simp only [spec_OrderOf.j0, if_true]
  exact Ev.now _

theorem spec_OrderOf_l {a n m : Nat} (ha : a ≤ 10000) (hn : 1 ≤ n) (hn2 : n ≤ 500) (hm : IsOrd a n m) (d : Nat) : ∀ c, 1 ≤ c → c ≤ m → m - c = d →
    Ev (fun k => spec_OrderOf.l0 k (a : Int) (n : Int) ((a ^ c % n : Nat) : Int) (c : Int)) (m : Int) := by
  have hmn := hm.2.1
  induction d with
  | zero =>
    intro c h1 h2 h3
    have e : c = m := by omega
    subst e
    refine Ev_suc ?_
    have c0 : ¬ (n : Int) = 0 := by omega
    simp only [spec_OrderOf.l0, if_neg c0, one_tmod', hm.2.2.1, if_true]
    exact Ev.now _
  | succ d ih =>
    intro c h1 h2 h3
    refine Ev_suc ?_
    have c0 : ¬ (n : Int) = 0 := by omega
    have hne := hm.2.2.2 c h1 (by omega)
    have c1 : ¬ ((a ^ c % n : Nat) : Int) = ((1 % n : Nat) : Int) := fun e => hne (by omega)
    simp only [spec_OrderOf.l0, if_neg c0, one_tmod', if_neg c1, tmod_nat]
    have hs1 : a ^ c % n < n := Nat.mod_lt _ hn
    have hs2 : a % n < n := Nat.mod_lt _ hn
    have hb : a ^ c % n * (a % n) ≤ 500 * 500 := Nat.mul_le_mul (by omega) (by omega)
    rw [w64_mul (by omega), w64_succ (by omega)]
    simp only [tmod_nat]
    rw [← Nat.mul_mod, ← Nat.pow_succ]
    exact ih (c + 1) (by omega) (by omega) (by omega)

theorem spec_OrderOf_ev {a n r : Int} (hr : OrdI a n r) : Ev (fun k => spec_OrderOf.f k a n) r := by
  unfold spec_OrderOf.f
  refine Ev.bind (spec_ApartOk_ev a n) ?_
  by_cases h : (cmI a n == 1) = true
  · obtain ⟨h1, h2, h3⟩ := cmI_one.1 h
    by_cases h4 : n > 500
    · simp only [h, if_true, decide_eq_true h4]
      rcases hr with ⟨_, rfl⟩ | ⟨_, e, _⟩
      · exact spec_OrderOf_no a n
      · omega
    · simp only [h, if_true, decide_eq_false h4]
      rcases hr with ⟨e, _⟩ | ⟨_, _, _, k, rfl, hk⟩
      · exact absurd ⟨h1, ⟨h2.1, by omega⟩, h3⟩ e
      · obtain ⟨x, rfl, x1, x2⟩ := inN_nat h1
        obtain ⟨m, rfl, m1, m2⟩ := inN_nat h2
        rw [Int.toNat_natCast, Int.toNat_natCast] at hk
        refine Ev_suc ?_
        have c0 : ¬ (m : Int) = 0 := by omega
        simp only [spec_OrderOf.j0, Bool.false_eq_true, if_false, if_neg c0, tmod_nat]
        have := spec_OrderOf_l x2 m1 (by omega) hk (k - 1) 1 (by omega) hk.1 rfl
        rw [Nat.pow_one] at this
        exact this
  · have h' : (cmI a n == 1) = false := by simpa using h
    simp only [h', Bool.false_eq_true, if_false]
    rcases hr with ⟨_, rfl⟩ | ⟨e1, e2, e3, _⟩
    · exact spec_OrderOf_no a n
    · exact absurd (cmI_one.2 ⟨e1, ⟨e2.1, by omega⟩, e3⟩) h

theorem spec_WorstOrder_l {n : Int} {l : List Nat} (hl : l.length ≤ 1048576) (d : Nat) : ∀ (i : Nat) (acc : Int), i ≤ l.length → l.length - i = d →
    Ev (fun k => spec_WorstOrder.l0 k n acc (lI l) (i : Int)) (worF n acc (l.drop i)) := by
  induction d with
  | zero =>
    intro i acc h1 h2
    have e : i = l.length := by omega
    subst e
    refine Ev_suc ?_
    simp only [spec_WorstOrder.l0, lI_length, Int.lt_irrefl, if_false, List.drop_length, worF]
    exact Ev.now _
  | succ d ih =>
    intro i acc h1 h2
    have hlt : i < l.length := by omega
    rw [drop_cons hlt]
    simp only [worF]
    refine Ev_suc ?_
    simp only [spec_WorstOrder.l0, lI_length, if_pos (show (i : Int) < (l.length : Int) by omega), if_pos (show (0 : Int) ≤ (i : Int) by omega), lI_getw hlt]
    rw [w64_succ (by omega)]
    exact Ev.bind (spec_OrderOf_ev (ordI_spec _ _)) (ih (i + 1) _ (by omega) (by omega))

theorem spec_WorstOrder_ev (a : Int) : Ev (fun k => spec_WorstOrder.f k a) (worI a) := by
  unfold spec_WorstOrder.f worI
  by_cases h : 1 ≤ a ∧ a ≤ 100
  · obtain ⟨n, rfl, h1, h2⟩ := inN_nat (a := a) ⟨h.1, by omega⟩
    simp only [l1In_eq, Option.bind_some, decide_eq_true_eq, if_pos h]
    have e : auI (n : Int) = lI (L (apB n) n) := by unfold auI; rw [if_pos (show 1 ≤ (n : Int) ∧ (n : Int) ≤ 500 by omega)]; rfl
    refine Ev.bind (spec_ApartUpTo_ev (n : Int)) ?_
    rw [e, Int.toNat_natCast]
    have := L_length_le (apB n) n
    have := spec_WorstOrder_l (n := (n : Int)) (l := L (apB n) n) (by omega) _ 0 0 (by omega) rfl
    rw [List.drop_zero] at this
    exact this
  · simp only [l1In_eq, Option.bind_some, decide_eq_true_eq, if_neg h]
    exact Ev.now _

/-- Does a number divide another one, both from 1 up to the greatest number? -/
def dvI (d n : Int) : Bool := decide (inN d ∧ inN n ∧ n.toNat % d.toNat = 0)

theorem impl_DividesOk_eq (d n : Int) : impl_DividesOk.f d n = some (dvI d n) := by
  unfold impl_DividesOk.f dvI
  by_cases h1 : inN d
  · by_cases h2 : inN n
    · obtain ⟨a, rfl, _, _⟩ := inN_nat h1
      obtain ⟨b, rfl, _, _⟩ := inN_nat h2
      have h0 : ¬ ((a : Int) = 0) := by omega
      simp only [numberOk_eq, Option.bind_some, decide_eq_true_eq, if_pos h1, if_pos h2, if_neg h0, tmod_nat, Int.toNat_natCast, h1, h2, true_and]
      congr 1
      by_cases e : b % a = 0
      · simp [e]
      · simp [e]; omega
    · simp only [numberOk_eq, Option.bind_some, decide_eq_true_eq, if_pos h1, if_neg h2]
      simp [h2]
  · simp only [numberOk_eq, Option.bind_some, decide_eq_true_eq, if_neg h1]
    simp [h1]

theorem alive_eq : laws_alive.f = some true := by
  unfold laws_alive.f
  rw [impl_DividesOk_eq, impl_DividesOk_eq]
  rfl

/-- The least power from k on, at most d more, that leaves 1. -/
def find1 (a n : Nat) : Nat → Nat → Nat
  | 0, k => k
  | d + 1, k => if a ^ k % n == 1 % n then k else find1 a n d (k + 1)
theorem find1_ord {a n m : Nat} (h : IsOrd a n m) : ∀ (d k : Nat), 1 ≤ k → k ≤ m → m ≤ k + d → find1 a n d k = m
  | 0, k, h1, h2, h3 => by simp only [find1]; omega
  | d + 1, k, h1, h2, h3 => by
    simp only [find1]
    by_cases e : k = m
    · subst e
      rw [if_pos (by rw [h.2.2.1]; exact beq_self_eq_true _)]
    · rw [if_neg (fun e' => h.2.2.2 k h1 (by omega) (eq_of_beq e'))]
      exact find1_ord h d (k + 1) (by omega) (by omega) (by omega)
def wor1 (n acc : Nat) : List Nat → Nat
  | [] => acc
  | x :: l => wor1 n (if acc < find1 x n n 1 then find1 x n n 1 else acc) l
def chk1 (n : Nat) : Bool :=
  let u := L (apB n) n
  let m := wor1 n 0 u
  u.all (fun x => x ^ m % n == 1 % n) && decide (0 < u.length) && decide (m ≤ 100) && (if (divs n).length == 2 then m == n - 1 else true)
theorem chk1_all : ∀ n : Fin 100, chk1 (n.1 + 1) = true := by decide +kernel
theorem ordI_find {x n : Nat} (h1 : 1 ≤ x) (h2 : x ≤ n) (hn : n ≤ 100) (hg : Nat.gcd x n = 1) : ordI (x : Int) (n : Int) = ((find1 x n n 1 : Nat) : Int) := by
  rcases ordI_spec (x : Int) (n : Int) with ⟨e, _⟩ | ⟨_, _, _, k, e, hk⟩
  · exfalso
    exact e ⟨by unfold inN; omega, by omega, by rw [Int.toNat_natCast, Int.toNat_natCast]; exact hg⟩
  · rw [Int.toNat_natCast, Int.toNat_natCast] at hk
    rw [e, find1_ord hk n 1 (by omega) hk.1 (by have := hk.2.1; omega)]
theorem worF_wor1 {n : Nat} (hn : n ≤ 100) : ∀ (l : List Nat), (∀ x ∈ l, 1 ≤ x ∧ x ≤ n ∧ Nat.gcd x n = 1) → ∀ acc : Nat, worF (n : Int) (acc : Int) l = ((wor1 n acc l : Nat) : Int)
  | [], _, acc => rfl
  | x :: l, h, acc => by
    simp only [worF, wor1]
    obtain ⟨a, b, c⟩ := h x (by simp)
    rw [ordI_find a b hn c]
    have e : mx (acc : Int) ((find1 x n n 1 : Nat) : Int) = ((if acc < find1 x n n 1 then find1 x n n 1 else acc : Nat) : Int) := by
      unfold mx
      by_cases h : acc < find1 x n n 1
      · rw [if_pos h, if_pos (by omega)]
      · rw [if_neg h, if_neg (by omega)]
    rw [e]
    exact worF_wor1 hn l (fun y hy => h y (List.mem_cons_of_mem _ hy)) _
theorem pmI_nat {a t n : Nat} (a1 : 1 ≤ a) (a2 : a ≤ 10000) (ht : t ≤ 1000000) (n1 : 1 ≤ n) (n2 : n ≤ 10000) : pmI (a : Int) (t : Int) (n : Int) = ((a ^ t % n : Nat) : Int) := by
  unfold pmI inN
  rw [if_pos ⟨by omega, by omega, by omega⟩]; rfl
theorem wo_l {n m : Nat} (h1 : 1 ≤ n) (h2 : n ≤ 100) (hm : m ≤ 100) (hall : ∀ x ∈ L (apB n) n, x ^ m % n = 1 % n) (hpos : 0 < (L (apB n) n).length) (hpr : Pr n → m = n - 1) (d : Nat) : ∀ i, i ≤ (L (apB n) n).length → (L (apB n) n).length - i = d →
    Ev (fun k => laws_FnWorstOrder.l0 k (n : Int) (m : Int) (lI (L (apB n) n)) (i : Int)) true := by
  have hlen := L_length_le (apB n) n
  induction d with
  | zero =>
    intro i hi hd
    have e : i = (L (apB n) n).length := by omega
    subst e
    refine Ev_suc ?_
    simp only [laws_FnWorstOrder.l0, lI_length, Int.lt_irrefl, if_false, if_pos (show ((L (apB n) n).length : Int) > 0 by omega)]
    refine Ev.bind (impl_PrimeOk_ev _) ?_
    by_cases hp : primeI (n : Int) = true
    · have := hpr ((primeI_nat h1 (by omega)).1 hp)
      rw [w64 (x := (n : Int) - 1) (by omega) (by omega), this]
      simp only [hp, if_true]
      have e : (((n - 1 : Nat) : Int) == (n : Int) - 1) = true := beq_iff_eq.2 (by omega)
      rw [e]
      exact Ev.now _
    · simp only [hp, Bool.false_eq_true, if_false]
      exact Ev.now _
  | succ d ih =>
    intro i hi hd
    have hlt : i < (L (apB n) n).length := by omega
    have hmem := List.getElem_mem hlt
    obtain ⟨m1, m2, m3⟩ := (L_mem _ _ _).1 hmem
    have hr : rd (lI (L (apB n) n)) (i : Int) = (((L (apB n) n)[i] : Nat) : Int) := by rw [rd_get (by rw [lI_length]; exact hlt)]; simp [lI]
    refine Ev_suc ?_
    simp only [laws_FnWorstOrder.l0, lI_length, if_pos (show (i : Int) < ((L (apB n) n).length : Int) by omega), if_pos (show (0 : Int) ≤ (i : Int) by omega), hr]
    refine Ev.bind (impl_PowerModulo_ev _ _ _) ?_
    rw [pmI_nat m1 (by omega) (by omega) h1 (by omega), hall _ hmem, w64_succ (by omega)]
    simp only [if_neg (show ¬ (n : Int) = 0 by omega), one_tmod, if_true]
    exact ih (i + 1) (by omega) (by omega)
theorem FnWorstOrder : laws_FnWorstOrder.Pure := by
  intro l0 _ _ hu
  refine Ev.rounds (r := true) ?_
  unfold laws_FnWorstOrder.f
  by_cases hlen : (l0.length : Int) > 1048576
  · simp only [if_pos hlen]; exact Ev.now _
  simp only [if_neg hlen]
  obtain ⟨n, hd, _⟩ := DrawWorstOrder_ev hu
  refine Ev.bind hd (Ev.bind (impl_WorstOrder_ev n) (Ev.bind (spec_WorstOrder_ev n) ?_))
  simp only [if_true]
  by_cases h : 1 ≤ n ∧ n ≤ 100
  · obtain ⟨m, rfl, m1, m2⟩ := inN_nat (a := n) ⟨h.1, by omega⟩
    have hm : m ≤ 100 := by omega
    have e : worI (m : Int) = ((wor1 m 0 (L (apB m) m) : Nat) : Int) := by
      unfold worI
      rw [if_pos h, Int.toNat_natCast]
      refine worF_wor1 hm _ (fun x hx => ?_) 0
      obtain ⟨a, b, c⟩ := (L_mem _ _ _).1 hx
      exact ⟨a, b, apB_iff.1 c⟩
    have hc := chk1_all ⟨m - 1, by omega⟩
    rw [show (⟨m - 1, by omega⟩ : Fin 100).1 + 1 = m from by show m - 1 + 1 = m; omega] at hc
    unfold chk1 at hc
    simp only [Bool.and_eq_true, List.all_eq_true, beq_iff_eq, decide_eq_true_eq] at hc
    obtain ⟨⟨⟨c1, c2⟩, c3⟩, c4⟩ := hc
    have hau : auI (m : Int) = lI (L (apB m) m) := by unfold auI; rw [if_pos (by omega)]; rfl
    rw [e]
    simp only [if_neg (show ¬ ((wor1 m 0 (L (apB m) m) : Nat) : Int) < 0 by omega)]
    refine Ev.bind (impl_ApartUpTo_ev _) ?_
    rw [hau]
    refine wo_l m1 hm c3 c1 c2 (fun hp => ?_) _ 0 (by omega) rfl
    have h2 := (divs_length m1).2 hp
    rw [if_pos h2] at c4
    exact eq_of_beq c4
  · have e : worI n = -1 := by unfold worI; rw [if_neg h]
    rw [e]
    simp only [if_pos (show (-1 : Int) < 0 by omega), if_true, alive_eq, Option.bind_some]
    exact Ev.now _

end Go.Proofs.Ytkpdhpgocblogaa.Pure
