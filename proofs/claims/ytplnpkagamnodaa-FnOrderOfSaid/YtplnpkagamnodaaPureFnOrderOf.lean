/- The program's OrderOf answers as the reference's; to that power 1 is left and to no lesser one, and it divides how many are apart: for every code. No conditions. -/
import Derived.Test.YtplnpkagamnodaaOFnOrderOfx5
import Derived.Test.YtplnpkagamnodaaEvs
import Derived.Test.YtplnpkagamnodaaEuler
import Derived.Test.YtplnpkagamnodaaMul
namespace Go.Proofs.Ytplnpkagamnodaa.Pure
open Go.RowKit Go.Proofs.Ytplnpkagamnodaa.PFnOrderOf Go.Proofs.YtplnpkagamnodaaW.PrintWords Go.Proofs.YtplnpkagamnodaaW.PrintLast Go.Proofs.YtplnpkagamnodaaW.PrintMore Go.Proofs.Ytplnpkagamnodaa.Math
set_option linter.unusedVariables false
set_option linter.unusedSimpArgs false

/-- What is left of a power. -/
def pmI (a t n : Int) : Int := if inN a ∧ (0 ≤ t ∧ t ≤ 1000000) ∧ inN n then ((a.toNat ^ t.toNat % n.toNat : Nat) : Int) else -1

/-- k is the least power from 1 on of a that leaves 1. -/
def IsOrd (a n k : Nat) : Prop := 1 ≤ k ∧ k ≤ n ∧ a ^ k % n = 1 % n ∧ ∀ j, 1 ≤ j → j < k → ¬ a ^ j % n = 1 % n

theorem numberOk_eq (a : Int) : impl_numberOk.f a = some (decide (inN a)) := by
  unfold impl_numberOk.f inN
  by_cases h : 1 ≤ a
  · rw [if_pos h]; simp [h]
  · rw [if_neg h]; simp [h]

theorem impl_PowerModulo_no (a t n : Int) : Ev (fun k => impl_PowerModulo.j0 k a t n true) (-1) := by
  refine Ev_suc ?_
  simp only [impl_PowerModulo.j0, if_true]
  exact Ev.now _

theorem one_tmod (n : Nat) : (1 : Int) % (n : Int) = ((1 % n : Nat) : Int) := rfl

theorem pm_start (a t n : Nat) : (1 % n) * (a % n) ^ t % n = a ^ t % n := by
  rw [Nat.mul_mod, Nat.mod_mod, ← Nat.pow_mod, ← Nat.mul_mod, Nat.one_mul]

theorem mul_small {a b n : Nat} (hn : n ≤ 10000) (h1 : a ≤ n) (h2 : b ≤ n) : a * b ≤ 100000000 := by
  have : a * b ≤ 10000 * 10000 := Nat.mul_le_mul (by omega) (by omega)
  omega

theorem pm_even {t n out sq : Nat} (h : t % 2 = 0) : out * (sq * sq % n) ^ (t / 2) % n = out * sq ^ t % n := by
  have e : sq ^ t = (sq * sq) ^ (t / 2) := by
    rw [Nat.mul_pow, ← Nat.pow_add]; congr 1; omega
  rw [Nat.mul_mod, ← Nat.pow_mod, ← Nat.mul_mod, e]

theorem pm_odd {t n out sq : Nat} (h : ¬ t % 2 = 0) : (out * sq % n) * (sq * sq % n) ^ (t / 2) % n = out * sq ^ t % n := by
  have e : sq ^ t = sq * (sq * sq) ^ (t / 2) := by
    rw [Nat.mul_pow, ← Nat.pow_add, ← Nat.pow_succ']; congr 1; omega
  rw [Nat.mul_mod, ← Nat.pow_mod, Nat.mod_mod, ← Nat.mul_mod, e, Nat.mul_assoc]

theorem impl_PowerModulo_l {n : Nat} (h1 : 1 ≤ n) (h2 : n ≤ 10000) : ∀ (t out sq : Nat), t ≤ 1000000 → out < n → sq < n →
    Ev (fun k => impl_PowerModulo.l0 k (t : Int) (n : Int) (out : Int) (sq : Int)) ((out * sq ^ t % n : Nat) : Int) := by
  intro t
  induction t using Nat.strongRecOn with
  | ind t ih =>
    intro out sq ht ho hs
    have m1 := mul_small h2 (Nat.le_of_lt hs) (Nat.le_of_lt hs)
    have m2 := mul_small h2 (Nat.le_of_lt ho) (Nat.le_of_lt hs)
    refine Ev_suc ?_
    have c0 : ¬ (n : Int) = 0 := by omega
    simp only [impl_PowerModulo.l0, tmod2]
    rw [w64_mul (a := sq) (b := sq) (by omega), w64_mul (a := out) (b := sq) (by omega), tdiv2, w64_nat (i := t / 2) (by omega)]
    simp only [tmod_nat]
    by_cases h0 : t = 0
    · subst h0
      have c1 : ¬ ((0 : Nat) : Int) > 0 := by omega
      simp only [if_neg c1]
      rw [Nat.pow_zero, Nat.mul_one, Nat.mod_eq_of_lt ho]
      exact Ev.now _
    · have c1 : (t : Int) > 0 := by omega
      simp only [if_pos c1, if_neg c0]
      by_cases hp : t % 2 = 0
      · have c2 : ((t % 2 : Nat) : Int) = 0 := by omega
        simp only [if_pos c2]
        rw [← pm_even hp]
        exact ih (t / 2) (by omega) out _ (by omega) ho (Nat.mod_lt _ (by omega))
      · have c2 : ¬ ((t % 2 : Nat) : Int) = 0 := by omega
        simp only [if_neg c2]
        rw [← pm_odd hp]
        exact ih (t / 2) (by omega) _ _ (by omega) (Nat.mod_lt _ (by omega)) (Nat.mod_lt _ (by omega))

theorem impl_PowerModulo_j {a t n : Nat} (hn : 1 ≤ n) (hn2 : n ≤ 10000) (ht : t ≤ 1000000) : Ev (fun k => impl_PowerModulo.j0 k (a : Int) (t : Int) (n : Int) false) ((a ^ t % n : Nat) : Int) := by
  refine Ev_suc ?_
  have c0 : ¬ (n : Int) = 0 := by omega
  simp only [impl_PowerModulo.j0, Bool.false_eq_true, if_false, if_neg c0, one_tmod, tmod_nat]
  rw [← pm_start]
  exact impl_PowerModulo_l hn hn2 t _ _ ht (Nat.mod_lt _ (by omega)) (Nat.mod_lt _ (by omega))

theorem impl_PowerModulo_ev (a t n : Int) : Ev (fun k => impl_PowerModulo.f k a t n) (pmI a t n) := by
  unfold impl_PowerModulo.f pmI
  by_cases h1 : inN a
  · by_cases h3 : inN n
    · by_cases h2 : t < 0
      · rw [if_neg (fun e => by have := e.2.1; omega)]
        simp only [numberOk_eq, Option.bind_some, decide_eq_true_eq, if_pos h1, if_pos h3, if_pos h2]
        exact impl_PowerModulo_no a t n
      · by_cases h4 : t > 1000000
        · rw [if_neg (fun e => by have := e.2.1; omega)]
          simp only [numberOk_eq, Option.bind_some, decide_eq_true_eq, if_pos h1, if_pos h3, if_neg h2, decide_eq_true h4]
          exact impl_PowerModulo_no a t n
        · obtain ⟨x, rfl, _, _⟩ := inN_nat h1
          obtain ⟨m, rfl, _, _⟩ := inN_nat h3
          obtain ⟨s, rfl⟩ := Int.eq_ofNat_of_zero_le (show 0 ≤ t by omega)
          rw [if_pos ⟨h1, by omega, h3⟩]
          simp only [numberOk_eq, Option.bind_some, decide_eq_true_eq, if_pos h1, if_pos h3, if_neg h2, decide_eq_false h4, Int.toNat_natCast]
          exact impl_PowerModulo_j (by omega) (by omega) (by omega)
    · rw [if_neg (fun e => h3 e.2.2)]
      simp only [numberOk_eq, Option.bind_some, decide_eq_true_eq, if_pos h1, if_neg h3]
      exact impl_PowerModulo_no a t n
  · rw [if_neg (fun e => h1 e.1)]
    simp only [numberOk_eq, Option.bind_some, decide_eq_true_eq, if_neg h1]
    exact impl_PowerModulo_no a t n

/-- How many are apart, by its primes. -/
def hmI (a : Int) : Int := if inN a then ((phi a.toNat : Nat) : Int) else -1

/-- The list of primes as the program has it. -/
def facI (l : List (Nat × Nat)) : List (List Int) := l.map (fun x => [(x.1 : Int), (x.2 : Int)])

theorem impl_fac_l1 {out : List (List Int)} {p : Nat} {r : List (List Int)} (h2 : 2 ≤ p) (hp : p ≤ 10000) (hout : out.length < 5864062014805) : ∀ (left j : Nat), 1 ≤ left → left + j ≤ 20000 →
    (0 < j + (strip p left).2 → Ev (fun k => impl_factors.l0 k ((strip p left).1 : Int) (out ++ [[(p : Int), ((j + (strip p left).2 : Nat) : Int)]]) ((p + 1 : Nat) : Int)) r) →
    (j + (strip p left).2 = 0 → Ev (fun k => impl_factors.l0 k ((strip p left).1 : Int) out ((p + 1 : Nat) : Int)) r) →
    Ev (fun k => impl_factors.l1 k (left : Int) out (p : Int) (j : Int)) r := by
  intro left
  induction left using Nat.strongRecOn with
  | ind left ih =>
    intro j h1 hb hy hn
    refine Ev_suc ?_
    have c1 : ¬ (p : Int) = 0 := by omega
    simp only [impl_factors.l1, if_neg c1, tmod_nat]
    rw [w64_div (show left ≤ 9223372036854775807 by omega), w64_succ (show j < 9223372036854775807 by omega), w64_succ (show p < 9223372036854775807 by omega)]
    by_cases h0 : left % p = 0
    · have c2 : ((left % p : Nat) : Int) = 0 := by omega
      simp only [if_pos c2]
      rw [strip_yes h2 h1 h0] at hy hn
      have hle : left / p ≤ left / 2 := Nat.div_le_div_left h2 (by omega)
      have hlt : left / p < left := Nat.div_lt_self h1 (by omega)
      have hpos : 1 ≤ left / p := div_pos_of (by omega) h1 h0
      have e : j + 1 + (strip p (left / p)).2 = j + ((strip p (left / p)).2 + 1) := by omega
      refine ih (left / p) hlt (j + 1) hpos (by omega) (fun h => ?_) (fun h => by omega)
      rw [e]; exact hy (by simp only; omega)
    · have c2 : ¬ ((left % p : Nat) : Int) = 0 := by omega
      simp only [if_neg c2]
      rw [strip_no h0] at hy hn
      simp only [Nat.add_zero] at hy hn
      by_cases hj : 0 < j
      · have c3 : (j : Int) > 0 := by omega
        simp only [if_pos c3, if_pos hout]
        exact hy hj
      · have c3 : ¬ (j : Int) > 0 := by omega
        simp only [if_neg c3]
        exact hn (by omega)

theorem impl_fac_l0 (d : Nat) : ∀ (left p : Nat) (out : List (List Int)), left + 1 - p = d → 2 ≤ p → 1 ≤ left → left ≤ 10000 → out.length ≤ p → p ≤ 10001 → Rough p left →
    Ev (fun k => impl_factors.l0 k (left : Int) out (p : Int)) (out ++ facI (F p left)) := by
  induction d using Nat.strongRecOn with
  | ind d ih =>
    intro left p out hd h2 h1 hle hout hp hr
    have hsq : p * p ≤ 100000000000 := by
      have : p * p ≤ 10001 * 10001 := Nat.mul_le_mul (by omega) (by omega)
      omega
    refine Ev_suc ?_
    simp only [impl_factors.l0]
    rw [w64_mul (by omega)]
    by_cases hone : left = 1
    · have c1 : ¬ (left : Int) > 1 := by omega
      simp only [if_neg c1]
      rw [F_end (by omega)]
      simp only [facI, List.map_nil, List.append_nil]
      exact Ev.now _
    · have c1 : (left : Int) > 1 := by omega
      simp only [if_pos c1]
      by_cases h : left < p * p
      · have c2 : ((p * p : Nat) : Int) > (left : Int) := Int.ofNat_lt.2 h
        simp only [if_pos c2]
        have hrr := hr.square h
        have hpl : p ≤ left := by
          rcases Nat.lt_or_ge left p with e | e
          · exact absurd (Nat.mod_self left) (hr left (by omega) e)
          · exact e
        rw [F_alone (left - p) p left rfl h2 hpl hrr]
        have hs : strip left left = (1, 1) := by
          rw [strip_yes (by omega) h1 (Nat.mod_self left), Nat.div_self (by omega), strip_no]
          rw [Nat.mod_eq_of_lt (by omega)]; omega
        refine Ev_suc ?_
        simp only [impl_factors.j1]
        refine impl_fac_l1 (by omega) (by omega) (by omega) left 0 h1 (by omega) (fun _ => ?_) (fun e => ?_)
        · rw [hs]
          refine Ev_suc ?_
          have c3 : ¬ ((1 : Nat) : Int) > 1 := by omega
          simp only [impl_factors.l0, if_neg c3]
          exact Ev.now _
        · rw [hs] at e; simp at e
      · have c2 : ¬ ((p * p : Nat) : Int) > (left : Int) := fun e => h (Int.ofNat_lt.1 e)
        simp only [if_neg c2]
        have hpl : p ≤ left := by
          have := Nat.le_mul_of_pos_left p (show 0 < p by omega)
          omega
        refine Ev_suc ?_
        simp only [impl_factors.j1]
        have hs := strip_le p left
        refine impl_fac_l1 h2 (by omega) (by omega) left 0 h1 (by omega) (fun h' => ?_) (fun h' => ?_)
        · rw [Nat.zero_add] at h' ⊢
          have h0 := (strip_pos h2 h1).1 h'
          rw [F_yes hpl h2 h0]
          have e : out ++ facI ((p, (strip p left).2) :: F (p + 1) (strip p left).1) = (out ++ [[(p : Int), ((strip p left).2 : Int)]]) ++ facI (F (p + 1) (strip p left).1) := by simp [facI]
          rw [e]
          exact ih _ (by omega) _ (p + 1) _ rfl (by omega) (strip_spec h2 left h1).2.1 (by omega) (by simp; omega) (by omega) (hr.step h2 h1)
        · rw [Nat.zero_add] at h'
          have h0 : ¬ left % p = 0 := fun e => by have := (strip_pos h2 h1).2 e; omega
          rw [F_no hpl h2 h0, strip_no h0]
          exact ih _ (by omega) left (p + 1) out rfl (by omega) h1 hle (by omega) (by omega) (hr.next h0)

theorem impl_factors_ev {n : Nat} (h1 : 1 ≤ n) (h2 : n ≤ 10000) : Ev (fun k => impl_factors.f k (n : Int)) (facI (facs n)) := by
  have := impl_fac_l0 _ n 2 [] rfl (by omega) h1 h2 (by simp) (by omega) (Rough.two n)
  rw [List.nil_append] at this
  exact this

theorem facs_ok' {n : Nat} (h1 : 1 ≤ n) (h2 : n ≤ 10000) : (facs n).length ≤ 1000000 ∧ ∀ x ∈ facs n, 2 ≤ x.1 ∧ x.1 ≤ 10000 :=
  ⟨by have := facs_length h1; omega, fun x hx => by have := facs_bounds h1 x hx; omega⟩

theorem facI_length (l : List (Nat × Nat)) : (facI l).length = l.length := by simp [facI]

theorem facI_get {l : List (Nat × Nat)} {i : Nat} (h : i < l.length) : rd_L1 (facI l) (i : Int) = [(l[i].1 : Int), (l[i].2 : Int)] := by
  unfold rd_L1
  rw [Int.toNat_natCast, List.getD_eq_getElem?_getD, List.getElem?_eq_getElem (by rw [facI_length]; exact h)]
  simp [facI]

theorem rd_0 (a b : Int) : rd [a, b] 0 = a := rfl

theorem impl_phi_l {l : List (Nat × Nat)} (hl : l.length ≤ 1000000) (hp : ∀ x ∈ l, 2 ≤ x.1 ∧ x.1 ≤ 10000) (d : Nat) : ∀ (i acc : Nat), l.length - i = d → i ≤ l.length → acc ≤ 10000 →
    Ev (fun k => impl_phi.l0 k (acc : Int) (facI l) (l.length : Int) (i : Int)) ((phiF acc (l.drop i) : Nat) : Int) := by
  induction d with
  | zero =>
    intro i acc hd hi _
    have e : i = l.length := by omega
    subst e
    refine Ev_suc ?_
    simp only [impl_phi.l0, Int.lt_irrefl, if_false, List.drop_length, phiF]
    exact Ev.now _
  | succ d ih =>
    intro i acc hd hi ha
    have hlt : i < l.length := by omega
    rw [drop_cons hlt]
    simp only [phiF]
    obtain ⟨b1, b2⟩ := hp l[i] (List.getElem_mem hlt)
    refine Ev_suc ?_
    have c0 : (i : Int) < (l.length : Int) := by omega
    have c1 : (i : Int) < ((facI l).length : Int) := by rw [facI_length]; omega
    have c2 : (0 : Int) ≤ (i : Int) := by omega
    have c3 : ¬ (l[i].1 : Int) = 0 := by omega
    have e1 : acc / l[i].1 * (l[i].1 - 1) ≤ acc := by
      have h2 : acc / l[i].1 * (l[i].1 - 1) ≤ acc / l[i].1 * l[i].1 := Nat.mul_le_mul_left _ (by omega)
      have h3 := Nat.div_mul_le_self acc l[i].1
      omega
    have e2 : wrap64 ((l[i].1 : Int) - 1) = ((l[i].1 - 1 : Nat) : Int) := by rw [w64 (by omega) (by omega)]; omega
    simp only [impl_phi.l0, if_pos c0, if_pos c1, if_pos c2, facI_get hlt, rd_0, if_neg c3, List.length_cons, List.length_nil]
    rw [w64_div (show acc ≤ 9223372036854775807 by omega), e2, w64_mul (by omega), w64_succ (by omega)]
    simp only [if_pos (show (0 : Int) < ((0 + 1 + 1 : Nat) : Int) by omega)]
    exact ih (i + 1) _ (by omega) (by omega) (by omega)

theorem impl_phi_ev {n : Nat} (h1 : 1 ≤ n) (h2 : n ≤ 10000) : Ev (fun k => impl_phi.f k (n : Int)) ((phi n : Nat) : Int) := by
  unfold impl_phi.f
  refine Ev.bind (impl_factors_ev h1 h2) ?_
  obtain ⟨f1, f2⟩ := facs_ok' h1 h2
  rw [facI_length]
  exact impl_phi_l f1 f2 _ 0 n rfl (by omega) h2

theorem impl_HowManyApart_ev (a : Int) : Ev (fun k => impl_HowManyApart.f k a) (hmI a) := by
  unfold impl_HowManyApart.f hmI
  by_cases h : inN a
  · obtain ⟨n, rfl, h1, h2⟩ := inN_nat h
    simp only [numberOk_eq, Option.bind_some, decide_eq_true_eq, if_pos h, Int.toNat_natCast]
    exact Ev.bind (impl_phi_ev h1 h2) (Ev.now _)
  · simp only [numberOk_eq, Option.bind_some, decide_eq_true_eq, if_neg h]
    exact Ev.now _

/-- A code as it is read: at most 2000 bytes. -/
def Bs (l : List Int) : Prop := l.length ≤ 2000 ∧ ∀ x ∈ l, 0 ≤ x ∧ x ≤ 255

theorem u8_range {x : Int} (h : (Lit.int .u8 x).wf = true) : 0 ≤ x ∧ x ≤ 255 := by
  simp [Lit.wf, IntKind.min, IntKind.max, IntKind.bits, IntKind.signed] at h
  omega

theorem l20Open_ev {l0 : List Int} (h : ∀ x ∈ l0, (Lit.int .u8 x).wf = true) : ∃ l, spec_l20Open.f l0 = some (l, 0) ∧ Bs l := by
  unfold spec_l20Open.f
  by_cases h1 : (l0.length : Int) > 2000
  · refine ⟨l0.take 2000, ?_, ?_, fun x hx => u8_range (h x (List.mem_of_mem_take hx))⟩
    · rw [if_pos h1, if_pos (by omega)]
    · exact List.length_take_le _ _
  · exact ⟨l0, by rw [if_neg h1], by omega, fun x hx => u8_range (h x hx)⟩

theorem rd_byte {l : List Int} (h : Bs l) (i : Int) : 0 ≤ rd l i ∧ rd l i ≤ 255 := by
  unfold rd
  rw [List.getD_eq_getElem?_getD]
  by_cases e : i.toNat < l.length
  · rw [List.getElem?_eq_getElem e]; exact h.2 _ (List.getElem_mem e)
  · rw [List.getElem?_eq_none (by omega)]; simp

theorem tmod_range {a n : Int} (ha : 0 ≤ a) (hn : 1 ≤ n) : 0 ≤ Int.tmod a n ∧ Int.tmod a n < n :=
  ⟨Int.tmod_nonneg _ ha, Int.tmod_lt_of_pos a (by omega)⟩

theorem xor_nonneg {a b : Int} (h1 : 0 ≤ a) (h2 : a < 1099511627776) (h3 : 0 ≤ b) (h4 : b < 1099511627776) : 0 ≤ Go.bits .xor .i64 a b := by
  have e : Go.bits .xor .i64 a b = wrap64 (((BitVec.ofInt 64 a ^^^ BitVec.ofInt 64 b).toNat : Nat) : Int) := i64_w _
  have ha : (BitVec.ofInt 64 a).toNat = a.toNat := by
    rw [BitVec.toNat_ofInt]; omega
  have hb : (BitVec.ofInt 64 b).toNat = b.toNat := by
    rw [BitVec.toNat_ofInt]; omega
  have hx : a.toNat ^^^ b.toNat < 2 ^ 40 := Nat.xor_lt_two_pow (by omega) (by omega)
  rw [e, BitVec.toNat_xor, ha, hb, w64_nat (by omega)]
  omega

theorem pick_ev {l : List Int} (hl : Bs l) {p n : Int} (hp : 0 ≤ p) (hp2 : p ≤ 1000000) (hn : 1 ≤ n) (hn2 : n ≤ 1000000) :
    ∃ v, Ev (fun k => spec_l20Rd_pick.f k l p n) (v, p + 1) ∧ 0 ≤ v ∧ v < n := by
  unfold spec_l20Rd_pick.f
  simp only [if_neg (show ¬ n < 1 by omega)]
  rw [w64 (x := p + 1) (by omega) (by omega)]
  by_cases h0 : (l.length : Int) = 0
  · refine ⟨0, ?_, by omega, by omega⟩
    have e : ((l.length : Int) == 0) = true := by rw [h0]; rfl
    rw [e]
    refine Ev_suc ?_
    simp only [spec_l20Rd_pick.j0, if_true]
    exact Ev.now _
  · have e : ((l.length : Int) == 0) = false := beq_eq_false_iff_ne.2 h0
    have hlen := hl.1
    rw [e]
    by_cases h1 : p < (l.length : Int)
    · have hb := rd_byte hl p
      obtain ⟨t1, t2⟩ := tmod_range (a := rd l p) (n := n) hb.1 hn
      refine ⟨Int.tmod (rd l p) n, ?_, t1, t2⟩
      refine Ev_suc ?_
      simp only [spec_l20Rd_pick.j0, Bool.false_eq_true, if_false]
      rw [w64 (x := p + 1 - 1) (by omega) (by omega), show p + 1 - 1 = p by omega, w64 (x := rd l p) (by omega) (by omega)]
      simp only [if_pos h1, if_pos hp, if_neg (show ¬ n = 0 by omega)]
      exact Ev.now _
    · obtain ⟨pn, rfl⟩ := Int.eq_ofNat_of_zero_le hp
      have hL : 0 < l.length := by omega
      have i1 : Int.tmod (pn : Int) (l.length : Int) = ((pn % l.length : Nat) : Int) := rfl
      have i2 : Int.tmod (wrap64 (wrap64 ((pn : Int) * 7) + 3)) (l.length : Int) = (((pn * 7 + 3) % l.length : Nat) : Int) := by
        rw [w64 (x := (pn : Int) * 7) (by omega) (by omega), w64 (by omega) (by omega)]; rfl
      have i3 : wrap64 (Int.tdiv (pn : Int) (l.length : Int)) = ((pn / l.length : Nat) : Int) := w64_div (by omega)
      have m1 := Nat.mod_lt pn hL
      have m2 := Nat.mod_lt (pn * 7 + 3) hL
      have m3 := Nat.div_le_self pn l.length
      obtain ⟨a1, a2⟩ := rd_byte hl ((pn % l.length : Nat) : Int)
      obtain ⟨b1, b2⟩ := rd_byte hl (((pn * 7 + 3) % l.length : Nat) : Int)
      suffices hs : ∃ v, Ev (fun k => spec_l20Rd_pick.j0 k n false l ((pn : Int) + 1)) (v, (pn : Int) + 1) ∧ 0 ≤ v ∧ v < n from hs
      refine ⟨?v, Ev_suc ?_, ?_⟩
      case refine_1 =>
        simp only [spec_l20Rd_pick.j0, Bool.false_eq_true, if_false]
        rw [w64 (x := (pn : Int) + 1 - 1) (by omega) (by omega), show (pn : Int) + 1 - 1 = (pn : Int) by omega, i1, i2, i3]
        simp only [if_neg h1, if_neg h0, if_neg (show ¬ n = 0 by omega), if_pos (show (0 : Int) ≤ ((pn % l.length : Nat) : Int) by omega), if_pos (show ((pn % l.length : Nat) : Int) < (l.length : Int) by omega), if_pos (show (0 : Int) ≤ (((pn * 7 + 3) % l.length : Nat) : Int) by omega), if_pos (show (((pn * 7 + 3) % l.length : Nat) : Int) < (l.length : Int) by omega)]
        exact Ev.now _
      case refine_2 =>
        clear i3
        generalize pn / l.length = zq at *
        have z : wrap64 (wrap64 (wrap64 (wrap64 (wrap64 (rd l ((pn % l.length : Nat) : Int)) * 131) + wrap64 (wrap64 (rd l (((pn * 7 + 3) % l.length : Nat) : Int)) * 1117)) + wrap64 ((pn : Int) * 29)) + wrap64 ((zq : Int) * 53)) =
            rd l ((pn % l.length : Nat) : Int) * 131 + rd l (((pn * 7 + 3) % l.length : Nat) : Int) * 1117 + (pn : Int) * 29 + (zq : Int) * 53 := by
          generalize rd l ((pn % l.length : Nat) : Int) = x at a1 a2
          generalize rd l (((pn * 7 + 3) % l.length : Nat) : Int) = y at b1 b2
          rw [w64 (x := x) (by omega) (by omega), w64 (x := y) (by omega) (by omega), w64 (x := x * 131) (by omega) (by omega), w64 (x := y * 1117) (by omega) (by omega), w64 (x := (pn : Int) * 29) (by omega) (by omega), w64 (x := (zq : Int) * 53) (by omega) (by omega),
            w64 (x := x * 131 + y * 1117) (by omega) (by omega), w64 (x := x * 131 + y * 1117 + (pn : Int) * 29) (by omega) (by omega), w64 (by omega) (by omega)]
        rw [z]
        generalize hz : rd l ((pn % l.length : Nat) : Int) * 131 + rd l (((pn * 7 + 3) % l.length : Nat) : Int) * 1117 + (pn : Int) * 29 + (zq : Int) * 53 = w at *
        have w1 : 0 ≤ w := by omega
        have w2 : w < 1099511627776 := by omega
        have w3 : wrap64 (Int.tdiv w 64) = w / 64 := by rw [Int.tdiv_eq_ediv_of_nonneg w1, w64 (by omega) (by omega)]
        rw [w3]
        exact tmod_range (xor_nonneg w1 w2 (by omega) (by omega)) hn

theorem rd_mem {P : Int → Prop} {l : List Int} (h : ∀ x ∈ l, P x) {i : Int} (h0 : 0 ≤ i) (h1 : i < (l.length : Int)) : P (rd l i) := by
  obtain ⟨n, rfl⟩ := Int.eq_ofNat_of_zero_le h0
  have hn : n < l.length := by omega
  rw [rd_get hn]
  exact h _ (List.getElem_mem hn)

theorem half {v n : Int} (h0 : 0 ≤ v) (h1 : v < n) (hn : n ≤ 1000000) : wrap64 (Int.tdiv v 2) = v / 2 := by
  rw [Int.tdiv_eq_ediv_of_nonneg h0, w64 (by omega) (by omega)]

theorem l20Some_ev {l : List Int} (hl : Bs l) {p : Int} (hp : 0 ≤ p) (hp2 : p ≤ 100000) :
    ∃ v q, Ev (fun k => spec_l20Some.f k l p) (v, q) ∧ -30000 ≤ v ∧ v ≤ 30000 ∧ 0 ≤ q ∧ q ≤ p + 10 := by
  obtain ⟨a, ha, a0, a1⟩ := pick_ev hl (p := p) (n := 12) (by omega) (by omega) (by omega) (by omega)
  obtain ⟨b, hb, b0, b1⟩ := pick_ev hl (p := p + 1) (n := 60) (by omega) (by omega) (by omega) (by omega)
  obtain ⟨c, hc, c0, c1⟩ := pick_ev hl (p := p + 1 + 1) (n := 100) (by omega) (by omega) (by omega) (by omega)
  obtain ⟨d, hd, d0, d1⟩ := pick_ev hl (p := p + 1 + 1 + 1) (n := 100) (by omega) (by omega) (by omega) (by omega)
  obtain ⟨e, he, e0, e1⟩ := pick_ev hl (p := p + 1 + 1 + 1 + 1) (n := 60) (by omega) (by omega) (by omega) (by omega)
  obtain ⟨f, hf, f0, f1⟩ := pick_ev hl (p := p + 1 + 1 + 1 + 1 + 1) (n := 13) (by omega) (by omega) (by omega) (by omega)
  obtain ⟨g, hg, g0, g1⟩ := pick_ev hl (p := p + 1 + 1 + 1 + 1 + 1 + 1) (n := 40) (by omega) (by omega) (by omega) (by omega)
  obtain ⟨h, hh, h0, h1⟩ := pick_ev hl (p := p + 1 + 1 + 1 + 1 + 1 + 1 + 1) (n := 50) (by omega) (by omega) (by omega) (by omega)
  have hcd : 0 ≤ c * d := Int.mul_nonneg c0 d0
  have hcd2 : c * d ≤ 100 * 100 := Int.mul_le_mul (by omega) (by omega) d0 (by omega)
  have hy : ∀ x ∈ ([wrap64 (1 + a), wrap64 (1 + b), wrap64 (1 + (wrap64 (c * d))), wrap64 (12 * (wrap64 (1 + e))), 9973, 8192, 9240] : List Int), 0 ≤ x ∧ x ≤ 10001 := by
    rw [w64 (x := 1 + a) (by omega) (by omega), w64 (x := 1 + b) (by omega) (by omega), w64 (x := c * d) (by omega) (by omega), w64 (x := 1 + c * d) (by omega) (by omega), w64 (x := 1 + e) (by omega) (by omega), w64 (x := 12 * (1 + e)) (by omega) (by omega)]
    intro x hx
    simp only [List.mem_cons, List.not_mem_nil, or_false] at hx
    omega
  have hr := rd_mem hy (i := f / 2) (by omega) (by simp; omega)
  refine ⟨?v, p + 1 + 1 + 1 + 1 + 1 + 1 + 1 + 1, ?_, ?_⟩
  case refine_1 =>
    unfold spec_l20Some.f
    refine Ev.bind ha (Ev.bind hb (Ev.bind hc (Ev.bind hd (Ev.bind he ?_))))
    simp only [Option.bind_some]
    refine Ev.bind hf ?_
    simp only [half f0 f1 (by omega), if_pos (show (0 : Int) ≤ f / 2 by omega), List.length_cons, List.length_nil, if_pos (show f / 2 < ((0 + 1 + 1 + 1 + 1 + 1 + 1 + 1 : Nat) : Int) by omega)]
    refine Ev.bind hg ?_
    refine Ev.bind hh ?_
    dsimp only
    exact Ev.now _
  case refine_2 =>
    generalize rd _ (f / 2) = z at hr
    try dsimp only
    rw [Int.tdiv_eq_ediv_of_nonneg g0, Int.tdiv_eq_ediv_of_nonneg h0, w64 (x := g / 39) (by omega) (by omega), w64 (x := h / 49) (by omega) (by omega), w64 (x := g / 39 * 10000) (by omega) (by omega), w64 (x := h / 49 * 20000) (by omega) (by omega), w64 (x := z + g / 39 * 10000) (by omega) (by omega), w64 (by omega) (by omega)]
    omega

theorem l20Mid_ev {l : List Int} (hl : Bs l) {p : Int} (hp : 0 ≤ p) (hp2 : p ≤ 100000) :
    ∃ v q, Ev (fun k => spec_l20Mid.f k l p) (v, q) ∧ -30000 ≤ v ∧ v ≤ 30000 ∧ 0 ≤ q ∧ q ≤ p + 10 := by
  obtain ⟨a, ha, a0, a1⟩ := pick_ev hl (p := p) (n := 20) (by omega) (by omega) (by omega) (by omega)
  obtain ⟨b, hb, b0, b1⟩ := pick_ev hl (p := p + 1) (n := 100) (by omega) (by omega) (by omega) (by omega)
  obtain ⟨c, hc, c0, c1⟩ := pick_ev hl (p := p + 1 + 1) (n := 41) (by omega) (by omega) (by omega) (by omega)
  obtain ⟨f, hf, f0, f1⟩ := pick_ev hl (p := p + 1 + 1 + 1) (n := 7) (by omega) (by omega) (by omega) (by omega)
  obtain ⟨g, hg, g0, g1⟩ := pick_ev hl (p := p + 1 + 1 + 1 + 1) (n := 30) (by omega) (by omega) (by omega) (by omega)
  obtain ⟨h, hh, h0, h1⟩ := pick_ev hl (p := p + 1 + 1 + 1 + 1 + 1) (n := 40) (by omega) (by omega) (by omega) (by omega)
  have hy : ∀ x ∈ ([wrap64 (1 + a), wrap64 (1 + b), wrap64 (12 * (wrap64 (1 + c))), 500] : List Int), 0 ≤ x ∧ x ≤ 10001 := by
    rw [w64 (x := 1 + a) (by omega) (by omega), w64 (x := 1 + b) (by omega) (by omega), w64 (x := 1 + c) (by omega) (by omega), w64 (x := 12 * (1 + c)) (by omega) (by omega)]
    intro x hx
    simp only [List.mem_cons, List.not_mem_nil, or_false] at hx
    omega
  have hr := rd_mem hy (i := f / 2) (by omega) (by simp; omega)
  refine ⟨?v, p + 1 + 1 + 1 + 1 + 1 + 1, ?_, ?_⟩
  case refine_1 =>
    unfold spec_l20Mid.f
    refine Ev.bind ha (Ev.bind hb (Ev.bind hc ?_))
    simp only [Option.bind_some]
    refine Ev.bind hf ?_
    simp only [half f0 f1 (by omega), if_pos (show (0 : Int) ≤ f / 2 by omega), List.length_cons, List.length_nil, if_pos (show f / 2 < ((0 + 1 + 1 + 1 + 1 : Nat) : Int) by omega)]
    refine Ev.bind hg ?_
    refine Ev.bind hh ?_
    dsimp only
    exact Ev.now _
  case refine_2 =>
    generalize rd _ (f / 2) = z at hr
    try dsimp only
    rw [Int.tdiv_eq_ediv_of_nonneg g0, Int.tdiv_eq_ediv_of_nonneg h0, w64 (x := g / 29) (by omega) (by omega), w64 (x := h / 39) (by omega) (by omega), w64 (x := g / 29 * 500) (by omega) (by omega), w64 (x := h / 39 * 1000) (by omega) (by omega), w64 (x := z + g / 29 * 500) (by omega) (by omega), w64 (by omega) (by omega)]
    omega

theorem DrawOrderOf_ev {l0 : List Int} (h : ∀ x ∈ l0, (Lit.int .u8 x).wf = true) : ∃ a n, Ev (fun k => spec_DrawOrderOf.f k l0) (a, n) ∧ (-30000 ≤ a ∧ a ≤ 30000) ∧ -30000 ≤ n ∧ n ≤ 30000 := by
  obtain ⟨l, e, hl⟩ := l20Open_ev h
  obtain ⟨v, q, hv, b1, b2, q1, q2⟩ := l20Some_ev hl (p := 0) (by omega) (by omega)
  obtain ⟨u, r, hu, c1, c2, _⟩ := l20Mid_ev hl (p := q) (by omega) (by omega)
  refine ⟨v, u, ?_, ⟨b1, b2⟩, c1, c2⟩
  unfold spec_DrawOrderOf.f
  rw [e]
  simp only [Option.bind_some]
  exact Ev.bind hv (Ev.bind hu (Ev.now _))

/-- The answer r of OrderOf. -/
def OrdI (a n r : Int) : Prop := (¬ (inN a ∧ (1 ≤ n ∧ n ≤ 500) ∧ Nat.gcd a.toNat n.toNat = 1) ∧ r = -1) ∨ (inN a ∧ (1 ≤ n ∧ n ≤ 500) ∧ Nat.gcd a.toNat n.toNat = 1 ∧ ∃ k : Nat, r = k ∧ IsOrd a.toNat n.toNat k)

theorem OrdI_exists (a n : Int) : ∃ r, OrdI a n r := by
  by_cases h : inN a ∧ (1 ≤ n ∧ n ≤ 500) ∧ Nat.gcd a.toNat n.toNat = 1
  · obtain ⟨k, k1, k2, k3, k4⟩ := order_exists (a := a.toNat) (n := n.toNat) (by omega) h.2.2
    exact ⟨k, .inr ⟨h.1, h.2.1, h.2.2, k, rfl, k1, k2, k3, k4⟩⟩
  · exact ⟨-1, .inl ⟨h, rfl⟩⟩

theorem impl_OrderOf_no (a n : Int) : Ev (fun k => impl_OrderOf.j0 k a n true) (-1) := by
  refine Ev_suc ?_
  simp only [impl_OrderOf.j0, if_true]
  exact Ev.now _

/-- What two numbers share, -1 where one is none. -/
def cmI (a b : Int) : Int := if inN a ∧ inN b then ((Nat.gcd a.toNat b.toNat : Nat) : Int) else -1

theorem impl_gcd_l : ∀ (b a : Nat), Ev (fun k => impl_gcd.l0 k (a : Int) (b : Int)) ((Nat.gcd a b : Nat) : Int) := by
  intro b
  induction b using Nat.strongRecOn with
  | ind b ih =>
    intro a
    refine Ev_suc ?_
    simp only [impl_gcd.l0]
    by_cases hb : b = 0
    · subst hb
      simp only [Int.natCast_zero, if_true, Nat.gcd_zero_right]
      exact Ev.now _
    · have h : ¬ ((b : Int) = 0) := by omega
      simp only [if_neg h, tmod_nat]
      rw [Nat.gcd_comm a b, Nat.gcd_rec b a, Nat.gcd_comm]
      exact ih (a % b) (Nat.mod_lt _ (by omega)) b

theorem impl_gcd_ev (a b : Nat) : Ev (fun k => impl_gcd.f k (a : Int) (b : Int)) ((Nat.gcd a b : Nat) : Int) := impl_gcd_l b a

theorem impl_CommonOf_ev (a b : Int) : Ev (fun k => impl_CommonOf.f k a b) (cmI a b) := by
  unfold impl_CommonOf.f cmI
  by_cases h1 : inN a
  · by_cases h2 : inN b
    · obtain ⟨n, rfl, _, _⟩ := inN_nat h1
      obtain ⟨m, rfl, _, _⟩ := inN_nat h2
      simp only [numberOk_eq, Option.bind_some, decide_eq_true_eq, if_pos h1, if_pos h2, if_pos (And.intro h1 h2), Int.toNat_natCast]
      exact Ev.bind (impl_gcd_ev n m) (Ev.now _)
    · simp only [numberOk_eq, Option.bind_some, decide_eq_true_eq, if_pos h1, if_neg h2, if_neg (fun e : inN a ∧ inN b => h2 e.2)]
      exact Ev.now _
  · simp only [numberOk_eq, Option.bind_some, decide_eq_true_eq, if_neg h1, if_neg (fun e : inN a ∧ inN b => h1 e.1)]
    exact Ev.now _

theorem impl_ApartOk_ev (a b : Int) : Ev (fun k => impl_ApartOk.f k a b) (cmI a b == 1) := by
  unfold impl_ApartOk.f
  exact Ev.bind (impl_CommonOf_ev a b) (Ev.now _)

theorem cmI_one {a n : Int} : (cmI a n == 1) = true ↔ inN a ∧ inN n ∧ Nat.gcd a.toNat n.toNat = 1 := by
  unfold cmI
  by_cases h : inN a ∧ inN n
  · rw [if_pos h, beq_iff_eq]
    exact ⟨fun e => ⟨h.1, h.2, by omega⟩, fun e => by have := e.2.2; omega⟩
  · rw [if_neg h, beq_iff_eq]
    exact ⟨fun e => by omega, fun e => absurd ⟨e.1, e.2.1⟩ h⟩

theorem one_tmod' (n : Nat) : (1 : Int) % (n : Int) = ((1 % n : Nat) : Int) := rfl

theorem impl_OrderOf_l {a n m : Nat} (ha : a ≤ 10000) (hn : 1 ≤ n) (hn2 : n ≤ 500) (hm : IsOrd a n m) (d : Nat) : ∀ c, 1 ≤ c → c ≤ m → m - c = d →
    Ev (fun k => impl_OrderOf.l0 k (a : Int) (n : Int) (c : Int) ((a ^ c % n : Nat) : Int)) (m : Int) := by
  have hmn := hm.2.1
  induction d with
  | zero =>
    intro c h1 h2 h3
    have e : c = m := by omega
    subst e
    refine Ev_suc ?_
    have c0 : ¬ (n : Int) = 0 := by omega
    simp only [impl_OrderOf.l0, if_neg c0, one_tmod', hm.2.2.1, if_true]
    exact Ev.now _
  | succ d ih =>
    intro c h1 h2 h3
    refine Ev_suc ?_
    have c0 : ¬ (n : Int) = 0 := by omega
    have hne := hm.2.2.2 c h1 (by omega)
    have c1 : ¬ ((a ^ c % n : Nat) : Int) = ((1 % n : Nat) : Int) := fun e => hne (by omega)
    simp only [impl_OrderOf.l0, if_neg c0, one_tmod', if_neg c1]
    have hs1 : a ^ c % n < n := Nat.mod_lt _ hn
    have hb : a ^ c % n * a ≤ 500 * 10000 := Nat.mul_le_mul (by omega) ha
    rw [w64_mul (by omega), w64_succ (by omega)]
    simp only [tmod_nat]
    have e : a ^ c % n * a % n = a ^ (c + 1) % n := by rw [Nat.pow_succ, Nat.mod_mul_mod]
    rw [e]
    exact ih (c + 1) (by omega) (by omega) (by omega)

theorem impl_OrderOf_ev {a n r : Int} (hr : OrdI a n r) : Ev (fun k => impl_OrderOf.f k a n) r := by
  unfold impl_OrderOf.f
  by_cases h1 : n < 1
  · simp only [if_pos h1]
    rcases hr with ⟨_, rfl⟩ | ⟨_, e, _⟩
    · exact impl_OrderOf_no a n
    · omega
  by_cases h4 : n > 500
  · simp only [if_neg h1, if_pos h4]
    rcases hr with ⟨_, rfl⟩ | ⟨_, e, _⟩
    · exact impl_OrderOf_no a n
    · omega
  simp only [if_neg h1, if_neg h4]
  refine Ev.bind (impl_ApartOk_ev a n) ?_
  by_cases h : (cmI a n == 1) = true
  · obtain ⟨h1, h2, h3⟩ := cmI_one.1 h
    simp only [h, Bool.not_true]
    rcases hr with ⟨e, _⟩ | ⟨_, _, _, k, rfl, hk⟩
    · exact absurd ⟨h1, ⟨h2.1, by omega⟩, h3⟩ e
    · obtain ⟨x, rfl, x1, x2⟩ := inN_nat h1
      obtain ⟨m, rfl, m1, m2⟩ := inN_nat h2
      rw [Int.toNat_natCast, Int.toNat_natCast] at hk
      refine Ev_suc ?_
      have c0 : ¬ (m : Int) = 0 := by omega
      simp only [impl_OrderOf.j0, Bool.false_eq_true, if_false, if_neg c0, tmod_nat]
      have := impl_OrderOf_l x2 m1 (by omega) hk (k - 1) 1 (by omega) hk.1 rfl
      rw [Nat.pow_one] at this
      exact this
  · have h' : (cmI a n == 1) = false := by simpa using h
    simp only [h', Bool.not_false]
    rcases hr with ⟨_, rfl⟩ | ⟨e1, e2, e3, _⟩
    · exact impl_OrderOf_no a n
    · exact absurd (cmI_one.2 ⟨e1, ⟨e2.1, by omega⟩, e3⟩) h

theorem l1In_eq (a lo hi : Int) : spec_l1In.f a lo hi = some (decide (lo ≤ a ∧ a ≤ hi)) := by
  unfold spec_l1In.f
  by_cases h : lo ≤ a
  · rw [if_pos h]; simp [h]
  · rw [if_neg h]; simp [h]

theorem spec_CommonOf_l : ∀ (b a : Nat), Ev (fun k => spec_CommonOf.l0 k (a : Int) (b : Int)) ((Nat.gcd a b : Nat) : Int) := by
  intro b
  induction b using Nat.strongRecOn with
  | ind b ih =>
    intro a
    refine Ev_suc ?_
    simp only [spec_CommonOf.l0]
    by_cases hb : b = 0
    · subst hb
      simp only [Int.natCast_zero, gt_iff_lt, Int.lt_irrefl, if_false, Nat.gcd_zero_right]
      exact Ev.now _
    · have h : ¬ ((b : Int) = 0) := by omega
      have h' : (b : Int) > 0 := by omega
      simp only [if_pos h', if_neg h, tmod_nat]
      rw [Nat.gcd_comm a b, Nat.gcd_rec b a, Nat.gcd_comm]
      exact ih (a % b) (Nat.mod_lt _ (by omega)) b

theorem spec_CommonOf_ev (a b : Int) : Ev (fun k => spec_CommonOf.f k a b) (cmI a b) := by
  unfold spec_CommonOf.f cmI inN
  by_cases h1 : 1 ≤ a ∧ a ≤ 10000
  · by_cases h2 : 1 ≤ b ∧ b ≤ 10000
    · obtain ⟨n, rfl, _, _⟩ := inN_nat h1
      obtain ⟨m, rfl, _, _⟩ := inN_nat h2
      simp only [l1In_eq, Option.bind_some, decide_eq_true_eq, if_pos h1, decide_eq_true h2, if_pos (And.intro h1 h2), Int.toNat_natCast, Bool.not_true]
      refine Ev_suc ?_
      simp only [spec_CommonOf.j0, Bool.false_eq_true, if_false]
      exact spec_CommonOf_l m n
    · simp only [l1In_eq, Option.bind_some, decide_eq_true_eq, if_pos h1, decide_eq_false h2, if_neg (fun e : (1 ≤ a ∧ a ≤ 10000) ∧ (1 ≤ b ∧ b ≤ 10000) => h2 e.2), Bool.not_false]
      refine Ev_suc ?_
      simp only [spec_CommonOf.j0, if_true]
      exact Ev.now _
  · simp only [l1In_eq, Option.bind_some, decide_eq_true_eq, if_neg h1, if_neg (fun e : (1 ≤ a ∧ a ≤ 10000) ∧ (1 ≤ b ∧ b ≤ 10000) => h1 e.1)]
    refine Ev_suc ?_
    simp only [spec_CommonOf.j0, if_true]
    exact Ev.now _

theorem spec_ApartOk_ev (a b : Int) : Ev (fun k => spec_ApartOk.f k a b) (cmI a b == 1) := by
  unfold spec_ApartOk.f
  exact Ev.bind (spec_CommonOf_ev a b) (Ev.now _)

theorem spec_OrderOf_no (a n : Int) : Ev (fun k => spec_OrderOf.j0 k a n true) (-1) := by
  refine Ev_suc ?_
  simp only [spec_OrderOf.j0, if_true]
  exact Ev.now _

theorem spec_OrderOf_l {a n m : Nat} (ha : a ≤ 10000) (hn : 1 ≤ n) (hn2 : n ≤ 500) (hm : IsOrd a n m) (d : Nat) : ∀ c, 1 ≤ c → c ≤ m → m - c = d →
    Ev (fun k => spec_OrderOf.l0 k (a : Int) (n : Int) ((a ^ c % n : Nat) : Int) (c : Int)) (m : Int) := by
  have hmn := hm.2.1
  induction d with
  | zero =>
    intro c h1 h2 h3
    have e : c = m := by omega
    subst e
    refine Ev_suc ?_
    have c0 : ¬ (n : Int) = 0 := by omega
    simp only [spec_OrderOf.l0, if_neg c0, one_tmod', hm.2.2.1, if_true]
    exact Ev.now _
  | succ d ih =>
    intro c h1 h2 h3
    refine Ev_suc ?_
    have c0 : ¬ (n : Int) = 0 := by omega
    have hne := hm.2.2.2 c h1 (by omega)
    have c1 : ¬ ((a ^ c % n : Nat) : Int) = ((1 % n : Nat) : Int) := fun e => hne (by omega)
    simp only [spec_OrderOf.l0, if_neg c0, one_tmod', if_neg c1, tmod_nat]
    have hs1 : a ^ c % n < n := Nat.mod_lt _ hn
    have hs2 : a % n < n := Nat.mod_lt _ hn
    have hb : a ^ c % n * (a % n) ≤ 500 * 500 := Nat.mul_le_mul (by omega) (by omega)
    rw [w64_mul (by omega), w64_succ (by omega)]
    simp only [tmod_nat]
    rw [← Nat.mul_mod, ← Nat.pow_succ]
    exact ih (c + 1) (by omega) (by omega) (by omega)

theorem spec_OrderOf_ev {a n r : Int} (hr : OrdI a n r) : Ev (fun k => spec_OrderOf.f k a n) r := by
  unfold spec_OrderOf.f
  refine Ev.bind (spec_ApartOk_ev a n) ?_
  by_cases h : (cmI a n == 1) = true
  · obtain ⟨h1, h2, h3⟩ := cmI_one.1 h
    by_cases h4 : n > 500
    · simp only [h, if_true, decide_eq_true h4]
      rcases hr with ⟨_, rfl⟩ | ⟨_, e, _⟩
      · exact spec_OrderOf_no a n
      · omega
    · simp only [h, if_true, decide_eq_false h4]
      rcases hr with ⟨e, _⟩ | ⟨_, _, _, k, rfl, hk⟩
      · exact absurd ⟨h1, ⟨h2.1, by omega⟩, h3⟩ e
      · obtain ⟨x, rfl, x1, x2⟩ := inN_nat h1
        obtain ⟨m, rfl, m1, m2⟩ := inN_nat h2
        rw [Int.toNat_natCast, Int.toNat_natCast] at hk
        refine Ev_suc ?_
        have c0 : ¬ (m : Int) = 0 := by omega
        simp only [spec_OrderOf.j0, Bool.false_eq_true, if_false, if_neg c0, tmod_nat]
        have := spec_OrderOf_l x2 m1 (by omega) hk (k - 1) 1 (by omega) hk.1 rfl
        rw [Nat.pow_one] at this
        exact this
  · have h' : (cmI a n == 1) = false := by simpa using h
    simp only [h', Bool.false_eq_true, if_false]
    rcases hr with ⟨_, rfl⟩ | ⟨e1, e2, e3, _⟩
    · exact spec_OrderOf_no a n
    · exact absurd (cmI_one.2 ⟨e1, ⟨e2.1, by omega⟩, e3⟩) h

/-- Does a number divide another one, both from 1 up to the greatest number? -/
def dvI (d n : Int) : Bool := decide (inN d ∧ inN n ∧ n.toNat % d.toNat = 0)

theorem impl_DividesOk_eq (d n : Int) : impl_DividesOk.f d n = some (dvI d n) := by
  unfold impl_DividesOk.f dvI
  by_cases h1 : inN d
  · by_cases h2 : inN n
    · obtain ⟨a, rfl, _, _⟩ := inN_nat h1
      obtain ⟨b, rfl, _, _⟩ := inN_nat h2
      have h0 : ¬ ((a : Int) = 0) := by omega
      simp only [numberOk_eq, Option.bind_some, decide_eq_true_eq, if_pos h1, if_pos h2, if_neg h0, tmod_nat, Int.toNat_natCast, h1, h2, true_and]
      congr 1
      by_cases e : b % a = 0
      · simp [e]
      · simp [e]; omega
    · simp only [numberOk_eq, Option.bind_some, decide_eq_true_eq, if_pos h1, if_neg h2]
      simp [h2]
  · simp only [numberOk_eq, Option.bind_some, decide_eq_true_eq, if_neg h1]
    simp [h1]

theorem alive_eq : laws_alive.f = some true := by
  unfold laws_alive.f
  rw [impl_DividesOk_eq, impl_DividesOk_eq]
  rfl

theorem pmI_nat {a t n : Nat} (a1 : 1 ≤ a) (a2 : a ≤ 10000) (ht : t ≤ 1000000) (n1 : 1 ≤ n) (n2 : n ≤ 10000) : pmI (a : Int) (t : Int) (n : Int) = ((a ^ t % n : Nat) : Int) := by
  unfold pmI inN
  rw [if_pos ⟨by omega, by omega, by omega⟩]; rfl
theorem or_end {a n m : Nat} (a1 : 1 ≤ a) (a2 : a ≤ 10000) (n1 : 1 ≤ n) (n2 : n ≤ 500) (hg : Nat.gcd a n = 1) (hm : IsOrd a n m) : ∀ c : Nat, Ev (fun k => laws_FnOrderOf.j1 k (a : Int) (n : Int) (m : Int) (c : Int) false) true := by
  intro c
  have hmn := hm.2.1
  have h1 := hm.1
  refine Ev_suc ?_
  simp only [laws_FnOrderOf.j1, Bool.false_eq_true, if_false, if_pos (show (m : Int) ≥ 1 by omega)]
  refine Ev.bind (impl_PowerModulo_ev _ _ _) ?_
  rw [pmI_nat a1 a2 (by omega) n1 (by omega), hm.2.2.1]
  simp only [if_neg (show ¬ (n : Int) = 0 by omega), one_tmod, if_true]
  refine Ev.bind (impl_HowManyApart_ev _) ?_
  have e : hmI (n : Int) = ((phi n : Nat) : Int) := by unfold hmI; rw [if_pos (by unfold inN; omega)]; rfl
  rw [e]
  simp only [if_neg (show ¬ (m : Int) = 0 by omega), tmod_nat]
  have hd := order_dvd hm.1 hm.2.2.1 hm.2.2.2 (euler_phi n1 hg)
  rw [hd]
  exact Ev.now _
theorem or_l {a n m : Nat} (a1 : 1 ≤ a) (a2 : a ≤ 10000) (n1 : 1 ≤ n) (n2 : n ≤ 500) (hg : Nat.gcd a n = 1) (hm : IsOrd a n m) (d : Nat) : ∀ c : Nat, 1 ≤ c → c ≤ m → m - c = d → Ev (fun k => laws_FnOrderOf.l0 k (a : Int) (n : Int) (m : Int) (c : Int)) true := by
  have hmn := hm.2.1
  induction d with
  | zero =>
    intro c h1 h2 h3
    have e : c = m := by omega
    subst e
    refine Ev_suc ?_
    simp only [laws_FnOrderOf.l0, Int.lt_irrefl, if_false]
    exact or_end a1 a2 n1 n2 hg hm c
  | succ d ih =>
    intro c h1 h2 h3
    refine Ev_suc ?_
    simp only [laws_FnOrderOf.l0, if_pos (show (c : Int) < (m : Int) by omega)]
    by_cases h60 : (c : Int) < 60
    · simp only [decide_eq_true h60]
      refine Ev_suc ?_
      simp only [laws_FnOrderOf.j1, if_true]
      refine Ev.bind (impl_PowerModulo_ev _ _ _) ?_
      rw [pmI_nat a1 a2 (by omega) n1 (by omega)]
      have hne := hm.2.2.2 c h1 (by omega)
      simp only [if_neg (show ¬ (n : Int) = 0 by omega), one_tmod, if_neg (show ¬ ((a ^ c % n : Nat) : Int) = ((1 % n : Nat) : Int) from fun e => hne (by omega))]
      rw [w64_succ (by omega)]
      exact ih (c + 1) (by omega) (by omega) (by omega)
    · simp only [decide_eq_false h60]
      exact or_end a1 a2 n1 n2 hg hm c
theorem FnOrderOf : laws_FnOrderOf.Pure := by
  intro l0 _ _ hu
  refine Ev.rounds (r := true) ?_
  unfold laws_FnOrderOf.f
  by_cases hlen : (l0.length : Int) > 1048576
  · simp only [if_pos hlen]; exact Ev.now _
  simp only [if_neg hlen]
  obtain ⟨a, n, hd, _⟩ := DrawOrderOf_ev hu
  obtain ⟨r, hr⟩ := OrdI_exists a n
  refine Ev.bind hd (Ev.bind (impl_OrderOf_ev hr) (Ev.bind (spec_OrderOf_ev hr) ?_))
  simp only [if_true]
  rcases hr with ⟨_, rfl⟩ | ⟨h1, h2, h3, m, rfl, hm⟩
  · simp only [if_pos (show (-1 : Int) < 0 by omega), if_true, alive_eq, Option.bind_some]
    exact Ev.now _
  · obtain ⟨x, rfl, x1, x2⟩ := inN_nat h1
    obtain ⟨y, rfl, y1, y2⟩ := inN_nat (a := n) ⟨h2.1, by omega⟩
    simp only [if_neg (show ¬ (m : Int) < 0 by omega)]
    exact or_l x1 x2 y1 (by omega) h3 hm _ 1 (by omega) hm.1 rfl

end Go.Proofs.Ytplnpkagamnodaa.Pure
