/- The program's ByApart answers as the reference's, for every two whole numbers. No conditions. -/
import Derived.Test.YtomfiimpnabfoaaPFnExactByApartx4
import Derived.Test.YtomfiimpnabfoaaEvs
import Derived.Test.YtomfiimpnabfoaaEuler
import Derived.Test.YtomfiimpnabfoaaMul
namespace Go.Proofs.Ytomfiimpnabfoaa.Pure
open Go.RowKit Go.Proofs.Ytomfiimpnabfoaa.PFnExactByApart Go.Proofs.YtomfiimpnabfoaaW.PrintWords Go.Proofs.YtomfiimpnabfoaaW.PrintLast Go.Proofs.YtomfiimpnabfoaaW.PrintMore Go.Proofs.Ytomfiimpnabfoaa.Math
set_option linter.unusedVariables false
set_option linter.unusedSimpArgs false

/-- The sum for a first and a second number, by what is apart. -/
def baI (q n : Int) : Int := if (1 ≤ q ∧ q ≤ 60) ∧ inN n then Int.tdiv (sgn 1 (facs (q.toNat / Nat.gcd q.toNat n.toNat)) * (phi q.toNat : Int)) (phi (q.toNat / Nat.gcd q.toNat n.toNat) : Int) else 0

theorem l1In_eq (a lo hi : Int) : spec_l1In.f a lo hi = some (decide (lo ≤ a ∧ a ≤ hi)) := by
  unfold spec_l1In.f
  by_cases h : lo ≤ a
  · rw [if_pos h]; simp [h]
  · rw [if_neg h]; simp [h]

theorem ba_left {q n : Nat} (h1 : 1 ≤ q) : 1 ≤ Nat.gcd q n ∧ 1 ≤ q / Nat.gcd q n ∧ q / Nat.gcd q n ≤ q :=
  ⟨Nat.gcd_pos_of_pos_left n h1, Nat.div_pos (Nat.gcd_le_left n h1) (Nat.gcd_pos_of_pos_left n h1), Nat.div_le_self _ _⟩

theorem phi_pos {n : Nat} (h : 1 ≤ n) : 1 ≤ phi n ∧ phi n ≤ n := by
  have h1 := phi_cnt h
  have h2 := cnt_pos h
  exact ⟨by omega, phiF_le _ _⟩

theorem ba_small {q left : Nat} (h1 : 1 ≤ q) (h2 : q ≤ 60) (h3 : 1 ≤ left) (h4 : left ≤ 60) :
    wrap64 (sgn 1 (facs left) * (phi q : Int)) = sgn 1 (facs left) * (phi q : Int) ∧
    wrap64 (Int.tdiv (sgn 1 (facs left) * (phi q : Int)) (phi left : Int)) = Int.tdiv (sgn 1 (facs left) * (phi q : Int)) (phi left : Int) := by
  obtain ⟨p1, p2⟩ := phi_pos h1
  obtain ⟨p3, p4⟩ := phi_pos h3
  obtain ⟨s1, s2⟩ := sgn_one (facs left) 1 (by omega) (by omega)
  have key : sgn 1 (facs left) = -1 ∨ sgn 1 (facs left) = 0 ∨ sgn 1 (facs left) = 1 := by omega
  have hq : (phi q / phi left : Nat) ≤ phi q := Nat.div_le_self _ _
  rcases key with e | e | e
  · rw [e]
    have e2 : Int.tdiv (-1 * (phi q : Int)) (phi left : Int) = -((phi q / phi left : Nat) : Int) := by
      rw [show -1 * (phi q : Int) = -(phi q : Int) by omega, Int.neg_tdiv, tdiv_nat]
    refine ⟨w64 (by omega) (by omega), ?_⟩
    rw [e2]
    clear e2
    generalize phi q / phi left = z at *
    exact w64 (by omega) (by omega)
  · rw [e]
    simp only [Int.zero_mul, Int.zero_tdiv]
    exact ⟨w64 (by omega) (by omega), w64 (by omega) (by omega)⟩
  · rw [e]
    simp only [Int.one_mul]
    rw [tdiv_nat]
    generalize phi q / phi left = z at *
    exact ⟨w64 (by omega) (by omega), w64 (by omega) (by omega)⟩

/-- What two numbers share, -1 where one is none. -/
def cmI (a b : Int) : Int := if inN a ∧ inN b then ((Nat.gcd a.toNat b.toNat : Nat) : Int) else -1

theorem spec_CommonOf_l : ∀ (b a : Nat), Ev (fun k => spec_CommonOf.l0 k (a : Int) (b : Int)) ((Nat.gcd a b : Nat) : Int) := by
  intro b
  induction b using Nat.strongRecOn with
  | ind b ih =>
    intro a
    refine Ev_suc ?_
    simp only [spec_CommonOf.l0]
    by_cases hb : b = 0
    · subst hb
      simp only [Int.natCast_zero, gt_iff_lt, Int.lt_irrefl, if_false, Nat.gcd_zero_right]
      exact Ev.now _
    · have h : ¬ ((b : Int) = 0) := by omega
      have h' : (b : Int) > 0 := by omega
      simp only [if_pos h', if_neg h, tmod_nat]
      rw [Nat.gcd_comm a b, Nat.gcd_rec b a, Nat.gcd_comm]
      exact ih (a % b) (Nat.mod_lt _ (by omega)) b

theorem spec_CommonOf_ev (a b : Int) : Ev (fun k => spec_CommonOf.f k a b) (cmI a b) := by
  unfold spec_CommonOf.f cmI inN
  by_cases h1 : 1 ≤ a ∧ a ≤ 10000
  · by_cases h2 : 1 ≤ b ∧ b ≤ 10000
    · obtain ⟨n, rfl, _, _⟩ := inN_nat h1
      obtain ⟨m, rfl, _, _⟩ := inN_nat h2
      simp only [l1In_eq, Option.bind_some, decide_eq_true_eq, if_pos h1, decide_eq_true h2, if_pos (And.intro h1 h2), Int.toNat_natCast, Bool.not_true]
      refine Ev_suc ?_
      simp only [spec_CommonOf.j0, Bool.false_eq_true, if_false]
      exact spec_CommonOf_l m n
    · simp only [l1In_eq, Option.bind_some, decide_eq_true_eq, if_pos h1, decide_eq_false h2, if_neg (fun e : (1 ≤ a ∧ a ≤ 10000) ∧ (1 ≤ b ∧ b ≤ 10000) => h2 e.2), Bool.not_false]
      refine Ev_suc ?_
      simp only [spec_CommonOf.j0, if_true]
      exact Ev.now _
  · simp only [l1In_eq, Option.bind_some, decide_eq_true_eq, if_neg h1, if_neg (fun e : (1 ≤ a ∧ a ≤ 10000) ∧ (1 ≤ b ∧ b ≤ 10000) => h1 e.1)]
    refine Ev_suc ?_
    simp only [spec_CommonOf.j0, if_true]
    exact Ev.now _

theorem cmI_nat {a b : Nat} (h1 : 1 ≤ a) (h2 : a ≤ 10000) (h3 : 1 ≤ b) (h4 : b ≤ 10000) : cmI a b = ((Nat.gcd a b : Nat) : Int) := by
  unfold cmI inN
  rw [if_pos (by omega)]; rfl

/-- The list of primes as the program has it. -/
def facI (l : List (Nat × Nat)) : List (List Int) := l.map (fun x => [(x.1 : Int), (x.2 : Int)])

theorem spec_fac_l1 {x0 : Int} {out : List (List Int)} {p : Nat} {r : List (List Int)} (h2 : 2 ≤ p) (hp : p ≤ 10000) (hout : out.length < 5864062014805) : ∀ (left j : Nat), 1 ≤ left → left + j ≤ 20000 →
    (0 < j + (strip p left).2 → Ev (fun k => spec_FactorsOf.l0 k x0 (out ++ [[(p : Int), ((j + (strip p left).2 : Nat) : Int)]]) ((strip p left).1 : Int) ((p + 1 : Nat) : Int)) r) →
    (j + (strip p left).2 = 0 → Ev (fun k => spec_FactorsOf.l0 k x0 out ((strip p left).1 : Int) ((p + 1 : Nat) : Int)) r) →
    Ev (fun k => spec_FactorsOf.l1 k x0 out (left : Int) (p : Int) (j : Int)) r := by
  intro left
  induction left using Nat.strongRecOn with
  | ind left ih =>
    intro j h1 hb hy hn
    refine Ev_suc ?_
    have c1 : ¬ (p : Int) = 0 := by omega
    simp only [spec_FactorsOf.l1, if_neg c1, tmod_nat]
    rw [w64_div (show left ≤ 9223372036854775807 by omega), w64_succ (show j < 9223372036854775807 by omega), w64_succ (show p < 9223372036854775807 by omega)]
    by_cases h0 : left % p = 0
    · have c2 : ((left % p : Nat) : Int) = 0 := by omega
      simp only [if_pos c2]
      rw [strip_yes h2 h1 h0] at hy hn
      have hle : left / p ≤ left / 2 := Nat.div_le_div_left h2 (by omega)
      have hlt : left / p < left := Nat.div_lt_self h1 (by omega)
      have hpos : 1 ≤ left / p := div_pos_of (by omega) h1 h0
      have e : j + 1 + (strip p (left / p)).2 = j + ((strip p (left / p)).2 + 1) := by omega
      refine ih (left / p) hlt (j + 1) hpos (by omega) (fun h => ?_) (fun h => by omega)
      rw [e]; exact hy (by simp only; omega)
    · have c2 : ¬ ((left % p : Nat) : Int) = 0 := by omega
      simp only [if_neg c2]
      rw [strip_no h0] at hy hn
      simp only [Nat.add_zero] at hy hn
      by_cases hj : 0 < j
      · have c3 : (j : Int) > 0 := by omega
        simp only [if_pos c3, if_pos hout]
        exact hy hj
      · have c3 : ¬ (j : Int) > 0 := by omega
        simp only [if_neg c3]
        exact hn (by omega)

theorem spec_fac_l0 {n : Nat} (h1n : 1 ≤ n) (h2n : n ≤ 10000) (d : Nat) : ∀ (left p : Nat) (out : List (List Int)), left + 1 - p = d → 2 ≤ p → 1 ≤ left → left ≤ n → out.length ≤ p → p ≤ 10001 →
    Ev (fun k => spec_FactorsOf.l0 k (n : Int) out (left : Int) (p : Int)) (out ++ facI (F p left)) := by
  induction d using Nat.strongRecOn with
  | ind d ih =>
    intro left p out hd h2 h1 hle hout hp
    refine Ev_suc ?_
    have hl : decide ((1 : Int) ≤ (n : Int) ∧ (n : Int) ≤ 10000) = true := decide_eq_true (by omega)
    simp only [spec_FactorsOf.l0, l1In_eq, Option.bind_some, hl]
    by_cases h : p ≤ left
    · have c1 : (p : Int) ≤ (left : Int) := Int.ofNat_le.2 h
      simp only [if_pos c1]
      refine Ev_suc ?_
      simp only [spec_FactorsOf.j1, if_true]
      have hs := strip_le p left
      refine spec_fac_l1 h2 (by omega) (by omega) left 0 h1 (by omega) (fun h' => ?_) (fun h' => ?_)
      · rw [Nat.zero_add] at h' ⊢
        have h0 := (strip_pos h2 h1).1 h'
        rw [F_yes h h2 h0]
        have e : out ++ facI ((p, (strip p left).2) :: F (p + 1) (strip p left).1) = (out ++ [[(p : Int), ((strip p left).2 : Int)]]) ++ facI (F (p + 1) (strip p left).1) := by simp [facI]
        rw [e]
        exact ih _ (by omega) _ (p + 1) _ rfl (by omega) (strip_spec h2 left h1).2.1 (by omega) (by simp; omega) (by omega)
      · rw [Nat.zero_add] at h'
        have h0 : ¬ left % p = 0 := fun e => by have := (strip_pos h2 h1).2 e; omega
        rw [F_no h h2 h0, strip_no h0]
        exact ih _ (by omega) left (p + 1) out rfl (by omega) h1 hle (by omega) (by omega)
    · have c1 : ¬ (p : Int) ≤ (left : Int) := fun e => h (Int.ofNat_le.1 e)
      simp only [if_neg c1]
      refine Ev_suc ?_
      simp only [spec_FactorsOf.j1, Bool.false_eq_true, if_false]
      rw [F_end h]
      simp only [facI, List.map_nil, List.append_nil]
      exact Ev.now _

theorem spec_FactorsOf_nat {n : Nat} (h1 : 1 ≤ n) (h2 : n ≤ 10000) : Ev (fun k => spec_FactorsOf.f k (n : Int)) (facI (facs n)) := by
  have := spec_fac_l0 h1 h2 _ n 2 [] rfl (by omega) h1 (Nat.le_refl _) (by simp) (by omega)
  rw [List.nil_append] at this
  exact this

theorem spec_DivisorsOf_l {n : Nat} (hn : 1 ≤ n) (hn2 : n ≤ 10000) (d : Nat) : ∀ c, c ≤ n → n - c = d →
    Ev (fun k => spec_DivisorsOf.l0 k (n : Int) (lI (L (dv n) c)) ((c + 1 : Nat) : Int)) (lI (divs n)) := by
  induction d with
  | zero =>
    intro c h1 h2
    have e : c = n := by omega
    subst e
    refine Ev_suc ?_
    simp only [spec_DivisorsOf.l0, if_neg (show ¬ ((c + 1 : Nat) : Int) ≤ (c : Int) by omega)]
    refine Ev_suc ?_
    simp only [spec_DivisorsOf.j1, Bool.false_eq_true, if_false]
    exact Ev.now _
  | succ d ih =>
    intro c h1 h2
    refine Ev_suc ?_
    simp only [spec_DivisorsOf.l0, if_pos (show ((c + 1 : Nat) : Int) ≤ (n : Int) by omega), decide_eq_true (show (n : Int) ≤ 10000 by omega)]
    refine Ev_suc ?_
    have l1 : (lI (L (dv n) c)).length < 17592186044416 := by rw [lI_length]; have := L_length_le (dv n) c; omega
    have next := ih (c + 1) (by omega) (by omega)
    simp only [spec_DivisorsOf.j1, if_true, if_neg (show ¬ ((c + 1 : Nat) : Int) = 0 by omega), tmod_nat]
    rw [w64_succ (by omega)]
    by_cases h0 : n % (c + 1) = 0
    · rw [L_yes (dv_iff.2 h0), lI_append] at next
      simp only [if_pos (show ((n % (c + 1) : Nat) : Int) = 0 by omega), if_pos l1]
      exact next
    · rw [L_no (fun e => h0 (dv_iff.1 e))] at next
      simp only [if_neg (show ¬ ((n % (c + 1) : Nat) : Int) = 0 by omega)]
      exact next

theorem spec_DivisorsOf_nat {n : Nat} (h1 : 1 ≤ n) (h2 : n ≤ 10000) : Ev (fun k => spec_DivisorsOf.f k (n : Int)) (lI (divs n)) :=
  spec_DivisorsOf_l h1 h2 n 0 (by omega) (by omega)

theorem facs_len {n : Nat} (h1 : 1 ≤ n) (h2 : n ≤ 10000) : (facs n).length ≤ 1000000 ∧ ∀ x ∈ facs n, 1 ≤ x.2 :=
  ⟨by have := facs_length h1; omega, fun x hx => (facs_bounds h1 x hx).2.2.1⟩

theorem facI_length (l : List (Nat × Nat)) : (facI l).length = l.length := by simp [facI]

theorem facI_get {l : List (Nat × Nat)} {i : Nat} (h : i < l.length) : rd_L1 (facI l) (i : Int) = [(l[i].1 : Int), (l[i].2 : Int)] := by
  unfold rd_L1
  rw [Int.toNat_natCast, List.getD_eq_getElem?_getD, List.getElem?_eq_getElem (by rw [facI_length]; exact h)]
  simp [facI]

theorem rd_1 (a b : Int) : rd [a, b] 1 = b := rfl

theorem spec_sign_l {l : List (Nat × Nat)} (hl : l.length ≤ 1000000) (hp : ∀ x ∈ l, 1 ≤ x.2) (d : Nat) : ∀ (i : Nat) (acc : Int), i ≤ l.length → l.length - i = d → -1 ≤ acc → acc ≤ 1 →
    Ev (fun k => spec_l2Named.l2 k 6 (facI l) acc (i : Int)) (sgn acc (l.drop i)) := by
  induction d with
  | zero =>
    intro i acc h1 h2 _ _
    have e : i = l.length := by omega
    subst e
    refine Ev_suc ?_
    simp only [spec_l2Named.l2, facI_length, Int.lt_irrefl, if_false, List.drop_length, sgn]
    exact Ev.now _
  | succ d ih =>
    intro i acc h1 h2 a1 a2
    have hlt : i < l.length := by omega
    rw [drop_cons hlt]
    simp only [sgn]
    refine Ev_suc ?_
    have hx := hp l[i] (List.getElem_mem hlt)
    have c1 : (i : Int) < ((facI l).length : Int) := by rw [facI_length]; omega
    have c2 : (0 : Int) ≤ (i : Int) := by omega
    simp only [spec_l2Named.l2, if_pos c1, if_pos c2, if_true, facI_get hlt, rd_1, List.length_cons, List.length_nil, if_pos (show (1 : Int) < ((0 + 1 + 1 : Nat) : Int) by omega)]
    refine Ev_suc ?_
    by_cases h : l[i].2 > 1
    · simp only [spec_l2Named.j3, decide_eq_true (show (l[i].2 : Int) > 1 by omega), if_true, if_pos h]
      exact Ev.now _
    · have e1 : (l[i].2 : Int) = 1 := by omega
      simp only [spec_l2Named.j3, decide_eq_false (show ¬ (l[i].2 : Int) > 1 by omega), Bool.false_eq_true, if_false, if_neg h, if_pos c1, if_pos c2, facI_get hlt, rd_1, List.length_cons, List.length_nil, if_pos (show (1 : Int) < ((0 + 1 + 1 : Nat) : Int) by omega)]
      rw [w64 (x := -acc) (by omega) (by omega), w64_succ (by omega)]
      simp only [if_pos (show Int.tmod (l[i].2 : Int) 2 = 1 by rw [e1]; rfl)]
      exact ih (i + 1) (-acc) (by omega) (by omega) (by omega) (by omega)

theorem spec_sign_ev {n : Nat} (h1 : 1 ≤ n) (h2 : n ≤ 10000) : Ev (fun k => spec_l2Named.f k 6 (n : Int)) (sgn 1 (facs n)) := by
  unfold spec_l2Named.f
  refine Ev.bind (spec_FactorsOf_nat h1 h2) (Ev.bind (spec_DivisorsOf_nat h1 h2) ?_)
  simp only [if_neg (show ¬ (6 : Int) = 0 by omega), if_neg (show ¬ (6 : Int) = 1 by omega), if_neg (show ¬ (6 : Int) = 2 by omega), if_neg (show ¬ (6 : Int) = 3 by omega), if_neg (show ¬ (6 : Int) = 4 by omega), if_neg (show ¬ (6 : Int) = 5 by omega)]
  obtain ⟨f1, f2⟩ := facs_len h1 h2
  exact spec_sign_l f1 f2 _ 0 1 (by omega) rfl (by omega) (by omega)

theorem spec_SignOf_nat {n : Nat} (h1 : 1 ≤ n) (h2 : n ≤ 10000) : Ev (fun k => spec_SignOf.f k (n : Int)) (sgn 1 (facs n)) := by
  unfold spec_SignOf.f
  simp only [l1In_eq, Option.bind_some, decide_eq_true_eq, if_pos (show 1 ≤ (n : Int) ∧ (n : Int) ≤ 10000 by omega)]
  exact Ev.bind (spec_sign_ev h1 h2) (Ev.now _)

/-- How many are apart, by its primes. -/
def hmI (a : Int) : Int := if inN a then ((phi a.toNat : Nat) : Int) else -1

theorem facs_ok {n : Nat} (h1 : 1 ≤ n) (h2 : n ≤ 10000) : (facs n).length ≤ 1000000 ∧ ∀ x ∈ facs n, 2 ≤ x.1 ∧ x.1 ≤ 10000 :=
  ⟨by have := facs_length h1; omega, fun x hx => by have := facs_bounds h1 x hx; omega⟩

theorem rd_0 (a b : Int) : rd [a, b] 0 = a := rfl

theorem spec_HowManyApart_l {l : List (Nat × Nat)} (hl : l.length ≤ 1000000) (hp : ∀ x ∈ l, 2 ≤ x.1 ∧ x.1 ≤ 10000) (d : Nat) : ∀ (i acc : Nat), l.length - i = d → i ≤ l.length → acc ≤ 10000 →
    Ev (fun k => spec_HowManyApart.l0 k (acc : Int) (facI l) (i : Int)) ((phiF acc (l.drop i) : Nat) : Int) := by
  induction d with
  | zero =>
    intro i acc hd hi _
    have e : i = l.length := by omega
    subst e
    refine Ev_suc ?_
    simp only [spec_HowManyApart.l0, facI_length, Int.lt_irrefl, if_false, List.drop_length, phiF]
    exact Ev.now _
  | succ d ih =>
    intro i acc hd hi ha
    have hlt : i < l.length := by omega
    rw [drop_cons hlt]
    simp only [phiF]
    obtain ⟨b1, b2⟩ := hp l[i] (List.getElem_mem hlt)
    refine Ev_suc ?_
    have c1 : (i : Int) < ((facI l).length : Int) := by rw [facI_length]; omega
    have c2 : (0 : Int) ≤ (i : Int) := by omega
    have c3 : ¬ (l[i].1 : Int) = 0 := by omega
    have e1 : acc / l[i].1 * (l[i].1 - 1) ≤ acc := by
      have h2 : acc / l[i].1 * (l[i].1 - 1) ≤ acc / l[i].1 * l[i].1 := Nat.mul_le_mul_left _ (by omega)
      have h3 := Nat.div_mul_le_self acc l[i].1
      omega
    have e2 : wrap64 ((l[i].1 : Int) - 1) = ((l[i].1 - 1 : Nat) : Int) := by rw [w64 (by omega) (by omega)]; omega
    simp only [spec_HowManyApart.l0, if_pos c1, if_pos c2, facI_get hlt, rd_0, if_neg c3, List.length_cons, List.length_nil]
    rw [w64_div (show acc ≤ 9223372036854775807 by omega), e2, w64_mul (by omega), w64_succ (by omega)]
    simp only [if_pos (show (0 : Int) < ((0 + 1 + 1 : Nat) : Int) by omega)]
    exact ih (i + 1) _ (by omega) (by omega) (by omega)

theorem spec_HowManyApart_ev (a : Int) : Ev (fun k => spec_HowManyApart.f k a) (hmI a) := by
  unfold spec_HowManyApart.f hmI
  by_cases h : inN a
  · obtain ⟨n, rfl, h1, h2⟩ := inN_nat h
    simp only [l1In_eq, Option.bind_some, decide_eq_true_eq, if_pos (show 1 ≤ (n : Int) ∧ (n : Int) ≤ 10000 from h), if_pos h, Int.toNat_natCast]
    refine Ev.bind (spec_FactorsOf_nat h1 h2) ?_
    obtain ⟨f1, f2⟩ := facs_ok h1 h2
    exact spec_HowManyApart_l f1 f2 _ 0 n rfl (by omega) h2
  · simp only [l1In_eq, Option.bind_some, decide_eq_true_eq, if_neg (show ¬ (1 ≤ a ∧ a ≤ 10000) from h), if_neg h]
    exact Ev.now _

theorem hmI_nat {n : Nat} (h1 : 1 ≤ n) (h2 : n ≤ 10000) : hmI (n : Int) = (phi n : Int) := by
  unfold hmI; rw [if_pos (by unfold inN; omega)]; rfl

theorem spec_ByApart_no (q n : Int) : Ev (fun k => spec_ByApart.j0 k q n true) 0 := by
  refine Ev_suc ?_
  simp only [spec_ByApart.j0, if_true]
  exact Ev.now _

theorem spec_ByApart_ev (q n : Int) : Ev (fun k => spec_ByApart.f k q n) (baI q n) := by
  unfold spec_ByApart.f baI
  by_cases h1 : 1 ≤ q ∧ q ≤ 60
  · by_cases h2 : inN n
    · obtain ⟨x, rfl, x1, x2⟩ := inN_nat (a := q) ⟨h1.1, by omega⟩
      obtain ⟨m, rfl, m1, m2⟩ := inN_nat h2
      rw [if_pos ⟨h1, h2⟩]
      simp only [l1In_eq, Option.bind_some, decide_eq_true_eq, if_pos h1, decide_eq_true (show 1 ≤ (m : Int) ∧ (m : Int) ≤ 10000 from h2), Bool.not_true, Int.toNat_natCast]
      refine Ev_suc ?_
      simp only [spec_ByApart.j0, Bool.false_eq_true, if_false]
      obtain ⟨g1, g2, g3⟩ := ba_left (n := m) x1
      obtain ⟨w1, w2⟩ := ba_small x1 (by omega) g2 (by omega)
      refine Ev.bind (spec_CommonOf_ev _ _) ?_
      rw [cmI_nat x1 x2 m1 m2, w64_div (show x ≤ 9223372036854775807 by omega)]
      simp only [if_neg (show ¬ ((Nat.gcd x m : Nat) : Int) = 0 by omega)]
      obtain ⟨p1, p2⟩ := phi_pos g2
      refine Ev.bind (spec_SignOf_nat g2 (by omega)) (Ev.bind (spec_HowManyApart_ev _) (Ev.bind (spec_HowManyApart_ev _) ?_))
      rw [hmI_nat x1 x2, hmI_nat g2 (by omega), w1, w2]
      simp only [if_neg (show ¬ (phi (x / Nat.gcd x m) : Int) = 0 by omega)]
      exact Ev.now _
    · rw [if_neg (fun e => h2 e.2)]
      simp only [l1In_eq, Option.bind_some, decide_eq_true_eq, if_pos h1, decide_eq_false (show ¬ (1 ≤ n ∧ n ≤ 10000) from h2), Bool.not_false]
      exact spec_ByApart_no q n
  · rw [if_neg (fun e => h1 e.1)]
    simp only [l1In_eq, Option.bind_some, decide_eq_true_eq, if_neg h1]
    exact spec_ByApart_no q n

theorem impl_ByApart_no (q n : Int) : Ev (fun k => impl_ByApart.j0 k q n true) 0 := by
  refine Ev_suc ?_
  simp only [impl_ByApart.j0, if_true]
  exact Ev.now _

theorem numberOk_eq (a : Int) : impl_numberOk.f a = some (decide (inN a)) := by
  unfold impl_numberOk.f inN
  by_cases h : 1 ≤ a
  · rw [if_pos h]; simp [h]
  · rw [if_neg h]; simp [h]

theorem impl_gcd_l : ∀ (b a : Nat), Ev (fun k => impl_gcd.l0 k (a : Int) (b : Int)) ((Nat.gcd a b : Nat) : Int) := by
  intro b
  induction b using Nat.strongRecOn with
  | ind b ih =>
    intro a
    refine Ev_suc ?_
    simp only [impl_gcd.l0]
    by_cases hb : b = 0
    · subst hb
      simp only [Int.natCast_zero, if_true, Nat.gcd_zero_right]
      exact Ev.now _
    · have h : ¬ ((b : Int) = 0) := by omega
      simp only [if_neg h, tmod_nat]
      rw [Nat.gcd_comm a b, Nat.gcd_rec b a, Nat.gcd_comm]
      exact ih (a % b) (Nat.mod_lt _ (by omega)) b

theorem impl_gcd_ev (a b : Nat) : Ev (fun k => impl_gcd.f k (a : Int) (b : Int)) ((Nat.gcd a b : Nat) : Int) := impl_gcd_l b a

theorem impl_fac_l1 {out : List (List Int)} {p : Nat} {r : List (List Int)} (h2 : 2 ≤ p) (hp : p ≤ 10000) (hout : out.length < 5864062014805) : ∀ (left j : Nat), 1 ≤ left → left + j ≤ 20000 →
    (0 < j + (strip p left).2 → Ev (fun k => impl_factors.l0 k ((strip p left).1 : Int) (out ++ [[(p : Int), ((j + (strip p left).2 : Nat) : Int)]]) ((p + 1 : Nat) : Int)) r) →
    (j + (strip p left).2 = 0 → Ev (fun k => impl_factors.l0 k ((strip p left).1 : Int) out ((p + 1 : Nat) : Int)) r) →
    Ev (fun k => impl_factors.l1 k (left : Int) out (p : Int) (j : Int)) r := by
  intro left
  induction left using Nat.strongRecOn with
  | ind left ih =>
    intro j h1 hb hy hn
    refine Ev_suc ?_
    have c1 : ¬ (p : Int) = 0 := by omega
    simp only [impl_factors.l1, if_neg c1, tmod_nat]
    rw [w64_div (show left ≤ 9223372036854775807 by omega), w64_succ (show j < 9223372036854775807 by omega), w64_succ (show p < 9223372036854775807 by omega)]
    by_cases h0 : left % p = 0
    · have c2 : ((left % p : Nat) : Int) = 0 := by omega
      simp only [if_pos c2]
      rw [strip_yes h2 h1 h0] at hy hn
      have hle : left / p ≤ left / 2 := Nat.div_le_div_left h2 (by omega)
      have hlt : left / p < left := Nat.div_lt_self h1 (by omega)
      have hpos : 1 ≤ left / p := div_pos_of (by omega) h1 h0
      have e : j + 1 + (strip p (left / p)).2 = j + ((strip p (left / p)).2 + 1) := by omega
      refine ih (left / p) hlt (j + 1) hpos (by omega) (fun h => ?_) (fun h => by omega)
      rw [e]; exact hy (by simp only; omega)
    · have c2 : ¬ ((left % p : Nat) : Int) = 0 := by omega
      simp only [if_neg c2]
      rw [strip_no h0] at hy hn
      simp only [Nat.add_zero] at hy hn
      by_cases hj : 0 < j
      · have c3 : (j : Int) > 0 := by omega
        simp only [if_pos c3, if_pos hout]
        exact hy hj
      · have c3 : ¬ (j : Int) > 0 := by omega
        simp only [if_neg c3]
        exact hn (by omega)

theorem impl_fac_l0 (d : Nat) : ∀ (left p : Nat) (out : List (List Int)), left + 1 - p = d → 2 ≤ p → 1 ≤ left → left ≤ 10000 → out.length ≤ p → p ≤ 10001 → Rough p left →
    Ev (fun k => impl_factors.l0 k (left : Int) out (p : Int)) (out ++ facI (F p left)) := by
  induction d using Nat.strongRecOn with
  | ind d ih =>
    intro left p out hd h2 h1 hle hout hp hr
    have hsq : p * p ≤ 100000000000 := by
      have : p * p ≤ 10001 * 10001 := Nat.mul_le_mul (by omega) (by omega)
      omega
    refine Ev_suc ?_
    simp only [impl_factors.l0]
    rw [w64_mul (by omega)]
    by_cases hone : left = 1
    · have c1 : ¬ (left : Int) > 1 := by omega
      simp only [if_neg c1]
      rw [F_end (by omega)]
      simp only [facI, List.map_nil, List.append_nil]
      exact Ev.now _
    · have c1 : (left : Int) > 1 := by omega
      simp only [if_pos c1]
      by_cases h : left < p * p
      · have c2 : ((p * p : Nat) : Int) > (left : Int) := Int.ofNat_lt.2 h
        simp only [if_pos c2]
        have hrr := hr.square h
        have hpl : p ≤ left := by
          rcases Nat.lt_or_ge left p with e | e
          · exact absurd (Nat.mod_self left) (hr left (by omega) e)
          · exact e
        rw [F_alone (left - p) p left rfl h2 hpl hrr]
        have hs : strip left left = (1, 1) := by
          rw [strip_yes (by omega) h1 (Nat.mod_self left), Nat.div_self (by omega), strip_no]
          rw [Nat.mod_eq_of_lt (by omega)]; omega
        refine Ev_suc ?_
        simp only [impl_factors.j1]
        refine impl_fac_l1 (by omega) (by omega) (by omega) left 0 h1 (by omega) (fun _ => ?_) (fun e => ?_)
        · rw [hs]
          refine Ev_suc ?_
          have c3 : ¬ ((1 : Nat) : Int) > 1 := by omega
          simp only [impl_factors.l0, if_neg c3]
          exact Ev.now _
        · rw [hs] at e; simp at e
      · have c2 : ¬ ((p * p : Nat) : Int) > (left : Int) := fun e => h (Int.ofNat_lt.1 e)
        simp only [if_neg c2]
        have hpl : p ≤ left := by
          have := Nat.le_mul_of_pos_left p (show 0 < p by omega)
          omega
        refine Ev_suc ?_
        simp only [impl_factors.j1]
        have hs := strip_le p left
        refine impl_fac_l1 h2 (by omega) (by omega) left 0 h1 (by omega) (fun h' => ?_) (fun h' => ?_)
        · rw [Nat.zero_add] at h' ⊢
          have h0 := (strip_pos h2 h1).1 h'
          rw [F_yes hpl h2 h0]
          have e : out ++ facI ((p, (strip p left).2) :: F (p + 1) (strip p left).1) = (out ++ [[(p : Int), ((strip p left).2 : Int)]]) ++ facI (F (p + 1) (strip p left).1) := by simp [facI]
          rw [e]
          exact ih _ (by omega) _ (p + 1) _ rfl (by omega) (strip_spec h2 left h1).2.1 (by omega) (by simp; omega) (by omega) (hr.step h2 h1)
        · rw [Nat.zero_add] at h'
          have h0 : ¬ left % p = 0 := fun e => by have := (strip_pos h2 h1).2 e; omega
          rw [F_no hpl h2 h0, strip_no h0]
          exact ih _ (by omega) left (p + 1) out rfl (by omega) h1 hle (by omega) (by omega) (hr.next h0)

theorem impl_factors_ev {n : Nat} (h1 : 1 ≤ n) (h2 : n ≤ 10000) : Ev (fun k => impl_factors.f k (n : Int)) (facI (facs n)) := by
  have := impl_fac_l0 _ n 2 [] rfl (by omega) h1 h2 (by simp) (by omega) (Rough.two n)
  rw [List.nil_append] at this
  exact this

theorem facs_len' {n : Nat} (h1 : 1 ≤ n) (h2 : n ≤ 10000) : (facs n).length ≤ 1000000 ∧ ∀ x ∈ facs n, 1 ≤ x.2 :=
  ⟨by have := facs_length h1; omega, fun x hx => (facs_bounds h1 x hx).2.2.1⟩

theorem impl_sign_l {l : List (Nat × Nat)} (hl : l.length ≤ 1000000) (d : Nat) : ∀ (i : Nat) (acc : Int), i ≤ l.length → l.length - i = d → -1 ≤ acc → acc ≤ 1 →
    Ev (fun k => impl_sign.l0 k acc (facI l) (l.length : Int) (i : Int)) (sgn acc (l.drop i)) := by
  induction d with
  | zero =>
    intro i acc h1 h2 _ _
    have e : i = l.length := by omega
    subst e
    refine Ev_suc ?_
    simp only [impl_sign.l0, Int.lt_irrefl, if_false, List.drop_length, sgn]
    exact Ev.now _
  | succ d ih =>
    intro i acc h1 h2 a1 a2
    have hlt : i < l.length := by omega
    rw [drop_cons hlt]
    simp only [sgn]
    refine Ev_suc ?_
    have c0 : (i : Int) < (l.length : Int) := by omega
    have c1 : (i : Int) < ((facI l).length : Int) := by rw [facI_length]; omega
    have c2 : (0 : Int) ≤ (i : Int) := by omega
    simp only [impl_sign.l0, if_pos c0, if_pos c1, if_pos c2, facI_get hlt, rd_1, List.length_cons, List.length_nil, if_pos (show (1 : Int) < ((0 + 1 + 1 : Nat) : Int) by omega)]
    rw [w64 (x := -acc) (by omega) (by omega), w64_succ (by omega)]
    by_cases h : l[i].2 > 1
    · simp only [if_pos (show (l[i].2 : Int) > 1 by omega), if_pos h]
      exact Ev.now _
    · simp only [if_neg (show ¬ (l[i].2 : Int) > 1 by omega), if_neg h]
      exact ih (i + 1) (-acc) (by omega) (by omega) (by omega) (by omega)

theorem impl_sign_ev {n : Nat} (h1 : 1 ≤ n) (h2 : n ≤ 10000) : Ev (fun k => impl_sign.f k (n : Int)) (sgn 1 (facs n)) := by
  unfold impl_sign.f
  refine Ev.bind (impl_factors_ev h1 h2) ?_
  obtain ⟨f1, f2⟩ := facs_len' h1 h2
  rw [facI_length]
  exact impl_sign_l f1 _ 0 1 (by omega) rfl (by omega) (by omega)

theorem facs_ok' {n : Nat} (h1 : 1 ≤ n) (h2 : n ≤ 10000) : (facs n).length ≤ 1000000 ∧ ∀ x ∈ facs n, 2 ≤ x.1 ∧ x.1 ≤ 10000 :=
  ⟨by have := facs_length h1; omega, fun x hx => by have := facs_bounds h1 x hx; omega⟩

theorem impl_phi_l {l : List (Nat × Nat)} (hl : l.length ≤ 1000000) (hp : ∀ x ∈ l, 2 ≤ x.1 ∧ x.1 ≤ 10000) (d : Nat) : ∀ (i acc : Nat), l.length - i = d → i ≤ l.length → acc ≤ 10000 →
    Ev (fun k => impl_phi.l0 k (acc : Int) (facI l) (l.length : Int) (i : Int)) ((phiF acc (l.drop i) : Nat) : Int) := by
  induction d with
  | zero =>
    intro i acc hd hi _
    have e : i = l.length := by omega
    subst e
    refine Ev_suc ?_
    simp only [impl_phi.l0, Int.lt_irrefl, if_false, List.drop_length, phiF]
    exact Ev.now _
  | succ d ih =>
    intro i acc hd hi ha
    have hlt : i < l.length := by omega
    rw [drop_cons hlt]
    simp only [phiF]
    obtain ⟨b1, b2⟩ := hp l[i] (List.getElem_mem hlt)
    refine Ev_suc ?_
    have c0 : (i : Int) < (l.length : Int) := by omega
    have c1 : (i : Int) < ((facI l).length : Int) := by rw [facI_length]; omega
    have c2 : (0 : Int) ≤ (i : Int) := by omega
    have c3 : ¬ (l[i].1 : Int) = 0 := by omega
    have e1 : acc / l[i].1 * (l[i].1 - 1) ≤ acc := by
      have h2 : acc / l[i].1 * (l[i].1 - 1) ≤ acc / l[i].1 * l[i].1 := Nat.mul_le_mul_left _ (by omega)
      have h3 := Nat.div_mul_le_self acc l[i].1
      omega
    have e2 : wrap64 ((l[i].1 : Int) - 1) = ((l[i].1 - 1 : Nat) : Int) := by rw [w64 (by omega) (by omega)]; omega
    simp only [impl_phi.l0, if_pos c0, if_pos c1, if_pos c2, facI_get hlt, rd_0, if_neg c3, List.length_cons, List.length_nil]
    rw [w64_div (show acc ≤ 9223372036854775807 by omega), e2, w64_mul (by omega), w64_succ (by omega)]
    simp only [if_pos (show (0 : Int) < ((0 + 1 + 1 : Nat) : Int) by omega)]
    exact ih (i + 1) _ (by omega) (by omega) (by omega)

theorem impl_phi_ev {n : Nat} (h1 : 1 ≤ n) (h2 : n ≤ 10000) : Ev (fun k => impl_phi.f k (n : Int)) ((phi n : Nat) : Int) := by
  unfold impl_phi.f
  refine Ev.bind (impl_factors_ev h1 h2) ?_
  obtain ⟨f1, f2⟩ := facs_ok' h1 h2
  rw [facI_length]
  exact impl_phi_l f1 f2 _ 0 n rfl (by omega) h2

theorem impl_ByApart_ev (q n : Int) : Ev (fun k => impl_ByApart.f k q n) (baI q n) := by
  unfold impl_ByApart.f baI
  by_cases h1 : q < 1
  · rw [if_neg (fun e : (1 ≤ q ∧ q ≤ 60) ∧ inN n => by have := e.1; omega)]
    simp only [if_pos h1]
    exact impl_ByApart_no q n
  by_cases h2 : q > 60
  · rw [if_neg (fun e : (1 ≤ q ∧ q ≤ 60) ∧ inN n => by have := e.1; omega)]
    simp only [if_neg h1, if_pos h2]
    exact impl_ByApart_no q n
  by_cases h3 : inN n
  · obtain ⟨x, rfl, x1, x2⟩ := inN_nat (a := q) ⟨by omega, by omega⟩
    obtain ⟨m, rfl, m1, m2⟩ := inN_nat h3
    rw [if_pos ⟨by omega, h3⟩]
    simp only [if_neg h1, if_neg h2, numberOk_eq, Option.bind_some, decide_eq_true h3, Bool.not_true, Int.toNat_natCast]
    refine Ev_suc ?_
    simp only [impl_ByApart.j0, Bool.false_eq_true, if_false]
    obtain ⟨g1, g2, g3⟩ := ba_left (n := m) x1
    obtain ⟨w1, w2⟩ := ba_small x1 (by omega) g2 (by omega)
    refine Ev.bind (impl_gcd_ev x m) ?_
    rw [w64_div (show x ≤ 9223372036854775807 by omega)]
    simp only [if_neg (show ¬ ((Nat.gcd x m : Nat) : Int) = 0 by omega)]
    obtain ⟨p1, p2⟩ := phi_pos g2
    refine Ev.bind (impl_sign_ev g2 (by omega)) (Ev.bind (impl_phi_ev x1 x2) (Ev.bind (impl_phi_ev g2 (by omega)) ?_))
    rw [w1, w2]
    simp only [if_neg (show ¬ (phi (x / Nat.gcd x m) : Int) = 0 by omega)]
    exact Ev.now _
  · rw [if_neg (fun e => h3 e.2)]
    simp only [if_neg h1, if_neg h2, numberOk_eq, Option.bind_some, decide_eq_false h3, Bool.not_false]
    exact impl_ByApart_no q n

theorem FnExactByApart : laws_FnExactByApart.Pure := by
  intro q n _ _
  refine Ev.rounds (r := true) ?_
  unfold laws_FnExactByApart.f
  refine Ev.bind (spec_ByApart_ev q n) (Ev.bind (impl_ByApart_ev q n) ?_)
  simp only [if_true]
  exact Ev.now _

end Go.Proofs.Ytomfiimpnabfoaa.Pure
