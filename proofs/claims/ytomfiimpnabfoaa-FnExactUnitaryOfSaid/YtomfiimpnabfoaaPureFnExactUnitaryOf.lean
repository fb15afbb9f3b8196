/- The program's UnitaryOf answers as the reference's, for every whole number, with memory of its own. No conditions. -/
import Derived.Test.YtomfiimpnabfoaaOFnExactUnitaryOfx3
import Derived.Test.YtomfiimpnabfoaaEvs
import Derived.Test.YtomfiimpnabfoaaEuler
import Derived.Test.YtomfiimpnabfoaaMul
namespace Go.Proofs.Ytomfiimpnabfoaa.Pure
open Go.RowKit Go.Proofs.Ytomfiimpnabfoaa.PFnExactUnitaryOf Go.Proofs.YtomfiimpnabfoaaW.PrintWords Go.Proofs.YtomfiimpnabfoaaW.PrintLast Go.Proofs.YtomfiimpnabfoaaW.PrintMore Go.Proofs.Ytomfiimpnabfoaa.Math
set_option linter.unusedVariables false
set_option linter.unusedSimpArgs false

/-- All unitary divisors, none of what is no number here. -/
def uniI (a : Int) : List Int := if inN a then lI (unis a.toNat) else []

theorem uniI_length (a : Int) : (uniI a).length ≤ 1048576 := by
  unfold uniI
  by_cases h : inN a
  · obtain ⟨n, rfl, h1, h2⟩ := inN_nat h
    rw [if_pos h, lI_length, Int.toNat_natCast]
    have h3 : (unis n).length ≤ (divs n).length := List.length_filter_le _ _
    have h4 : (divs n).length ≤ n := L_length_le _ _
    omega
  · rw [if_neg h]; simp

/-- All divisors, none of what is no number here. -/
def divI (a : Int) : List Int := if inN a then lI (divs a.toNat) else []

theorem spec_DivisorsOf_l {n : Nat} (hn : 1 ≤ n) (hn2 : n ≤ 10000) (d : Nat) : ∀ c, c ≤ n → n - c = d →
    Ev (fun k => spec_DivisorsOf.l0 k (n : Int) (lI (L (dv n) c)) ((c + 1 : Nat) : Int)) (lI (divs n)) := by
  induction d with
  | zero =>
    intro c h1 h2
    have e : c = n := by omega
    subst e
    refine Ev_suc ?_
    simp only [spec_DivisorsOf.l0, if_neg (show ¬ ((c + 1 : Nat) : Int) ≤ (c : Int) by omega)]
    refine Ev_suc ?_
    simp only [spec_DivisorsOf.j1, Bool.false_eq_true, if_false]
    exact Ev.now _
  | succ d ih =>
    intro c h1 h2
    refine Ev_suc ?_
    simp only [spec_DivisorsOf.l0, if_pos (show ((c + 1 : Nat) : Int) ≤ (n : Int) by omega), decide_eq_true (show (n : Int) ≤ 10000 by omega)]
    refine Ev_suc ?_
    have l1 : (lI (L (dv n) c)).length < 17592186044416 := by rw [lI_length]; have := L_length_le (dv n) c; omega
    have next := ih (c + 1) (by omega) (by omega)
    simp only [spec_DivisorsOf.j1, if_true, if_neg (show ¬ ((c + 1 : Nat) : Int) = 0 by omega), tmod_nat]
    rw [w64_succ (by omega)]
    by_cases h0 : n % (c + 1) = 0
    · rw [L_yes (dv_iff.2 h0), lI_append] at next
      simp only [if_pos (show ((n % (c + 1) : Nat) : Int) = 0 by omega), if_pos l1]
      exact next
    · rw [L_no (fun e => h0 (dv_iff.1 e))] at next
      simp only [if_neg (show ¬ ((n % (c + 1) : Nat) : Int) = 0 by omega)]
      exact next

theorem spec_DivisorsOf_nat {n : Nat} (h1 : 1 ≤ n) (h2 : n ≤ 10000) : Ev (fun k => spec_DivisorsOf.f k (n : Int)) (lI (divs n)) :=
  spec_DivisorsOf_l h1 h2 n 0 (by omega) (by omega)

theorem spec_DivisorsOf_ev (a : Int) : Ev (fun k => spec_DivisorsOf.f k a) (divI a) := by
  unfold divI
  by_cases h : inN a
  · obtain ⟨n, rfl, h1, h2⟩ := inN_nat h
    rw [if_pos h]
    exact spec_DivisorsOf_nat h1 h2
  · rw [if_neg h]
    unfold spec_DivisorsOf.f
    have hj : Ev (fun k => spec_DivisorsOf.j1 k a [] 1 false) [] := by
      refine Ev_suc ?_
      simp only [spec_DivisorsOf.j1, Bool.false_eq_true, if_false]
      exact Ev.now _
    refine Ev_suc ?_
    by_cases h1 : (1 : Int) ≤ a
    · simp only [spec_DivisorsOf.l0, if_pos h1, decide_eq_false (show ¬ a ≤ 10000 from fun e => h ⟨h1, e⟩)]
      exact hj
    · simp only [spec_DivisorsOf.l0, if_neg h1]
      exact hj

theorem lI_get {l : List Nat} {i : Nat} (h : i < l.length) : rd (lI l) (i : Int) = ((l[i] : Nat) : Int) := by
  rw [rd_get (by rw [lI_length]; exact h)]; simp [lI]

/-- What two numbers share, -1 where one is none. -/
def cmI (a b : Int) : Int := if inN a ∧ inN b then ((Nat.gcd a.toNat b.toNat : Nat) : Int) else -1

theorem l1In_eq (a lo hi : Int) : spec_l1In.f a lo hi = some (decide (lo ≤ a ∧ a ≤ hi)) := by
  unfold spec_l1In.f
  by_cases h : lo ≤ a
  · rw [if_pos h]; simp [h]
  · rw [if_neg h]; simp [h]

theorem spec_CommonOf_l : ∀ (b a : Nat), Ev (fun k => spec_CommonOf.l0 k (a : Int) (b : Int)) ((Nat.gcd a b : Nat) : Int) := by
  intro b
  induction b using Nat.strongRecOn with
  | ind b ih =>
    intro a
    refine Ev_suc ?_
    simp only [spec_CommonOf.l0]
    by_cases hb : b = 0
    · subst hb
      simp only [Int.natCast_zero, gt_iff_lt, Int.lt_irrefl, if_false, Nat.gcd_zero_right]
      exact Ev.now _
    · have h : ¬ ((b : Int) = 0) := by omega
      have h' : (b : Int) > 0 := by omega
      simp only [if_pos h', if_neg h, tmod_nat]
      rw [Nat.gcd_comm a b, Nat.gcd_rec b a, Nat.gcd_comm]
      exact ih (a % b) (Nat.mod_lt _ (by omega)) b

theorem spec_CommonOf_ev (a b : Int) : Ev (fun k => spec_CommonOf.f k a b) (cmI a b) := by
  unfold spec_CommonOf.f cmI inN
  by_cases h1 : 1 ≤ a ∧ a ≤ 10000
  · by_cases h2 : 1 ≤ b ∧ b ≤ 10000
    · obtain ⟨n, rfl, _, _⟩ := inN_nat h1
      obtain ⟨m, rfl, _, _⟩ := inN_nat h2
      simp only [l1In_eq, Option.bind_some, decide_eq_true_eq, if_pos h1, decide_eq_true h2, if_pos (And.intro h1 h2), Int.toNat_natCast, Bool.not_true]
      refine Ev_suc ?_
      simp only [spec_CommonOf.j0, Bool.false_eq_true, if_false]
      exact spec_CommonOf_l m n
    · simp only [l1In_eq, Option.bind_some, decide_eq_true_eq, if_pos h1, decide_eq_false h2, if_neg (fun e : (1 ≤ a ∧ a ≤ 10000) ∧ (1 ≤ b ∧ b ≤ 10000) => h2 e.2), Bool.not_false]
      refine Ev_suc ?_
      simp only [spec_CommonOf.j0, if_true]
      exact Ev.now _
  · simp only [l1In_eq, Option.bind_some, decide_eq_true_eq, if_neg h1, if_neg (fun e : (1 ≤ a ∧ a ≤ 10000) ∧ (1 ≤ b ∧ b ≤ 10000) => h1 e.1)]
    refine Ev_suc ?_
    simp only [spec_CommonOf.j0, if_true]
    exact Ev.now _

theorem spec_ApartOk_ev (a b : Int) : Ev (fun k => spec_ApartOk.f k a b) (cmI a b == 1) := by
  unfold spec_ApartOk.f
  exact Ev.bind (spec_CommonOf_ev a b) (Ev.now _)

theorem cmI_nat {a b : Nat} (h1 : 1 ≤ a) (h2 : a ≤ 10000) (h3 : 1 ≤ b) (h4 : b ≤ 10000) : cmI a b = ((Nat.gcd a b : Nat) : Int) := by
  unfold cmI inN
  rw [if_pos (by omega)]; rfl

theorem spec_UnitaryOf_l {n : Nat} (hn : 1 ≤ n) (hn2 : n ≤ 10000) (d : Nat) : ∀ i, i ≤ (divs n).length → (divs n).length - i = d →
    Ev (fun k => spec_UnitaryOf.l0 k (n : Int) (lI (((divs n).take i).filter (fun d => Nat.gcd d (n / d) == 1))) (lI (divs n)) (i : Int)) (lI (unis n)) := by
  have hlen : (divs n).length ≤ n := L_length_le _ _
  induction d with
  | zero =>
    intro i h1 h2
    have e : i = (divs n).length := by omega
    subst e
    refine Ev_suc ?_
    simp only [spec_UnitaryOf.l0, lI_length, Int.lt_irrefl, if_false, List.take_length]
    exact Ev.now _
  | succ d ih =>
    intro i h1 h2
    have hlt : i < (divs n).length := by omega
    have next := ih (i + 1) (by omega) (by omega)
    rw [List.take_succ_eq_append_getElem hlt, List.filter_append, lI_append] at next
    obtain ⟨m1, m2, m3⟩ := divs_mem.1 (List.getElem_mem hlt)
    refine Ev_suc ?_
    have hq := div_pos_of m1 hn m3
    have hq2 : n / (divs n)[i] ≤ n := Nat.div_le_self _ _
    simp only [spec_UnitaryOf.l0, lI_length, if_pos (show (i : Int) < ((divs n).length : Int) by omega), if_pos (show (0 : Int) ≤ (i : Int) by omega), lI_get hlt, if_neg (show ¬ (((divs n)[i] : Nat) : Int) = 0 by omega)]
    rw [w64_div (show n ≤ 9223372036854775807 by omega), w64_succ (by omega)]
    refine Ev.bind (spec_ApartOk_ev _ _) ?_
    rw [cmI_nat m1 (by omega) hq (by omega)]
    have lb : (((divs n).take i).filter (fun d => Nat.gcd d (n / d) == 1)).length ≤ i := Nat.le_trans (List.length_filter_le _ _) (List.length_take_le _ _)
    by_cases e : Nat.gcd (divs n)[i] (n / (divs n)[i]) = 1
    · have e1 : (((Nat.gcd (divs n)[i] (n / (divs n)[i]) : Nat) : Int) == 1) = true := by rw [e]; rfl
      have e2 : [(divs n)[i]].filter (fun d => Nat.gcd d (n / d) == 1) = [(divs n)[i]] := by simp [e]
      rw [e2] at next
      simp only [e1, if_true, if_pos (show (((divs n).take i).filter (fun d => Nat.gcd d (n / d) == 1)).length < 17592186044416 by omega)]
      exact next
    · have e1 : (((Nat.gcd (divs n)[i] (n / (divs n)[i]) : Nat) : Int) == 1) = false := beq_eq_false_iff_ne.2 (by omega)
      have e2 : [(divs n)[i]].filter (fun d => Nat.gcd d (n / d) == 1) = [] := by simp [e]
      rw [e2] at next
      simp only [lI, List.map_nil, List.append_nil] at next
      simp only [e1, Bool.false_eq_true, if_false]
      exact next

theorem spec_UnitaryOf_ev (a : Int) : Ev (fun k => spec_UnitaryOf.f k a) (uniI a) := by
  unfold spec_UnitaryOf.f uniI
  refine Ev.bind (spec_DivisorsOf_ev a) ?_
  unfold divI
  by_cases h : inN a
  · obtain ⟨n, rfl, h1, h2⟩ := inN_nat h
    rw [if_pos h, if_pos h]
    exact spec_UnitaryOf_l h1 h2 _ 0 (by omega) rfl
  · rw [if_neg h, if_neg h]
    refine Ev_suc ?_
    simp only [spec_UnitaryOf.l0, List.length_nil, Int.natCast_zero, Int.lt_irrefl, if_false]
    exact Ev.now _

theorem numberOk_eq (a : Int) : impl_numberOk.f a = some (decide (inN a)) := by
  unfold impl_numberOk.f inN
  by_cases h : 1 ≤ a
  · rw [if_pos h]; simp [h]
  · rw [if_neg h]; simp [h]

theorem reverse_l (d : Nat) : ∀ (A M B : List Int), M.length ≤ d → A.length + M.length + B.length ≤ 1000000000 →
    Ev (fun k => slices_Reverse_int_int.l0 k (A ++ M ++ B) (A.length : Int) ((A.length : Int) + (M.length : Int) - 1)) (A ++ M.reverse ++ B) := by
  induction d using Nat.strongRecOn with
  | ind d ih =>
    intro A M B hd hb
    refine Ev_suc ?_
    simp only [slices_Reverse_int_int.l0]
    by_cases h2 : M.length ≤ 1
    · have c0 : ¬ (A.length : Int) < (A.length : Int) + (M.length : Int) - 1 := by omega
      simp only [if_neg c0]
      have e : M.reverse = M := by
        match M, h2 with
        | [], _ => rfl
        | [x], _ => rfl
      rw [e]
      exact Ev.now _
    · match M, h2 with
      | x :: M', h2 =>
        obtain ⟨N, y, rfl⟩ : ∃ N y, M' = N ++ [y] := by
          rcases List.eq_nil_or_concat M' with e | ⟨N, y, e⟩
          · rw [e] at h2; simp at h2
          · exact ⟨N, y, by rw [e, List.concat_eq_append]⟩
        have hl : (x :: (N ++ [y])).length = N.length + 2 := by simp
        rw [hl] at hd hb ⊢
        have e3 : (A.length : Int) + ((N.length + 2 : Nat) : Int) - 1 = ((A.length + (N.length + 1) : Nat) : Int) := by omega
        rw [e3]
        have hlen : (A ++ x :: (N ++ [y]) ++ B).length = A.length + N.length + 2 + B.length := by simp; omega
        have r1 : rd (A ++ x :: (N ++ [y]) ++ B) ((A.length + (N.length + 1) : Nat) : Int) = y := by
          unfold rd
          rw [Int.toNat_natCast, List.getD_eq_getElem?_getD, List.append_assoc, List.getElem?_append_right (by omega), Nat.add_sub_cancel_left]
          simp
        have r2 : rd (A ++ x :: (N ++ [y]) ++ B) (A.length : Int) = x := by
          unfold rd
          rw [Int.toNat_natCast, List.getD_eq_getElem?_getD, List.append_assoc, List.getElem?_append_right (Nat.le_refl _), Nat.sub_self]
          simp
        have hs : ((A ++ x :: (N ++ [y]) ++ B).set A.length y).set (A.length + (N.length + 1)) x = (A ++ [y]) ++ N ++ (x :: B) := by
          simp only [List.append_assoc, List.cons_append]
          rw [List.set_append_right _ _ (Nat.le_refl _), Nat.sub_self, List.set_cons_zero, List.set_append_right _ _ (by omega), Nat.add_sub_cancel_left, List.set_cons_succ,
            List.set_append_right _ _ (Nat.le_refl _), Nat.sub_self]
          simp
        have c1 : (A.length : Int) < ((A.length + (N.length + 1) : Nat) : Int) := by omega
        have c2 : (0 : Int) ≤ ((A.length + (N.length + 1) : Nat) : Int) := by omega
        have c3 : ((A.length + (N.length + 1) : Nat) : Int) < ((A ++ x :: (N ++ [y]) ++ B).length : Int) := by rw [hlen]; omega
        have c4 : (0 : Int) ≤ (A.length : Int) := by omega
        have c5 : (A.length : Int) < ((A ++ x :: (N ++ [y]) ++ B).length : Int) := by rw [hlen]; omega
        have w1 : wrap64 ((A.length : Int) + 1) = ((A ++ [y]).length : Int) := by rw [w64 (by omega) (by omega)]; simp
        have w2 : wrap64 (((A.length + (N.length + 1) : Nat) : Int) - 1) = ((A ++ [y]).length : Int) + (N.length : Int) - 1 := by rw [w64 (by omega) (by omega)]; simp; omega
        simp only [if_pos c1, if_pos c2, if_pos c3, if_pos c4, if_pos c5, r1, r2, Int.toNat_natCast, hs, w1, w2]
        have hres : A ++ (x :: (N ++ [y])).reverse ++ B = (A ++ [y]) ++ N.reverse ++ (x :: B) := by simp
        rw [hres]
        exact ih N.length (by omega) (A ++ [y]) N (x :: B) (Nat.le_refl _) (by simp; omega)

theorem reverse_ev (l : List Int) (h : l.length ≤ 1000000000) : Ev (fun k => slices_Reverse_int_int.f k l) l.reverse := by
  unfold slices_Reverse_int_int.f
  have e := reverse_l l.length [] l [] (Nat.le_refl _) (by simpa using h)
  simp only [List.nil_append, List.append_nil, List.length_nil, Int.natCast_zero, Int.zero_add] at e
  rw [w64 (by omega) (by omega)]
  exact e

theorem impl_divisors_l {n : Nat} (hn : 1 ≤ n) (hn2 : n ≤ 10000) (d : Nat) : ∀ c, c * c ≤ n → n - c = d →
    Ev (fun k => impl_divisors.l0 k (n : Int) (lI (L (dv n) c)) (lI ((L (sm n) c).map (fun d => n / d))) ((c + 1 : Nat) : Int)) (lI (divs n)) := by
  induction d using Nat.strongRecOn with
  | ind d ih =>
    intro c hc hd
    have hcn : c ≤ n := by
      rcases Nat.eq_zero_or_pos c with e | e
      · omega
      · have := Nat.le_mul_of_pos_left c e; omega
    have hsq : (c + 1) * (c + 1) ≤ 100000000000 := by
      have : (c + 1) * (c + 1) ≤ 10001 * 10001 := Nat.mul_le_mul (by omega) (by omega)
      omega
    refine Ev_suc ?_
    simp only [impl_divisors.l0]
    rw [w64_mul (by omega)]
    have l1 : (lI (L (dv n) c)).length < 17592186044416 := by rw [lI_length]; have := L_length_le (dv n) c; omega
    have l2 : (lI ((L (sm n) c).map (fun d => n / d))).length < 17592186044416 := by rw [lI_length, List.length_map]; have := L_length_le (sm n) c; omega
    have hw : wrap64 (((c + 1 : Nat) : Int) + 1) = ((c + 1 + 1 : Nat) : Int) := w64_succ (by omega)
    by_cases h : (c + 1) * (c + 1) ≤ n
    · have c1 : (((c + 1) * (c + 1) : Nat) : Int) ≤ (n : Int) := Int.ofNat_le.2 h
      have c2 : ¬ ((c + 1 : Nat) : Int) = 0 := by omega
      have hcn' : c + 1 ≤ n := by
        have := Nat.le_mul_of_pos_left (c + 1) (show 0 < c + 1 by omega); omega
      have next := ih (n - (c + 1)) (by omega) (c + 1) h rfl
      simp only [if_pos c1, if_neg c2, tmod_nat, hw, w64_div (show n ≤ 9223372036854775807 by omega)]
      by_cases h0 : n % (c + 1) = 0
      · have c3 : ((n % (c + 1) : Nat) : Int) = 0 := by omega
        rw [L_yes (dv_iff.2 h0), lI_append] at next
        simp only [if_pos c3, if_pos l1, Option.bind_some]
        by_cases hs : (c + 1) * (c + 1) < n
        · have c4 : (((c + 1) * (c + 1) : Nat) : Int) < (n : Int) := Int.ofNat_lt.2 hs
          rw [L_yes (sm_iff.2 ⟨h0, hs⟩), List.map_append, lI_append] at next
          simp only [if_pos c4, if_pos l2]
          exact next
        · have c4 : ¬ (((c + 1) * (c + 1) : Nat) : Int) < (n : Int) := fun e => hs (Int.ofNat_lt.1 e)
          rw [L_no (fun e => hs (sm_iff.1 e).2)] at next
          simp only [if_neg c4]
          exact next
      · have c3 : ¬ ((n % (c + 1) : Nat) : Int) = 0 := by omega
        rw [L_no (fun e => h0 (dv_iff.1 e)), L_no (fun e => h0 (sm_iff.1 e).1)] at next
        simp only [if_neg c3]
        exact next
    · have c1 : ¬ (((c + 1) * (c + 1) : Nat) : Int) ≤ (n : Int) := fun e => h (Int.ofNat_le.1 e)
      simp only [if_neg c1]
      refine Ev.bind (reverse_ev _ (by rw [lI_length, List.length_map]; have := L_length_le (sm n) c; omega)) ?_
      have l3 : (lI (L (dv n) c)).length + (lI ((L (sm n) c).map (fun d => n / d))).reverse.length < 17592186044416 := by
        rw [List.length_reverse, lI_length, lI_length, List.length_map]
        have := L_length_le (dv n) c
        have := L_length_le (sm n) c
        omega
      simp only [if_pos l3]
      rw [← divs_pairs hn hc (by omega)]
      have e : lI (L (dv n) c ++ ((L (sm n) c).map (fun d => n / d)).reverse) = lI (L (dv n) c) ++ (lI ((L (sm n) c).map (fun d => n / d))).reverse := by
        rw [lI_append]; simp [lI]
      rw [e]
      exact Ev.now _

theorem impl_divisors_ev {n : Nat} (hn : 1 ≤ n) (hn2 : n ≤ 10000) : Ev (fun k => impl_divisors.f k (n : Int)) (lI (divs n)) :=
  impl_divisors_l hn hn2 n 0 (by omega) rfl

theorem lI_get' {l : List Nat} {i : Nat} (h : i < l.length) : rd (lI l) (i : Int) = ((l[i] : Nat) : Int) := by
  rw [rd_get (by rw [lI_length]; exact h)]; simp [lI]

theorem impl_gcd_l : ∀ (b a : Nat), Ev (fun k => impl_gcd.l0 k (a : Int) (b : Int)) ((Nat.gcd a b : Nat) : Int) := by
  intro b
  induction b using Nat.strongRecOn with
  | ind b ih =>
    intro a
    refine Ev_suc ?_
    simp only [impl_gcd.l0]
    by_cases hb : b = 0
    · subst hb
      simp only [Int.natCast_zero, if_true, Nat.gcd_zero_right]
      exact Ev.now _
    · have h : ¬ ((b : Int) = 0) := by omega
      simp only [if_neg h, tmod_nat]
      rw [Nat.gcd_comm a b, Nat.gcd_rec b a, Nat.gcd_comm]
      exact ih (a % b) (Nat.mod_lt _ (by omega)) b

theorem impl_gcd_ev (a b : Nat) : Ev (fun k => impl_gcd.f k (a : Int) (b : Int)) ((Nat.gcd a b : Nat) : Int) := impl_gcd_l b a

theorem impl_unitary_l {n : Nat} (hn : 1 ≤ n) (hn2 : n ≤ 10000) (d : Nat) : ∀ i, i ≤ (divs n).length → (divs n).length - i = d →
    Ev (fun k => impl_unitary.l0 k (n : Int) (lI (((divs n).take i).filter (fun d => Nat.gcd d (n / d) == 1))) (lI (divs n)) ((divs n).length : Int) (i : Int)) (lI (unis n)) := by
  have hlen : (divs n).length ≤ n := L_length_le _ _
  induction d with
  | zero =>
    intro i h1 h2
    have e : i = (divs n).length := by omega
    subst e
    refine Ev_suc ?_
    simp only [impl_unitary.l0, Int.lt_irrefl, if_false, List.take_length]
    exact Ev.now _
  | succ d ih =>
    intro i h1 h2
    have hlt : i < (divs n).length := by omega
    have next := ih (i + 1) (by omega) (by omega)
    rw [List.take_succ_eq_append_getElem hlt, List.filter_append, lI_append] at next
    obtain ⟨m1, m2, m3⟩ := divs_mem.1 (List.getElem_mem hlt)
    refine Ev_suc ?_
    simp only [impl_unitary.l0, lI_length, if_pos (show (i : Int) < ((divs n).length : Int) by omega), if_pos (show (0 : Int) ≤ (i : Int) by omega), lI_get' hlt, if_neg (show ¬ (((divs n)[i] : Nat) : Int) = 0 by omega)]
    rw [w64_div (show n ≤ 9223372036854775807 by omega), w64_succ (by omega)]
    refine Ev.bind (impl_gcd_ev _ _) ?_
    have lb : (((divs n).take i).filter (fun d => Nat.gcd d (n / d) == 1)).length ≤ i := Nat.le_trans (List.length_filter_le _ _) (List.length_take_le _ _)
    by_cases e : Nat.gcd (divs n)[i] (n / (divs n)[i]) = 1
    · have e2 : [(divs n)[i]].filter (fun d => Nat.gcd d (n / d) == 1) = [(divs n)[i]] := by simp [e]
      rw [e2] at next
      simp only [if_pos (show ((Nat.gcd (divs n)[i] (n / (divs n)[i]) : Nat) : Int) = 1 by omega), if_pos (show (((divs n).take i).filter (fun d => Nat.gcd d (n / d) == 1)).length < 17592186044416 by omega)]
      exact next
    · have e2 : [(divs n)[i]].filter (fun d => Nat.gcd d (n / d) == 1) = [] := by simp [e]
      rw [e2] at next
      simp only [lI, List.map_nil, List.append_nil] at next
      simp only [if_neg (show ¬ ((Nat.gcd (divs n)[i] (n / (divs n)[i]) : Nat) : Int) = 1 by omega)]
      exact next

theorem impl_unitary_ev {n : Nat} (h1 : 1 ≤ n) (h2 : n ≤ 10000) : Ev (fun k => impl_unitary.f k (n : Int)) (lI (unis n)) := by
  unfold impl_unitary.f
  refine Ev.bind (impl_divisors_ev h1 h2) ?_
  rw [lI_length]
  exact impl_unitary_l h1 h2 _ 0 (by omega) rfl

theorem impl_UnitaryOf_ev (a : Int) : Ev (fun k => impl_UnitaryOf.f k a) (uniI a) := by
  unfold impl_UnitaryOf.f uniI
  by_cases h : inN a
  · obtain ⟨n, rfl, h1, h2⟩ := inN_nat h
    simp only [numberOk_eq, Option.bind_some, decide_eq_true_eq, if_pos h, Int.toNat_natCast]
    exact Ev.bind (impl_unitary_ev h1 h2) (Ev.now _)
  · simp only [numberOk_eq, Option.bind_some, decide_eq_true_eq, if_neg h]
    exact Ev.now _

theorem eqIntS_l (l : List Int) (hl : l.length ≤ 1048576) (d : Nat) : ∀ i, i ≤ l.length → l.length - i = d →
    Ev (fun k => laws_eqIntS.l0 k l l (i : Int)) true := by
  induction d with
  | zero =>
    intro i h1 h2
    have e : i = l.length := by omega
    subst e
    refine Ev_suc ?_
    simp only [laws_eqIntS.l0, Int.lt_irrefl, if_false]
    exact Ev.now _
  | succ d ih =>
    intro i h1 h2
    refine Ev_suc ?_
    have c1 : (i : Int) < (l.length : Int) := by omega
    have c2 : (0 : Int) ≤ (i : Int) := by omega
    simp only [laws_eqIntS.l0, if_pos c1, if_pos c2, if_true]
    rw [w64_succ (by omega)]
    exact ih (i + 1) (by omega) (by omega)

theorem eqIntS_same {l : List Int} (hl : l.length ≤ 1048576) : Ev (fun k => laws_eqIntS.f k l l) true := by
  unfold laws_eqIntS.f
  simp only [if_true]
  exact eqIntS_l l hl l.length 0 (by omega) (by omega)

/-- 1, 2, and so on up to n. -/
def upL (n : Nat) : List Int := (List.range n).map (fun i => ((i + 1 : Nat) : Int))

theorem upL_length (n : Nat) : (upL n).length = n := by simp [upL]

theorem upL_succ (n : Nat) : upL (n + 1) = upL n ++ [((n + 1 : Nat) : Int)] := by simp [upL, List.range_succ]

theorem markIntS_l (l : List Int) (hl : l.length ≤ 1048576) (d : Nat) : ∀ i, i ≤ l.length → l.length - i = d →
    Ev (fun k => laws_markIntS.l0 k (upL i ++ l.drop i) ((i + 1 : Nat) : Int) (i : Int)) (((l.length + 1 : Nat) : Int), upL l.length) := by
  induction d with
  | zero =>
    intro i h1 h2
    have e : i = l.length := by omega
    subst e
    refine Ev_suc ?_
    simp only [laws_markIntS.l0, List.drop_length, List.append_nil, upL_length, Int.lt_irrefl, if_false]
    exact Ev.now _
  | succ d ih =>
    intro i h1 h2
    have hlt : i < l.length := by omega
    refine Ev_suc ?_
    have c1 : (i : Int) < ((upL i ++ l.drop i).length : Int) := by rw [List.length_append, upL_length, List.length_drop]; omega
    have c2 : (0 : Int) ≤ (i : Int) := by omega
    have e : (upL i ++ l.drop i).set i ((i + 1 : Nat) : Int) = upL (i + 1) ++ l.drop (i + 1) := by
      rw [List.set_append_right _ _ (by rw [upL_length]; exact Nat.le_refl _), upL_length, Nat.sub_self, drop_cons hlt, List.set_cons_zero, upL_succ, List.append_assoc]
      rfl
    simp only [laws_markIntS.l0, if_pos c1, if_pos c2, Int.toNat_natCast, e]
    rw [w64_succ (by omega), w64_succ (by omega)]
    exact ih (i + 1) (by omega) (by omega)

theorem markIntS_ev {l : List Int} (hl : l.length ≤ 1048576) : Ev (fun k => laws_markIntS.f k l 1) (((l.length + 1 : Nat) : Int), upL l.length) :=
  markIntS_l l hl l.length 0 (by omega) (by omega)

theorem upL_get {n i : Nat} (h : i < n) : rd (upL n) (i : Int) = ((i + 1 : Nat) : Int) := by
  rw [rd_get (by rw [upL_length]; exact h)]
  simp [upL]

theorem heldIntS_l (n : Nat) (hn : n ≤ 1048576) (d : Nat) : ∀ i, i ≤ n → n - i = d →
    Ev (fun k => laws_heldIntS.l0 k (upL n) ((i + 1 : Nat) : Int) (i : Int)) ((n + 1 : Nat) : Int) := by
  induction d with
  | zero =>
    intro i h1 h2
    have e : i = n := by omega
    subst e
    refine Ev_suc ?_
    simp only [laws_heldIntS.l0, upL_length, Int.lt_irrefl, if_false]
    exact Ev.now _
  | succ d ih =>
    intro i h1 h2
    have hlt : i < n := by omega
    refine Ev_suc ?_
    simp only [laws_heldIntS.l0, upL_length, if_pos (show (i : Int) < (n : Int) by omega), if_pos (show (0 : Int) ≤ (i : Int) by omega), upL_get hlt, if_true]
    rw [w64_succ (by omega), w64_succ (by omega)]
    exact ih (i + 1) (by omega) (by omega)

theorem heldIntS_ev {n : Nat} (hn : n ≤ 1048576) : Ev (fun k => laws_heldIntS.f k (upL n) 1) ((n + 1 : Nat) : Int) :=
  heldIntS_l n hn n 0 (by omega) (by omega)

theorem FnExactUnitaryOf : laws_FnExactUnitaryOf.Pure := by
  intro a _
  refine Ev.rounds (r := true) ?_
  unfold laws_FnExactUnitaryOf.f
  have hl := uniI_length a
  refine Ev.bind (spec_UnitaryOf_ev a) (Ev.bind (impl_UnitaryOf_ev a) (Ev.bind (eqIntS_same hl) ?_))
  simp only [if_true]
  refine Ev.bind (markIntS_ev hl) (Ev.bind (heldIntS_ev hl) ?_)
  simp only [if_neg (show ¬ (((uniI a).length + 1 : Nat) : Int) < 0 by omega), if_true]
  refine Ev.bind (impl_UnitaryOf_ev a) (Ev.bind (eqIntS_same hl) ?_)
  simp only [if_true]
  refine Ev.bind (heldIntS_ev hl) ?_
  simp only [if_neg (show ¬ (((uniI a).length + 1 : Nat) : Int) < 0 by omega), if_true]
  exact Ev.now _

end Go.Proofs.Ytomfiimpnabfoaa.Pure
