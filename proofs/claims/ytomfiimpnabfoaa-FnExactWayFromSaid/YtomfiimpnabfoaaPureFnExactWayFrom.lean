/- The program's WayFrom answers as the reference's, for every whole number, with memory of its own. No conditions. -/
import Derived.Test.YtomfiimpnabfoaaPFnExactWayFromx3
import Derived.Test.YtomfiimpnabfoaaEvs
import Derived.Test.YtomfiimpnabfoaaEuler
import Derived.Test.YtomfiimpnabfoaaMul
namespace Go.Proofs.Ytomfiimpnabfoaa.Pure
open Go.RowKit Go.Proofs.Ytomfiimpnabfoaa.PFnExactWayFrom Go.Proofs.YtomfiimpnabfoaaW.PrintWords Go.Proofs.YtomfiimpnabfoaaW.PrintLast Go.Proofs.YtomfiimpnabfoaaW.PrintMore Go.Proofs.Ytomfiimpnabfoaa.Math
set_option linter.unusedVariables false
set_option linter.unusedSimpArgs false

/-- The sum of all divisors but the number itself. -/
def propI (a : Int) : Int := if inN a then D (fun d => (d : Int)) a.toNat - a else -1

/-- The way by proper sums, d numbers more at most. -/
def wayF : Nat → List Int → Int → List Int
  | 0, out, _ => out
  | d + 1, out, a => if inN a ∧ ¬ a ∈ out then wayF d (out ++ [a]) (propI a) else out

def wayI (a : Int) : List Int := wayF 30 [] a

theorem wayF_length : ∀ (d : Nat) (out : List Int) (a : Int), (wayF d out a).length ≤ out.length + d
  | 0, out, a => Nat.le_refl _
  | d + 1, out, a => by
    simp only [wayF]
    by_cases h : inN a ∧ ¬ a ∈ out
    · rw [if_pos h]
      have := wayF_length d (out ++ [a]) (propI a)
      simp at this; omega
    · rw [if_neg h]; omega

theorem wayI_length (a : Int) : (wayI a).length ≤ 1048576 := by
  have := wayF_length 30 [] a
  unfold wayI; simp at this; omega

theorem l1In_eq (a lo hi : Int) : spec_l1In.f a lo hi = some (decide (lo ≤ a ∧ a ≤ hi)) := by
  unfold spec_l1In.f
  by_cases h : lo ≤ a
  · rw [if_pos h]; simp [h]
  · rw [if_neg h]; simp [h]

theorem spec_WayFrom_l1 {out : List Int} (ho : out.length ≤ 30) {a : Int} {r : List Int} (hyes : a ∈ out → r = out) (hno : ¬ a ∈ out → Ev (fun k => (spec_ProperSum.f k a).bind fun t => (spec_WayFrom.l0 k (out ++ [a]) t)) r) (d : Nat) : ∀ i, i ≤ out.length → out.length - i = d → (¬ a ∈ out.take i) →
    Ev (fun k => spec_WayFrom.l1 k out a (i : Int)) r := by
  induction d with
  | zero =>
    intro i h1 h2 h3
    have e : i = out.length := by omega
    subst e
    rw [List.take_length] at h3
    refine Ev_suc ?_
    simp only [spec_WayFrom.l1, Int.lt_irrefl, if_false, if_pos (show out.length < 17592186044416 by omega)]
    exact hno h3
  | succ d ih =>
    intro i h1 h2 h3
    have hlt : i < out.length := by omega
    refine Ev_suc ?_
    simp only [spec_WayFrom.l1, if_pos (show (i : Int) < (out.length : Int) by omega), if_pos (show (0 : Int) ≤ (i : Int) by omega), rd_get hlt]
    by_cases e : out[i] = a
    · simp only [if_pos e]
      rw [hyes (by rw [← e]; exact List.getElem_mem hlt)]
      exact Ev.now _
    · simp only [if_neg e]
      rw [w64_succ (by omega)]
      refine ih (i + 1) (by omega) (by omega) ?_
      rw [List.take_succ_eq_append_getElem hlt, List.mem_append, List.mem_singleton]
      rintro (h | h)
      · exact h3 h
      · exact e h.symm

theorem spec_ProperSum_l {n : Nat} (hn : 1 ≤ n) (hn2 : n ≤ 10000) (d : Nat) : ∀ c, c + 1 ≤ n → n - c = d →
    Ev (fun k => spec_ProperSum.l0 k (n : Int) (T (fun d => if n % d = 0 then (d : Int) else 0) c) ((c + 1 : Nat) : Int)) (D (fun d => (d : Int)) n - n) := by
  induction d with
  | zero => intro c h1 h2; omega
  | succ d ih =>
    intro c h1 h2
    refine Ev_suc ?_
    simp only [spec_ProperSum.l0]
    have hw : wrap64 (((c + 1 : Nat) : Int) + 1) = ((c + 1 + 1 : Nat) : Int) := w64_succ (by omega)
    by_cases h : c + 1 < n
    · have c1 : ((c + 1 : Nat) : Int) < (n : Int) := by omega
      have c2 : ¬ ((c + 1 : Nat) : Int) = 0 := by omega
      have next := ih (c + 1) (by omega) (by omega)
      simp only [T] at next
      have hT := T_small n c
      have hT2 : (c : Int) * (n + c) ≤ 10000 * 20000 := Int.mul_le_mul (by omega) (by omega) (by omega) (by omega)
      simp only [if_pos c1, if_neg c2, tmod_nat, hw]
      by_cases h0 : n % (c + 1) = 0
      · have c3 : ((n % (c + 1) : Nat) : Int) = 0 := by omega
        rw [if_pos h0] at next
        simp only [if_pos c3]
        rw [w64 (by omega) (by omega)]
        exact next
      · have c3 : ¬ ((n % (c + 1) : Nat) : Int) = 0 := by omega
        rw [if_neg h0, Int.add_zero] at next
        simp only [if_neg c3]
        exact next
    · have e : n = c + 1 := by omega
      have c1 : ¬ ((c + 1 : Nat) : Int) < (n : Int) := by omega
      simp only [if_neg c1]
      have hD : D (fun d => (d : Int)) n - n = T (fun d => if n % d = 0 then (d : Int) else 0) c := by
        unfold D
        rw [show T (fun d => if n % d = 0 then (d : Int) else 0) n = T (fun d => if n % d = 0 then (d : Int) else 0) (c + 1) by rw [← e]]
        simp only [T]
        rw [← e, if_pos (Nat.mod_self n)]; omega
      rw [hD]
      exact Ev.now _

theorem spec_ProperSum_ev (a : Int) : Ev (fun k => spec_ProperSum.f k a) (propI a) := by
  unfold spec_ProperSum.f propI
  by_cases h : 1 ≤ a ∧ a ≤ 10000
  · obtain ⟨n, rfl, h1, h2⟩ := inN_nat h
    simp only [l1In_eq, Option.bind_some, decide_eq_true_eq, if_pos h, if_pos (show inN (n : Int) from h), Int.toNat_natCast]
    exact spec_ProperSum_l h1 h2 n 0 (by omega) (by omega)
  · simp only [l1In_eq, Option.bind_some, decide_eq_true_eq, if_neg h, if_neg (show ¬ inN a from h)]
    exact Ev.now _

theorem spec_WayFrom_l0 (d : Nat) : ∀ (out : List Int) (a : Int), out.length + d = 30 → Ev (fun k => spec_WayFrom.l0 k out a) (wayF d out a) := by
  induction d with
  | zero =>
    intro out a h
    refine Ev_suc ?_
    simp only [spec_WayFrom.l0, l1In_eq, Option.bind_some, decide_eq_false (show ¬ (out.length : Int) < 30 by omega), ite_self]
    refine Ev_suc ?_
    simp only [spec_WayFrom.j1, Bool.false_eq_true, if_false, wayF]
    exact Ev.now _
  | succ d ih =>
    intro out a h
    refine Ev_suc ?_
    by_cases hin : inN a
    · simp only [spec_WayFrom.l0, l1In_eq, Option.bind_some, decide_eq_true_eq, if_pos (show 1 ≤ a ∧ a ≤ 10000 from hin), decide_eq_true (show (out.length : Int) < 30 by omega)]
      refine Ev_suc ?_
      simp only [spec_WayFrom.j1, if_true]
      refine spec_WayFrom_l1 (by omega) (fun hm => ?_) (fun hm => ?_) out.length 0 (by omega) (by omega) (by simp)
      · simp only [wayF]; rw [if_neg (fun e => e.2 hm)]
      · simp only [wayF]; rw [if_pos ⟨hin, hm⟩]
        exact Ev.bind (spec_ProperSum_ev a) (ih _ _ (by simp; omega))
    · simp only [spec_WayFrom.l0, l1In_eq, Option.bind_some, decide_eq_true_eq, if_neg (show ¬ (1 ≤ a ∧ a ≤ 10000) from hin)]
      refine Ev_suc ?_
      simp only [spec_WayFrom.j1, Bool.false_eq_true, if_false, wayF]
      rw [if_neg (fun e => hin e.1)]
      exact Ev.now _

theorem spec_WayFrom_ev (a : Int) : Ev (fun k => spec_WayFrom.f k a) (wayI a) := spec_WayFrom_l0 30 [] a rfl

theorem numberOk_eq (a : Int) : impl_numberOk.f a = some (decide (inN a)) := by
  unfold impl_numberOk.f inN
  by_cases h : 1 ≤ a
  · rw [if_pos h]; simp [h]
  · rw [if_neg h]; simp [h]

theorem index_l (l : List Int) (hl : l.length ≤ 1048576) (x : Int) (d : Nat) : ∀ i, i ≤ l.length → l.length - i = d →
    ∃ r : Int, Ev (fun k => slices_Index_int_int.l0 k l x (l.length : Int) (i : Int)) r ∧ (0 ≤ r ↔ x ∈ l.drop i) := by
  induction d with
  | zero =>
    intro i h1 h2
    have e : i = l.length := by omega
    subst e
    refine ⟨-1, Ev_suc ?_, by simp⟩
    simp only [slices_Index_int_int.l0, Int.lt_irrefl, if_false]
    exact Ev.now _
  | succ d ih =>
    intro i h1 h2
    have hlt : i < l.length := by omega
    rw [drop_cons hlt]
    by_cases e : x = l[i]
    · refine ⟨(i : Int), Ev_suc ?_, ?_⟩
      · simp only [slices_Index_int_int.l0, if_pos (show (i : Int) < (l.length : Int) by omega), if_pos (show (0 : Int) ≤ (i : Int) by omega), rd_get hlt, if_pos e]
        exact Ev.now _
      · constructor
        · intro _; exact List.mem_cons.2 (.inl e)
        · intro _; omega
    · obtain ⟨r, hr, hm⟩ := ih (i + 1) (by omega) (by omega)
      refine ⟨r, Ev_suc ?_, ?_⟩
      · simp only [slices_Index_int_int.l0, if_pos (show (i : Int) < (l.length : Int) by omega), if_pos (show (0 : Int) ≤ (i : Int) by omega), rd_get hlt, if_neg e]
        rw [w64_succ (by omega)]
        exact hr
      · rw [hm, List.mem_cons]
        constructor
        · intro h; exact .inr h
        · rintro (h | h)
          · exact absurd h e
          · exact h

theorem contains_ev {l : List Int} (hl : l.length ≤ 1048576) (x : Int) : Ev (fun k => slices_Contains_int_int.f k l x) (decide (x ∈ l)) := by
  unfold slices_Contains_int_int.f slices_Index_int_int.f
  obtain ⟨r, hr, hm⟩ := index_l l hl x l.length 0 (by omega) (by omega)
  rw [List.drop_zero] at hm
  refine Ev.bind hr ?_
  have e : decide (r ≥ 0) = decide (x ∈ l) := by
    by_cases h : x ∈ l
    · rw [decide_eq_true h, decide_eq_true (hm.2 h)]
    · rw [decide_eq_false h, decide_eq_false (fun e => h (hm.1 e))]
  rw [e]
  exact Ev.now _

theorem reverse_l (d : Nat) : ∀ (A M B : List Int), M.length ≤ d → A.length + M.length + B.length ≤ 1000000000 →
    Ev (fun k => slices_Reverse_int_int.l0 k (A ++ M ++ B) (A.length : Int) ((A.length : Int) + (M.length : Int) - 1)) (A ++ M.reverse ++ B) := by
  induction d using Nat.strongRecOn with
  | ind d ih =>
    intro A M B hd hb
    refine Ev_suc ?_
    simp only [slices_Reverse_int_int.l0]
    by_cases h2 : M.length ≤ 1
    · have c0 : ¬ (A.length : Int) < (A.length : Int) + (M.length : Int) - 1 := by omega
      simp only [if_neg c0]
      have e : M.reverse = M := by
        match M, h2 with
        | [], _ => rfl
        | [x], _ => rfl
      rw [e]
      exact Ev.now _
    · match M, h2 with
      | x :: M', h2 =>
        obtain ⟨N, y, rfl⟩ : ∃ N y, M' = N ++ [y] := by
          rcases List.eq_nil_or_concat M' with e | ⟨N, y, e⟩
          · rw [e] at h2; simp at h2
          · exact ⟨N, y, by rw [e, List.concat_eq_append]⟩
        have hl : (x :: (N ++ [y])).length = N.length + 2 := by simp
        rw [hl] at hd hb ⊢
        have e3 : (A.length : Int) + ((N.length + 2 : Nat) : Int) - 1 = ((A.length + (N.length + 1) : Nat) : Int) := by omega
        rw [e3]
        have hlen : (A ++ x :: (N ++ [y]) ++ B).length = A.length + N.length + 2 + B.length := by simp; omega
        have r1 : rd (A ++ x :: (N ++ [y]) ++ B) ((A.length + (N.length + 1) : Nat) : Int) = y := by
          unfold rd
          rw [Int.toNat_natCast, List.getD_eq_getElem?_getD, List.append_assoc, List.getElem?_append_right (by omega), Nat.add_sub_cancel_left]
          simp
        have r2 : rd (A ++ x :: (N ++ [y]) ++ B) (A.length : Int) = x := by
          unfold rd
          rw [Int.toNat_natCast, List.getD_eq_getElem?_getD, List.append_assoc, List.getElem?_append_right (Nat.le_refl _), Nat.sub_self]
          simp
        have hs : ((A ++ x :: (N ++ [y]) ++ B).set A.length y).set (A.length + (N.length + 1)) x = (A ++ [y]) ++ N ++ (x :: B) := by
          simp only [List.append_assoc, List.cons_append]
          rw [List.set_append_right _ _ (Nat.le_refl _), Nat.sub_self, List.set_cons_zero, List.set_append_right _ _ (by omega), Nat.add_sub_cancel_left, List.set_cons_succ,
            List.set_append_right _ _ (Nat.le_refl _), Nat.sub_self]
          simp
        have c1 : (A.length : Int) < ((A.length + (N.length + 1) : Nat) : Int) := by omega
        have c2 : (0 : Int) ≤ ((A.length + (N.length + 1) : Nat) : Int) := by omega
        have c3 : ((A.length + (N.length + 1) : Nat) : Int) < ((A ++ x :: (N ++ [y]) ++ B).length : Int) := by rw [hlen]; omega
        have c4 : (0 : Int) ≤ (A.length : Int) := by omega
        have c5 : (A.length : Int) < ((A ++ x :: (N ++ [y]) ++ B).length : Int) := by rw [hlen]; omega
        have w1 : wrap64 ((A.length : Int) + 1) = ((A ++ [y]).length : Int) := by rw [w64 (by omega) (by omega)]; simp
        have w2 : wrap64 (((A.length + (N.length + 1) : Nat) : Int) - 1) = ((A ++ [y]).length : Int) + (N.length : Int) - 1 := by rw [w64 (by omega) (by omega)]; simp; omega
        simp only [if_pos c1, if_pos c2, if_pos c3, if_pos c4, if_pos c5, r1, r2, Int.toNat_natCast, hs, w1, w2]
        have hres : A ++ (x :: (N ++ [y])).reverse ++ B = (A ++ [y]) ++ N.reverse ++ (x :: B) := by simp
        rw [hres]
        exact ih N.length (by omega) (A ++ [y]) N (x :: B) (Nat.le_refl _) (by simp; omega)

theorem reverse_ev (l : List Int) (h : l.length ≤ 1000000000) : Ev (fun k => slices_Reverse_int_int.f k l) l.reverse := by
  unfold slices_Reverse_int_int.f
  have e := reverse_l l.length [] l [] (Nat.le_refl _) (by simpa using h)
  simp only [List.nil_append, List.append_nil, List.length_nil, Int.natCast_zero, Int.zero_add] at e
  rw [w64 (by omega) (by omega)]
  exact e

theorem impl_divisors_l {n : Nat} (hn : 1 ≤ n) (hn2 : n ≤ 10000) (d : Nat) : ∀ c, c * c ≤ n → n - c = d →
    Ev (fun k => impl_divisors.l0 k (n : Int) (lI (L (dv n) c)) (lI ((L (sm n) c).map (fun d => n / d))) ((c + 1 : Nat) : Int)) (lI (divs n)) := by
  induction d using Nat.strongRecOn with
  | ind d ih =>
    intro c hc hd
    have hcn : c ≤ n := by
      rcases Nat.eq_zero_or_pos c with e | e
      · omega
      · have := Nat.le_mul_of_pos_left c e; omega
    have hsq : (c + 1) * (c + 1) ≤ 100000000000 := by
      have : (c + 1) * (c + 1) ≤ 10001 * 10001 := Nat.mul_le_mul (by omega) (by omega)
      omega
    refine Ev_suc ?_
    simp only [impl_divisors.l0]
    rw [w64_mul (by omega)]
    have l1 : (lI (L (dv n) c)).length < 17592186044416 := by rw [lI_length]; have := L_length_le (dv n) c; omega
    have l2 : (lI ((L (sm n) c).map (fun d => n / d))).length < 17592186044416 := by rw [lI_length, List.length_map]; have := L_length_le (sm n) c; omega
    have hw : wrap64 (((c + 1 : Nat) : Int) + 1) = ((c + 1 + 1 : Nat) : Int) := w64_succ (by omega)
    by_cases h : (c + 1) * (c + 1) ≤ n
    · have c1 : (((c + 1) * (c + 1) : Nat) : Int) ≤ (n : Int) := Int.ofNat_le.2 h
      have c2 : ¬ ((c + 1 : Nat) : Int) = 0 := by omega
      have hcn' : c + 1 ≤ n := by
        have := Nat.le_mul_of_pos_left (c + 1) (show 0 < c + 1 by omega); omega
      have next := ih (n - (c + 1)) (by omega) (c + 1) h rfl
      simp only [if_pos c1, if_neg c2, tmod_nat, hw, w64_div (show n ≤ 9223372036854775807 by omega)]
      by_cases h0 : n % (c + 1) = 0
      · have c3 : ((n % (c + 1) : Nat) : Int) = 0 := by omega
        rw [L_yes (dv_iff.2 h0), lI_append] at next
        simp only [if_pos c3, if_pos l1, Option.bind_some]
        by_cases hs : (c + 1) * (c + 1) < n
        · have c4 : (((c + 1) * (c + 1) : Nat) : Int) < (n : Int) := Int.ofNat_lt.2 hs
          rw [L_yes (sm_iff.2 ⟨h0, hs⟩), List.map_append, lI_append] at next
          simp only [if_pos c4, if_pos l2]
          exact next
        · have c4 : ¬ (((c + 1) * (c + 1) : Nat) : Int) < (n : Int) := fun e => hs (Int.ofNat_lt.1 e)
          rw [L_no (fun e => hs (sm_iff.1 e).2)] at next
          simp only [if_neg c4]
          exact next
      · have c3 : ¬ ((n % (c + 1) : Nat) : Int) = 0 := by omega
        rw [L_no (fun e => h0 (dv_iff.1 e)), L_no (fun e => h0 (sm_iff.1 e).1)] at next
        simp only [if_neg c3]
        exact next
    · have c1 : ¬ (((c + 1) * (c + 1) : Nat) : Int) ≤ (n : Int) := fun e => h (Int.ofNat_le.1 e)
      simp only [if_neg c1]
      refine Ev.bind (reverse_ev _ (by rw [lI_length, List.length_map]; have := L_length_le (sm n) c; omega)) ?_
      have l3 : (lI (L (dv n) c)).length + (lI ((L (sm n) c).map (fun d => n / d))).reverse.length < 17592186044416 := by
        rw [List.length_reverse, lI_length, lI_length, List.length_map]
        have := L_length_le (dv n) c
        have := L_length_le (sm n) c
        omega
      simp only [if_pos l3]
      rw [← divs_pairs hn hc (by omega)]
      have e : lI (L (dv n) c ++ ((L (sm n) c).map (fun d => n / d)).reverse) = lI (L (dv n) c) ++ (lI ((L (sm n) c).map (fun d => n / d))).reverse := by
        rw [lI_append]; simp [lI]
      rw [e]
      exact Ev.now _

theorem impl_divisors_ev {n : Nat} (hn : 1 ≤ n) (hn2 : n ≤ 10000) : Ev (fun k => impl_divisors.f k (n : Int)) (lI (divs n)) :=
  impl_divisors_l hn hn2 n 0 (by omega) rfl

theorem impl_sum_l {l : List Nat} (hl : l.length ≤ 1000000) (d : Nat) : ∀ (i : Nat) (acc : Int), l.length - i = d → i ≤ l.length → 0 ≤ acc → acc + sumL (fun x => (x : Int)) (l.drop i) ≤ 1000000000000000 →
    Ev (fun k => impl_sum.l0 k acc (lI l) (l.length : Int) (i : Int)) (acc + sumL (fun x => (x : Int)) (l.drop i)) := by
  induction d with
  | zero =>
    intro i acc hd hi _ _
    have e : i = l.length := by omega
    subst e
    refine Ev_suc ?_
    simp only [impl_sum.l0, Int.lt_irrefl, if_false, List.drop_length, sumL, Int.add_zero]
    exact Ev.now _
  | succ d ih =>
    intro i acc hd hi h0 hb
    have hlt : i < l.length := by omega
    have hlt' : i < (lI l).length := by rw [lI_length]; exact hlt
    have hr : rd (lI l) (i : Int) = ((l[i] : Nat) : Int) := by rw [rd_get hlt']; simp [lI]
    rw [drop_cons hlt] at hb ⊢
    simp only [sumL] at hb ⊢
    have hnn := sumL_nonneg (l.drop (i + 1))
    refine Ev_suc ?_
    have c1 : (i : Int) < (l.length : Int) := by omega
    have c2 : (0 : Int) ≤ (i : Int) := by omega
    have c3 : (i : Int) < ((lI l).length : Int) := by omega
    simp only [impl_sum.l0, if_pos c1, if_pos c2, if_pos c3, hr]
    rw [w64 (by omega) (by omega), w64_succ (by omega), ← Int.add_assoc]
    exact ih (i + 1) _ (by omega) (by omega) (by omega) (by omega)

theorem impl_sum_ev {l : List Nat} (hl : l.length ≤ 1000000) (hb : sumL (fun x => (x : Int)) l ≤ 1000000000000000) : Ev (fun k => impl_sum.f k (lI l)) (sumL (fun x => (x : Int)) l) := by
  unfold impl_sum.f
  have := impl_sum_l hl l.length 0 0 (by omega) (by omega) (by omega) (by rw [List.drop_zero]; omega)
  rw [List.drop_zero, Int.zero_add] at this
  rw [lI_length]
  exact this

theorem impl_ProperSum_ev (a : Int) : Ev (fun k => impl_ProperSum.f k a) (propI a) := by
  unfold impl_ProperSum.f propI
  by_cases h : inN a
  · obtain ⟨n, rfl, h1, h2⟩ := inN_nat h
    simp only [numberOk_eq, Option.bind_some, decide_eq_true_eq, if_pos h, Int.toNat_natCast]
    have hb := D_id_le n
    have hb2 : (n : Int) * n ≤ 10000 * 10000 := Int.mul_le_mul (by omega) (by omega) (by omega) (by omega)
    have hnn := D_id_ge h1
    refine Ev.bind (impl_divisors_ev h1 h2) (Ev.bind (impl_sum_ev (by have := L_length_le (dv n) n; unfold divs; omega) (by rw [sum_divs]; omega)) ?_)
    rw [sum_divs, w64 (by omega) (by omega)]
    exact Ev.now _
  · simp only [numberOk_eq, Option.bind_some, decide_eq_true_eq, if_neg h]
    exact Ev.now _

theorem impl_WayFrom_l0 (d : Nat) : ∀ (out : List Int) (a : Int), out.length + d = 30 → Ev (fun k => impl_WayFrom.l0 k a out) (wayF d out a) := by
  induction d with
  | zero =>
    intro out a h
    refine Ev_suc ?_
    simp only [impl_WayFrom.l0, numberOk_eq, Option.bind_some, if_neg (show ¬ (out.length : Int) < 30 by omega), ite_self, wayF]
    exact Ev.now _
  | succ d ih =>
    intro out a h
    refine Ev_suc ?_
    by_cases hin : inN a
    · simp only [impl_WayFrom.l0, numberOk_eq, Option.bind_some, decide_eq_true_eq, if_pos hin, if_pos (show (out.length : Int) < 30 by omega)]
      refine Ev.bind (contains_ev (by omega) a) ?_
      by_cases hm : a ∈ out
      · simp only [decide_eq_true hm, if_true, wayF]
        rw [if_neg (fun e => e.2 hm)]
        exact Ev.now _
      · simp only [decide_eq_false hm, Bool.false_eq_true, if_false, if_pos (show out.length < 17592186044416 by omega), wayF]
        rw [if_pos ⟨hin, hm⟩]
        exact Ev.bind (impl_ProperSum_ev a) (ih _ _ (by simp; omega))
    · simp only [impl_WayFrom.l0, numberOk_eq, Option.bind_some, decide_eq_true_eq, if_neg hin, wayF]
      rw [if_neg (fun e => hin e.1)]
      exact Ev.now _

theorem impl_WayFrom_ev (a : Int) : Ev (fun k => impl_WayFrom.f k a) (wayI a) := by
  unfold impl_WayFrom.f
  by_cases h : inN a
  · simp only [numberOk_eq, Option.bind_some, decide_eq_true_eq, if_pos h]
    exact impl_WayFrom_l0 30 [] a rfl
  · simp only [numberOk_eq, Option.bind_some, decide_eq_true_eq, if_neg h]
    have e : wayI a = [] := by
      rw [show wayI a = wayF (29 + 1) [] a from rfl, wayF, if_neg (fun e => h e.1)]
    rw [e]
    exact Ev.now _

theorem eqIntS_l (l : List Int) (hl : l.length ≤ 1048576) (d : Nat) : ∀ i, i ≤ l.length → l.length - i = d →
    Ev (fun k => laws_eqIntS.l0 k l l (i : Int)) true := by
  induction d with
  | zero =>
    intro i h1 h2
    have e : i = l.length := by omega
    subst e
    refine Ev_suc ?_
    simp only [laws_eqIntS.l0, Int.lt_irrefl, if_false]
    exact Ev.now _
  | succ d ih =>
    intro i h1 h2
    refine Ev_suc ?_
    have c1 : (i : Int) < (l.length : Int) := by omega
    have c2 : (0 : Int) ≤ (i : Int) := by omega
    simp only [laws_eqIntS.l0, if_pos c1, if_pos c2, if_true]
    rw [w64_succ (by omega)]
    exact ih (i + 1) (by omega) (by omega)

theorem eqIntS_same {l : List Int} (hl : l.length ≤ 1048576) : Ev (fun k => laws_eqIntS.f k l l) true := by
  unfold laws_eqIntS.f
  simp only [if_true]
  exact eqIntS_l l hl l.length 0 (by omega) (by omega)

/-- 1, 2, and so on up to n. -/
def upL (n : Nat) : List Int := (List.range n).map (fun i => ((i + 1 : Nat) : Int))

theorem upL_length (n : Nat) : (upL n).length = n := by simp [upL]

theorem upL_succ (n : Nat) : upL (n + 1) = upL n ++ [((n + 1 : Nat) : Int)] := by simp [upL, List.range_succ]

theorem markIntS_l (l : List Int) (hl : l.length ≤ 1048576) (d : Nat) : ∀ i, i ≤ l.length → l.length - i = d →
    Ev (fun k => laws_markIntS.l0 k (upL i ++ l.drop i) ((i + 1 : Nat) : Int) (i : Int)) (((l.length + 1 : Nat) : Int), upL l.length) := by
  induction d with
  | zero =>
    intro i h1 h2
    have e : i = l.length := by omega
    subst e
    refine Ev_suc ?_
    simp only [laws_markIntS.l0, List.drop_length, List.append_nil, upL_length, Int.lt_irrefl, if_false]
    exact Ev.now _
  | succ d ih =>
    intro i h1 h2
    have hlt : i < l.length := by omega
    refine Ev_suc ?_
    have c1 : (i : Int) < ((upL i ++ l.drop i).length : Int) := by rw [List.length_append, upL_length, List.length_drop]; omega
    have c2 : (0 : Int) ≤ (i : Int) := by omega
    have e : (upL i ++ l.drop i).set i ((i + 1 : Nat) : Int) = upL (i + 1) ++ l.drop (i + 1) := by
      rw [List.set_append_right _ _ (by rw [upL_length]; exact Nat.le_refl _), upL_length, Nat.sub_self, drop_cons hlt, List.set_cons_zero, upL_succ, List.append_assoc]
      rfl
    simp only [laws_markIntS.l0, if_pos c1, if_pos c2, Int.toNat_natCast, e]
    rw [w64_succ (by omega), w64_succ (by omega)]
    exact ih (i + 1) (by omega) (by omega)

theorem markIntS_ev {l : List Int} (hl : l.length ≤ 1048576) : Ev (fun k => laws_markIntS.f k l 1) (((l.length + 1 : Nat) : Int), upL l.length) :=
  markIntS_l l hl l.length 0 (by omega) (by omega)

theorem upL_get {n i : Nat} (h : i < n) : rd (upL n) (i : Int) = ((i + 1 : Nat) : Int) := by
  rw [rd_get (by rw [upL_length]; exact h)]
  simp [upL]

theorem heldIntS_l (n : Nat) (hn : n ≤ 1048576) (d : Nat) : ∀ i, i ≤ n → n - i = d →
    Ev (fun k => laws_heldIntS.l0 k (upL n) ((i + 1 : Nat) : Int) (i : Int)) ((n + 1 : Nat) : Int) := by
  induction d with
  | zero =>
    intro i h1 h2
    have e : i = n := by omega
    subst e
    refine Ev_suc ?_
    simp only [laws_heldIntS.l0, upL_length, Int.lt_irrefl, if_false]
    exact Ev.now _
  | succ d ih =>
    intro i h1 h2
    have hlt : i < n := by omega
    refine Ev_suc ?_
    simp only [laws_heldIntS.l0, upL_length, if_pos (show (i : Int) < (n : Int) by omega), if_pos (show (0 : Int) ≤ (i : Int) by omega), upL_get hlt, if_true]
    rw [w64_succ (by omega), w64_succ (by omega)]
    exact ih (i + 1) (by omega) (by omega)

theorem heldIntS_ev {n : Nat} (hn : n ≤ 1048576) : Ev (fun k => laws_heldIntS.f k (upL n) 1) ((n + 1 : Nat) : Int) :=
  heldIntS_l n hn n 0 (by omega) (by omega)

theorem FnExactWayFrom : laws_FnExactWayFrom.Pure := by
  intro a _
  refine Ev.rounds (r := true) ?_
  unfold laws_FnExactWayFrom.f
  have hl := wayI_length a
  refine Ev.bind (spec_WayFrom_ev a) (Ev.bind (impl_WayFrom_ev a) (Ev.bind (eqIntS_same hl) ?_))
  simp only [if_true]
  refine Ev.bind (markIntS_ev hl) (Ev.bind (heldIntS_ev hl) ?_)
  simp only [if_neg (show ¬ (((wayI a).length + 1 : Nat) : Int) < 0 by omega), if_true]
  refine Ev.bind (impl_WayFrom_ev a) (Ev.bind (eqIntS_same hl) ?_)
  simp only [if_true]
  refine Ev.bind (heldIntS_ev hl) ?_
  simp only [if_neg (show ¬ (((wayI a).length + 1 : Nat) : Int) < 0 by omega), if_true]
  exact Ev.now _

end Go.Proofs.Ytomfiimpnabfoaa.Pure
