/- The program's EvenOk answers as the reference's; the row of sums for a first number is such a row, and so is the row of noughts: for every code. No conditions. -/
import Derived.Test.YtplnpkagamnodaaPFnEvenOkx5
import Derived.Test.YtplnpkagamnodaaEvs
import Derived.Test.YtplnpkagamnodaaEuler
import Derived.Test.YtplnpkagamnodaaMul
namespace Go.Proofs.Ytplnpkagamnodaa.Pure
open Go.RowKit Go.Proofs.Ytplnpkagamnodaa.PFnEvenOk Go.Proofs.YtplnpkagamnodaaW.PrintWords Go.Proofs.YtplnpkagamnodaaW.PrintLast Go.Proofs.YtplnpkagamnodaaW.PrintMore Go.Proofs.Ytplnpkagamnodaa.Math
set_option linter.unusedVariables false
set_option linter.unusedSimpArgs false

/-- What the row tells at place i is in bounds and as at what the place shares with the length. -/
def evAt (l : List Int) (i : Nat) : Prop := (-1000 ≤ l.getD i 0 ∧ l.getD i 0 ≤ 1000) ∧ l.getD i 0 = l.getD (Nat.gcd (i + 1) l.length - 1) 0
instance (l : List Int) (i : Nat) : Decidable (evAt l i) := inferInstanceAs (Decidable (_ ∧ _))

/-- From place i on. -/
def evF (l : List Int) : Nat → Nat → Bool
  | 0, _ => true
  | d + 1, i => decide (evAt l i) && evF l d (i + 1)

def evI (l : List Int) : Bool := decide (1 ≤ l.length ∧ l.length ≤ 60) && evF l l.length 0

/-- The sum of Ramanujan's: over the divisors of what both share. -/
def sfV (q g : Nat) : Int := sumL (fun d => (d : Int) * sgn 1 (facs (q / d))) (divs g)

theorem sfV_abs (q : Nat) : ∀ (l : List Nat), - sumL (fun x => (x : Int)) l ≤ sumL (fun d => (d : Int) * sgn 1 (facs (q / d))) l ∧ sumL (fun d => (d : Int) * sgn 1 (facs (q / d))) l ≤ sumL (fun x => (x : Int)) l
  | [] => by simp [sumL]
  | x :: l => by
    have ih := sfV_abs q l
    obtain ⟨s1, s2⟩ := sgn_one (facs (q / x)) 1 (by omega) (by omega)
    have key : sgn 1 (facs (q / x)) = -1 ∨ sgn 1 (facs (q / x)) = 0 ∨ sgn 1 (facs (q / x)) = 1 := by omega
    simp only [sumL]
    rcases key with e | e | e <;> rw [e] <;> omega

theorem small_sums : ∀ g : Fin 61, D (fun d => (d : Int)) g.1 ≤ 1000 := by decide +kernel

theorem sfV_small (q : Nat) {g : Nat} (hg : g ≤ 60) : -1000 ≤ sfV q g ∧ sfV q g ≤ 1000 := by
  have h1 := sfV_abs q (divs g)
  have h2 := small_sums ⟨g, by omega⟩
  rw [sum_divs] at h1
  unfold sfV
  dsimp only at h2
  omega

theorem impl_EvenOk_no (l : List Int) : Ev (fun k => impl_EvenOk.j0 k l true) false := by
  refine Ev_suc ?_
  simp only [impl_EvenOk.j0, if_true]
  exact Ev.now _

/-- Are all of size m at most? -/
def lwB (m : Int) (l : List Int) : Bool := l.all (fun x => decide (-m ≤ x ∧ x ≤ m))

theorem impl_listWithin_l {m : Int} (hm : 0 ≤ m) (hm2 : m ≤ 1000000000000) (l : List Int) (hl : l.length ≤ 1048576) (d : Nat) : ∀ i, i ≤ l.length → l.length - i = d →
    Ev (fun k => impl_listWithin.l0 k m l (l.length : Int) (i : Int)) (lwB m (l.drop i)) := by
  induction d with
  | zero =>
    intro i h1 h2
    have e : i = l.length := by omega
    subst e
    refine Ev_suc ?_
    simp only [impl_listWithin.l0, Int.lt_irrefl, if_false, List.drop_length, lwB, List.all_nil]
    exact Ev.now _
  | succ d ih =>
    intro i h1 h2
    have hlt : i < l.length := by omega
    rw [drop_cons hlt]
    refine Ev_suc ?_
    have c1 : (i : Int) < (l.length : Int) := by omega
    have c2 : (0 : Int) ≤ (i : Int) := by omega
    have next := ih (i + 1) (by omega) (by omega)
    simp only [impl_listWithin.l0, if_pos c1, if_pos c2, rd_get hlt, lwB, List.all_cons]
    rw [w64 (x := -m) (by omega) (by omega)]
    by_cases h : -m ≤ l[i] ∧ l[i] ≤ m
    · simp only [if_neg (show ¬ l[i] < -m by omega), if_neg (show ¬ l[i] > m by omega), decide_eq_true h, Bool.true_and]
      rw [w64_succ (by omega)]
      exact next
    · simp only [decide_eq_false h, Bool.false_and]
      by_cases h3 : l[i] < -m
      · simp only [if_pos h3]; exact Ev.now _
      · simp only [if_neg h3, if_pos (show l[i] > m by omega)]; exact Ev.now _

theorem impl_listWithin_ev {m : Int} (hm : 0 ≤ m) (hm2 : m ≤ 1000000000000) {l : List Int} (hl : l.length ≤ 1048576) : Ev (fun k => impl_listWithin.f k l m) (lwB m l) := by
  unfold impl_listWithin.f
  have := impl_listWithin_l hm hm2 l hl l.length 0 (by omega) (by omega)
  rw [List.drop_zero] at this
  exact this

theorem ev_place {l : List Int} {i : Nat} (hi : i < l.length) (hl : l.length ≤ 60) : 1 ≤ Nat.gcd (i + 1) l.length ∧ Nat.gcd (i + 1) l.length ≤ l.length :=
  ⟨Nat.gcd_pos_of_pos_left _ (by omega), Nat.gcd_le_right (i + 1) (by omega)⟩

theorem lwB_at {l : List Int} (h : lwB 1000 l = true) {i : Nat} (hi : i < l.length) : -1000 ≤ l.getD i 0 ∧ l.getD i 0 ≤ 1000 := by
  have e : l.getD i 0 = l[i] := by rw [List.getD_eq_getElem?_getD, List.getElem?_eq_getElem hi]; rfl
  have := List.all_eq_true.1 h l[i] (List.getElem_mem hi)
  rw [e]
  exact of_decide_eq_true this

theorem impl_gcd_l : ∀ (b a : Nat), Ev (fun k => impl_gcd.l0 k (a : Int) (b : Int)) ((Nat.gcd a b : Nat) : Int) := by
  intro b
  induction b using Nat.strongRecOn with
  | ind b ih =>
    intro a
    refine Ev_suc ?_
    simp only [impl_gcd.l0]
    by_cases hb : b = 0
    · subst hb
      simp only [Int.natCast_zero, if_true, Nat.gcd_zero_right]
      exact Ev.now _
    · have h : ¬ ((b : Int) = 0) := by omega
      simp only [if_neg h, tmod_nat]
      rw [Nat.gcd_comm a b, Nat.gcd_rec b a, Nat.gcd_comm]
      exact ih (a % b) (Nat.mod_lt _ (by omega)) b

theorem impl_gcd_ev (a b : Nat) : Ev (fun k => impl_gcd.f k (a : Int) (b : Int)) ((Nat.gcd a b : Nat) : Int) := impl_gcd_l b a

theorem impl_EvenOk_l {l : List Int} (hw : lwB 1000 l = true) (h1 : 1 ≤ l.length) (hl : l.length ≤ 60) (d : Nat) : ∀ i, i ≤ l.length → l.length - i = d →
    Ev (fun k => impl_EvenOk.l0 k l l (l.length : Int) (i : Int)) (evF l d i) := by
  induction d with
  | zero =>
    intro i hi hd
    have e : i = l.length := by omega
    subst e
    refine Ev_suc ?_
    simp only [impl_EvenOk.l0, Int.lt_irrefl, if_false, evF]
    exact Ev.now _
  | succ d ih =>
    intro i hi hd
    have hlt : i < l.length := by omega
    refine Ev_suc ?_
    obtain ⟨g1, g2⟩ := ev_place hlt hl
    have next := ih (i + 1) (by omega) (by omega)
    have hb := lwB_at hw hlt
    simp only [impl_EvenOk.l0, if_pos (show (0 : Int) ≤ (i : Int) by omega), if_pos (show (i : Int) < (l.length : Int) by omega), evF]
    rw [w64_succ (by omega)]
    refine Ev.bind (impl_gcd_ev (i + 1) l.length) ?_
    have e2 : wrap64 (((Nat.gcd (i + 1) l.length : Nat) : Int) - 1) = ((Nat.gcd (i + 1) l.length - 1 : Nat) : Int) := by rw [w64 (by omega) (by omega)]; omega
    rw [e2]
    simp only [if_pos (show (0 : Int) ≤ ((Nat.gcd (i + 1) l.length - 1 : Nat) : Int) by omega), if_pos (show ((Nat.gcd (i + 1) l.length - 1 : Nat) : Int) < (l.length : Int) by omega)]
    by_cases he : l.getD i 0 = l.getD (Nat.gcd (i + 1) l.length - 1) 0
    · simp only [if_pos (show rd l (i : Int) = rd l ((Nat.gcd (i + 1) l.length - 1 : Nat) : Int) from he), decide_eq_true (show evAt l i from ⟨hb, he⟩), Bool.true_and]
      exact next
    · simp only [if_neg (show ¬ rd l (i : Int) = rd l ((Nat.gcd (i + 1) l.length - 1 : Nat) : Int) from he), decide_eq_false (show ¬ evAt l i from fun e => he e.2), Bool.false_and]
      exact Ev.now _

theorem evF_within {l : List Int} : ∀ (d i : Nat), i + d = l.length → lwB 1000 (l.drop i) = false → evF l d i = false
  | 0, i, h, hb => by
    rw [show i = l.length by omega, List.drop_length] at hb
    cases hb
  | d + 1, i, h, hb => by
    have hlt : i < l.length := by omega
    rw [drop_cons hlt] at hb
    simp only [lwB, List.all_cons] at hb
    simp only [evF]
    have e : l.getD i 0 = l[i] := by rw [List.getD_eq_getElem?_getD, List.getElem?_eq_getElem hlt]; rfl
    by_cases h0 : -1000 ≤ l[i] ∧ l[i] ≤ 1000
    · rw [decide_eq_true h0, Bool.true_and] at hb
      rw [evF_within d (i + 1) (by omega) hb, Bool.and_false]
    · rw [decide_eq_false (show ¬ evAt l i from fun e' => h0 (by have := e'.1; rw [e] at this; exact this)), Bool.false_and]

theorem impl_EvenOk_ev (l : List Int) : Ev (fun k => impl_EvenOk.f k l) (evI l) := by
  unfold impl_EvenOk.f evI
  by_cases h1 : (l.length : Int) < 1
  · simp only [if_pos h1, decide_eq_false (show ¬ (1 ≤ l.length ∧ l.length ≤ 60) by omega), Bool.false_and]
    exact impl_EvenOk_no l
  by_cases h2 : (l.length : Int) > 60
  · simp only [if_neg h1, if_pos h2, decide_eq_false (show ¬ (1 ≤ l.length ∧ l.length ≤ 60) by omega), Bool.false_and]
    exact impl_EvenOk_no l
  simp only [if_neg h1, if_neg h2, decide_eq_true (show (1 ≤ l.length ∧ l.length ≤ 60) by omega), Bool.true_and]
  refine Ev.bind (impl_listWithin_ev (by omega) (by omega) (by omega)) ?_
  by_cases hw : lwB 1000 l = true
  · simp only [hw, Bool.not_true]
    refine Ev_suc ?_
    simp only [impl_EvenOk.j0, Bool.false_eq_true, if_false]
    exact impl_EvenOk_l hw (by omega) (by omega) l.length 0 (by omega) (by omega)
  · have hw' : lwB 1000 l = false := by simpa using hw
    simp only [hw', Bool.not_false]
    rw [evF_within l.length 0 (by omega) (by rw [List.drop_zero]; exact hw')]
    exact impl_EvenOk_no l

theorem numberOk_eq (a : Int) : impl_numberOk.f a = some (decide (inN a)) := by
  unfold impl_numberOk.f inN
  by_cases h : 1 ≤ a
  · rw [if_pos h]; simp [h]
  · rw [if_neg h]; simp [h]

theorem reverse_l (d : Nat) : ∀ (A M B : List Int), M.length ≤ d → A.length + M.length + B.length ≤ 1000000000 →
    Ev (fun k => slices_Reverse_int_int.l0 k (A ++ M ++ B) (A.length : Int) ((A.length : Int) + (M.length : Int) - 1)) (A ++ M.reverse ++ B) := by
  induction d using Nat.strongRecOn with
  | ind d ih =>
    intro A M B hd hb
    refine Ev_suc ?_
    simp only [slices_Reverse_int_int.l0]
    by_cases h2 : M.length ≤ 1
    · have c0 : ¬ (A.length : Int) < (A.length : Int) + (M.length : Int) - 1 := by omega
      simp only [if_neg c0]
      have e : M.reverse = M := by
        match M, h2 with
        | [], _ => rfl
        | [x], _ => rfl
      rw [e]
      exact Ev.now _
    · match M, h2 with
      | x :: M', h2 =>
        obtain ⟨N, y, rfl⟩ : ∃ N y, M' = N ++ [y] := by
          rcases List.eq_nil_or_concat M' with e | ⟨N, y, e⟩
          · rw [e] at h2; simp at h2
          · exact ⟨N, y, by rw [e, List.concat_eq_append]⟩
        have hl : (x :: (N ++ [y])).length = N.length + 2 := by simp
        rw [hl] at hd hb ⊢
        have e3 : (A.length : Int) + ((N.length + 2 : Nat) : Int) - 1 = ((A.length + (N.length + 1) : Nat) : Int) := by omega
        rw [e3]
        have hlen : (A ++ x :: (N ++ [y]) ++ B).length = A.length + N.length + 2 + B.length := by simp; omega
        have r1 : rd (A ++ x :: (N ++ [y]) ++ B) ((A.length + (N.length + 1) : Nat) : Int) = y := by
          unfold rd
          rw [Int.toNat_natCast, List.getD_eq_getElem?_getD, List.append_assoc, List.getElem?_append_right (by omega), Nat.add_sub_cancel_left]
          simp
        have r2 : rd (A ++ x :: (N ++ [y]) ++ B) (A.length : Int) = x := by
          unfold rd
          rw [Int.toNat_natCast, List.getD_eq_getElem?_getD, List.append_assoc, List.getElem?_append_right (Nat.le_refl _), Nat.sub_self]
          simp
        have hs : ((A ++ x :: (N ++ [y]) ++ B).set A.length y).set (A.length + (N.length + 1)) x = (A ++ [y]) ++ N ++ (x :: B) := by
          simp only [List.append_assoc, List.cons_append]
          rw [List.set_append_right _ _ (Nat.le_refl _), Nat.sub_self, List.set_cons_zero, List.set_append_right _ _ (by omega), Nat.add_sub_cancel_left, List.set_cons_succ,
            List.set_append_right _ _ (Nat.le_refl _), Nat.sub_self]
          simp
        have c1 : (A.length : Int) < ((A.length + (N.length + 1) : Nat) : Int) := by omega
        have c2 : (0 : Int) ≤ ((A.length + (N.length + 1) : Nat) : Int) := by omega
        have c3 : ((A.length + (N.length + 1) : Nat) : Int) < ((A ++ x :: (N ++ [y]) ++ B).length : Int) := by rw [hlen]; omega
        have c4 : (0 : Int) ≤ (A.length : Int) := by omega
        have c5 : (A.length : Int) < ((A ++ x :: (N ++ [y]) ++ B).length : Int) := by rw [hlen]; omega
        have w1 : wrap64 ((A.length : Int) + 1) = ((A ++ [y]).length : Int) := by rw [w64 (by omega) (by omega)]; simp
        have w2 : wrap64 (((A.length + (N.length + 1) : Nat) : Int) - 1) = ((A ++ [y]).length : Int) + (N.length : Int) - 1 := by rw [w64 (by omega) (by omega)]; simp; omega
        simp only [if_pos c1, if_pos c2, if_pos c3, if_pos c4, if_pos c5, r1, r2, Int.toNat_natCast, hs, w1, w2]
        have hres : A ++ (x :: (N ++ [y])).reverse ++ B = (A ++ [y]) ++ N.reverse ++ (x :: B) := by simp
        rw [hres]
        exact ih N.length (by omega) (A ++ [y]) N (x :: B) (Nat.le_refl _) (by simp; omega)

theorem reverse_ev (l : List Int) (h : l.length ≤ 1000000000) : Ev (fun k => slices_Reverse_int_int.f k l) l.reverse := by
  unfold slices_Reverse_int_int.f
  have e := reverse_l l.length [] l [] (Nat.le_refl _) (by simpa using h)
  simp only [List.nil_append, List.append_nil, List.length_nil, Int.natCast_zero, Int.zero_add] at e
  rw [w64 (by omega) (by omega)]
  exact e

theorem impl_divisors_l {n : Nat} (hn : 1 ≤ n) (hn2 : n ≤ 10000) (d : Nat) : ∀ c, c * c ≤ n → n - c = d →
    Ev (fun k => impl_divisors.l0 k (n : Int) (lI (L (dv n) c)) (lI ((L (sm n) c).map (fun d => n / d))) ((c + 1 : Nat) : Int)) (lI (divs n)) := by
  induction d using Nat.strongRecOn with
  | ind d ih =>
    intro c hc hd
    have hcn : c ≤ n := by
      rcases Nat.eq_zero_or_pos c with e | e
      · omega
      · have := Nat.le_mul_of_pos_left c e; omega
    have hsq : (c + 1) * (c + 1) ≤ 100000000000 := by
      have : (c + 1) * (c + 1) ≤ 10001 * 10001 := Nat.mul_le_mul (by omega) (by omega)
      omega
    refine Ev_suc ?_
    simp only [impl_divisors.l0]
    rw [w64_mul (by omega)]
    have l1 : (lI (L (dv n) c)).length < 17592186044416 := by rw [lI_length]; have := L_length_le (dv n) c; omega
    have l2 : (lI ((L (sm n) c).map (fun d => n / d))).length < 17592186044416 := by rw [lI_length, List.length_map]; have := L_length_le (sm n) c; omega
    have hw : wrap64 (((c + 1 : Nat) : Int) + 1) = ((c + 1 + 1 : Nat) : Int) := w64_succ (by omega)
    by_cases h : (c + 1) * (c + 1) ≤ n
    · have c1 : (((c + 1) * (c + 1) : Nat) : Int) ≤ (n : Int) := Int.ofNat_le.2 h
      have c2 : ¬ ((c + 1 : Nat) : Int) = 0 := by omega
      have hcn' : c + 1 ≤ n := by
        have := Nat.le_mul_of_pos_left (c + 1) (show 0 < c + 1 by omega); omega
      have next := ih (n - (c + 1)) (by omega) (c + 1) h rfl
      simp only [if_pos c1, if_neg c2, tmod_nat, hw, w64_div (show n ≤ 9223372036854775807 by omega)]
      by_cases h0 : n % (c + 1) = 0
      · have c3 : ((n % (c + 1) : Nat) : Int) = 0 := by omega
        rw [L_yes (dv_iff.2 h0), lI_append] at next
        simp only [if_pos c3, if_pos l1, Option.bind_some]
        by_cases hs : (c + 1) * (c + 1) < n
        · have c4 : (((c + 1) * (c + 1) : Nat) : Int) < (n : Int) := Int.ofNat_lt.2 hs
          rw [L_yes (sm_iff.2 ⟨h0, hs⟩), List.map_append, lI_append] at next
          simp only [if_pos c4, if_pos l2]
          exact next
        · have c4 : ¬ (((c + 1) * (c + 1) : Nat) : Int) < (n : Int) := fun e => hs (Int.ofNat_lt.1 e)
          rw [L_no (fun e => hs (sm_iff.1 e).2)] at next
          simp only [if_neg c4]
          exact next
      · have c3 : ¬ ((n % (c + 1) : Nat) : Int) = 0 := by omega
        rw [L_no (fun e => h0 (dv_iff.1 e)), L_no (fun e => h0 (sm_iff.1 e).1)] at next
        simp only [if_neg c3]
        exact next
    · have c1 : ¬ (((c + 1) * (c + 1) : Nat) : Int) ≤ (n : Int) := fun e => h (Int.ofNat_le.1 e)
      simp only [if_neg c1]
      refine Ev.bind (reverse_ev _ (by rw [lI_length, List.length_map]; have := L_length_le (sm n) c; omega)) ?_
      have l3 : (lI (L (dv n) c)).length + (lI ((L (sm n) c).map (fun d => n / d))).reverse.length < 17592186044416 := by
        rw [List.length_reverse, lI_length, lI_length, List.length_map]
        have := L_length_le (dv n) c
        have := L_length_le (sm n) c
        omega
      simp only [if_pos l3]
      rw [← divs_pairs hn hc (by omega)]
      have e : lI (L (dv n) c ++ ((L (sm n) c).map (fun d => n / d)).reverse) = lI (L (dv n) c) ++ (lI ((L (sm n) c).map (fun d => n / d))).reverse := by
        rw [lI_append]; simp [lI]
      rw [e]
      exact Ev.now _

theorem impl_divisors_ev {n : Nat} (hn : 1 ≤ n) (hn2 : n ≤ 10000) : Ev (fun k => impl_divisors.f k (n : Int)) (lI (divs n)) :=
  impl_divisors_l hn hn2 n 0 (by omega) rfl

/-- The list of primes as the program has it. -/
def facI (l : List (Nat × Nat)) : List (List Int) := l.map (fun x => [(x.1 : Int), (x.2 : Int)])

theorem impl_fac_l1 {out : List (List Int)} {p : Nat} {r : List (List Int)} (h2 : 2 ≤ p) (hp : p ≤ 10000) (hout : out.length < 5864062014805) : ∀ (left j : Nat), 1 ≤ left → left + j ≤ 20000 →
    (0 < j + (strip p left).2 → Ev (fun k => impl_factors.l0 k ((strip p left).1 : Int) (out ++ [[(p : Int), ((j + (strip p left).2 : Nat) : Int)]]) ((p + 1 : Nat) : Int)) r) →
    (j + (strip p left).2 = 0 → Ev (fun k => impl_factors.l0 k ((strip p left).1 : Int) out ((p + 1 : Nat) : Int)) r) →
    Ev (fun k => impl_factors.l1 k (left : Int) out (p : Int) (j : Int)) r := by
  intro left
  induction left using Nat.strongRecOn with
  | ind left ih =>
    intro j h1 hb hy hn
    refine Ev_suc ?_
    have c1 : ¬ (p : Int) = 0 := by omega
    simp only [impl_factors.l1, if_neg c1, tmod_nat]
    rw [w64_div (show left ≤ 9223372036854775807 by omega), w64_succ (show j < 9223372036854775807 by omega), w64_succ (show p < 9223372036854775807 by omega)]
    by_cases h0 : left % p = 0
    · have c2 : ((left % p : Nat) : Int) = 0 := by omega
      simp only [if_pos c2]
      rw [strip_yes h2 h1 h0] at hy hn
      have hle : left / p ≤ left / 2 := Nat.div_le_div_left h2 (by omega)
      have hlt : left / p < left := Nat.div_lt_self h1 (by omega)
      have hpos : 1 ≤ left / p := div_pos_of (by omega) h1 h0
      have e : j + 1 + (strip p (left / p)).2 = j + ((strip p (left / p)).2 + 1) := by omega
      refine ih (left / p) hlt (j + 1) hpos (by omega) (fun h => ?_) (fun h => by omega)
      rw [e]; exact hy (by simp only; omega)
    · have c2 : ¬ ((left % p : Nat) : Int) = 0 := by omega
      simp only [if_neg c2]
      rw [strip_no h0] at hy hn
      simp only [Nat.add_zero] at hy hn
      by_cases hj : 0 < j
      · have c3 : (j : Int) > 0 := by omega
        simp only [if_pos c3, if_pos hout]
        exact hy hj
      · have c3 : ¬ (j : Int) > 0 := by omega
        simp only [if_neg c3]
        exact hn (by omega)

theorem impl_fac_l0 (d : Nat) : ∀ (left p : Nat) (out : List (List Int)), left + 1 - p = d → 2 ≤ p → 1 ≤ left → left ≤ 10000 → out.length ≤ p → p ≤ 10001 → Rough p left →
    Ev (fun k => impl_factors.l0 k (left : Int) out (p : Int)) (out ++ facI (F p left)) := by
  induction d using Nat.strongRecOn with
  | ind d ih =>
    intro left p out hd h2 h1 hle hout hp hr
    have hsq : p * p ≤ 100000000000 := by
      have : p * p ≤ 10001 * 10001 := Nat.mul_le_mul (by omega) (by omega)
      omega
    refine Ev_suc ?_
    simp only [impl_factors.l0]
    rw [w64_mul (by omega)]
    by_cases hone : left = 1
    · have c1 : ¬ (left : Int) > 1 := by omega
      simp only [if_neg c1]
      rw [F_end (by omega)]
      simp only [facI, List.map_nil, List.append_nil]
      exact Ev.now _
    · have c1 : (left : Int) > 1 := by omega
      simp only [if_pos c1]
      by_cases h : left < p * p
      · have c2 : ((p * p : Nat) : Int) > (left : Int) := Int.ofNat_lt.2 h
        simp only [if_pos c2]
        have hrr := hr.square h
        have hpl : p ≤ left := by
          rcases Nat.lt_or_ge left p with e | e
          · exact absurd (Nat.mod_self left) (hr left (by omega) e)
          · exact e
        rw [F_alone (left - p) p left rfl h2 hpl hrr]
        have hs : strip left left = (1, 1) := by
          rw [strip_yes (by omega) h1 (Nat.mod_self left), Nat.div_self (by omega), strip_no]
          rw [Nat.mod_eq_of_lt (by omega)]; omega
        refine Ev_suc ?_
        simp only [impl_factors.j1]
        refine impl_fac_l1 (by omega) (by omega) (by omega) left 0 h1 (by omega) (fun _ => ?_) (fun e => ?_)
        · rw [hs]
          refine Ev_suc ?_
          have c3 : ¬ ((1 : Nat) : Int) > 1 := by omega
          simp only [impl_factors.l0, if_neg c3]
          exact Ev.now _
        · rw [hs] at e; simp at e
      · have c2 : ¬ ((p * p : Nat) : Int) > (left : Int) := fun e => h (Int.ofNat_lt.1 e)
        simp only [if_neg c2]
        have hpl : p ≤ left := by
          have := Nat.le_mul_of_pos_left p (show 0 < p by omega)
          omega
        refine Ev_suc ?_
        simp only [impl_factors.j1]
        have hs := strip_le p left
        refine impl_fac_l1 h2 (by omega) (by omega) left 0 h1 (by omega) (fun h' => ?_) (fun h' => ?_)
        · rw [Nat.zero_add] at h' ⊢
          have h0 := (strip_pos h2 h1).1 h'
          rw [F_yes hpl h2 h0]
          have e : out ++ facI ((p, (strip p left).2) :: F (p + 1) (strip p left).1) = (out ++ [[(p : Int), ((strip p left).2 : Int)]]) ++ facI (F (p + 1) (strip p left).1) := by simp [facI]
          rw [e]
          exact ih _ (by omega) _ (p + 1) _ rfl (by omega) (strip_spec h2 left h1).2.1 (by omega) (by simp; omega) (by omega) (hr.step h2 h1)
        · rw [Nat.zero_add] at h'
          have h0 : ¬ left % p = 0 := fun e => by have := (strip_pos h2 h1).2 e; omega
          rw [F_no hpl h2 h0, strip_no h0]
          exact ih _ (by omega) left (p + 1) out rfl (by omega) h1 hle (by omega) (by omega) (hr.next h0)

theorem impl_factors_ev {n : Nat} (h1 : 1 ≤ n) (h2 : n ≤ 10000) : Ev (fun k => impl_factors.f k (n : Int)) (facI (facs n)) := by
  have := impl_fac_l0 _ n 2 [] rfl (by omega) h1 h2 (by simp) (by omega) (Rough.two n)
  rw [List.nil_append] at this
  exact this

theorem facs_len' {n : Nat} (h1 : 1 ≤ n) (h2 : n ≤ 10000) : (facs n).length ≤ 1000000 ∧ ∀ x ∈ facs n, 1 ≤ x.2 :=
  ⟨by have := facs_length h1; omega, fun x hx => (facs_bounds h1 x hx).2.2.1⟩

theorem facI_length (l : List (Nat × Nat)) : (facI l).length = l.length := by simp [facI]

theorem facI_get {l : List (Nat × Nat)} {i : Nat} (h : i < l.length) : rd_L2 (facI l) (i : Int) = [(l[i].1 : Int), (l[i].2 : Int)] := by
  unfold rd_L2
  rw [Int.toNat_natCast, List.getD_eq_getElem?_getD, List.getElem?_eq_getElem (by rw [facI_length]; exact h)]
  simp [facI]

theorem rd_1 (a b : Int) : rd [a, b] 1 = b := rfl

theorem impl_sign_l {l : List (Nat × Nat)} (hl : l.length ≤ 1000000) (d : Nat) : ∀ (i : Nat) (acc : Int), i ≤ l.length → l.length - i = d → -1 ≤ acc → acc ≤ 1 →
    Ev (fun k => impl_sign.l0 k acc (facI l) (l.length : Int) (i : Int)) (sgn acc (l.drop i)) := by
  induction d with
  | zero =>
    intro i acc h1 h2 _ _
    have e : i = l.length := by omega
    subst e
    refine Ev_suc ?_
    simp only [impl_sign.l0, Int.lt_irrefl, if_false, List.drop_length, sgn]
    exact Ev.now _
  | succ d ih =>
    intro i acc h1 h2 a1 a2
    have hlt : i < l.length := by omega
    rw [drop_cons hlt]
    simp only [sgn]
    refine Ev_suc ?_
    have c0 : (i : Int) < (l.length : Int) := by omega
    have c1 : (i : Int) < ((facI l).length : Int) := by rw [facI_length]; omega
    have c2 : (0 : Int) ≤ (i : Int) := by omega
    simp only [impl_sign.l0, if_pos c0, if_pos c1, if_pos c2, facI_get hlt, rd_1, List.length_cons, List.length_nil, if_pos (show (1 : Int) < ((0 + 1 + 1 : Nat) : Int) by omega)]
    rw [w64 (x := -acc) (by omega) (by omega), w64_succ (by omega)]
    by_cases h : l[i].2 > 1
    · simp only [if_pos (show (l[i].2 : Int) > 1 by omega), if_pos h]
      exact Ev.now _
    · simp only [if_neg (show ¬ (l[i].2 : Int) > 1 by omega), if_neg h]
      exact ih (i + 1) (-acc) (by omega) (by omega) (by omega) (by omega)

theorem impl_sign_ev {n : Nat} (h1 : 1 ≤ n) (h2 : n ≤ 10000) : Ev (fun k => impl_sign.f k (n : Int)) (sgn 1 (facs n)) := by
  unfold impl_sign.f
  refine Ev.bind (impl_factors_ev h1 h2) ?_
  obtain ⟨f1, f2⟩ := facs_len' h1 h2
  rw [facI_length]
  exact impl_sign_l f1 _ 0 1 (by omega) rfl (by omega) (by omega)

theorem impl_sumFor_l {q g : Nat} (hq : 1 ≤ q) (hq2 : q ≤ 60) (hg : 1 ≤ g) (hgq : q % g = 0) (d : Nat) : ∀ (i : Nat) (acc : Int), i ≤ (divs g).length → (divs g).length - i = d → -100000 + 60 * ((divs g).length - i : Nat) ≤ acc → acc ≤ 100000 - 60 * ((divs g).length - i : Nat) →
    Ev (fun k => impl_sumFor.l0 k (q : Int) acc (lI (divs g)) ((divs g).length : Int) (i : Int)) (acc + sumL (fun d => (d : Int) * sgn 1 (facs (q / d))) ((divs g).drop i)) := by
  have hgle : g ≤ q := Nat.le_of_dvd hq (mod_dvd.1 hgq)
  have hlen : (divs g).length ≤ g := L_length_le _ _
  induction d with
  | zero =>
    intro i acc h1 h2 _ _
    have e : i = (divs g).length := by omega
    subst e
    refine Ev_suc ?_
    simp only [impl_sumFor.l0, Int.lt_irrefl, if_false, List.drop_length, sumL, Int.add_zero]
    exact Ev.now _
  | succ d ih =>
    intro i acc h1 h2 a1 a2
    have hlt : i < (divs g).length := by omega
    rw [drop_cons hlt]
    simp only [sumL]
    obtain ⟨m1, m2, m3⟩ := divs_mem.1 (List.getElem_mem hlt)
    have hdq : (divs g)[i] ∣ q := Nat.dvd_trans (mod_dvd.1 m3) (mod_dvd.1 hgq)
    have hq1 := div_pos_of m1 hq (mod_dvd.2 hdq)
    have hq3 : q / (divs g)[i] ≤ q := Nat.div_le_self _ _
    obtain ⟨s1, s2⟩ := sgn_one (facs (q / (divs g)[i])) 1 (by omega) (by omega)
    have hr : rd (lI (divs g)) (i : Int) = (((divs g)[i] : Nat) : Int) := by rw [rd_get (by rw [lI_length]; exact hlt)]; simp [lI]
    have hm : -60 ≤ (((divs g)[i] : Nat) : Int) * sgn 1 (facs (q / (divs g)[i])) ∧ (((divs g)[i] : Nat) : Int) * sgn 1 (facs (q / (divs g)[i])) ≤ 60 := by
      have key : sgn 1 (facs (q / (divs g)[i])) = -1 ∨ sgn 1 (facs (q / (divs g)[i])) = 0 ∨ sgn 1 (facs (q / (divs g)[i])) = 1 := by omega
      rcases key with e | e | e <;> rw [e] <;> omega
    refine Ev_suc ?_
    simp only [impl_sumFor.l0, lI_length, if_pos (show (i : Int) < ((divs g).length : Int) by omega), if_pos (show (0 : Int) ≤ (i : Int) by omega), hr, if_neg (show ¬ (((divs g)[i] : Nat) : Int) = 0 by omega)]
    rw [w64_div (show q ≤ 9223372036854775807 by omega), w64_succ (by omega)]
    refine Ev.bind (impl_sign_ev hq1 (by omega)) ?_
    rw [w64 (x := (((divs g)[i] : Nat) : Int) * sgn 1 (facs (q / (divs g)[i]))) (by omega) (by omega), w64 (x := acc + _) (by omega) (by omega), ← Int.add_assoc]
    exact ih (i + 1) _ (by omega) (by omega) (by omega) (by omega)

theorem impl_sumFor_ev {q n : Nat} (hq : 1 ≤ q) (hq2 : q ≤ 60) : Ev (fun k => impl_sumFor.f k (q : Int) (n : Int)) (sfV q (Nat.gcd q n)) := by
  unfold impl_sumFor.f
  have hg : 1 ≤ Nat.gcd q n := Nat.gcd_pos_of_pos_left n hq
  have hg2 : Nat.gcd q n ≤ q := Nat.gcd_le_left n hq
  have hlen : (divs (Nat.gcd q n)).length ≤ Nat.gcd q n := L_length_le _ _
  refine Ev.bind (impl_gcd_ev q n) (Ev.bind (impl_divisors_ev hg (by omega)) ?_)
  have := impl_sumFor_l hq hq2 hg (mod_dvd.2 (Nat.gcd_dvd_left q n)) _ 0 0 (by omega) rfl (by omega) (by omega)
  rw [List.drop_zero, Int.zero_add] at this
  rw [lI_length]
  exact this

theorem impl_SumFor_ev {q n : Nat} (hq : 1 ≤ q) (hq2 : q ≤ 60) (hn : 1 ≤ n) (hn2 : n ≤ 10000) : Ev (fun k => impl_SumFor.f k (q : Int) (n : Int)) (sfV q (Nat.gcd q n)) := by
  unfold impl_SumFor.f
  simp only [if_neg (show ¬ (q : Int) < 1 by omega), if_neg (show ¬ (q : Int) > 60 by omega), numberOk_eq, Option.bind_some, decide_eq_true_eq, if_pos (show inN (n : Int) by unfold inN; omega)]
  exact Ev.bind (impl_sumFor_ev hq hq2) (Ev.now _)

/-- A code as it is read: at most 2000 bytes. -/
def Bs (l : List Int) : Prop := l.length ≤ 2000 ∧ ∀ x ∈ l, 0 ≤ x ∧ x ≤ 255

theorem u8_range {x : Int} (h : (Lit.int .u8 x).wf = true) : 0 ≤ x ∧ x ≤ 255 := by
  simp [Lit.wf, IntKind.min, IntKind.max, IntKind.bits, IntKind.signed] at h
  omega

theorem l20Open_ev {l0 : List Int} (h : ∀ x ∈ l0, (Lit.int .u8 x).wf = true) : ∃ l, spec_l20Open.f l0 = some (l, 0) ∧ Bs l := by
  unfold spec_l20Open.f
  by_cases h1 : (l0.length : Int) > 2000
  · refine ⟨l0.take 2000, ?_, ?_, fun x hx => u8_range (h x (List.mem_of_mem_take hx))⟩
    · rw [if_pos h1, if_pos (by omega)]
    · exact List.length_take_le _ _
  · exact ⟨l0, by rw [if_neg h1], by omega, fun x hx => u8_range (h x hx)⟩

theorem rd_byte {l : List Int} (h : Bs l) (i : Int) : 0 ≤ rd l i ∧ rd l i ≤ 255 := by
  unfold rd
  rw [List.getD_eq_getElem?_getD]
  by_cases e : i.toNat < l.length
  · rw [List.getElem?_eq_getElem e]; exact h.2 _ (List.getElem_mem e)
  · rw [List.getElem?_eq_none (by omega)]; simp

theorem tmod_range {a n : Int} (ha : 0 ≤ a) (hn : 1 ≤ n) : 0 ≤ Int.tmod a n ∧ Int.tmod a n < n :=
  ⟨Int.tmod_nonneg _ ha, Int.tmod_lt_of_pos a (by omega)⟩

theorem xor_nonneg {a b : Int} (h1 : 0 ≤ a) (h2 : a < 1099511627776) (h3 : 0 ≤ b) (h4 : b < 1099511627776) : 0 ≤ Go.bits .xor .i64 a b := by
  have e : Go.bits .xor .i64 a b = wrap64 (((BitVec.ofInt 64 a ^^^ BitVec.ofInt 64 b).toNat : Nat) : Int) := i64_w _
  have ha : (BitVec.ofInt 64 a).toNat = a.toNat := by
    rw [BitVec.toNat_ofInt]; omega
  have hb : (BitVec.ofInt 64 b).toNat = b.toNat := by
    rw [BitVec.toNat_ofInt]; omega
  have hx : a.toNat ^^^ b.toNat < 2 ^ 40 := Nat.xor_lt_two_pow (by omega) (by omega)
  rw [e, BitVec.toNat_xor, ha, hb, w64_nat (by omega)]
  omega

theorem pick_ev {l : List Int} (hl : Bs l) {p n : Int} (hp : 0 ≤ p) (hp2 : p ≤ 1000000) (hn : 1 ≤ n) (hn2 : n ≤ 1000000) :
    ∃ v, Ev (fun k => spec_l20Rd_pick.f k l p n) (v, p + 1) ∧ 0 ≤ v ∧ v < n := by
  unfold spec_l20Rd_pick.f
  simp only [if_neg (show ¬ n < 1 by omega)]
  rw [w64 (x := p + 1) (by omega) (by omega)]
  by_cases h0 : (l.length : Int) = 0
  · refine ⟨0, ?_, by omega, by omega⟩
    have e : ((l.length : Int) == 0) = true := by rw [h0]; rfl
    rw [e]
    refine Ev_suc ?_
    simp only [spec_l20Rd_pick.j0, if_true]
    exact Ev.now _
  · have e : ((l.length : Int) == 0) = false := beq_eq_false_iff_ne.2 h0
    have hlen := hl.1
    rw [e]
    by_cases h1 : p < (l.length : Int)
    · have hb := rd_byte hl p
      obtain ⟨t1, t2⟩ := tmod_range (a := rd l p) (n := n) hb.1 hn
      refine ⟨Int.tmod (rd l p) n, ?_, t1, t2⟩
      refine Ev_suc ?_
      simp only [spec_l20Rd_pick.j0, Bool.false_eq_true, if_false]
      rw [w64 (x := p + 1 - 1) (by omega) (by omega), show p + 1 - 1 = p by omega, w64 (x := rd l p) (by omega) (by omega)]
      simp only [if_pos h1, if_pos hp, if_neg (show ¬ n = 0 by omega)]
      exact Ev.now _
    · obtain ⟨pn, rfl⟩ := Int.eq_ofNat_of_zero_le hp
      have hL : 0 < l.length := by omega
      have i1 : Int.tmod (pn : Int) (l.length : Int) = ((pn % l.length : Nat) : Int) := rfl
      have i2 : Int.tmod (wrap64 (wrap64 ((pn : Int) * 7) + 3)) (l.length : Int) = (((pn * 7 + 3) % l.length : Nat) : Int) := by
        rw [w64 (x := (pn : Int) * 7) (by omega) (by omega), w64 (by omega) (by omega)]; rfl
      have i3 : wrap64 (Int.tdiv (pn : Int) (l.length : Int)) = ((pn / l.length : Nat) : Int) := w64_div (by omega)
      have m1 := Nat.mod_lt pn hL
      have m2 := Nat.mod_lt (pn * 7 + 3) hL
      have m3 := Nat.div_le_self pn l.length
      obtain ⟨a1, a2⟩ := rd_byte hl ((pn % l.length : Nat) : Int)
      obtain ⟨b1, b2⟩ := rd_byte hl (((pn * 7 + 3) % l.length : Nat) : Int)
      suffices hs : ∃ v, Ev (fun k => spec_l20Rd_pick.j0 k n false l ((pn : Int) + 1)) (v, (pn : Int) + 1) ∧ 0 ≤ v ∧ v < n from hs
      refine ⟨?v, Ev_suc ?_, ?_⟩
      case refine_1 =>
        simp only [spec_l20Rd_pick.j0, Bool.false_eq_true, if_false]
        rw [w64 (x := (pn : Int) + 1 - 1) (by omega) (by omega), show (pn : Int) + 1 - 1 = (pn : Int) by omega, i1, i2, i3]
        simp only [if_neg h1, if_neg h0, if_neg (show ¬ n = 0 by omega), if_pos (show (0 : Int) ≤ ((pn % l.length : Nat) : Int) by omega), if_pos (show ((pn % l.length : Nat) : Int) < (l.length : Int) by omega), if_pos (show (0 : Int) ≤ (((pn * 7 + 3) % l.length : Nat) : Int) by omega), if_pos (show (((pn * 7 + 3) % l.length : Nat) : Int) < (l.length : Int) by omega)]
        exact Ev.now _
      case refine_2 =>
        clear i3
        generalize pn / l.length = zq at *
        have z : wrap64 (wrap64 (wrap64 (wrap64 (wrap64 (rd l ((pn % l.length : Nat) : Int)) * 131) + wrap64 (wrap64 (rd l (((pn * 7 + 3) % l.length : Nat) : Int)) * 1117)) + wrap64 ((pn : Int) * 29)) + wrap64 ((zq : Int) * 53)) =
            rd l ((pn % l.length : Nat) : Int) * 131 + rd l (((pn * 7 + 3) % l.length : Nat) : Int) * 1117 + (pn : Int) * 29 + (zq : Int) * 53 := by
          generalize rd l ((pn % l.length : Nat) : Int) = x at a1 a2
          generalize rd l (((pn * 7 + 3) % l.length : Nat) : Int) = y at b1 b2
          rw [w64 (x := x) (by omega) (by omega), w64 (x := y) (by omega) (by omega), w64 (x := x * 131) (by omega) (by omega), w64 (x := y * 1117) (by omega) (by omega), w64 (x := (pn : Int) * 29) (by omega) (by omega), w64 (x := (zq : Int) * 53) (by omega) (by omega),
            w64 (x := x * 131 + y * 1117) (by omega) (by omega), w64 (x := x * 131 + y * 1117 + (pn : Int) * 29) (by omega) (by omega), w64 (by omega) (by omega)]
        rw [z]
        generalize hz : rd l ((pn % l.length : Nat) : Int) * 131 + rd l (((pn * 7 + 3) % l.length : Nat) : Int) * 1117 + (pn : Int) * 29 + (zq : Int) * 53 = w at *
        have w1 : 0 ≤ w := by omega
        have w2 : w < 1099511627776 := by omega
        have w3 : wrap64 (Int.tdiv w 64) = w / 64 := by rw [Int.tdiv_eq_ediv_of_nonneg w1, w64 (by omega) (by omega)]
        rw [w3]
        exact tmod_range (xor_nonneg w1 w2 (by omega) (by omega)) hn

theorem l20Odd_ev {l : List Int} (hl : Bs l) {p : Int} (hp : 0 ≤ p) (hp2 : p ≤ 100000) {n : Int} (hn : 1 ≤ n) (hn2 : n ≤ 1000) : ∃ b, Ev (fun k => spec_l20Rd_odd.f k l p n) (b, p + 1) := by
  obtain ⟨v, hv, v0, v1⟩ := pick_ev hl (p := p) (n := n) (by omega) (by omega) (by omega) (by omega)
  refine ⟨v == wrap64 (n - 1), ?_⟩
  unfold spec_l20Rd_odd.f
  simp only [if_pos (show n > 0 by omega)]
  exact Ev.bind hv (Ev.now _)

theorem l20Even_j3 {l : List Int} (hl : Bs l) {row : List Int} (h1 : row.length ≤ 60) (h0 : 0 < row.length) (b : Bool) {p : Int} (hp : 0 ≤ p) (hp2 : p ≤ 1000) : ∃ r q, Ev (fun k => spec_l20Even.j3 k row b l p) (r, q) ∧ r.length ≤ 60 := by
  cases b with
  | false =>
    refine ⟨row, p, Ev_suc ?_, h1⟩
    simp only [spec_l20Even.j3, Bool.false_eq_true, if_false]
    exact Ev.now _
  | true =>
    obtain ⟨i, hi, i0, i1⟩ := pick_ev hl (p := p) (n := (row.length : Int)) (by omega) (by omega) (by omega) (by omega)
    obtain ⟨v, hv, v0, v1⟩ := pick_ev hl (p := p + 1) (n := 2) (by omega) (by omega) (by omega) (by omega)
    refine ⟨row.set i.toNat (wrap64 (5 + wrap64 (v * 2000))), p + 1 + 1, Ev_suc ?_, by rw [List.length_set]; exact h1⟩
    simp only [spec_l20Even.j3, if_true]
    refine Ev.bind hi (Ev.bind hv ?_)
    simp only [if_pos i0, if_pos i1]
    exact Ev.now _

theorem l20Even_j2 {l : List Int} (hl : Bs l) {row : List Int} (h1 : row.length ≤ 60) {p : Int} (hp : 0 ≤ p) (hp2 : p ≤ 900) : ∃ r q, Ev (fun k => spec_l20Even.j2 k row l p) (r, q) ∧ r.length ≤ 60 := by
  by_cases h : (row.length : Int) > 0
  · obtain ⟨b, hb⟩ := l20Odd_ev hl (p := p) (n := 5) hp (by omega) (by omega) (by omega)
    obtain ⟨r, q, hr, hlen⟩ := l20Even_j3 hl h1 (by omega) b (p := p + 1) (by omega) (by omega)
    refine ⟨r, q, Ev_suc ?_, hlen⟩
    simp only [spec_l20Even.j2, if_pos h]
    exact Ev.bind hb hr
  · refine ⟨row, p, Ev_suc ?_, h1⟩
    simp only [spec_l20Even.j2, if_neg h]
    refine Ev_suc ?_
    simp only [spec_l20Even.j3, Bool.false_eq_true, if_false]
    exact Ev.now _

/-- What two numbers share, -1 where one is none. -/
def cmI (a b : Int) : Int := if inN a ∧ inN b then ((Nat.gcd a.toNat b.toNat : Nat) : Int) else -1

theorem l1In_eq (a lo hi : Int) : spec_l1In.f a lo hi = some (decide (lo ≤ a ∧ a ≤ hi)) := by
  unfold spec_l1In.f
  by_cases h : lo ≤ a
  · rw [if_pos h]; simp [h]
  · rw [if_neg h]; simp [h]

theorem spec_CommonOf_l : ∀ (b a : Nat), Ev (fun k => spec_CommonOf.l0 k (a : Int) (b : Int)) ((Nat.gcd a b : Nat) : Int) := by
  intro b
  induction b using Nat.strongRecOn with
  | ind b ih =>
    intro a
    refine Ev_suc ?_
    simp only [spec_CommonOf.l0]
    by_cases hb : b = 0
    · subst hb
      simp only [Int.natCast_zero, gt_iff_lt, Int.lt_irrefl, if_false, Nat.gcd_zero_right]
      exact Ev.now _
    · have h : ¬ ((b : Int) = 0) := by omega
      have h' : (b : Int) > 0 := by omega
      simp only [if_pos h', if_neg h, tmod_nat]
      rw [Nat.gcd_comm a b, Nat.gcd_rec b a, Nat.gcd_comm]
      exact ih (a % b) (Nat.mod_lt _ (by omega)) b

theorem spec_CommonOf_ev (a b : Int) : Ev (fun k => spec_CommonOf.f k a b) (cmI a b) := by
  unfold spec_CommonOf.f cmI inN
  by_cases h1 : 1 ≤ a ∧ a ≤ 10000
  · by_cases h2 : 1 ≤ b ∧ b ≤ 10000
    · obtain ⟨n, rfl, _, _⟩ := inN_nat h1
      obtain ⟨m, rfl, _, _⟩ := inN_nat h2
      simp only [l1In_eq, Option.bind_some, decide_eq_true_eq, if_pos h1, decide_eq_true h2, if_pos (And.intro h1 h2), Int.toNat_natCast, Bool.not_true]
      refine Ev_suc ?_
      simp only [spec_CommonOf.j0, Bool.false_eq_true, if_false]
      exact spec_CommonOf_l m n
    · simp only [l1In_eq, Option.bind_some, decide_eq_true_eq, if_pos h1, decide_eq_false h2, if_neg (fun e : (1 ≤ a ∧ a ≤ 10000) ∧ (1 ≤ b ∧ b ≤ 10000) => h2 e.2), Bool.not_false]
      refine Ev_suc ?_
      simp only [spec_CommonOf.j0, if_true]
      exact Ev.now _
  · simp only [l1In_eq, Option.bind_some, decide_eq_true_eq, if_neg h1, if_neg (fun e : (1 ≤ a ∧ a ≤ 10000) ∧ (1 ≤ b ∧ b ≤ 10000) => h1 e.1)]
    refine Ev_suc ?_
    simp only [spec_CommonOf.j0, if_true]
    exact Ev.now _

theorem cmI_nat {a b : Nat} (h1 : 1 ≤ a) (h2 : a ≤ 10000) (h3 : 1 ≤ b) (h4 : b ≤ 10000) : cmI a b = ((Nat.gcd a b : Nat) : Int) := by
  unfold cmI inN
  rw [if_pos (by omega)]; rfl

theorem l20Even_l1 {l : List Int} (hl : Bs l) {n : Nat} (hn : 1 ≤ n) {vals : List Int} (hv : vals.length = n + 1) {p : Int} (hp : 0 ≤ p) (hp2 : p ≤ 900) (d : Nat) : ∀ (c : Nat) (row : List Int), c ≤ n → n - c = d → row.length ≤ c → row.length ≤ 60 →
    ∃ r q, Ev (fun k => spec_l20Even.l1 k (n : Int) vals row ((c + 1 : Nat) : Int) l p) (r, q) ∧ r.length ≤ 60 := by
  induction d with
  | zero =>
    intro c row h1 h2 h3 h4
    obtain ⟨r, q, hr, hlen⟩ := l20Even_j2 hl h4 hp hp2
    refine ⟨r, q, Ev_suc ?_, hlen⟩
    simp only [spec_l20Even.l1, if_neg (show ¬ ((c + 1 : Nat) : Int) ≤ (n : Int) by omega)]
    exact hr
  | succ d ih =>
    intro c row h1 h2 h3 h4
    by_cases h60 : n ≤ 60
    · obtain ⟨r, q, hr, hlen⟩ := ih (c + 1) (row ++ [rd vals ((Nat.gcd (c + 1) n : Nat) : Int)]) (by omega) (by omega) (by simp; omega) (by simp; omega)
      have hg := Nat.gcd_le_right (c + 1) (show 0 < n by omega)
      refine ⟨r, q, Ev_suc ?_, hlen⟩
      simp only [spec_l20Even.l1, if_pos (show ((c + 1 : Nat) : Int) ≤ (n : Int) by omega), if_pos (show (n : Int) ≤ 60 by omega)]
      refine Ev.bind (spec_CommonOf_ev _ _) ?_
      rw [cmI_nat (by omega) (by omega) hn (by omega), w64_succ (by omega)]
      simp only [if_pos (show (0 : Int) ≤ ((Nat.gcd (c + 1) n : Nat) : Int) by omega), if_pos (show ((Nat.gcd (c + 1) n : Nat) : Int) < (vals.length : Int) by omega), if_pos (show row.length < 17592186044416 by omega)]
      exact hr
    · obtain ⟨r, q, hr, hlen⟩ := l20Even_j2 hl h4 hp hp2
      refine ⟨r, q, Ev_suc ?_, hlen⟩
      simp only [spec_l20Even.l1, if_pos (show ((c + 1 : Nat) : Int) ≤ (n : Int) by omega), if_neg (show ¬ (n : Int) ≤ 60 by omega)]
      exact hr

theorem l20Even_l0 {l : List Int} (hl : Bs l) {n : Nat} (hn : 1 ≤ n) (hn2 : n ≤ 64) (d : Nat) : ∀ (c : Nat) (vals : List Int) (p : Int), c ≤ n + 1 → n + 1 - c = d → vals.length = c → 0 ≤ p → p ≤ 100 + c →
    ∃ r q, Ev (fun k => spec_l20Even.l0 k (n : Int) vals (c : Int) l p) (r, q) ∧ r.length ≤ 60 := by
  induction d with
  | zero =>
    intro c vals p h1 h2 h3 hp hp2
    obtain ⟨r, q, hr, hlen⟩ := l20Even_l1 hl hn (vals := vals) (by omega) hp (by omega) n 0 [] (by omega) (by omega) (by simp) (by simp)
    refine ⟨r, q, Ev_suc ?_, hlen⟩
    simp only [spec_l20Even.l0, if_neg (show ¬ (c : Int) ≤ (n : Int) by omega)]
    exact hr
  | succ d ih =>
    intro c vals p h1 h2 h3 hp hp2
    obtain ⟨v, hv, v0, v1⟩ := pick_ev hl (p := p) (n := 9) (by omega) (by omega) (by omega) (by omega)
    obtain ⟨r, q, hr, hlen⟩ := ih (c + 1) (vals ++ [wrap64 (v - 4)]) (p + 1) (by omega) (by omega) (by simp; omega) (by omega) (by omega)
    refine ⟨r, q, Ev_suc ?_, hlen⟩
    simp only [spec_l20Even.l0, if_pos (show (c : Int) ≤ (n : Int) by omega)]
    rw [w64_succ (by omega)]
    refine Ev.bind hv ?_
    simp only [if_pos (show vals.length < 17592186044416 by omega)]
    exact hr

theorem DrawEvenOk_ev {l0 : List Int} (h : ∀ x ∈ l0, (Lit.int .u8 x).wf = true) : ∃ row, Ev (fun k => spec_DrawEvenOk.f k l0) row ∧ row.length ≤ 60 := by
  obtain ⟨l, e, hl⟩ := l20Open_ev h
  obtain ⟨a, ha, a0, a1⟩ := pick_ev hl (p := 0) (n := 24) (by omega) (by omega) (by omega) (by omega)
  obtain ⟨b, hb, b0, b1⟩ := pick_ev hl (p := 0 + 1) (n := 20) (by omega) (by omega) (by omega) (by omega)
  have hn : ∃ n : Nat, wrap64 (wrap64 (1 + a) + wrap64 (wrap64 (Int.tdiv b 19) * 40)) = (n : Int) ∧ 1 ≤ n ∧ n ≤ 64 := by
    rw [Int.tdiv_eq_ediv_of_nonneg b0, w64 (x := 1 + a) (by omega) (by omega), w64 (x := b / 19) (by omega) (by omega), w64 (x := b / 19 * 40) (by omega) (by omega), w64 (by omega) (by omega)]
    exact ⟨(1 + a + b / 19 * 40).toNat, by omega, by omega, by omega⟩
  obtain ⟨n, en, n1, n2⟩ := hn
  obtain ⟨r, q, hr, hlen⟩ := l20Even_l0 hl n1 n2 _ 0 [] (0 + 1 + 1) (by omega) rfl rfl (by omega) (by omega)
  refine ⟨r, ?_, hlen⟩
  unfold spec_DrawEvenOk.f spec_l20Even.f
  rw [e]
  simp only [Option.bind_some]
  refine Ev.bind (a := (r, q)) (Ev.bind ha (Ev.bind hb ?_)) (Ev.now _)
  dsimp only
  rw [en]
  exact hr

theorem spec_EvenOk_l {l : List Int} (h1 : 1 ≤ l.length) (hl : l.length ≤ 60) (d : Nat) : ∀ i, i ≤ l.length → l.length - i = d →
    Ev (fun k => spec_EvenOk.l0 k l ((i + 1 : Nat) : Int)) (evF l d i) := by
  induction d with
  | zero =>
    intro i hi hd
    have e : i = l.length := by omega
    subst e
    refine Ev_suc ?_
    simp only [spec_EvenOk.l0, if_neg (show ¬ ((l.length + 1 : Nat) : Int) ≤ (l.length : Int) by omega)]
    refine Ev_suc ?_
    simp only [spec_EvenOk.j1, Bool.false_eq_true, if_false, l1In_eq, Option.bind_some, decide_eq_true (show (1 : Int) ≤ (l.length : Int) ∧ (l.length : Int) ≤ 60 by omega), evF]
    exact Ev.now _
  | succ d ih =>
    intro i hi hd
    have hlt : i < l.length := by omega
    refine Ev_suc ?_
    simp only [spec_EvenOk.l0, if_pos (show ((i + 1 : Nat) : Int) ≤ (l.length : Int) by omega), decide_eq_true (show (l.length : Int) ≤ 60 by omega)]
    refine Ev_suc ?_
    have e1 : wrap64 (((i + 1 : Nat) : Int) - 1) = (i : Int) := by rw [w64 (by omega) (by omega)]; omega
    obtain ⟨g1, g2⟩ := ev_place hlt hl
    simp only [spec_EvenOk.j1, if_true, e1, if_pos (show (0 : Int) ≤ (i : Int) by omega), if_pos (show (i : Int) < (l.length : Int) by omega), l1In_eq, Option.bind_some, decide_eq_true_eq, evF]
    have next := ih (i + 1) (by omega) (by omega)
    by_cases hb : -1000 ≤ l.getD i 0 ∧ l.getD i 0 ≤ 1000
    · simp only [if_pos (show -1000 ≤ rd l (i : Int) ∧ rd l (i : Int) ≤ 1000 from hb)]
      refine Ev.bind (spec_CommonOf_ev _ _) ?_
      rw [cmI_nat (by omega) (by omega) h1 (by omega)]
      have e2 : wrap64 (((Nat.gcd (i + 1) l.length : Nat) : Int) - 1) = ((Nat.gcd (i + 1) l.length - 1 : Nat) : Int) := by rw [w64 (by omega) (by omega)]; omega
      rw [e2, w64_succ (by omega)]
      simp only [if_pos (show (0 : Int) ≤ ((Nat.gcd (i + 1) l.length - 1 : Nat) : Int) by omega), if_pos (show ((Nat.gcd (i + 1) l.length - 1 : Nat) : Int) < (l.length : Int) by omega)]
      by_cases he : l.getD i 0 = l.getD (Nat.gcd (i + 1) l.length - 1) 0
      · simp only [if_pos (show rd l (i : Int) = rd l ((Nat.gcd (i + 1) l.length - 1 : Nat) : Int) from he), decide_eq_true (show evAt l i from ⟨hb, he⟩), Bool.true_and]
        exact next
      · simp only [if_neg (show ¬ rd l (i : Int) = rd l ((Nat.gcd (i + 1) l.length - 1 : Nat) : Int) from he), decide_eq_false (show ¬ evAt l i from fun e => he e.2), Bool.false_and]
        exact Ev.now _
    · simp only [if_neg (show ¬ (-1000 ≤ rd l (i : Int) ∧ rd l (i : Int) ≤ 1000) from hb), decide_eq_false (show ¬ evAt l i from fun e => hb e.1), Bool.false_and]
      exact Ev.now _

theorem spec_EvenOk_ev (l : List Int) : Ev (fun k => spec_EvenOk.f k l) (evI l) := by
  unfold spec_EvenOk.f evI
  by_cases h : 1 ≤ l.length ∧ l.length ≤ 60
  · rw [decide_eq_true h, Bool.true_and]
    exact spec_EvenOk_l h.1 h.2 l.length 0 (by omega) (by omega)
  · rw [decide_eq_false h, Bool.false_and]
    refine Ev_suc ?_
    have hj : Ev (fun k => spec_EvenOk.j1 k l 1 false) false := by
      refine Ev_suc ?_
      simp only [spec_EvenOk.j1, Bool.false_eq_true, if_false, l1In_eq, Option.bind_some, decide_eq_false (show ¬ ((1 : Int) ≤ (l.length : Int) ∧ (l.length : Int) ≤ 60) by omega)]
      exact Ev.now _
    by_cases h1 : (1 : Int) ≤ (l.length : Int)
    · simp only [spec_EvenOk.l0, if_pos h1, decide_eq_false (show ¬ (l.length : Int) ≤ 60 by omega)]
      exact hj
    · simp only [spec_EvenOk.l0, if_neg h1]
      exact hj

/-- Does a number divide another one, both from 1 up to the greatest number? -/
def dvI (d n : Int) : Bool := decide (inN d ∧ inN n ∧ n.toNat % d.toNat = 0)

theorem impl_DividesOk_eq (d n : Int) : impl_DividesOk.f d n = some (dvI d n) := by
  unfold impl_DividesOk.f dvI
  by_cases h1 : inN d
  · by_cases h2 : inN n
    · obtain ⟨a, rfl, _, _⟩ := inN_nat h1
      obtain ⟨b, rfl, _, _⟩ := inN_nat h2
      have h0 : ¬ ((a : Int) = 0) := by omega
      simp only [numberOk_eq, Option.bind_some, decide_eq_true_eq, if_pos h1, if_pos h2, if_neg h0, tmod_nat, Int.toNat_natCast, h1, h2, true_and]
      congr 1
      by_cases e : b % a = 0
      · simp [e]
      · simp [e]; omega
    · simp only [numberOk_eq, Option.bind_some, decide_eq_true_eq, if_pos h1, if_neg h2]
      simp [h2]
  · simp only [numberOk_eq, Option.bind_some, decide_eq_true_eq, if_neg h1]
    simp [h1]

theorem alive_eq : laws_alive.f = some true := by
  unfold laws_alive.f
  rw [impl_DividesOk_eq, impl_DividesOk_eq]
  rfl

theorem evF_all {l : List Int} : ∀ (d i : Nat), (∀ j, i ≤ j → j < i + d → evAt l j) → evF l d i = true
  | 0, _, _ => rfl
  | d + 1, i, h => by
    simp only [evF]
    rw [decide_eq_true (h i (by omega) (by omega)), evF_all d (i + 1) (fun j h1 h2 => h j (by omega) (by omega))]
    rfl
theorem evI_all {l : List Int} (h1 : 1 ≤ l.length) (h2 : l.length ≤ 60) (h : ∀ j, j < l.length → evAt l j) : evI l = true := by
  unfold evI
  rw [decide_eq_true ⟨h1, h2⟩, evF_all l.length 0 (fun j _ hj => h j (by omega))]
  rfl
/-- The row of sums up to c. -/
def sumsL (q c : Nat) : List Int := (List.range c).map (fun i => sfV q (Nat.gcd q (i + 1)))
theorem sumsL_length (q c : Nat) : (sumsL q c).length = c := by simp [sumsL]
theorem sumsL_get {q c i : Nat} (h : i < c) : (sumsL q c).getD i 0 = sfV q (Nat.gcd q (i + 1)) := by
  rw [List.getD_eq_getElem?_getD, List.getElem?_eq_getElem (by rw [sumsL_length]; exact h)]
  simp [sumsL]
theorem sumsL_succ (q c : Nat) : sumsL q (c + 1) = sumsL q c ++ [sfV q (Nat.gcd q (c + 1))] := by simp [sumsL, List.range_succ]
theorem sums_even {q : Nat} (h1 : 1 ≤ q) (h2 : q ≤ 60) : evI (sumsL q q) = true := by
  refine evI_all (by rw [sumsL_length]; exact h1) (by rw [sumsL_length]; exact h2) (fun j hj => ?_)
  rw [sumsL_length] at hj
  have g1 : 1 ≤ Nat.gcd (j + 1) q := Nat.gcd_pos_of_pos_left _ (by omega)
  have g2 : Nat.gcd (j + 1) q ≤ q := Nat.gcd_le_right (j + 1) (show 0 < q by omega)
  have g3 : Nat.gcd q (j + 1) ≤ 60 := by have := Nat.gcd_le_left (j + 1) (show 0 < q by omega); omega
  unfold evAt
  rw [sumsL_length, sumsL_get hj, sumsL_get (show Nat.gcd (j + 1) q - 1 < q by omega), show Nat.gcd (j + 1) q - 1 + 1 = Nat.gcd (j + 1) q by omega]
  refine ⟨sfV_small q g3, ?_⟩
  congr 1
  rw [Nat.gcd_comm (j + 1) q, ← Nat.gcd_assoc, Nat.gcd_self]
theorem zeros_even {q : Nat} (h1 : 1 ≤ q) (h2 : q ≤ 60) : evI (List.replicate q 0) = true := by
  have hz : ∀ i : Nat, (List.replicate q (0 : Int)).getD i 0 = 0 := by
    intro i
    rw [List.getD_eq_getElem?_getD, List.getElem?_replicate]
    split <;> rfl
  refine evI_all (by simpa using h1) (by simpa using h2) (fun j hj => ?_)
  unfold evAt
  rw [hz, hz]
  exact ⟨by omega, rfl⟩
theorem ev_l {row : List Int} (h1 : 1 ≤ row.length) (h2 : row.length ≤ 60) (d : Nat) : ∀ c : Nat, c ≤ row.length → row.length - c = d →
    Ev (fun k => laws_FnEvenOk.l0 k row (sumsL row.length c) ((c + 1 : Nat) : Int)) true := by
  induction d with
  | zero =>
    intro c hc hd
    have e : c = row.length := by omega
    subst e
    refine Ev_suc ?_
    simp only [laws_FnEvenOk.l0, if_neg (show ¬ ((row.length + 1 : Nat) : Int) ≤ (row.length : Int) by omega)]
    refine Ev.bind (impl_EvenOk_ev _) ?_
    rw [sums_even h1 h2]
    simp only [if_true, if_pos (show (0 : Int) ≤ (row.length : Int) by omega), Int.toNat_natCast, if_pos (show row.length ≤ 35184372088832 by omega)]
    refine Ev.bind (impl_EvenOk_ev _) ?_
    rw [zeros_even h1 h2]
    exact Ev.now _
  | succ d ih =>
    intro c hc hd
    have next := ih (c + 1) (by omega) (by omega)
    rw [sumsL_succ] at next
    refine Ev_suc ?_
    simp only [laws_FnEvenOk.l0, if_pos (show ((c + 1 : Nat) : Int) ≤ (row.length : Int) by omega)]
    refine Ev.bind (impl_SumFor_ev h1 h2 (by omega) (by omega)) ?_
    rw [w64_succ (by omega)]
    simp only [sumsL_length, if_pos (show c < 17592186044416 by omega)]
    exact next
theorem FnEvenOk : laws_FnEvenOk.Pure := by
  intro l0 _ _ hu
  refine Ev.rounds (r := true) ?_
  unfold laws_FnEvenOk.f
  by_cases hlen : (l0.length : Int) > 1048576
  · simp only [if_pos hlen]; exact Ev.now _
  simp only [if_neg hlen]
  obtain ⟨row, hd, hrow⟩ := DrawEvenOk_ev hu
  refine Ev.bind hd (Ev.bind (impl_EvenOk_ev row) (Ev.bind (spec_EvenOk_ev row) ?_))
  simp only [bne_self_eq_false, Bool.false_eq_true, if_false]
  by_cases h1 : (row.length : Int) < 1
  · have e : evI row = false := by
      unfold evI
      rw [decide_eq_false (show ¬ (1 ≤ row.length ∧ row.length ≤ 60) by omega)]
      rfl
    simp only [if_pos h1]
    refine Ev_suc ?_
    simp only [laws_FnEvenOk.j0, if_true, e, Bool.false_eq_true, if_false, alive_eq, Option.bind_some]
    exact Ev.now _
  · simp only [if_neg h1, decide_eq_false (show ¬ (row.length : Int) > 60 by omega)]
    refine Ev_suc ?_
    simp only [laws_FnEvenOk.j0, Bool.false_eq_true, if_false]
    have := ev_l (row := row) (by omega) hrow row.length 0 (by omega) (by omega)
    exact this

end Go.Proofs.Ytplnpkagamnodaa.Pure
