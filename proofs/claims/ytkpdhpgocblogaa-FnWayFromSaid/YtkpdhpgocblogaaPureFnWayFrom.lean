/- The program's WayFrom answers as the reference's; each number but the first is the proper sum of the one before and none is told twice, perfect numbers are alone and friends are two: for every code. No conditions. -/
import Derived.Test.YtkpdhpgocblogaaPFnWayFromx6
import Derived.Test.YtkpdhpgocblogaaEvs
import Derived.Test.YtkpdhpgocblogaaEuler
import Derived.Test.YtkpdhpgocblogaaMul
namespace Go.Proofs.Ytkpdhpgocblogaa.Pure
open Go.RowKit Go.Proofs.Ytkpdhpgocblogaa.PFnWayFrom Go.Proofs.YtkpdhpgocblogaaW.PrintWords Go.Proofs.YtkpdhpgocblogaaW.PrintLast Go.Proofs.YtkpdhpgocblogaaW.PrintMore Go.Proofs.Ytkpdhpgocblogaa.Math
set_option linter.unusedVariables false
set_option linter.unusedSimpArgs false

/-- The sum of all divisors but the number itself. -/
def propI (a : Int) : Int := if inN a then D (fun d => (d : Int)) a.toNat - a else -1

/-- The way by proper sums, d numbers more at most. -/
def wayF : Nat → List Int → Int → List Int
  | 0, out, _ => out
  | d + 1, out, a => if inN a ∧ ¬ a ∈ out then wayF d (out ++ [a]) (propI a) else out

def wayI (a : Int) : List Int := wayF 30 [] a

/-- The answer of FriendOf. -/
def frI (a : Int) : Int × Bool := if propI a < 1 then (-1, false) else if propI a = a then (-1, false) else if propI (propI a) = a then (propI a, true) else (-1, false)

theorem propI_no {a : Int} (h : ¬ inN a) : propI a = -1 := by unfold propI; rw [if_neg h]

theorem propI_bad {a : Int} (h : ¬ inN (propI a)) : frI a = (-1, false) := by
  unfold frI
  by_cases h1 : propI a < 1
  · rw [if_pos h1]
  · rw [if_neg h1]
    by_cases h2 : propI a = a
    · rw [if_pos h2]
    · rw [if_neg h2]
      by_cases h3 : propI (propI a) = a
      · rw [propI_no h] at h3
        rw [← h3, propI_no (by unfold inN; omega)] at h1
        omega
      · rw [if_neg h3]

theorem numberOk_eq (a : Int) : impl_numberOk.f a = some (decide (inN a)) := by
  unfold impl_numberOk.f inN
  by_cases h : 1 ≤ a
  · rw [if_pos h]; simp [h]
  · rw [if_neg h]; simp [h]

theorem reverse_l (d : Nat) : ∀ (A M B : List Int), M.length ≤ d → A.length + M.length + B.length ≤ 1000000000 →
    Ev (fun k => slices_Reverse_int_int.l0 k (A ++ M ++ B) (A.length : Int) ((A.length : Int) + (M.length : Int) - 1)) (A ++ M.reverse ++ B) := by
  induction d using Nat.strongRecOn with
  | ind d ih =>
    intro A M B hd hb
    refine Ev_suc ?_
    simp only [slices_Reverse_int_int.l0]
    by_cases h2 : M.length ≤ 1
    · have c0 : ¬ (A.length : Int) < (A.length : Int) + (M.length : Int) - 1 := by omega
      simp only [if_neg c0]
      have e : M.reverse = M := by
        match M, h2 with
        | [], _ => rfl
        | [x], _ => rfl
      rw [e]
      exact Ev.now _
    · match M, h2 with
      | x :: M', h2 =>
        obtain ⟨N, y, rfl⟩ : ∃ N y, M' = N ++ [y] := by
          rcases List.eq_nil_or_concat M' with e | ⟨N, y, e⟩
          · rw [e] at h2; simp at h2
          · exact ⟨N, y, by rw [e, List.concat_eq_append]⟩
        have hl : (x :: (N ++ [y])).length = N.length + 2 := by simp
        rw [hl] at hd hb ⊢
        have e3 : (A.length : Int) + ((N.length + 2 : Nat) : Int) - 1 = ((A.length + (N.length + 1) : Nat) : Int) := by omega
        rw [e3]
        have hlen : (A ++ x :: (N ++ [y]) ++ B).length = A.length + N.length + 2 + B.length := by simp; omega
        have r1 : rd (A ++ x :: (N ++ [y]) ++ B) ((A.length + (N.length + 1) : Nat) : Int) = y := by
          unfold rd
          rw [Int.toNat_natCast, List.getD_eq_getElem?_getD, List.append_assoc, List.getElem?_append_right (by omega), Nat.add_sub_cancel_left]
          simp
        have r2 : rd (A ++ x :: (N ++ [y]) ++ B) (A.length : Int) = x := by
          unfold rd
          rw [Int.toNat_natCast, List.getD_eq_getElem?_getD, List.append_assoc, List.getElem?_append_right (Nat.le_refl _), Nat.sub_self]
          simp
        have hs : ((A ++ x :: (N ++ [y]) ++ B).set A.length y).set (A.length + (N.length + 1)) x = (A ++ [y]) ++ N ++ (x :: B) := by
          simp only [List.append_assoc, List.cons_append]
          rw [List.set_append_right _ _ (Nat.le_refl _), Nat.sub_self, List.set_cons_zero, List.set_append_right _ _ (by omega), Nat.add_sub_cancel_left, List.set_cons_succ,
            List.set_append_right _ _ (Nat.le_refl _), Nat.sub_self]
          simp
        have c1 : (A.length : Int) < ((A.length + (N.length + 1) : Nat) : Int) := by omega
        have c2 : (0 : Int) ≤ ((A.length + (N.length + 1) : Nat) : Int) := by omega
        have c3 : ((A.length + (N.length + 1) : Nat) : Int) < ((A ++ x :: (N ++ [y]) ++ B).length : Int) := by rw [hlen]; omega
        have c4 : (0 : Int) ≤ (A.length : Int) := by omega
        have c5 : (A.length : Int) < ((A ++ x :: (N ++ [y]) ++ B).length : Int) := by rw [hlen]; omega
        have w1 : wrap64 ((A.length : Int) + 1) = ((A ++ [y]).length : Int) := by rw [w64 (by omega) (by omega)]; simp
        have w2 : wrap64 (((A.length + (N.length + 1) : Nat) : Int) - 1) = ((A ++ [y]).length : Int) + (N.length : Int) - 1 := by rw [w64 (by omega) (by omega)]; simp; omega
        simp only [if_pos c1, if_pos c2, if_pos c3, if_pos c4, if_pos c5, r1, r2, Int.toNat_natCast, hs, w1, w2]
        have hres : A ++ (x :: (N ++ [y])).reverse ++ B = (A ++ [y]) ++ N.reverse ++ (x :: B) := by simp
        rw [hres]
        exact ih N.length (by omega) (A ++ [y]) N (x :: B) (Nat.le_refl _) (by simp; omega)

theorem reverse_ev (l : List Int) (h : l.length ≤ 1000000000) : Ev (fun k => slices_Reverse_int_int.f k l) l.reverse := by
  unfold slices_Reverse_int_int.f
  have e := reverse_l l.length [] l [] (Nat.le_refl _) (by simpa using h)
  simp only [List.nil_append, List.append_nil, List.length_nil, Int.natCast_zero, Int.zero_add] at e
  rw [w64 (by omega) (by omega)]
  exact e

theorem impl_divisors_l {n : Nat} (hn : 1 ≤ n) (hn2 : n ≤ 10000) (d : Nat) : ∀ c, c * c ≤ n → n - c = d →
    Ev (fun k => impl_divisors.l0 k (n : Int) (lI (L (dv n) c)) (lI ((L (sm n) c).map (fun d => n / d))) ((c + 1 : Nat) : Int)) (lI (divs n)) := by
  induction d using Nat.strongRecOn with
  | ind d ih =>
    intro c hc hd
    have hcn : c ≤ n := by
      rcases Nat.eq_zero_or_pos c with e | e
      · omega
      · have := Nat.le_mul_of_pos_left c e; omega
    have hsq : (c + 1) * (c + 1) ≤ 100000000000 := by
      have : (c + 1) * (c + 1) ≤ 10001 * 10001 := Nat.mul_le_mul (by omega) (by omega)
      omega
    refine Ev_suc ?_
    simp only [impl_divisors.l0]
    rw [w64_mul (by omega)]
    have l1 : (lI (L (dv n) c)).length < 17592186044416 := by rw [lI_length]; have := L_length_le (dv n) c; omega
    have l2 : (lI ((L (sm n) c).map (fun d => n / d))).length < 17592186044416 := by rw [lI_length, List.length_map]; have := L_length_le (sm n) c; omega
    have hw : wrap64 (((c + 1 : Nat) : Int) + 1) = ((c + 1 + 1 : Nat) : Int) := w64_succ (by omega)
    by_cases h : (c + 1) * (c + 1) ≤ n
    · have c1 : (((c + 1) * (c + 1) : Nat) : Int) ≤ (n : Int) := Int.ofNat_le.2 h
      have c2 : ¬ ((c + 1 : Nat) : Int) = 0 := by omega
      have hcn' : c + 1 ≤ n := by
        have := Nat.le_mul_of_pos_left (c + 1) (show 0 < c + 1 by omega); omega
      have next := ih (n - (c + 1)) (by omega) (c + 1) h rfl
      simp only [if_pos c1, if_neg c2, tmod_nat, hw, w64_div (show n ≤ 9223372036854775807 by omega)]
      by_cases h0 : n % (c + 1) = 0
      · have c3 : ((n % (c + 1) : Nat) : Int) = 0 := by omega
        rw [L_yes (dv_iff.2 h0), lI_append] at next
        simp only [if_pos c3, if_pos l1, Option.bind_some]
        by_cases hs : (c + 1) * (c + 1) < n
        · have c4 : (((c + 1) * (c + 1) : Nat) : Int) < (n : Int) := Int.ofNat_lt.2 hs
          rw [L_yes (sm_iff.2 ⟨h0, hs⟩), List.map_append, lI_append] at next
          simp only [if_pos c4, if_pos l2]
          exact next
        · have c4 : ¬ (((c + 1) * (c + 1) : Nat) : Int) < (n : Int) := fun e => hs (Int.ofNat_lt.1 e)
          rw [L_no (fun e => hs (sm_iff.1 e).2)] at next
          simp only [if_neg c4]
          exact next
      · have c3 : ¬ ((n % (c + 1) : Nat) : Int) = 0 := by omega
        rw [L_no (fun e => h0 (dv_iff.1 e)), L_no (fun e => h0 (sm_iff.1 e).1)] at next
        simp only [if_neg c3]
        exact next
    · have c1 : ¬ (((c + 1) * (c + 1) : Nat) : Int) ≤ (n : Int) := fun e => h (Int.ofNat_le.1 e)
      simp only [if_neg c1]
      refine Ev.bind (reverse_ev _ (by rw [lI_length, List.length_map]; have := L_length_le (sm n) c; omega)) ?_
      have l3 : (lI (L (dv n) c)).length + (lI ((L (sm n) c).map (fun d => n / d))).reverse.length < 17592186044416 := by
        rw [List.length_reverse, lI_length, lI_length, List.length_map]
        have := L_length_le (dv n) c
        have := L_length_le (sm n) c
        omega
      simp only [if_pos l3]
      rw [← divs_pairs hn hc (by omega)]
      have e : lI (L (dv n) c ++ ((L (sm n) c).map (fun d => n / d)).reverse) = lI (L (dv n) c) ++ (lI ((L (sm n) c).map (fun d => n / d))).reverse := by
        rw [lI_append]; simp [lI]
      rw [e]
      exact Ev.now _

theorem impl_divisors_ev {n : Nat} (hn : 1 ≤ n) (hn2 : n ≤ 10000) : Ev (fun k => impl_divisors.f k (n : Int)) (lI (divs n)) :=
  impl_divisors_l hn hn2 n 0 (by omega) rfl

theorem impl_sum_l {l : List Nat} (hl : l.length ≤ 1000000) (d : Nat) : ∀ (i : Nat) (acc : Int), l.length - i = d → i ≤ l.length → 0 ≤ acc → acc + sumL (fun x => (x : Int)) (l.drop i) ≤ 1000000000000000 →
    Ev (fun k => impl_sum.l0 k acc (lI l) (l.length : Int) (i : Int)) (acc + sumL (fun x => (x : Int)) (l.drop i)) := by
  induction d with
  | zero =>
    intro i acc hd hi _ _
    have e : i = l.length := by omega
    subst e
    refine Ev_suc ?_
    simp only [impl_sum.l0, Int.lt_irrefl, if_false, List.drop_length, sumL, Int.add_zero]
    exact Ev.now _
  | succ d ih =>
    intro i acc hd hi h0 hb
    have hlt : i < l.length := by omega
    have hlt' : i < (lI l).length := by rw [lI_length]; exact hlt
    have hr : rd (lI l) (i : Int) = ((l[i] : Nat) : Int) := by rw [rd_get hlt']; simp [lI]
    rw [drop_cons hlt] at hb ⊢
    simp only [sumL] at hb ⊢
    have hnn := sumL_nonneg (l.drop (i + 1))
    refine Ev_suc ?_
    have c1 : (i : Int) < (l.length : Int) := by omega
    have c2 : (0 : Int) ≤ (i : Int) := by omega
    have c3 : (i : Int) < ((lI l).length : Int) := by omega
    simp only [impl_sum.l0, if_pos c1, if_pos c2, if_pos c3, hr]
    rw [w64 (by omega) (by omega), w64_succ (by omega), ← Int.add_assoc]
    exact ih (i + 1) _ (by omega) (by omega) (by omega) (by omega)

theorem impl_sum_ev {l : List Nat} (hl : l.length ≤ 1000000) (hb : sumL (fun x => (x : Int)) l ≤ 1000000000000000) : Ev (fun k => impl_sum.f k (lI l)) (sumL (fun x => (x : Int)) l) := by
  unfold impl_sum.f
  have := impl_sum_l hl l.length 0 0 (by omega) (by omega) (by omega) (by rw [List.drop_zero]; omega)
  rw [List.drop_zero, Int.zero_add] at this
  rw [lI_length]
  exact this

theorem impl_ProperSum_ev (a : Int) : Ev (fun k => impl_ProperSum.f k a) (propI a) := by
  unfold impl_ProperSum.f propI
  by_cases h : inN a
  · obtain ⟨n, rfl, h1, h2⟩ := inN_nat h
    simp only [numberOk_eq, Option.bind_some, decide_eq_true_eq, if_pos h, Int.toNat_natCast]
    have hb := D_id_le n
    have hb2 : (n : Int) * n ≤ 10000 * 10000 := Int.mul_le_mul (by omega) (by omega) (by omega) (by omega)
    have hnn := D_id_ge h1
    refine Ev.bind (impl_divisors_ev h1 h2) (Ev.bind (impl_sum_ev (by have := L_length_le (dv n) n; unfold divs; omega) (by rw [sum_divs]; omega)) ?_)
    rw [sum_divs, w64 (by omega) (by omega)]
    exact Ev.now _
  · simp only [numberOk_eq, Option.bind_some, decide_eq_true_eq, if_neg h]
    exact Ev.now _

theorem impl_FriendOf_ev (a : Int) : Ev (fun k => impl_FriendOf.f k a) (frI a) := by
  unfold impl_FriendOf.f
  refine Ev.bind (impl_ProperSum_ev a) ?_
  by_cases h : inN (propI a)
  · simp only [numberOk_eq, Option.bind_some, decide_eq_true_eq, if_pos h]
    unfold frI
    have h0 := h.1
    rw [if_neg (show ¬ propI a < 1 by omega)]
    by_cases h2 : propI a = a
    · simp only [if_pos h2]; exact Ev.now _
    · simp only [if_neg h2]
      refine Ev.bind (impl_ProperSum_ev _) ?_
      by_cases h3 : propI (propI a) = a
      · simp only [if_pos h3]; exact Ev.now _
      · simp only [if_neg h3]; exact Ev.now _
  · simp only [numberOk_eq, Option.bind_some, decide_eq_true_eq, if_neg h]
    rw [propI_bad h]
    exact Ev.now _

/-- Poor, perfect or rich. -/
def kindI (a : Int) : Int := if inN a then (if propI a < a then -1 else if propI a = a then 0 else 1) else -2

theorem cmp_eq (a b : Int) : cmp_Compare_int.f a b = some (if a < b then -1 else if a > b then 1 else 0) := by
  unfold cmp_Compare_int.f cmp_isNaN_int.f
  simp only [bne_self_eq_false, Option.bind_some, Bool.false_eq_true, if_false]
  by_cases h1 : a < b
  · simp only [if_pos h1]
  · simp only [if_neg h1]
    by_cases h2 : a > b
    · simp only [if_pos h2]
    · simp only [if_neg h2]

theorem impl_KindOf_ev (a : Int) : Ev (fun k => impl_KindOf.f k a) (kindI a) := by
  unfold impl_KindOf.f kindI
  by_cases h : inN a
  · simp only [numberOk_eq, Option.bind_some, decide_eq_true_eq, if_pos h, cmp_eq]
    refine Ev.bind (impl_ProperSum_ev a) ?_
    by_cases c1 : propI a < a
    · simp only [if_pos c1]; exact Ev.now _
    · simp only [if_neg c1]
      by_cases c2 : propI a = a
      · simp only [if_pos c2, if_neg (show ¬ propI a > a by omega)]; exact Ev.now _
      · simp only [if_neg c2, if_pos (show propI a > a by omega)]; exact Ev.now _
  · simp only [numberOk_eq, Option.bind_some, decide_eq_true_eq, if_neg h]
    exact Ev.now _

theorem hasInt_l (l : List Int) (hl : l.length ≤ 1048576) (x : Int) (d : Nat) : ∀ i, i ≤ l.length → l.length - i = d →
    Ev (fun k => laws_hasInt.l0 k l x (i : Int)) (decide (x ∈ l.drop i)) := by
  induction d with
  | zero =>
    intro i h1 h2
    have e : i = l.length := by omega
    subst e
    refine Ev_suc ?_
    simp only [laws_hasInt.l0, Int.lt_irrefl, if_false, List.drop_length, List.not_mem_nil, decide_false]
    exact Ev.now _
  | succ d ih =>
    intro i h1 h2
    have hlt : i < l.length := by omega
    rw [drop_cons hlt]
    refine Ev_suc ?_
    simp only [laws_hasInt.l0, if_pos (show (i : Int) < (l.length : Int) by omega), if_pos (show (0 : Int) ≤ (i : Int) by omega), rd_get hlt]
    by_cases e : l[i] = x
    · simp only [if_pos e]
      rw [decide_eq_true (List.mem_cons.2 (.inl e.symm))]
      exact Ev.now _
    · simp only [if_neg e]
      rw [w64_succ (by omega)]
      have e2 : decide (x ∈ l[i] :: l.drop (i + 1)) = decide (x ∈ l.drop (i + 1)) := by
        by_cases h : x ∈ l.drop (i + 1)
        · rw [decide_eq_true h, decide_eq_true (List.mem_cons.2 (.inr h))]
        · rw [decide_eq_false h, decide_eq_false]
          intro h'
          rcases List.mem_cons.1 h' with h' | h'
          · exact e h'.symm
          · exact h h'
      rw [e2]
      exact ih (i + 1) (by omega) (by omega)

theorem hasInt_ev {l : List Int} (hl : l.length ≤ 1048576) (x : Int) : Ev (fun k => laws_hasInt.f k l x) (decide (x ∈ l)) := by
  have := hasInt_l l hl x l.length 0 (by omega) (by omega)
  rw [List.drop_zero] at this
  exact this

/-- A code as it is read: at most 2000 bytes. -/
def Bs (l : List Int) : Prop := l.length ≤ 2000 ∧ ∀ x ∈ l, 0 ≤ x ∧ x ≤ 255

theorem u8_range {x : Int} (h : (Lit.int .u8 x).wf = true) : 0 ≤ x ∧ x ≤ 255 := by
  simp [Lit.wf, IntKind.min, IntKind.max, IntKind.bits, IntKind.signed] at h
  omega

theorem l20Open_ev {l0 : List Int} (h : ∀ x ∈ l0, (Lit.int .u8 x).wf = true) : ∃ l, spec_l20Open.f l0 = some (l, 0) ∧ Bs l := by
  unfold spec_l20Open.f
  by_cases h1 : (l0.length : Int) > 2000
  · refine ⟨l0.take 2000, ?_, ?_, fun x hx => u8_range (h x (List.mem_of_mem_take hx))⟩
    · rw [if_pos h1, if_pos (by omega)]
    · exact List.length_take_le _ _
  · exact ⟨l0, by rw [if_neg h1], by omega, fun x hx => u8_range (h x hx)⟩

theorem rd_byte {l : List Int} (h : Bs l) (i : Int) : 0 ≤ rd l i ∧ rd l i ≤ 255 := by
  unfold rd
  rw [List.getD_eq_getElem?_getD]
  by_cases e : i.toNat < l.length
  · rw [List.getElem?_eq_getElem e]; exact h.2 _ (List.getElem_mem e)
  · rw [List.getElem?_eq_none (by omega)]; simp

theorem tmod_range {a n : Int} (ha : 0 ≤ a) (hn : 1 ≤ n) : 0 ≤ Int.tmod a n ∧ Int.tmod a n < n :=
  ⟨Int.tmod_nonneg _ ha, Int.tmod_lt_of_pos a (by omega)⟩

theorem xor_nonneg {a b : Int} (h1 : 0 ≤ a) (h2 : a < 1099511627776) (h3 : 0 ≤ b) (h4 : b < 1099511627776) : 0 ≤ Go.bits .xor .i64 a b := by
  have e : Go.bits .xor .i64 a b = wrap64 (((BitVec.ofInt 64 a ^^^ BitVec.ofInt 64 b).toNat : Nat) : Int) := i64_w _
  have ha : (BitVec.ofInt 64 a).toNat = a.toNat := by
    rw [BitVec.toNat_ofInt]; omega
  have hb : (BitVec.ofInt 64 b).toNat = b.toNat := by
    rw [BitVec.toNat_ofInt]; omega
  have hx : a.toNat ^^^ b.toNat < 2 ^ 40 := Nat.xor_lt_two_pow (by omega) (by omega)
  rw [e, BitVec.toNat_xor, ha, hb, w64_nat (by omega)]
  omega

theorem pick_ev {l : List Int} (hl : Bs l) {p n : Int} (hp : 0 ≤ p) (hp2 : p ≤ 1000000) (hn : 1 ≤ n) (hn2 : n ≤ 1000000) :
    ∃ v, Ev (fun k => spec_l20Rd_pick.f k l p n) (v, p + 1) ∧ 0 ≤ v ∧ v < n := by
  unfold spec_l20Rd_pick.f
  simp only [if_neg (show ¬ n < 1 by omega)]
  rw [w64 (x := p + 1) (by omega) (by omega)]
  by_cases h0 : (l.length : Int) = 0
  · refine ⟨0, ?_, by omega, by omega⟩
    have e : ((l.length : Int) == 0) = true := by rw [h0]; rfl
    rw [e]
    refine Ev_suc ?_
    simp only [spec_l20Rd_pick.j0, if_true]
    exact Ev.now _
  · have e : ((l.length : Int) == 0) = false := beq_eq_false_iff_ne.2 h0
    have hlen := hl.1
    rw [e]
    by_cases h1 : p < (l.length : Int)
    · have hb := rd_byte hl p
      obtain ⟨t1, t2⟩ := tmod_range (a := rd l p) (n := n) hb.1 hn
      refine ⟨Int.tmod (rd l p) n, ?_, t1, t2⟩
      refine Ev_suc ?_
      simp only [spec_l20Rd_pick.j0, Bool.false_eq_true, if_false]
      rw [w64 (x := p + 1 - 1) (by omega) (by omega), show p + 1 - 1 = p by omega, w64 (x := rd l p) (by omega) (by omega)]
      simp only [if_pos h1, if_pos hp, if_neg (show ¬ n = 0 by omega)]
      exact Ev.now _
    · obtain ⟨pn, rfl⟩ := Int.eq_ofNat_of_zero_le hp
      have hL : 0 < l.length := by omega
      have i1 : Int.tmod (pn : Int) (l.length : Int) = ((pn % l.length : Nat) : Int) := rfl
      have i2 : Int.tmod (wrap64 (wrap64 ((pn : Int) * 7) + 3)) (l.length : Int) = (((pn * 7 + 3) % l.length : Nat) : Int) := by
        rw [w64 (x := (pn : Int) * 7) (by omega) (by omega), w64 (by omega) (by omega)]; rfl
      have i3 : wrap64 (Int.tdiv (pn : Int) (l.length : Int)) = ((pn / l.length : Nat) : Int) := w64_div (by omega)
      have m1 := Nat.mod_lt pn hL
      have m2 := Nat.mod_lt (pn * 7 + 3) hL
      have m3 := Nat.div_le_self pn l.length
      obtain ⟨a1, a2⟩ := rd_byte hl ((pn % l.length : Nat) : Int)
      obtain ⟨b1, b2⟩ := rd_byte hl (((pn * 7 + 3) % l.length : Nat) : Int)
      suffices hs : ∃ v, Ev (fun k => spec_l20Rd_pick.j0 k n false l ((pn : Int) + 1)) (v, (pn : Int) + 1) ∧ 0 ≤ v ∧ v < n from hs
      refine ⟨?v, Ev_suc ?_, ?_⟩
      case refine_1 =>
        simp only [spec_l20Rd_pick.j0, Bool.false_eq_true, if_false]
        rw [w64 (x := (pn : Int) + 1 - 1) (by omega) (by omega), show (pn : Int) + 1 - 1 = (pn : Int) by omega, i1, i2, i3]
        simp only [if_neg h1, if_neg h0, if_neg (show ¬ n = 0 by omega), if_pos (show (0 : Int) ≤ ((pn % l.length : Nat) : Int) by omega), if_pos (show ((pn % l.length : Nat) : Int) < (l.length : Int) by omega), if_pos (show (0 : Int) ≤ (((pn * 7 + 3) % l.length : Nat) : Int) by omega), if_pos (show (((pn * 7 + 3) % l.length : Nat) : Int) < (l.length : Int) by omega)]
        exact Ev.now _
      case refine_2 =>
        clear i3
        generalize pn / l.length = zq at *
        have z : wrap64 (wrap64 (wrap64 (wrap64 (wrap64 (rd l ((pn % l.length : Nat) : Int)) * 131) + wrap64 (wrap64 (rd l (((pn * 7 + 3) % l.length : Nat) : Int)) * 1117)) + wrap64 ((pn : Int) * 29)) + wrap64 ((zq : Int) * 53)) =
            rd l ((pn % l.length : Nat) : Int) * 131 + rd l (((pn * 7 + 3) % l.length : Nat) : Int) * 1117 + (pn : Int) * 29 + (zq : Int) * 53 := by
          generalize rd l ((pn % l.length : Nat) : Int) = x at a1 a2
          generalize rd l (((pn * 7 + 3) % l.length : Nat) : Int) = y at b1 b2
          rw [w64 (x := x) (by omega) (by omega), w64 (x := y) (by omega) (by omega), w64 (x := x * 131) (by omega) (by omega), w64 (x := y * 1117) (by omega) (by omega), w64 (x := (pn : Int) * 29) (by omega) (by omega), w64 (x := (zq : Int) * 53) (by omega) (by omega),
            w64 (x := x * 131 + y * 1117) (by omega) (by omega), w64 (x := x * 131 + y * 1117 + (pn : Int) * 29) (by omega) (by omega), w64 (by omega) (by omega)]
        rw [z]
        generalize hz : rd l ((pn % l.length : Nat) : Int) * 131 + rd l (((pn * 7 + 3) % l.length : Nat) : Int) * 1117 + (pn : Int) * 29 + (zq : Int) * 53 = w at *
        have w1 : 0 ≤ w := by omega
        have w2 : w < 1099511627776 := by omega
        have w3 : wrap64 (Int.tdiv w 64) = w / 64 := by rw [Int.tdiv_eq_ediv_of_nonneg w1, w64 (by omega) (by omega)]
        rw [w3]
        exact tmod_range (xor_nonneg w1 w2 (by omega) (by omega)) hn

theorem rd_mem {P : Int → Prop} {l : List Int} (h : ∀ x ∈ l, P x) {i : Int} (h0 : 0 ≤ i) (h1 : i < (l.length : Int)) : P (rd l i) := by
  obtain ⟨n, rfl⟩ := Int.eq_ofNat_of_zero_le h0
  have hn : n < l.length := by omega
  rw [rd_get hn]
  exact h _ (List.getElem_mem hn)

theorem half {v n : Int} (h0 : 0 ≤ v) (h1 : v < n) (hn : n ≤ 1000000) : wrap64 (Int.tdiv v 2) = v / 2 := by
  rw [Int.tdiv_eq_ediv_of_nonneg h0, w64 (by omega) (by omega)]

theorem l20Mid_ev {l : List Int} (hl : Bs l) {p : Int} (hp : 0 ≤ p) (hp2 : p ≤ 100000) :
    ∃ v q, Ev (fun k => spec_l20Mid.f k l p) (v, q) ∧ -30000 ≤ v ∧ v ≤ 30000 ∧ 0 ≤ q ∧ q ≤ p + 10 := by
  obtain ⟨a, ha, a0, a1⟩ := pick_ev hl (p := p) (n := 20) (by omega) (by omega) (by omega) (by omega)
  obtain ⟨b, hb, b0, b1⟩ := pick_ev hl (p := p + 1) (n := 100) (by omega) (by omega) (by omega) (by omega)
  obtain ⟨c, hc, c0, c1⟩ := pick_ev hl (p := p + 1 + 1) (n := 41) (by omega) (by omega) (by omega) (by omega)
  obtain ⟨f, hf, f0, f1⟩ := pick_ev hl (p := p + 1 + 1 + 1) (n := 7) (by omega) (by omega) (by omega) (by omega)
  obtain ⟨g, hg, g0, g1⟩ := pick_ev hl (p := p + 1 + 1 + 1 + 1) (n := 30) (by omega) (by omega) (by omega) (by omega)
  obtain ⟨h, hh, h0, h1⟩ := pick_ev hl (p := p + 1 + 1 + 1 + 1 + 1) (n := 40) (by omega) (by omega) (by omega) (by omega)
  have hy : ∀ x ∈ ([wrap64 (1 + a), wrap64 (1 + b), wrap64 (12 * (wrap64 (1 + c))), 500] : List Int), 0 ≤ x ∧ x ≤ 10001 := by
    rw [w64 (x := 1 + a) (by omega) (by omega), w64 (x := 1 + b) (by omega) (by omega), w64 (x := 1 + c) (by omega) (by omega), w64 (x := 12 * (1 + c)) (by omega) (by omega)]
    intro x hx
    simp only [List.mem_cons, List.not_mem_nil, or_false] at hx
    omega
  have hr := rd_mem hy (i := f / 2) (by omega) (by simp; omega)
  refine ⟨?v, p + 1 + 1 + 1 + 1 + 1 + 1, ?_, ?_⟩
  case refine_1 =>
    unfold spec_l20Mid.f
    refine Ev.bind ha (Ev.bind hb (Ev.bind hc ?_))
    simp only [Option.bind_some]
    refine Ev.bind hf ?_
    simp only [half f0 f1 (by omega), if_pos (show (0 : Int) ≤ f / 2 by omega), List.length_cons, List.length_nil, if_pos (show f / 2 < ((0 + 1 + 1 + 1 + 1 : Nat) : Int) by omega)]
    refine Ev.bind hg ?_
    refine Ev.bind hh ?_
    dsimp only
    exact Ev.now _
  case refine_2 =>
    generalize rd _ (f / 2) = z at hr
    try dsimp only
    rw [Int.tdiv_eq_ediv_of_nonneg g0, Int.tdiv_eq_ediv_of_nonneg h0, w64 (x := g / 29) (by omega) (by omega), w64 (x := h / 39) (by omega) (by omega), w64 (x := g / 29 * 500) (by omega) (by omega), w64 (x := h / 39 * 1000) (by omega) (by omega), w64 (x := z + g / 29 * 500) (by omega) (by omega), w64 (by omega) (by omega)]
    omega

theorem l20Some_ev {l : List Int} (hl : Bs l) {p : Int} (hp : 0 ≤ p) (hp2 : p ≤ 100000) :
    ∃ v q, Ev (fun k => spec_l20Some.f k l p) (v, q) ∧ -30000 ≤ v ∧ v ≤ 30000 ∧ 0 ≤ q ∧ q ≤ p + 10 := by
  obtain ⟨a, ha, a0, a1⟩ := pick_ev hl (p := p) (n := 12) (by omega) (by omega) (by omega) (by omega)
  obtain ⟨b, hb, b0, b1⟩ := pick_ev hl (p := p + 1) (n := 60) (by omega) (by omega) (by omega) (by omega)
  obtain ⟨c, hc, c0, c1⟩ := pick_ev hl (p := p + 1 + 1) (n := 100) (by omega) (by omega) (by omega) (by omega)
  obtain ⟨d, hd, d0, d1⟩ := pick_ev hl (p := p + 1 + 1 + 1) (n := 100) (by omega) (by omega) (by omega) (by omega)
  obtain ⟨e, he, e0, e1⟩ := pick_ev hl (p := p + 1 + 1 + 1 + 1) (n := 60) (by omega) (by omega) (by omega) (by omega)
  obtain ⟨f, hf, f0, f1⟩ := pick_ev hl (p := p + 1 + 1 + 1 + 1 + 1) (n := 13) (by omega) (by omega) (by omega) (by omega)
  obtain ⟨g, hg, g0, g1⟩ := pick_ev hl (p := p + 1 + 1 + 1 + 1 + 1 + 1) (n := 40) (by omega) (by omega) (by omega) (by omega)
  obtain ⟨h, hh, h0, h1⟩ := pick_ev hl (p := p + 1 + 1 + 1 + 1 + 1 + 1 + 1) (n := 50) (by omega) (by omega) (by omega) (by omega)
  have hcd : 0 ≤ c * d := Int.mul_nonneg c0 d0
  have hcd2 : c * d ≤ 100 * 100 := Int.mul_le_mul (by omega) (by omega) d0 (by omega)
  have hy : ∀ x ∈ ([wrap64 (1 + a), wrap64 (1 + b), wrap64 (1 + (wrap64 (c * d))), wrap64 (12 * (wrap64 (1 + e))), 9973, 8192, 9240] : List Int), 0 ≤ x ∧ x ≤ 10001 := by
    rw [w64 (x := 1 + a) (by omega) (by omega), w64 (x := 1 + b) (by omega) (by omega), w64 (x := c * d) (by omega) (by omega), w64 (x := 1 + c * d) (by omega) (by omega), w64 (x := 1 + e) (by omega) (by omega), w64 (x := 12 * (1 + e)) (by omega) (by omega)]
    intro x hx
    simp only [List.mem_cons, List.not_mem_nil, or_false] at hx
    omega
  have hr := rd_mem hy (i := f / 2) (by omega) (by simp; omega)
  refine ⟨?v, p + 1 + 1 + 1 + 1 + 1 + 1 + 1 + 1, ?_, ?_⟩
  case refine_1 =>
    unfold spec_l20Some.f
    refine Ev.bind ha (Ev.bind hb (Ev.bind hc (Ev.bind hd (Ev.bind he ?_))))
    simp only [Option.bind_some]
    refine Ev.bind hf ?_
    simp only [half f0 f1 (by omega), if_pos (show (0 : Int) ≤ f / 2 by omega), List.length_cons, List.length_nil, if_pos (show f / 2 < ((0 + 1 + 1 + 1 + 1 + 1 + 1 + 1 : Nat) : Int) by omega)]
    refine Ev.bind hg ?_
    refine Ev.bind hh ?_
    dsimp only
    exact Ev.now _
  case refine_2 =>
    generalize rd _ (f / 2) = z at hr
    try dsimp only
    rw [Int.tdiv_eq_ediv_of_nonneg g0, Int.tdiv_eq_ediv_of_nonneg h0, w64 (x := g / 39) (by omega) (by omega), w64 (x := h / 49) (by omega) (by omega), w64 (x := g / 39 * 10000) (by omega) (by omega), w64 (x := h / 49 * 20000) (by omega) (by omega), w64 (x := z + g / 39 * 10000) (by omega) (by omega), w64 (by omega) (by omega)]
    omega

theorem DrawWayFrom_ev {l0 : List Int} (h : ∀ x ∈ l0, (Lit.int .u8 x).wf = true) : ∃ v, Ev (fun k => spec_DrawWayFrom.f k l0) v := by
  obtain ⟨l, e, hl⟩ := l20Open_ev h
  obtain ⟨u, q, hu, c1, c2, q1, q2⟩ := l20Mid_ev hl (p := 0) (by omega) (by omega)
  obtain ⟨v, r, hv, d1, d2, r1, r2⟩ := l20Some_ev hl (p := q) (by omega) (by omega)
  obtain ⟨a, ha, a0, a1⟩ := pick_ev hl (p := r) (n := 9) (by omega) (by omega) (by omega) (by omega)
  obtain ⟨b, hb, b0, b1⟩ := pick_ev hl (p := r + 1) (n := 3) (by omega) (by omega) (by omega) (by omega)
  have hab : 0 ≤ a * b := Int.mul_nonneg a0 b0
  have hab2 : a * b ≤ 9 * 3 := Int.mul_le_mul (by omega) (by omega) b0 (by omega)
  have ei : Int.tmod (wrap64 (Int.tdiv (wrap64 (a * b)) 3)) 6 = a * b / 3 % 6 := by
    rw [w64 (x := a * b) (by omega) (by omega), Int.tdiv_eq_ediv_of_nonneg hab, w64 (x := a * b / 3) (by omega) (by omega), Int.tmod_eq_emod_of_nonneg (by omega)]
  refine ⟨rd [u, v, 220, 562, 276, 25] (a * b / 3 % 6), ?_⟩
  unfold spec_DrawWayFrom.f
  rw [e]
  simp only [Option.bind_some]
  refine Ev.bind hu (Ev.bind hv ?_)
  simp only [Option.bind_some]
  refine Ev.bind ha (Ev.bind hb ?_)
  simp only [ei, if_pos (show (0 : Int) ≤ a * b / 3 % 6 by omega), List.length_cons, List.length_nil, if_pos (show a * b / 3 % 6 < ((0 + 1 + 1 + 1 + 1 + 1 + 1 : Nat) : Int) by omega)]
  exact Ev.now _

theorem index_l (l : List Int) (hl : l.length ≤ 1048576) (x : Int) (d : Nat) : ∀ i, i ≤ l.length → l.length - i = d →
    ∃ r : Int, Ev (fun k => slices_Index_int_int.l0 k l x (l.length : Int) (i : Int)) r ∧ (0 ≤ r ↔ x ∈ l.drop i) := by
  induction d with
  | zero =>
    intro i h1 h2
    have e : i = l.length := by omega
    subst e
    refine ⟨-1, Ev_suc ?_, by simp⟩
    simp only [slices_Index_int_int.l0, Int.lt_irrefl, if_false]
    exact Ev.now _
  | succ d ih =>
    intro i h1 h2
    have hlt : i < l.length := by omega
    rw [drop_cons hlt]
    by_cases e : x = l[i]
    · refine ⟨(i : Int), Ev_suc ?_, ?_⟩
      · simp only [slices_Index_int_int.l0, if_pos (show (i : Int) < (l.length : Int) by omega), if_pos (show (0 : Int) ≤ (i : Int) by omega), rd_get hlt, if_pos e]
        exact Ev.now _
      · constructor
        · intro _; exact List.mem_cons.2 (.inl e)
        · intro _; omega
    · obtain ⟨r, hr, hm⟩ := ih (i + 1) (by omega) (by omega)
      refine ⟨r, Ev_suc ?_, ?_⟩
      · simp only [slices_Index_int_int.l0, if_pos (show (i : Int) < (l.length : Int) by omega), if_pos (show (0 : Int) ≤ (i : Int) by omega), rd_get hlt, if_neg e]
        rw [w64_succ (by omega)]
        exact hr
      · rw [hm, List.mem_cons]
        constructor
        · intro h; exact .inr h
        · rintro (h | h)
          · exact absurd h e
          · exact h

theorem contains_ev {l : List Int} (hl : l.length ≤ 1048576) (x : Int) : Ev (fun k => slices_Contains_int_int.f k l x) (decide (x ∈ l)) := by
  unfold slices_Contains_int_int.f slices_Index_int_int.f
  obtain ⟨r, hr, hm⟩ := index_l l hl x l.length 0 (by omega) (by omega)
  rw [List.drop_zero] at hm
  refine Ev.bind hr ?_
  have e : decide (r ≥ 0) = decide (x ∈ l) := by
    by_cases h : x ∈ l
    · rw [decide_eq_true h, decide_eq_true (hm.2 h)]
    · rw [decide_eq_false h, decide_eq_false (fun e => h (hm.1 e))]
  rw [e]
  exact Ev.now _

theorem impl_WayFrom_l0 (d : Nat) : ∀ (out : List Int) (a : Int), out.length + d = 30 → Ev (fun k => impl_WayFrom.l0 k a out) (wayF d out a) := by
  induction d with
  | zero =>
    intro out a h
    refine Ev_suc ?_
    simp only [impl_WayFrom.l0, numberOk_eq, Option.bind_some, if_neg (show ¬ (out.length : Int) < 30 by omega), ite_self, wayF]
    exact Ev.now _
  | succ d ih =>
    intro out a h
    refine Ev_suc ?_
    by_cases hin : inN a
    · simp only [impl_WayFrom.l0, numberOk_eq, Option.bind_some, decide_eq_true_eq, if_pos hin, if_pos (show (out.length : Int) < 30 by omega)]
      refine Ev.bind (contains_ev (by omega) a) ?_
      by_cases hm : a ∈ out
      · simp only [decide_eq_true hm, if_true, wayF]
        rw [if_neg (fun e => e.2 hm)]
        exact Ev.now _
      · simp only [decide_eq_false hm, Bool.false_eq_true, if_false, if_pos (show out.length < 17592186044416 by omega), wayF]
        rw [if_pos ⟨hin, hm⟩]
        exact Ev.bind (impl_ProperSum_ev a) (ih _ _ (by simp; omega))
    · simp only [impl_WayFrom.l0, numberOk_eq, Option.bind_some, decide_eq_true_eq, if_neg hin, wayF]
      rw [if_neg (fun e => hin e.1)]
      exact Ev.now _

theorem impl_WayFrom_ev (a : Int) : Ev (fun k => impl_WayFrom.f k a) (wayI a) := by
  unfold impl_WayFrom.f
  by_cases h : inN a
  · simp only [numberOk_eq, Option.bind_some, decide_eq_true_eq, if_pos h]
    exact impl_WayFrom_l0 30 [] a rfl
  · simp only [numberOk_eq, Option.bind_some, decide_eq_true_eq, if_neg h]
    have e : wayI a = [] := by
      rw [show wayI a = wayF (29 + 1) [] a from rfl, wayF, if_neg (fun e => h e.1)]
    rw [e]
    exact Ev.now _

theorem l1In_eq (a lo hi : Int) : spec_l1In.f a lo hi = some (decide (lo ≤ a ∧ a ≤ hi)) := by
  unfold spec_l1In.f
  by_cases h : lo ≤ a
  · rw [if_pos h]; simp [h]
  · rw [if_neg h]; simp [h]

theorem spec_WayFrom_l1 {out : List Int} (ho : out.length ≤ 30) {a : Int} {r : List Int} (hyes : a ∈ out → r = out) (hno : ¬ a ∈ out → Ev (fun k => (spec_ProperSum.f k a).bind fun t => (spec_WayFrom.l0 k (out ++ [a]) t)) r) (d : Nat) : ∀ i, i ≤ out.length → out.length - i = d → (¬ a ∈ out.take i) →
    Ev (fun k => spec_WayFrom.l1 k out a (i : Int)) r := by
  induction d with
  | zero =>
    intro i h1 h2 h3
    have e : i = out.length := by omega
    subst e
    rw [List.take_length] at h3
    refine Ev_suc ?_
    simp only [spec_WayFrom.l1, Int.lt_irrefl, if_false, if_pos (show out.length < 17592186044416 by omega)]
    exact hno h3
  | succ d ih =>
    intro i h1 h2 h3
    have hlt : i < out.length := by omega
    refine Ev_suc ?_
    simp only [spec_WayFrom.l1, if_pos (show (i : Int) < (out.length : Int) by omega), if_pos (show (0 : Int) ≤ (i : Int) by omega), rd_get hlt]
    by_cases e : out[i] = a
    · simp only [if_pos e]
      rw [hyes (by rw [← e]; exact List.getElem_mem hlt)]
      exact Ev.now _
    · simp only [if_neg e]
      rw [w64_succ (by omega)]
      refine ih (i + 1) (by omega) (by omega) ?_
      rw [List.take_succ_eq_append_getElem hlt, List.mem_append, List.mem_singleton]
      rintro (h | h)
      · exact h3 h
      · exact e h.symm

theorem spec_ProperSum_l {n : Nat} (hn : 1 ≤ n) (hn2 : n ≤ 10000) (d : Nat) : ∀ c, c + 1 ≤ n → n - c = d →
    Ev (fun k => spec_ProperSum.l0 k (n : Int) (T (fun d => if n % d = 0 then (d : Int) else 0) c) ((c + 1 : Nat) : Int)) (D (fun d => (d : Int)) n - n) := by
  induction d with
  | zero => intro c h1 h2; omega
  | succ d ih =>
    intro c h1 h2
    refine Ev_suc ?_
    simp only [spec_ProperSum.l0]
    have hw : wrap64 (((c + 1 : Nat) : Int) + 1) = ((c + 1 + 1 : Nat) : Int) := w64_succ (by omega)
    by_cases h : c + 1 < n
    · have c1 : ((c + 1 : Nat) : Int) < (n : Int) := by omega
      have c2 : ¬ ((c + 1 : Nat) : Int) = 0 := by omega
      have next := ih (c + 1) (by omega) (by omega)
      simp only [T] at next
      have hT := T_small n c
      have hT2 : (c : Int) * (n + c) ≤ 10000 * 20000 := Int.mul_le_mul (by omega) (by omega) (by omega) (by omega)
      simp only [if_pos c1, if_neg c2, tmod_nat, hw]
      by_cases h0 : n % (c + 1) = 0
      · have c3 : ((n % (c + 1) : Nat) : Int) = 0 := by omega
        rw [if_pos h0] at next
        simp only [if_pos c3]
        rw [w64 (by omega) (by omega)]
        exact next
      · have c3 : ¬ ((n % (c + 1) : Nat) : Int) = 0 := by omega
        rw [if_neg h0, Int.add_zero] at next
        simp only [if_neg c3]
        exact next
    · have e : n = c + 1 := by omega
      have c1 : ¬ ((c + 1 : Nat) : Int) < (n : Int) := by omega
      simp only [if_neg c1]
      have hD : D (fun d => (d : Int)) n - n = T (fun d => if n % d = 0 then (d : Int) else 0) c := by
        unfold D
        rw [show T (fun d => if n % d = 0 then (d : Int) else 0) n = T (fun d => if n % d = 0 then (d : Int) else 0) (c + 1) by rw [← e]]
        simp only [T]
        rw [← e, if_pos (Nat.mod_self n)]; omega
      rw [hD]
      exact Ev.now _

theorem spec_ProperSum_ev (a : Int) : Ev (fun k => spec_ProperSum.f k a) (propI a) := by
  unfold spec_ProperSum.f propI
  by_cases h : 1 ≤ a ∧ a ≤ 10000
  · obtain ⟨n, rfl, h1, h2⟩ := inN_nat h
    simp only [l1In_eq, Option.bind_some, decide_eq_true_eq, if_pos h, if_pos (show inN (n : Int) from h), Int.toNat_natCast]
    exact spec_ProperSum_l h1 h2 n 0 (by omega) (by omega)
  · simp only [l1In_eq, Option.bind_some, decide_eq_true_eq, if_neg h, if_neg (show ¬ inN a from h)]
    exact Ev.now _

theorem spec_WayFrom_l0 (d : Nat) : ∀ (out : List Int) (a : Int), out.length + d = 30 → Ev (fun k => spec_WayFrom.l0 k out a) (wayF d out a) := by
  induction d with
  | zero =>
    intro out a h
    refine Ev_suc ?_
    simp only [spec_WayFrom.l0, l1In_eq, Option.bind_some, decide_eq_false (show ¬ (out.length : Int) < 30 by omega), ite_self]
    refine Ev_suc ?_
    simp only [spec_WayFrom.j1, Bool.false_eq_true, if_false, wayF]
    exact Ev.now _
  | succ d ih =>
    intro out a h
    refine Ev_suc ?_
    by_cases hin : inN a
    · simp only [spec_WayFrom.l0, l1In_eq, Option.bind_some, decide_eq_true_eq, if_pos (show 1 ≤ a ∧ a ≤ 10000 from hin), decide_eq_true (show (out.length : Int) < 30 by omega)]
      refine Ev_suc ?_
      simp only [spec_WayFrom.j1, if_true]
      refine spec_WayFrom_l1 (by omega) (fun hm => ?_) (fun hm => ?_) out.length 0 (by omega) (by omega) (by simp)
      · simp only [wayF]; rw [if_neg (fun e => e.2 hm)]
      · simp only [wayF]; rw [if_pos ⟨hin, hm⟩]
        exact Ev.bind (spec_ProperSum_ev a) (ih _ _ (by simp; omega))
    · simp only [spec_WayFrom.l0, l1In_eq, Option.bind_some, decide_eq_true_eq, if_neg (show ¬ (1 ≤ a ∧ a ≤ 10000) from hin)]
      refine Ev_suc ?_
      simp only [spec_WayFrom.j1, Bool.false_eq_true, if_false, wayF]
      rw [if_neg (fun e => hin e.1)]
      exact Ev.now _

theorem spec_WayFrom_ev (a : Int) : Ev (fun k => spec_WayFrom.f k a) (wayI a) := spec_WayFrom_l0 30 [] a rfl

theorem sameInts_l (l : List Int) (hl : l.length ≤ 1048576) (d : Nat) : ∀ i, i ≤ l.length → l.length - i = d →
    Ev (fun k => laws_sameInts.l0 k l l (i : Int)) true := by
  induction d with
  | zero =>
    intro i h1 h2
    have e : i = l.length := by omega
    subst e
    refine Ev_suc ?_
    simp only [laws_sameInts.l0, Int.lt_irrefl, if_false]
    exact Ev.now _
  | succ d ih =>
    intro i h1 h2
    refine Ev_suc ?_
    have c1 : (i : Int) < (l.length : Int) := by omega
    have c2 : (0 : Int) ≤ (i : Int) := by omega
    simp only [laws_sameInts.l0, if_pos c1, if_pos c2, if_true]
    rw [w64_succ (by omega)]
    exact ih (i + 1) (by omega) (by omega)

theorem sameInts_same {l : List Int} (hl : l.length ≤ 1048576) : Ev (fun k => laws_sameInts.f k l l) true := by
  unfold laws_sameInts.f
  simp only [if_true]
  exact sameInts_l l hl l.length 0 (by omega) (by omega)

theorem wayF_length : ∀ (d : Nat) (out : List Int) (a : Int), (wayF d out a).length ≤ out.length + d
  | 0, out, a => Nat.le_refl _
  | d + 1, out, a => by
    simp only [wayF]
    by_cases h : inN a ∧ ¬ a ∈ out
    · rw [if_pos h]
      have := wayF_length d (out ++ [a]) (propI a)
      simp at this; omega
    · rw [if_neg h]; omega

theorem wayI_length (a : Int) : (wayI a).length ≤ 1048576 := by
  have := wayF_length 30 [] a
  unfold wayI; simp at this; omega

/-- Does a number divide another one, both from 1 up to the greatest number? -/
def dvI (d n : Int) : Bool := decide (inN d ∧ inN n ∧ n.toNat % d.toNat = 0)

theorem impl_DividesOk_eq (d n : Int) : impl_DividesOk.f d n = some (dvI d n) := by
  unfold impl_DividesOk.f dvI
  by_cases h1 : inN d
  · by_cases h2 : inN n
    · obtain ⟨a, rfl, _, _⟩ := inN_nat h1
      obtain ⟨b, rfl, _, _⟩ := inN_nat h2
      have h0 : ¬ ((a : Int) = 0) := by omega
      simp only [numberOk_eq, Option.bind_some, decide_eq_true_eq, if_pos h1, if_pos h2, if_neg h0, tmod_nat, Int.toNat_natCast, h1, h2, true_and]
      congr 1
      by_cases e : b % a = 0
      · simp [e]
      · simp [e]; omega
    · simp only [numberOk_eq, Option.bind_some, decide_eq_true_eq, if_pos h1, if_neg h2]
      simp [h2]
  · simp only [numberOk_eq, Option.bind_some, decide_eq_true_eq, if_neg h1]
    simp [h1]

theorem alive_eq : laws_alive.f = some true := by
  unfold laws_alive.f
  rw [impl_DividesOk_eq, impl_DividesOk_eq]
  rfl

/-- Number by number by proper sums, none twice. -/
def Chain (r : List Int) : Prop := ∀ k, 1 ≤ k → k < r.length → r.getD k 0 = propI (r.getD (k - 1) 0) ∧ ¬ r.getD k 0 ∈ r.take k
theorem getD_left {l : List Int} {x : Int} {k : Nat} (h : k < l.length) : (l ++ [x]).getD k 0 = l.getD k 0 := by
  rw [List.getD_eq_getElem?_getD, List.getD_eq_getElem?_getD, List.getElem?_append_left h]
theorem getD_last {l : List Int} {x : Int} : (l ++ [x]).getD l.length 0 = x := by
  rw [List.getD_eq_getElem?_getD, List.getElem?_append_right (Nat.le_refl _), Nat.sub_self]; rfl
theorem Chain.snoc {r : List Int} {a : Int} (h : Chain r) (hm : ¬ a ∈ r) (ha : 1 ≤ r.length → a = propI (r.getD (r.length - 1) 0)) : Chain (r ++ [a]) := by
  intro k h1 h2
  rw [List.length_append, List.length_singleton] at h2
  by_cases e : k = r.length
  · subst e
    rw [getD_last, getD_left (by omega), List.take_left]
    exact ⟨ha h1, hm⟩
  · rw [getD_left (by omega), getD_left (by omega), List.take_append_of_le_length (by omega)]
    exact h k h1 (by omega)
theorem way_chain (n : Int) : ∀ (d : Nat) (out : List Int) (a : Int), Chain out → (out = [] → a = n) → (1 ≤ out.length → a = propI (out.getD (out.length - 1) 0) ∧ out.getD 0 0 = n) →
    Chain (wayF d out a) ∧ (1 ≤ (wayF d out a).length → (wayF d out a).getD 0 0 = n)
  | 0, out, a, h1, _, h3 => ⟨h1, fun h => (h3 h).2⟩
  | d + 1, out, a, h1, h2, h3 => by
    simp only [wayF]
    by_cases h : inN a ∧ ¬ a ∈ out
    · rw [if_pos h]
      refine way_chain n d (out ++ [a]) (propI a) (h1.snoc h.2 (fun hl => (h3 hl).1)) (fun e => by simp at e) (fun _ => ⟨?_, ?_⟩)
      · rw [List.length_append, List.length_singleton, Nat.add_sub_cancel, getD_last]
      · by_cases e : out = []
        · rw [e, h2 e]; rfl
        · have hl : 1 ≤ out.length := by
            rcases Nat.eq_zero_or_pos out.length with e' | e'
            · exact absurd (List.length_eq_zero_iff.1 e') e
            · exact e'
          rw [getD_left (by omega)]
          exact (h3 hl).2
    · rw [if_neg h]
      exact ⟨h1, fun hl => (h3 hl).2⟩
theorem wayI_two {n : Int} (h : inN n) : wayI n = wayF 29 [n] (propI n) := by
  rw [show wayI n = wayF (29 + 1) [] n from rfl, wayF, if_pos ⟨h, by simp⟩]; rfl
theorem wayI_perfect {n : Int} (h : inN n) (hp : propI n = n) : wayI n = [n] := by
  rw [wayI_two h, hp, show wayF 29 [n] n = wayF (28 + 1) [n] n from rfl, wayF, if_neg (fun e => e.2 (by simp))]
theorem wayI_friend {n : Int} (h : inN n) (hp : inN (propI n)) (hne : propI n ≠ n) (hb : propI (propI n) = n) : wayI n = [n, propI n] := by
  rw [wayI_two h, show wayF 29 [n] (propI n) = wayF (28 + 1) [n] (propI n) from rfl, wayF, if_pos ⟨hp, by simpa using hne⟩, hb]
  rw [show wayF 28 ([n] ++ [propI n]) n = wayF (27 + 1) ([n] ++ [propI n]) n from rfl, wayF, if_neg (fun e => e.2 (by simp))]; rfl
theorem frI_friend {n : Int} (h : (frI n).2 = true) : inN (propI n) ∧ propI n ≠ n ∧ propI (propI n) = n := by
  by_cases hin : inN (propI n)
  · unfold frI at h
    have h0 := hin.1
    rw [if_neg (show ¬ propI n < 1 by omega)] at h
    by_cases h2 : propI n = n
    · rw [if_pos h2] at h; cases h
    · rw [if_neg h2] at h
      by_cases h3 : propI (propI n) = n
      · exact ⟨hin, h2, h3⟩
      · rw [if_neg h3] at h; cases h
  · rw [propI_bad hin] at h; cases h
theorem wf_end {n : Int} (h : inN n) {r : List Int} (hr : r = wayI n) (hlen : r.length ≤ 30) (h0 : r.getD 0 0 = n) (hpos : 1 ≤ r.length) :
    Ev (fun k => (impl_FriendOf.f k n).bind fun bt => (if 0 < (r.length : Int) then (if (rd r 0) = n then (if (r.length : Int) ≤ 30 then ((impl_KindOf.f k n).bind fun t => (if t = 0 then (if (r.length : Int) = 1 then (if bt.2 = true then (some ((r.length : Int) == 2)) else (some true)) else (some false)) else (if bt.2 = true then (some ((r.length : Int) == 2)) else (some true)))) else (some false)) else (some false)) else (none))) true := by
  refine Ev.bind (impl_FriendOf_ev n) ?_
  have e0 : rd r 0 = n := h0
  simp only [if_pos (show (0 : Int) < (r.length : Int) by omega), if_pos e0, if_pos (show (r.length : Int) ≤ 30 by omega)]
  refine Ev.bind (impl_KindOf_ev n) ?_
  have hfr : (frI n).2 = true → r.length = 2 ∧ ¬ kindI n = 0 := by
    intro hf
    obtain ⟨a, b, c⟩ := frI_friend hf
    refine ⟨by rw [hr, wayI_friend h a b c]; rfl, ?_⟩
    unfold kindI
    rw [if_pos h]
    by_cases d : propI n < n
    · rw [if_pos d]; omega
    · rw [if_neg d, if_neg b]; omega
  have hk : kindI n = 0 → r.length = 1 := by
    intro hk
    have hp : propI n = n := by
      unfold kindI at hk
      rw [if_pos h] at hk
      by_cases d : propI n < n
      · rw [if_pos d] at hk; omega
      · rw [if_neg d] at hk
        by_cases e : propI n = n
        · exact e
        · rw [if_neg e] at hk; omega
    rw [hr, wayI_perfect h hp]; rfl
  by_cases hf : (frI n).2 = true
  · obtain ⟨l2, hk2⟩ := hfr hf
    simp only [if_neg hk2, hf, if_true, l2]
    exact Ev.now _
  · have hf' : (frI n).2 = false := by simpa using hf
    by_cases hk2 : kindI n = 0
    · have := hk hk2
      simp only [if_pos hk2, hf', Bool.false_eq_true, if_false, if_pos (show (r.length : Int) = 1 by omega)]
      exact Ev.now _
    · simp only [if_neg hk2, hf', Bool.false_eq_true, if_false]
      exact Ev.now _
theorem wf_l {n : Int} (h : inN n) {r : List Int} (hr : r = wayI n) (hlen : r.length ≤ 30) (h0 : r.getD 0 0 = n) (hpos : 1 ≤ r.length) (hc : Chain r) (d : Nat) : ∀ i : Nat, 1 ≤ i → i ≤ r.length → r.length - i = d →
    Ev (fun k => laws_FnWayFrom.l0 k n r (i : Int)) true := by
  induction d with
  | zero =>
    intro i h1 h2 h3
    have e : i = r.length := by omega
    refine Ev_suc ?_
    simp only [laws_FnWayFrom.l0, if_neg (show ¬ (i : Int) < (r.length : Int) by omega)]
    exact wf_end h hr hlen h0 hpos
  | succ d ih =>
    intro i h1 h2 h3
    obtain ⟨c1, c2⟩ := hc i h1 (by omega)
    have e1 : wrap64 ((i : Int) - 1) = ((i - 1 : Nat) : Int) := by rw [w64 (by omega) (by omega)]; omega
    have r1 : rd r (i : Int) = r.getD i 0 := rfl
    have r2 : rd r ((i - 1 : Nat) : Int) = r.getD (i - 1) 0 := rfl
    refine Ev_suc ?_
    simp only [laws_FnWayFrom.l0, if_pos (show (i : Int) < (r.length : Int) by omega), if_pos (show (0 : Int) ≤ (i : Int) by omega), e1, if_pos (show (0 : Int) ≤ ((i - 1 : Nat) : Int) by omega), if_pos (show ((i - 1 : Nat) : Int) < (r.length : Int) by omega)]
    refine Ev.bind (impl_ProperSum_ev _) ?_
    simp only [if_pos (show rd r (i : Int) = propI (rd r ((i - 1 : Nat) : Int)) from c1), if_pos (show (i : Int) ≤ (r.length : Int) by omega), Int.toNat_natCast]
    refine Ev.bind (hasInt_ev (by rw [List.length_take]; omega) _) ?_
    rw [decide_eq_false (show ¬ rd r (i : Int) ∈ r.take i from c2), w64_succ (by omega)]
    simp only [Bool.false_eq_true, if_false]
    exact ih (i + 1) (by omega) (by omega) (by omega)
theorem FnWayFrom : laws_FnWayFrom.Pure := by
  intro l0 _ _ hu
  refine Ev.rounds (r := true) ?_
  unfold laws_FnWayFrom.f
  by_cases hlen : (l0.length : Int) > 1048576
  · simp only [if_pos hlen]; exact Ev.now _
  simp only [if_neg hlen]
  obtain ⟨n, hd⟩ := DrawWayFrom_ev hu
  refine Ev.bind hd (Ev.bind (impl_WayFrom_ev n) (Ev.bind (spec_WayFrom_ev n) (Ev.bind (sameInts_same (wayI_length n)) ?_)))
  simp only [if_true]
  by_cases hz : ((wayI n).length : Int) = 0
  · simp only [if_pos hz, alive_eq, Option.bind_some]; exact Ev.now _
  simp only [if_neg hz]
  have h : inN n := by
    by_cases h : inN n
    · exact h
    · exfalso
      have e : wayI n = [] := by rw [show wayI n = wayF (29 + 1) [] n from rfl, wayF, if_neg (fun e => h e.1)]
      rw [e] at hz
      simp at hz
  obtain ⟨c1, c2⟩ := way_chain n 30 [] n (fun k _ h2 => by simp at h2) (fun _ => rfl) (fun h => by simp at h)
  have hl30 := wayF_length 30 [] n
  have hl : (wayI n).length ≤ 30 := by unfold wayI; simpa using hl30
  exact wf_l h rfl hl (c2 (by unfold wayI at hz; omega)) (by omega) c1 _ 1 (by omega) (by omega) rfl

end Go.Proofs.Ytkpdhpgocblogaa.Pure
