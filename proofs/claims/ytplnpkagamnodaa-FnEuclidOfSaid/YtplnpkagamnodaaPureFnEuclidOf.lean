/- The program's EuclidOf answers as the reference's; if the first factor is prime, the product is perfect, and if not, it is rich: for every code. No conditions. -/
import Derived.Test.YtplnpkagamnodaaOFnEuclidOfx3
import Derived.Test.YtplnpkagamnodaaEvs
import Derived.Test.YtplnpkagamnodaaEuler
import Derived.Test.YtplnpkagamnodaaMul
namespace Go.Proofs.Ytplnpkagamnodaa.Pure
open Go.RowKit Go.Proofs.Ytplnpkagamnodaa.PFnEuclidOf Go.Proofs.YtplnpkagamnodaaW.PrintWords Go.Proofs.YtplnpkagamnodaaW.PrintLast Go.Proofs.YtplnpkagamnodaaW.PrintMore Go.Proofs.Ytplnpkagamnodaa.Math
set_option linter.unusedVariables false
set_option linter.unusedSimpArgs false

/-- The sum of all divisors but the number itself. -/
def propI (a : Int) : Int := if inN a then D (fun d => (d : Int)) a.toNat - a else -1

/-- Poor, perfect or rich. -/
def kindI (a : Int) : Int := if inN a then (if propI a < a then -1 else if propI a = a then 0 else 1) else -2

theorem propI_pos {n : Nat} (h1 : 1 ≤ n) (h2 : n ≤ 10000) : 0 ≤ propI (n : Int) ∧ propI (n : Int) = D (fun d => (d : Int)) n - n ∧ propI (n : Int) ≤ 100000000 := by
  have h : inN (n : Int) := by unfold inN; omega
  have hg := D_id_ge h1
  have hb := D_id_le n
  have hb2 : (n : Int) * n ≤ 10000 * 10000 := Int.mul_le_mul (by omega) (by omega) (by omega) (by omega)
  have e : propI (n : Int) = D (fun d => (d : Int)) n - n := by unfold propI; rw [if_pos h]; rfl
  rw [e]
  exact ⟨by omega, rfl, by omega⟩

theorem numberOk_eq (a : Int) : impl_numberOk.f a = some (decide (inN a)) := by
  unfold impl_numberOk.f inN
  by_cases h : 1 ≤ a
  · rw [if_pos h]; simp [h]
  · rw [if_neg h]; simp [h]

theorem cmp_eq (a b : Int) : cmp_Compare_int.f a b = some (if a < b then -1 else if a > b then 1 else 0) := by
  unfold cmp_Compare_int.f cmp_isNaN_int.f
  simp only [bne_self_eq_false, Option.bind_some, Bool.false_eq_true, if_false]
  by_cases h1 : a < b
  · simp only [if_pos h1]
  · simp only [if_neg h1]
    by_cases h2 : a > b
    · simp only [if_pos h2]
    · simp only [if_neg h2]

theorem reverse_l (d : Nat) : ∀ (A M B : List Int), M.length ≤ d → A.length + M.length + B.length ≤ 1000000000 →
    Ev (fun k => slices_Reverse_int_int.l0 k (A ++ M ++ B) (A.length : Int) ((A.length : Int) + (M.length : Int) - 1)) (A ++ M.reverse ++ B) := by
  induction d using Nat.strongRecOn with
  | ind d ih =>
    intro A M B hd hb
    refine Ev_suc ?_
    simp only [slices_Reverse_int_int.l0]
    by_cases h2 : M.length ≤ 1
    · have c0 : ¬ (A.length : Int) < (A.length : Int) + (M.length : Int) - 1 := by omega
      simp only [if_neg c0]
      have e : M.reverse = M := by
        match M, h2 with
        | [], _ => rfl
        | [x], _ => rfl
      rw [e]
      exact Ev.now _
    · match M, h2 with
      | x :: M', h2 =>
        obtain ⟨N, y, rfl⟩ : ∃ N y, M' = N ++ [y] := by
          rcases List.eq_nil_or_concat M' with e | ⟨N, y, e⟩
          · rw [e] at h2; simp at h2
          · exact ⟨N, y, by rw [e, List.concat_eq_append]⟩
        have hl : (x :: (N ++ [y])).length = N.length + 2 := by simp
        rw [hl] at hd hb ⊢
        have e3 : (A.length : Int) + ((N.length + 2 : Nat) : Int) - 1 = ((A.length + (N.length + 1) : Nat) : Int) := by omega
        rw [e3]
        have hlen : (A ++ x :: (N ++ [y]) ++ B).length = A.length + N.length + 2 + B.length := by simp; omega
        have r1 : rd (A ++ x :: (N ++ [y]) ++ B) ((A.length + (N.length + 1) : Nat) : Int) = y := by
          unfold rd
          rw [Int.toNat_natCast, List.getD_eq_getElem?_getD, List.append_assoc, List.getElem?_append_right (by omega), Nat.add_sub_cancel_left]
          simp
        have r2 : rd (A ++ x :: (N ++ [y]) ++ B) (A.length : Int) = x := by
          unfold rd
          rw [Int.toNat_natCast, List.getD_eq_getElem?_getD, List.append_assoc, List.getElem?_append_right (Nat.le_refl _), Nat.sub_self]
          simp
        have hs : ((A ++ x :: (N ++ [y]) ++ B).set A.length y).set (A.length + (N.length + 1)) x = (A ++ [y]) ++ N ++ (x :: B) := by
          simp only [List.append_assoc, List.cons_append]
          rw [List.set_append_right _ _ (Nat.le_refl _), Nat.sub_self, List.set_cons_zero, List.set_append_right _ _ (by omega), Nat.add_sub_cancel_left, List.set_cons_succ,
            List.set_append_right _ _ (Nat.le_refl _), Nat.sub_self]
          simp
        have c1 : (A.length : Int) < ((A.length + (N.length + 1) : Nat) : Int) := by omega
        have c2 : (0 : Int) ≤ ((A.length + (N.length + 1) : Nat) : Int) := by omega
        have c3 : ((A.length + (N.length + 1) : Nat) : Int) < ((A ++ x :: (N ++ [y]) ++ B).length : Int) := by rw [hlen]; omega
        have c4 : (0 : Int) ≤ (A.length : Int) := by omega
        have c5 : (A.length : Int) < ((A ++ x :: (N ++ [y]) ++ B).length : Int) := by rw [hlen]; omega
        have w1 : wrap64 ((A.length : Int) + 1) = ((A ++ [y]).length : Int) := by rw [w64 (by omega) (by omega)]; simp
        have w2 : wrap64 (((A.length + (N.length + 1) : Nat) : Int) - 1) = ((A ++ [y]).length : Int) + (N.length : Int) - 1 := by rw [w64 (by omega) (by omega)]; simp; omega
        simp only [if_pos c1, if_pos c2, if_pos c3, if_pos c4, if_pos c5, r1, r2, Int.toNat_natCast, hs, w1, w2]
        have hres : A ++ (x :: (N ++ [y])).reverse ++ B = (A ++ [y]) ++ N.reverse ++ (x :: B) := by simp
        rw [hres]
        exact ih N.length (by omega) (A ++ [y]) N (x :: B) (Nat.le_refl _) (by simp; omega)

theorem reverse_ev (l : List Int) (h : l.length ≤ 1000000000) : Ev (fun k => slices_Reverse_int_int.f k l) l.reverse := by
  unfold slices_Reverse_int_int.f
  have e := reverse_l l.length [] l [] (Nat.le_refl _) (by simpa using h)
  simp only [List.nil_append, List.append_nil, List.length_nil, Int.natCast_zero, Int.zero_add] at e
  rw [w64 (by omega) (by omega)]
  exact e

theorem impl_divisors_l {n : Nat} (hn : 1 ≤ n) (hn2 : n ≤ 10000) (d : Nat) : ∀ c, c * c ≤ n → n - c = d →
    Ev (fun k => impl_divisors.l0 k (n : Int) (lI (L (dv n) c)) (lI ((L (sm n) c).map (fun d => n / d))) ((c + 1 : Nat) : Int)) (lI (divs n)) := by
  induction d using Nat.strongRecOn with
  | ind d ih =>
    intro c hc hd
    have hcn : c ≤ n := by
      rcases Nat.eq_zero_or_pos c with e | e
      · omega
      · have := Nat.le_mul_of_pos_left c e; omega
    have hsq : (c + 1) * (c + 1) ≤ 100000000000 := by
      have : (c + 1) * (c + 1) ≤ 10001 * 10001 := Nat.mul_le_mul (by omega) (by omega)
      omega
    refine Ev_suc ?_
    simp only [impl_divisors.l0]
    rw [w64_mul (by omega)]
    have l1 : (lI (L (dv n) c)).length < 17592186044416 := by rw [lI_length]; have := L_length_le (dv n) c; omega
    have l2 : (lI ((L (sm n) c).map (fun d => n / d))).length < 17592186044416 := by rw [lI_length, List.length_map]; have := L_length_le (sm n) c; omega
    have hw : wrap64 (((c + 1 : Nat) : Int) + 1) = ((c + 1 + 1 : Nat) : Int) := w64_succ (by omega)
    by_cases h : (c + 1) * (c + 1) ≤ n
    · have c1 : (((c + 1) * (c + 1) : Nat) : Int) ≤ (n : Int) := Int.ofNat_le.2 h
      have c2 : ¬ ((c + 1 : Nat) : Int) = 0 := by omega
      have hcn' : c + 1 ≤ n := by
        have := Nat.le_mul_of_pos_left (c + 1) (show 0 < c + 1 by omega); omega
      have next := ih (n - (c + 1)) (by omega) (c + 1) h rfl
      simp only [if_pos c1, if_neg c2, tmod_nat, hw, w64_div (show n ≤ 9223372036854775807 by omega)]
      by_cases h0 : n % (c + 1) = 0
      · have c3 : ((n % (c + 1) : Nat) : Int) = 0 := by omega
        rw [L_yes (dv_iff.2 h0), lI_append] at next
        simp only [if_pos c3, if_pos l1, Option.bind_some]
        by_cases hs : (c + 1) * (c + 1) < n
        · have c4 : (((c + 1) * (c + 1) : Nat) : Int) < (n : Int) := Int.ofNat_lt.2 hs
          rw [L_yes (sm_iff.2 ⟨h0, hs⟩), List.map_append, lI_append] at next
          simp only [if_pos c4, if_pos l2]
          exact next
        · have c4 : ¬ (((c + 1) * (c + 1) : Nat) : Int) < (n : Int) := fun e => hs (Int.ofNat_lt.1 e)
          rw [L_no (fun e => hs (sm_iff.1 e).2)] at next
          simp only [if_neg c4]
          exact next
      · have c3 : ¬ ((n % (c + 1) : Nat) : Int) = 0 := by omega
        rw [L_no (fun e => h0 (dv_iff.1 e)), L_no (fun e => h0 (sm_iff.1 e).1)] at next
        simp only [if_neg c3]
        exact next
    · have c1 : ¬ (((c + 1) * (c + 1) : Nat) : Int) ≤ (n : Int) := fun e => h (Int.ofNat_le.1 e)
      simp only [if_neg c1]
      refine Ev.bind (reverse_ev _ (by rw [lI_length, List.length_map]; have := L_length_le (sm n) c; omega)) ?_
      have l3 : (lI (L (dv n) c)).length + (lI ((L (sm n) c).map (fun d => n / d))).reverse.length < 17592186044416 := by
        rw [List.length_reverse, lI_length, lI_length, List.length_map]
        have := L_length_le (dv n) c
        have := L_length_le (sm n) c
        omega
      simp only [if_pos l3]
      rw [← divs_pairs hn hc (by omega)]
      have e : lI (L (dv n) c ++ ((L (sm n) c).map (fun d => n / d)).reverse) = lI (L (dv n) c) ++ (lI ((L (sm n) c).map (fun d => n / d))).reverse := by
        rw [lI_append]; simp [lI]
      rw [e]
      exact Ev.now _

theorem impl_divisors_ev {n : Nat} (hn : 1 ≤ n) (hn2 : n ≤ 10000) : Ev (fun k => impl_divisors.f k (n : Int)) (lI (divs n)) :=
  impl_divisors_l hn hn2 n 0 (by omega) rfl

theorem impl_sum_l {l : List Nat} (hl : l.length ≤ 1000000) (d : Nat) : ∀ (i : Nat) (acc : Int), l.length - i = d → i ≤ l.length → 0 ≤ acc → acc + sumL (fun x => (x : Int)) (l.drop i) ≤ 1000000000000000 →
    Ev (fun k => impl_sum.l0 k acc (lI l) (l.length : Int) (i : Int)) (acc + sumL (fun x => (x : Int)) (l.drop i)) := by
  induction d with
  | zero =>
    intro i acc hd hi _ _
    have e : i = l.length := by omega
    subst e
    refine Ev_suc ?_
    simp only [impl_sum.l0, Int.lt_irrefl, if_false, List.drop_length, sumL, Int.add_zero]
    exact Ev.now _
  | succ d ih =>
    intro i acc hd hi h0 hb
    have hlt : i < l.length := by omega
    have hlt' : i < (lI l).length := by rw [lI_length]; exact hlt
    have hr : rd (lI l) (i : Int) = ((l[i] : Nat) : Int) := by rw [rd_get hlt']; simp [lI]
    rw [drop_cons hlt] at hb ⊢
    simp only [sumL] at hb ⊢
    have hnn := sumL_nonneg (l.drop (i + 1))
    refine Ev_suc ?_
    have c1 : (i : Int) < (l.length : Int) := by omega
    have c2 : (0 : Int) ≤ (i : Int) := by omega
    have c3 : (i : Int) < ((lI l).length : Int) := by omega
    simp only [impl_sum.l0, if_pos c1, if_pos c2, if_pos c3, hr]
    rw [w64 (by omega) (by omega), w64_succ (by omega), ← Int.add_assoc]
    exact ih (i + 1) _ (by omega) (by omega) (by omega) (by omega)

theorem impl_sum_ev {l : List Nat} (hl : l.length ≤ 1000000) (hb : sumL (fun x => (x : Int)) l ≤ 1000000000000000) : Ev (fun k => impl_sum.f k (lI l)) (sumL (fun x => (x : Int)) l) := by
  unfold impl_sum.f
  have := impl_sum_l hl l.length 0 0 (by omega) (by omega) (by omega) (by rw [List.drop_zero]; omega)
  rw [List.drop_zero, Int.zero_add] at this
  rw [lI_length]
  exact this

theorem impl_ProperSum_ev (a : Int) : Ev (fun k => impl_ProperSum.f k a) (propI a) := by
  unfold impl_ProperSum.f propI
  by_cases h : inN a
  · obtain ⟨n, rfl, h1, h2⟩ := inN_nat h
    simp only [numberOk_eq, Option.bind_some, decide_eq_true_eq, if_pos h, Int.toNat_natCast]
    have hb := D_id_le n
    have hb2 : (n : Int) * n ≤ 10000 * 10000 := Int.mul_le_mul (by omega) (by omega) (by omega) (by omega)
    have hnn := D_id_ge h1
    refine Ev.bind (impl_divisors_ev h1 h2) (Ev.bind (impl_sum_ev (by have := L_length_le (dv n) n; unfold divs; omega) (by rw [sum_divs]; omega)) ?_)
    rw [sum_divs, w64 (by omega) (by omega)]
    exact Ev.now _
  · simp only [numberOk_eq, Option.bind_some, decide_eq_true_eq, if_neg h]
    exact Ev.now _

theorem impl_KindOf_ev (a : Int) : Ev (fun k => impl_KindOf.f k a) (kindI a) := by
  unfold impl_KindOf.f kindI
  by_cases h : inN a
  · simp only [numberOk_eq, Option.bind_some, decide_eq_true_eq, if_pos h, cmp_eq]
    refine Ev.bind (impl_ProperSum_ev a) ?_
    by_cases c1 : propI a < a
    · simp only [if_pos c1]; exact Ev.now _
    · simp only [if_neg c1]
      by_cases c2 : propI a = a
      · simp only [if_pos c2, if_neg (show ¬ propI a > a by omega)]; exact Ev.now _
      · simp only [if_neg c2, if_pos (show propI a > a by omega)]; exact Ev.now _
  · simp only [numberOk_eq, Option.bind_some, decide_eq_true_eq, if_neg h]
    exact Ev.now _

/-- A code as it is read: at most 2000 bytes. -/
def Bs (l : List Int) : Prop := l.length ≤ 2000 ∧ ∀ x ∈ l, 0 ≤ x ∧ x ≤ 255

theorem u8_range {x : Int} (h : (Lit.int .u8 x).wf = true) : 0 ≤ x ∧ x ≤ 255 := by
  simp [Lit.wf, IntKind.min, IntKind.max, IntKind.bits, IntKind.signed] at h
  omega

theorem l20Open_ev {l0 : List Int} (h : ∀ x ∈ l0, (Lit.int .u8 x).wf = true) : ∃ l, spec_l20Open.f l0 = some (l, 0) ∧ Bs l := by
  unfold spec_l20Open.f
  by_cases h1 : (l0.length : Int) > 2000
  · refine ⟨l0.take 2000, ?_, ?_, fun x hx => u8_range (h x (List.mem_of_mem_take hx))⟩
    · rw [if_pos h1, if_pos (by omega)]
    · exact List.length_take_le _ _
  · exact ⟨l0, by rw [if_neg h1], by omega, fun x hx => u8_range (h x hx)⟩

theorem rd_byte {l : List Int} (h : Bs l) (i : Int) : 0 ≤ rd l i ∧ rd l i ≤ 255 := by
  unfold rd
  rw [List.getD_eq_getElem?_getD]
  by_cases e : i.toNat < l.length
  · rw [List.getElem?_eq_getElem e]; exact h.2 _ (List.getElem_mem e)
  · rw [List.getElem?_eq_none (by omega)]; simp

theorem tmod_range {a n : Int} (ha : 0 ≤ a) (hn : 1 ≤ n) : 0 ≤ Int.tmod a n ∧ Int.tmod a n < n :=
  ⟨Int.tmod_nonneg _ ha, Int.tmod_lt_of_pos a (by omega)⟩

theorem xor_nonneg {a b : Int} (h1 : 0 ≤ a) (h2 : a < 1099511627776) (h3 : 0 ≤ b) (h4 : b < 1099511627776) : 0 ≤ Go.bits .xor .i64 a b := by
  have e : Go.bits .xor .i64 a b = wrap64 (((BitVec.ofInt 64 a ^^^ BitVec.ofInt 64 b).toNat : Nat) : Int) := i64_w _
  have ha : (BitVec.ofInt 64 a).toNat = a.toNat := by
    rw [BitVec.toNat_ofInt]; omega
  have hb : (BitVec.ofInt 64 b).toNat = b.toNat := by
    rw [BitVec.toNat_ofInt]; omega
  have hx : a.toNat ^^^ b.toNat < 2 ^ 40 := Nat.xor_lt_two_pow (by omega) (by omega)
  rw [e, BitVec.toNat_xor, ha, hb, w64_nat (by omega)]
  omega

theorem pick_ev {l : List Int} (hl : Bs l) {p n : Int} (hp : 0 ≤ p) (hp2 : p ≤ 1000000) (hn : 1 ≤ n) (hn2 : n ≤ 1000000) :
    ∃ v, Ev (fun k => spec_l20Rd_pick.f k l p n) (v, p + 1) ∧ 0 ≤ v ∧ v < n := by
  unfold spec_l20Rd_pick.f
  simp only [if_neg (show ¬ n < 1 by omega)]
  rw [w64 (x := p + 1) (by omega) (by omega)]
  by_cases h0 : (l.length : Int) = 0
  · refine ⟨0, ?_, by omega, by omega⟩
    have e : ((l.length : Int) == 0) = true := by rw [h0]; rfl
    rw [e]
    refine Ev_suc ?_
    simp only [spec_l20Rd_pick.j0, if_true]
    exact Ev.now _
  · have e : ((l.length : Int) == 0) = false := beq_eq_false_iff_ne.2 h0
    have hlen := hl.1
    rw [e]
    by_cases h1 : p < (l.length : Int)
    · have hb := rd_byte hl p
      obtain ⟨t1, t2⟩ := tmod_range (a := rd l p) (n := n) hb.1 hn
      refine ⟨Int.tmod (rd l p) n, ?_, t1, t2⟩
      refine Ev_suc ?_
      simp only [spec_l20Rd_pick.j0, Bool.false_eq_true, if_false]
      rw [w64 (x := p + 1 - 1) (by omega) (by omega), show p + 1 - 1 = p by omega, w64 (x := rd l p) (by omega) (by omega)]
      simp only [if_pos h1, if_pos hp, if_neg (show ¬ n = 0 by omega)]
      exact Ev.now _
    · obtain ⟨pn, rfl⟩ := Int.eq_ofNat_of_zero_le hp
      have hL : 0 < l.length := by omega
      have i1 : Int.tmod (pn : Int) (l.length : Int) = ((pn % l.length : Nat) : Int) := rfl
      have i2 : Int.tmod (wrap64 (wrap64 ((pn : Int) * 7) + 3)) (l.length : Int) = (((pn * 7 + 3) % l.length : Nat) : Int) := by
        rw [w64 (x := (pn : Int) * 7) (by omega) (by omega), w64 (by omega) (by omega)]; rfl
      have i3 : wrap64 (Int.tdiv (pn : Int) (l.length : Int)) = ((pn / l.length : Nat) : Int) := w64_div (by omega)
      have m1 := Nat.mod_lt pn hL
      have m2 := Nat.mod_lt (pn * 7 + 3) hL
      have m3 := Nat.div_le_self pn l.length
      obtain ⟨a1, a2⟩ := rd_byte hl ((pn % l.length : Nat) : Int)
      obtain ⟨b1, b2⟩ := rd_byte hl (((pn * 7 + 3) % l.length : Nat) : Int)
      suffices hs : ∃ v, Ev (fun k => spec_l20Rd_pick.j0 k n false l ((pn : Int) + 1)) (v, (pn : Int) + 1) ∧ 0 ≤ v ∧ v < n from hs
      refine ⟨?v, Ev_suc ?_, ?_⟩
      case refine_1 =>
        simp only [spec_l20Rd_pick.j0, Bool.false_eq_true, if_false]
        rw [w64 (x := (pn : Int) + 1 - 1) (by omega) (by omega), show (pn : Int) + 1 - 1 = (pn : Int) by omega, i1, i2, i3]
        simp only [if_neg h1, if_neg h0, if_neg (show ¬ n = 0 by omega), if_pos (show (0 : Int) ≤ ((pn % l.length : Nat) : Int) by omega), if_pos (show ((pn % l.length : Nat) : Int) < (l.length : Int) by omega), if_pos (show (0 : Int) ≤ (((pn * 7 + 3) % l.length : Nat) : Int) by omega), if_pos (show (((pn * 7 + 3) % l.length : Nat) : Int) < (l.length : Int) by omega)]
        exact Ev.now _
      case refine_2 =>
        clear i3
        generalize pn / l.length = zq at *
        have z : wrap64 (wrap64 (wrap64 (wrap64 (wrap64 (rd l ((pn % l.length : Nat) : Int)) * 131) + wrap64 (wrap64 (rd l (((pn * 7 + 3) % l.length : Nat) : Int)) * 1117)) + wrap64 ((pn : Int) * 29)) + wrap64 ((zq : Int) * 53)) =
            rd l ((pn % l.length : Nat) : Int) * 131 + rd l (((pn * 7 + 3) % l.length : Nat) : Int) * 1117 + (pn : Int) * 29 + (zq : Int) * 53 := by
          generalize rd l ((pn % l.length : Nat) : Int) = x at a1 a2
          generalize rd l (((pn * 7 + 3) % l.length : Nat) : Int) = y at b1 b2
          rw [w64 (x := x) (by omega) (by omega), w64 (x := y) (by omega) (by omega), w64 (x := x * 131) (by omega) (by omega), w64 (x := y * 1117) (by omega) (by omega), w64 (x := (pn : Int) * 29) (by omega) (by omega), w64 (x := (zq : Int) * 53) (by omega) (by omega),
            w64 (x := x * 131 + y * 1117) (by omega) (by omega), w64 (x := x * 131 + y * 1117 + (pn : Int) * 29) (by omega) (by omega), w64 (by omega) (by omega)]
        rw [z]
        generalize hz : rd l ((pn % l.length : Nat) : Int) * 131 + rd l (((pn * 7 + 3) % l.length : Nat) : Int) * 1117 + (pn : Int) * 29 + (zq : Int) * 53 = w at *
        have w1 : 0 ≤ w := by omega
        have w2 : w < 1099511627776 := by omega
        have w3 : wrap64 (Int.tdiv w 64) = w / 64 := by rw [Int.tdiv_eq_ediv_of_nonneg w1, w64 (by omega) (by omega)]
        rw [w3]
        exact tmod_range (xor_nonneg w1 w2 (by omega) (by omega)) hn

theorem DrawEuclidOf_ev {l0 : List Int} (h : ∀ x ∈ l0, (Lit.int .u8 x).wf = true) : ∃ v, Ev (fun k => spec_DrawEuclidOf.f k l0) v ∧ -30000 ≤ v ∧ v ≤ 30000 := by
  obtain ⟨l, e, hl⟩ := l20Open_ev h
  obtain ⟨v, hv, b1, b2⟩ := pick_ev hl (p := 0) (n := 10) (by omega) (by omega) (by omega) (by omega)
  refine ⟨v, ?_, by omega, by omega⟩
  unfold spec_DrawEuclidOf.f
  rw [e]
  simp only [Option.bind_some]
  exact Ev.bind hv (Ev.now _)

/-- The number and the answer of EuclidOf. -/
def euI (a : Int) : Int × Bool := if a = 2 then (6, primeI 3) else if a = 3 then (28, primeI 7) else if a = 4 then (120, primeI 15) else if a = 5 then (496, primeI 31) else if a = 6 then (2016, primeI 63) else if a = 7 then (8128, primeI 127) else (-1, false)

theorem euI_cases {P : Int → Int × Bool → Prop} (h2 : P 2 (6, primeI 3)) (h3 : P 3 (28, primeI 7)) (h4 : P 4 (120, primeI 15)) (h5 : P 5 (496, primeI 31)) (h6 : P 6 (2016, primeI 63)) (h7 : P 7 (8128, primeI 127))
    (hn : ∀ a : Int, ¬ (2 ≤ a ∧ a ≤ 7) → P a (-1, false)) (a : Int) : P a (euI a) := by
  unfold euI
  by_cases e2 : a = 2
  · rw [if_pos e2, e2]; exact h2
  rw [if_neg e2]
  by_cases e3 : a = 3
  · rw [if_pos e3, e3]; exact h3
  rw [if_neg e3]
  by_cases e4 : a = 4
  · rw [if_pos e4, e4]; exact h4
  rw [if_neg e4]
  by_cases e5 : a = 5
  · rw [if_pos e5, e5]; exact h5
  rw [if_neg e5]
  by_cases e6 : a = 6
  · rw [if_pos e6, e6]; exact h6
  rw [if_neg e6]
  by_cases e7 : a = 7
  · rw [if_pos e7, e7]; exact h7
  rw [if_neg e7]
  exact hn a (by omega)

theorem impl_PrimeOk_ev (a : Int) : Ev (fun k => impl_PrimeOk.f k a) (primeI a) := by
  unfold impl_PrimeOk.f primeI
  by_cases h : inN a
  · obtain ⟨n, rfl, h1, h2⟩ := inN_nat h
    simp only [numberOk_eq, Option.bind_some, decide_eq_true_eq, if_pos h, Int.toNat_natCast]
    refine Ev.bind (impl_divisors_ev h1 h2) ?_
    rw [lI_length]
    have e : (((divs n).length : Int) == 2) = decide (inN (n : Int) ∧ (divs n).length = 2) := by
      by_cases e : (divs n).length = 2
      · simp [e, h]
      · simp [e, h]; omega
    rw [e]
    exact Ev.now _
  · simp only [numberOk_eq, Option.bind_some, decide_eq_true_eq, if_neg h, h, false_and, decide_false]
    exact Ev.now _

theorem impl_EuclidOf_ev (a : Int) : Ev (fun k => impl_EuclidOf.f k a) (euI a) := by
  refine euI_cases (P := fun a r => Ev (fun k => impl_EuclidOf.f k a) r) ?_ ?_ ?_ ?_ ?_ ?_ ?_ a
  · refine Ev.congr (f := fun k => (impl_PrimeOk.f k 3).bind fun t => some (6, t)) (fun k => by kernel_rfl) ?_
    exact Ev.bind (impl_PrimeOk_ev 3) (Ev.now _)
  · refine Ev.congr (f := fun k => (impl_PrimeOk.f k 7).bind fun t => some (28, t)) (fun k => by kernel_rfl) ?_
    exact Ev.bind (impl_PrimeOk_ev 7) (Ev.now _)
  · refine Ev.congr (f := fun k => (impl_PrimeOk.f k 15).bind fun t => some (120, t)) (fun k => by kernel_rfl) ?_
    exact Ev.bind (impl_PrimeOk_ev 15) (Ev.now _)
  · refine Ev.congr (f := fun k => (impl_PrimeOk.f k 31).bind fun t => some (496, t)) (fun k => by kernel_rfl) ?_
    exact Ev.bind (impl_PrimeOk_ev 31) (Ev.now _)
  · refine Ev.congr (f := fun k => (impl_PrimeOk.f k 63).bind fun t => some (2016, t)) (fun k => by kernel_rfl) ?_
    exact Ev.bind (impl_PrimeOk_ev 63) (Ev.now _)
  · refine Ev.congr (f := fun k => (impl_PrimeOk.f k 127).bind fun t => some (8128, t)) (fun k => by kernel_rfl) ?_
    exact Ev.bind (impl_PrimeOk_ev 127) (Ev.now _)
  · intro a h
    unfold impl_EuclidOf.f
    by_cases h2 : a < 2
    · simp only [if_pos h2]; exact Ev.now _
    · simp only [if_neg h2, if_pos (show a > 7 by omega)]; exact Ev.now _

theorem l1In_eq (a lo hi : Int) : spec_l1In.f a lo hi = some (decide (lo ≤ a ∧ a ≤ hi)) := by
  unfold spec_l1In.f
  by_cases h : lo ≤ a
  · rw [if_pos h]; simp [h]
  · rw [if_neg h]; simp [h]

theorem spec_PrimeOk_l {n : Nat} (h2 : 2 ≤ n) (hn2 : n ≤ 10000) (d : Nat) : ∀ p, 2 ≤ p → p ≤ n + 1 → n + 1 - p = d → Rough p n →
    Ev (fun k => spec_PrimeOk.l0 k (n : Int) (p : Int)) (primeI (n : Int)) := by
  induction d using Nat.strongRecOn with
  | ind d ih =>
    intro p hp hpn hd hr
    have hsq : p * p ≤ 100000000000 := by
      have : p * p ≤ 10001 * 10001 := Nat.mul_le_mul (by omega) (by omega)
      omega
    refine Ev_suc ?_
    simp only [spec_PrimeOk.l0]
    rw [w64_mul (by omega)]
    by_cases h : p * p ≤ n
    · have c1 : ((p * p : Nat) : Int) ≤ (n : Int) := Int.ofNat_le.2 h
      have c2 : (n : Int) ≤ 10000 := by omega
      have c3 : ¬ (p : Int) = 0 := by omega
      have hlt : p < n := by
        have : 2 * p ≤ p * p := Nat.mul_le_mul_right p hp
        omega
      simp only [if_pos c1, decide_eq_true c2]
      refine Ev_suc ?_
      simp only [spec_PrimeOk.j1, if_true, if_neg c3, tmod_nat]
      by_cases h0 : n % p = 0
      · have c4 : ((n % p : Nat) : Int) = 0 := by omega
        simp only [if_pos c4]
        have e : primeI (n : Int) = false := by
          rw [Bool.eq_false_iff]
          intro e
          have := (primeI_nat (by omega) hn2).1 e
          rcases this.2 p (mod_dvd.1 h0) with e | e <;> omega
        rw [e]
        exact Ev.now _
      · have c4 : ¬ ((n % p : Nat) : Int) = 0 := by omega
        simp only [if_neg c4]
        rw [w64_succ (by omega)]
        exact ih (n + 1 - (p + 1)) (by omega) (p + 1) (by omega) (by omega) rfl (hr.next h0)
    · have c1 : ¬ ((p * p : Nat) : Int) ≤ (n : Int) := fun e => h (Int.ofNat_le.1 e)
      simp only [if_neg c1]
      refine Ev_suc ?_
      simp only [spec_PrimeOk.j1, Bool.false_eq_true, if_false, l1In_eq, Option.bind_some]
      have e : primeI (n : Int) = true := (primeI_nat (by omega) hn2).2 ((hr.square (by omega)).toPr h2)
      rw [e, decide_eq_true (show (2 : Int) ≤ (n : Int) ∧ (n : Int) ≤ 10000 by omega)]
      exact Ev.now _

theorem spec_PrimeOk_ev (a : Int) (ha : a ≤ 9223372036854775807) : Ev (fun k => spec_PrimeOk.f k a) (primeI a) := by
  unfold spec_PrimeOk.f
  by_cases h : 2 ≤ a ∧ a ≤ 10000
  · obtain ⟨n, rfl, h1, h2⟩ := inN_nat (a := a) ⟨by omega, h.2⟩
    exact spec_PrimeOk_l (by omega) h2 (n + 1 - 2) 2 (by omega) (by omega) rfl (Rough.two n)
  · have e : primeI a = false := by
      unfold primeI
      rw [decide_eq_false_iff_not]
      rintro ⟨h1, h2⟩
      obtain ⟨n, rfl, h3, h4⟩ := inN_nat h1
      rw [Int.toNat_natCast] at h2
      have := (divs_two h3 h2).1
      exact h (by omega)
    rw [e]
    have e2 : wrap64 ((2 : Int) * 2) = 4 := by rw [w64 (by omega) (by omega)]; rfl
    have hf : decide ((2 : Int) ≤ a ∧ a ≤ 10000) = false := decide_eq_false h
    refine Ev_suc ?_
    simp only [spec_PrimeOk.l0, e2]
    have hj : Ev (fun k => spec_PrimeOk.j1 k a 2 false) false := by
      refine Ev_suc ?_
      simp only [spec_PrimeOk.j1, Bool.false_eq_true, if_false, l1In_eq, Option.bind_some, hf]
      exact Ev.now _
    by_cases h4 : (4 : Int) ≤ a
    · simp only [if_pos h4, decide_eq_false (show ¬ a ≤ 10000 by omega)]
      exact hj
    · simp only [if_neg h4]
      exact hj

theorem spec_EuclidOf_ev (a : Int) : Ev (fun k => spec_EuclidOf.f k a) (euI a) := by
  refine euI_cases (P := fun a r => Ev (fun k => spec_EuclidOf.f k a) r) ?_ ?_ ?_ ?_ ?_ ?_ ?_ a
  · refine Ev.congr (f := fun k => (spec_PrimeOk.f k 3).bind fun t => some (6, t)) (fun k => by kernel_rfl) ?_
    exact Ev.bind (spec_PrimeOk_ev 3 (by omega)) (Ev.now _)
  · refine Ev.congr (f := fun k => (spec_PrimeOk.f k 7).bind fun t => some (28, t)) (fun k => by kernel_rfl) ?_
    exact Ev.bind (spec_PrimeOk_ev 7 (by omega)) (Ev.now _)
  · refine Ev.congr (f := fun k => (spec_PrimeOk.f k 15).bind fun t => some (120, t)) (fun k => by kernel_rfl) ?_
    exact Ev.bind (spec_PrimeOk_ev 15 (by omega)) (Ev.now _)
  · refine Ev.congr (f := fun k => (spec_PrimeOk.f k 31).bind fun t => some (496, t)) (fun k => by kernel_rfl) ?_
    exact Ev.bind (spec_PrimeOk_ev 31 (by omega)) (Ev.now _)
  · refine Ev.congr (f := fun k => (spec_PrimeOk.f k 63).bind fun t => some (2016, t)) (fun k => by kernel_rfl) ?_
    exact Ev.bind (spec_PrimeOk_ev 63 (by omega)) (Ev.now _)
  · refine Ev.congr (f := fun k => (spec_PrimeOk.f k 127).bind fun t => some (8128, t)) (fun k => by kernel_rfl) ?_
    exact Ev.bind (spec_PrimeOk_ev 127 (by omega)) (Ev.now _)
  · intro a h
    unfold spec_EuclidOf.f
    simp only [l1In_eq, Option.bind_some, decide_eq_true_eq, if_neg h]
    exact Ev.now _

/-- Does a number divide another one, both from 1 up to the greatest number? -/
def dvI (d n : Int) : Bool := decide (inN d ∧ inN n ∧ n.toNat % d.toNat = 0)

theorem impl_DividesOk_eq (d n : Int) : impl_DividesOk.f d n = some (dvI d n) := by
  unfold impl_DividesOk.f dvI
  by_cases h1 : inN d
  · by_cases h2 : inN n
    · obtain ⟨a, rfl, _, _⟩ := inN_nat h1
      obtain ⟨b, rfl, _, _⟩ := inN_nat h2
      have h0 : ¬ ((a : Int) = 0) := by omega
      simp only [numberOk_eq, Option.bind_some, decide_eq_true_eq, if_pos h1, if_pos h2, if_neg h0, tmod_nat, Int.toNat_natCast, h1, h2, true_and]
      congr 1
      by_cases e : b % a = 0
      · simp [e]
      · simp [e]; omega
    · simp only [numberOk_eq, Option.bind_some, decide_eq_true_eq, if_pos h1, if_neg h2]
      simp [h2]
  · simp only [numberOk_eq, Option.bind_some, decide_eq_true_eq, if_neg h1]
    simp [h1]

theorem alive_eq : laws_alive.f = some true := by
  unfold laws_alive.f
  rw [impl_DividesOk_eq, impl_DividesOk_eq]
  rfl

theorem kindI_at {n : Nat} (h1 : 1 ≤ n) (h2 : n ≤ 10000) (s : Int) (hs : D (fun d => (d : Int)) n = s) : kindI (n : Int) = if s - n < n then -1 else if s - n = n then 0 else 1 := by
  have hin : inN (n : Int) := by unfold inN; omega
  obtain ⟨_, p2, _⟩ := propI_pos h1 h2
  unfold kindI
  rw [if_pos hin, p2, hs]
theorem primeI_at {n : Nat} (h1 : 1 ≤ n) (h2 : n ≤ 10000) (b : Bool) (hb : ((divs n).length == 2) = b) : primeI (n : Int) = b := by
  have hin : inN (n : Int) := by unfold inN; omega
  unfold primeI
  rw [Int.toNat_natCast, ← hb]
  by_cases e : (divs n).length = 2
  · simp [e, hin]
  · simp [e]
theorem D8128 : D (fun d => (d : Int)) 8128 = 16256 := by
  have h := D_id_pow (q := 2) (m := 127) (divs_two (by omega) (by decide +kernel)) (by omega) (by decide) 6
  rw [show (2 : Nat) ^ 6 * 127 = 8128 from rfl] at h
  rw [h, show D (fun d => (d : Int)) 127 = 128 by decide +kernel]
  decide
theorem eu_end (x : Int) (b : Bool) (hx : 0 ≤ x) (hk : kindI x = if b = true then 0 else 1) : Ev (fun k => laws_FnEuclidOf.j0 k x b false) true := by
  refine Ev_suc ?_
  simp only [laws_FnEuclidOf.j0, Bool.false_eq_true, if_false, if_neg (show ¬ x < 0 by omega)]
  refine Ev.bind (impl_KindOf_ev x) ?_
  rw [hk]
  cases b with
  | true =>
    simp only [if_true, beq_self_eq_true]
    exact Ev.now _
  | false =>
    have e : ((((1 : Int) == 0) == false) = true) := by decide
    simp only [Bool.false_eq_true, if_false, e, if_true]
    refine Ev.bind (impl_KindOf_ev x) ?_
    rw [hk]
    simp only [Bool.false_eq_true, if_false, beq_self_eq_true]
    exact Ev.now _
theorem FnEuclidOf : laws_FnEuclidOf.Pure := by
  intro l0 _ _ hu
  refine Ev.rounds (r := true) ?_
  unfold laws_FnEuclidOf.f
  by_cases hlen : (l0.length : Int) > 1048576
  · simp only [if_pos hlen]; exact Ev.now _
  simp only [if_neg hlen]
  obtain ⟨p, hd, _⟩ := DrawEuclidOf_ev hu
  refine Ev.bind hd (Ev.bind (impl_EuclidOf_ev p) (Ev.bind (spec_EuclidOf_ev p) ?_))
  simp only [if_true, bne_self_eq_false]
  refine euI_cases (P := fun _ r => Ev (fun k => laws_FnEuclidOf.j0 k r.1 r.2 false) true) ?_ ?_ ?_ ?_ ?_ ?_ ?_ p
  · refine eu_end 6 _ (by omega) ?_
    show kindI ((6 : Nat) : Int) = if primeI ((3 : Nat) : Int) = true then 0 else 1
    rw [primeI_at (n := 3) (by omega) (by omega) true (by decide +kernel)]
    exact kindI_at (n := 6) (by omega) (by omega) 12 (by decide +kernel)
  · refine eu_end 28 _ (by omega) ?_
    show kindI ((28 : Nat) : Int) = if primeI ((7 : Nat) : Int) = true then 0 else 1
    rw [primeI_at (n := 7) (by omega) (by omega) true (by decide +kernel)]
    exact kindI_at (n := 28) (by omega) (by omega) 56 (by decide +kernel)
  · refine eu_end 120 _ (by omega) ?_
    show kindI ((120 : Nat) : Int) = if primeI ((15 : Nat) : Int) = true then 0 else 1
    rw [primeI_at (n := 15) (by omega) (by omega) false (by decide +kernel)]
    exact kindI_at (n := 120) (by omega) (by omega) 360 (by decide +kernel)
  · refine eu_end 496 _ (by omega) ?_
    show kindI ((496 : Nat) : Int) = if primeI ((31 : Nat) : Int) = true then 0 else 1
    rw [primeI_at (n := 31) (by omega) (by omega) true (by decide +kernel)]
    exact kindI_at (n := 496) (by omega) (by omega) 992 (by decide +kernel)
  · refine eu_end 2016 _ (by omega) ?_
    show kindI ((2016 : Nat) : Int) = if primeI ((63 : Nat) : Int) = true then 0 else 1
    rw [primeI_at (n := 63) (by omega) (by omega) false (by decide +kernel)]
    exact kindI_at (n := 2016) (by omega) (by omega) 6552 (by decide +kernel)
  · refine eu_end 8128 _ (by omega) ?_
    show kindI ((8128 : Nat) : Int) = if primeI ((127 : Nat) : Int) = true then 0 else 1
    rw [primeI_at (n := 127) (by omega) (by omega) true (by decide +kernel)]
    exact kindI_at (n := 8128) (by omega) (by omega) 16256 D8128
  · intro a _
    refine Ev_suc ?_
    simp only [laws_FnEuclidOf.j0, Bool.false_eq_true, if_false, if_pos (show (-1 : Int) < 0 by omega), if_true, alive_eq, Option.bind_some]
    exact Ev.now _

end Go.Proofs.Ytplnpkagamnodaa.Pure
