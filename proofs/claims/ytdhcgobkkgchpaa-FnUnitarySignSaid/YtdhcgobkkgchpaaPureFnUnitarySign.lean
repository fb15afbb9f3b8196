/- Signs over unitary divisors cancel. No conditions. -/
import Derived.Test.YtdhcgobkkgchpaaCLFnUnitarySign
import Derived.Test.YtdhcgobkkgchpaaTellD
import Derived.Test.YtdhcgobkkgchpaaEvs
import Derived.Test.YtdhcgobkkgchpaaMul
namespace Go.Proofs.Ytdhcgobkkgchpaa.Pure
open Go.RowKit Go.Proofs.Ytdhcgobkkgchpaa.CAll Go.Proofs.Ytdhcgobkkgchpaa.Tell Go.Proofs.YtdhcgobkkgchpaaW.PrintWords Go.Proofs.YtdhcgobkkgchpaaW.PrintLast Go.Proofs.YtdhcgobkkgchpaaW.PrintMore Go.Proofs.Ytdhcgobkkgchpaa.Math
set_option linter.unusedVariables false
set_option linter.unusedSimpArgs false
/-- 1 or -1 for an even or odd number of primes. -/
def usI (a : Int) : Int := if inN a then (if (facs a.toNat).length % 2 = 0 then 1 else -1) else 0
theorem lI_get {l : List Nat} {i : Nat} (h : i < l.length) : rd (lI l) (i : Int) = ((l[i] : Nat) : Int) := by
  rw [rd_get (by rw [lI_length]; exact h)]; simp [lI]
theorem numberOk_eq (a : Int) : impl_numberOk.f a = some (decide (inN a)) := by
  unfold impl_numberOk.f inN
  by_cases h : 1 ≤ a
  · rw [if_pos h]; simp [h]
  · rw [if_neg h]; simp [h]
/-- The list of primes as the program has it. -/
def facI (l : List (Nat × Nat)) : List (List Int) := l.map (fun x => [(x.1 : Int), (x.2 : Int)])
theorem impl_fac_l1 {out : List (List Int)} {p : Nat} {r : List (List Int)} (h2 : 2 ≤ p) (hp : p ≤ 10000) (hout : out.length < 5864062014805) : ∀ (left j : Nat), 1 ≤ left → left + j ≤ 20000 →
    (0 < j + (strip p left).2 → Ev (fun k => impl_factors.l0 k ((strip p left).1 : Int) (out ++ [[(p : Int), ((j + (strip p left).2 : Nat) : Int)]]) ((p + 1 : Nat) : Int)) r) →
    (j + (strip p left).2 = 0 → Ev (fun k => impl_factors.l0 k ((strip p left).1 : Int) out ((p + 1 : Nat) : Int)) r) →
    Ev (fun k => impl_factors.l1 k (left : Int) out (p : Int) (j : Int)) r := by
  intro left
  induction left using Nat.strongRecOn with
  | ind left ih =>
    intro j h1 hb hy hn
    refine Ev_suc ?_
    have c1 : ¬ (p : Int) = 0 := by omega
    simp only [impl_factors.l1, if_neg c1, tmod_nat]
    rw [w64_div (show left ≤ 9223372036854775807 by omega), w64_succ (show j < 9223372036854775807 by omega), w64_succ (show p < 9223372036854775807 by omega)]
    by_cases h0 : left % p = 0
    · have c2 : ((left % p : Nat) : Int) = 0 := by omega
      simp only [if_pos c2]
      rw [strip_yes h2 h1 h0] at hy hn
      have hle : left / p ≤ left / 2 := Nat.div_le_div_left h2 (by omega)
      have hlt : left / p < left := Nat.div_lt_self h1 (by omega)
      have hpos : 1 ≤ left / p := div_pos_of (by omega) h1 h0
      have e : j + 1 + (strip p (left / p)).2 = j + ((strip p (left / p)).2 + 1) := by omega
      refine ih (left / p) hlt (j + 1) hpos (by omega) (fun h => ?_) (fun h => by omega)
      rw [e]; exact hy (by simp only; omega)
    · have c2 : ¬ ((left % p : Nat) : Int) = 0 := by omega
      simp only [if_neg c2]
      rw [strip_no h0] at hy hn
      simp only [Nat.add_zero] at hy hn
      by_cases hj : 0 < j
      · have c3 : (j : Int) > 0 := by omega
        simp only [if_pos c3, if_pos hout]
        exact hy hj
      · have c3 : ¬ (j : Int) > 0 := by omega
        simp only [if_neg c3]
        exact hn (by omega)
theorem impl_fac_l0 (d : Nat) : ∀ (left p : Nat) (out : List (List Int)), left + 1 - p = d → 2 ≤ p → 1 ≤ left → left ≤ 10000 → out.length ≤ p → p ≤ 10001 → Rough p left →
    Ev (fun k => impl_factors.l0 k (left : Int) out (p : Int)) (out ++ facI (F p left)) := by
  induction d using Nat.strongRecOn with
  | ind d ih =>
    intro left p out hd h2 h1 hle hout hp hr
    have hsq : p * p ≤ 100000000000 := by
      have : p * p ≤ 10001 * 10001 := Nat.mul_le_mul (by omega) (by omega)
      omega
    refine Ev_suc ?_
    simp only [impl_factors.l0]
    rw [w64_mul (by omega)]
    by_cases hone : left = 1
    · have c1 : ¬ (left : Int) > 1 := by omega
      simp only [if_neg c1]
      rw [F_end (by omega)]
      simp only [facI, List.map_nil, List.append_nil]
      exact Ev.now _
    · have c1 : (left : Int) > 1 := by omega
      simp only [if_pos c1]
      by_cases h : left < p * p
      · have c2 : ((p * p : Nat) : Int) > (left : Int) := Int.ofNat_lt.2 h
        simp only [if_pos c2]
        have hrr := hr.square h
        have hpl : p ≤ left := by
          rcases Nat.lt_or_ge left p with e | e
          · exact absurd (Nat.mod_self left) (hr left (by omega) e)
          · exact e
        rw [F_alone (left - p) p left rfl h2 hpl hrr]
        have hs : strip left left = (1, 1) := by
          rw [strip_yes (by omega) h1 (Nat.mod_self left), Nat.div_self (by omega), strip_no]
          rw [Nat.mod_eq_of_lt (by omega)]; omega
        refine Ev_suc ?_
        simp only [impl_factors.j1]
        refine impl_fac_l1 (by omega) (by omega) (by omega) left 0 h1 (by omega) (fun _ => ?_) (fun e => ?_)
        · rw [hs]
          refine Ev_suc ?_
          have c3 : ¬ ((1 : Nat) : Int) > 1 := by omega
          simp only [impl_factors.l0, if_neg c3]
          exact Ev.now _
        · rw [hs] at e; simp at e
      · have c2 : ¬ ((p * p : Nat) : Int) > (left : Int) := fun e => h (Int.ofNat_lt.1 e)
        simp only [if_neg c2]
        have hpl : p ≤ left := by
          have := Nat.le_mul_of_pos_left p (show 0 < p by omega)
          omega
        refine Ev_suc ?_
        simp only [impl_factors.j1]
        have hs := strip_le p left
        refine impl_fac_l1 h2 (by omega) (by omega) left 0 h1 (by omega) (fun h' => ?_) (fun h' => ?_)
        · rw [Nat.zero_add] at h' ⊢
          have h0 := (strip_pos h2 h1).1 h'
          rw [F_yes hpl h2 h0]
          have e : out ++ facI ((p, (strip p left).2) :: F (p + 1) (strip p left).1) = (out ++ [[(p : Int), ((strip p left).2 : Int)]]) ++ facI (F (p + 1) (strip p left).1) := by simp [facI]
          rw [e]
          exact ih _ (by omega) _ (p + 1) _ rfl (by omega) (strip_spec h2 left h1).2.1 (by omega) (by simp; omega) (by omega) (hr.step h2 h1)
        · rw [Nat.zero_add] at h'
          have h0 : ¬ left % p = 0 := fun e => by have := (strip_pos h2 h1).2 e; omega
          rw [F_no hpl h2 h0, strip_no h0]
          exact ih _ (by omega) left (p + 1) out rfl (by omega) h1 hle (by omega) (by omega) (hr.next h0)
theorem impl_factors_ev {n : Nat} (h1 : 1 ≤ n) (h2 : n ≤ 10000) : Ev (fun k => impl_factors.f k (n : Int)) (facI (facs n)) := by
  have := impl_fac_l0 _ n 2 [] rfl (by omega) h1 h2 (by simp) (by omega) (Rough.two n)
  rw [List.nil_append] at this
  exact this
theorem facI_length (l : List (Nat × Nat)) : (facI l).length = l.length := by simp [facI]
theorem impl_UnitarySign_ev (a : Int) : Ev (fun k => impl_UnitarySign.f k a) (usI a) := by
  unfold impl_UnitarySign.f usI
  by_cases h : inN a
  · obtain ⟨n, rfl, h1, h2⟩ := inN_nat h
    simp only [numberOk_eq, Option.bind_some, decide_eq_true_eq, if_pos h, Int.toNat_natCast]
    refine Ev.bind (impl_factors_ev h1 h2) ?_
    rw [facI_length]
    by_cases e : (facs n).length % 2 = 0
    · simp only [if_pos e, if_pos (show ((facs n).length : Int) % 2 = 0 by omega)]; exact Ev.now _
    · simp only [if_neg e, if_neg (show ¬ ((facs n).length : Int) % 2 = 0 by omega)]; exact Ev.now _
  · simp only [numberOk_eq, Option.bind_some, decide_eq_true_eq, if_neg h]
    exact Ev.now _
/-- A code as it is read: at most 2000 bytes. -/
def Bs (l : List Int) : Prop := l.length ≤ 2000 ∧ ∀ x ∈ l, 0 ≤ x ∧ x ≤ 255
theorem u8_range {x : Int} (h : (Lit.int .u8 x).wf = true) : 0 ≤ x ∧ x ≤ 255 := by
  simp [Lit.wf, IntKind.min, IntKind.max, IntKind.bits, IntKind.signed] at h
  omega
theorem l20Open_ev {l0 : List Int} (h : ∀ x ∈ l0, (Lit.int .u8 x).wf = true) : ∃ l, spec_l20Open.f l0 = some (l, 0) ∧ Bs l := by
  unfold spec_l20Open.f
  by_cases h1 : (l0.length : Int) > 2000
  · refine ⟨l0.take 2000, ?_, ?_, fun x hx => u8_range (h x (List.mem_of_mem_take hx))⟩
    · rw [if_pos h1, if_pos (by omega)]
    · exact List.length_take_le _ _
  · exact ⟨l0, by rw [if_neg h1], by omega, fun x hx => u8_range (h x hx)⟩
theorem rd_byte {l : List Int} (h : Bs l) (i : Int) : 0 ≤ rd l i ∧ rd l i ≤ 255 := by
  unfold rd
  rw [List.getD_eq_getElem?_getD]
  by_cases e : i.toNat < l.length
  · rw [List.getElem?_eq_getElem e]; exact h.2 _ (List.getElem_mem e)
  · rw [List.getElem?_eq_none (by omega)]; simp
theorem tmod_range {a n : Int} (ha : 0 ≤ a) (hn : 1 ≤ n) : 0 ≤ Int.tmod a n ∧ Int.tmod a n < n :=
  ⟨Int.tmod_nonneg _ ha, Int.tmod_lt_of_pos a (by omega)⟩
theorem xor_nonneg {a b : Int} (h1 : 0 ≤ a) (h2 : a < 1099511627776) (h3 : 0 ≤ b) (h4 : b < 1099511627776) : 0 ≤ Go.bits .xor .i64 a b := by
  have e : Go.bits .xor .i64 a b = wrap64 (((BitVec.ofInt 64 a ^^^ BitVec.ofInt 64 b).toNat : Nat) : Int) := i64_w _
  have ha : (BitVec.ofInt 64 a).toNat = a.toNat := by
    rw [BitVec.toNat_ofInt]; omega
  have hb : (BitVec.ofInt 64 b).toNat = b.toNat := by
    rw [BitVec.toNat_ofInt]; omega
  have hx : a.toNat ^^^ b.toNat < 2 ^ 40 := Nat.xor_lt_two_pow (by omega) (by omega)
  rw [e, BitVec.toNat_xor, ha, hb, w64_nat (by omega)]
  omega
theorem pick_ev {l : List Int} (hl : Bs l) {p n : Int} (hp : 0 ≤ p) (hp2 : p ≤ 1000000) (hn : 1 ≤ n) (hn2 : n ≤ 1000000) :
    ∃ v, Ev (fun k => spec_l20Rd_pick.f k l p n) (v, p + 1) ∧ 0 ≤ v ∧ v < n := by
  unfold spec_l20Rd_pick.f
  simp only [if_neg (show ¬ n < 1 by omega)]
  rw [w64 (x := p + 1) (by omega) (by omega)]
  by_cases h0 : (l.length : Int) = 0
  · refine ⟨0, ?_, by omega, by omega⟩
    have e : ((l.length : Int) == 0) = true := by rw [h0]; rfl
    rw [e]
    refine Ev_suc ?_
    simp only [spec_l20Rd_pick.j0, if_true]
    exact Ev.now _
  · have e : ((l.length : Int) == 0) = false := beq_eq_false_iff_ne.2 h0
    have hlen := hl.1
    rw [e]
    by_cases h1 : p < (l.length : Int)
    · have hb := rd_byte hl p
      obtain ⟨t1, t2⟩ := tmod_range (a := rd l p) (n := n) hb.1 hn
      refine ⟨Int.tmod (rd l p) n, ?_, t1, t2⟩
      refine Ev_suc ?_
      simp only [spec_l20Rd_pick.j0, Bool.false_eq_true, if_false]
      rw [w64 (x := p + 1 - 1) (by omega) (by omega), show p + 1 - 1 = p by omega, w64 (x := rd l p) (by omega) (by omega)]
      simp only [if_pos h1, if_pos hp, if_neg (show ¬ n = 0 by omega)]
      exact Ev.now _
    · obtain ⟨pn, rfl⟩ := Int.eq_ofNat_of_zero_le hp
      have hL : 0 < l.length := by omega
      have i1 : Int.tmod (pn : Int) (l.length : Int) = ((pn % l.length : Nat) : Int) := rfl
      have i2 : Int.tmod (wrap64 (wrap64 ((pn : Int) * 7) + 3)) (l.length : Int) = (((pn * 7 + 3) % l.length : Nat) : Int) := by
        rw [w64 (x := (pn : Int) * 7) (by omega) (by omega), w64 (by omega) (by omega)]; rfl
      have i3 : wrap64 (Int.tdiv (pn : Int) (l.length : Int)) = ((pn / l.length : Nat) : Int) := w64_div (by omega)
      have m1 := Nat.mod_lt pn hL
      have m2 := Nat.mod_lt (pn * 7 + 3) hL
      have m3 := Nat.div_le_self pn l.length
      obtain ⟨a1, a2⟩ := rd_byte hl ((pn % l.length : Nat) : Int)
      obtain ⟨b1, b2⟩ := rd_byte hl (((pn * 7 + 3) % l.length : Nat) : Int)
      suffices hs : ∃ v, Ev (fun k => spec_l20Rd_pick.j0 k n false l ((pn : Int) + 1)) (v, (pn : Int) + 1) ∧ 0 ≤ v ∧ v < n from hs
      refine ⟨?v, Ev_suc ?_, ?_⟩
      case refine_1 =>
        simp only [spec_l20Rd_pick.j0, Bool.false_eq_true, if_false]
        rw [w64 (x := (pn : Int) + 1 - 1) (by omega) (by omega), show (pn : Int) + 1 - 1 = (pn : Int) by omega, i1, i2, i3]
        simp only [if_neg h1, if_neg h0, if_neg (show ¬ n = 0 by omega), if_pos (show (0 : Int) ≤ ((pn % l.length : Nat) : Int) by omega), if_pos (show ((pn % l.length : Nat) : Int) < (l.length : Int) by omega), if_pos (show (0 : Int) ≤ (((pn * 7 + 3) % l.length : Nat) : Int) by omega), if_pos (show (((pn * 7 + 3) % l.length : Nat) : Int) < (l.length : Int) by omega)]
        exact Ev.now _
      case refine_2 =>
        clear i3
        generalize pn / l.length = zq at *
        have z : wrap64 (wrap64 (wrap64 (wrap64 (wrap64 (rd l ((pn % l.length : Nat) : Int)) * 131) + wrap64 (wrap64 (rd l (((pn * 7 + 3) % l.length : Nat) : Int)) * 1117)) + wrap64 ((pn : Int) * 29)) + wrap64 ((zq : Int) * 53)) =
            rd l ((pn % l.length : Nat) : Int) * 131 + rd l (((pn * 7 + 3) % l.length : Nat) : Int) * 1117 + (pn : Int) * 29 + (zq : Int) * 53 := by
          generalize rd l ((pn % l.length : Nat) : Int) = x at a1 a2
          generalize rd l (((pn * 7 + 3) % l.length : Nat) : Int) = y at b1 b2
          rw [w64 (x := x) (by omega) (by omega), w64 (x := y) (by omega) (by omega), w64 (x := x * 131) (by omega) (by omega), w64 (x := y * 1117) (by omega) (by omega), w64 (x := (pn : Int) * 29) (by omega) (by omega), w64 (x := (zq : Int) * 53) (by omega) (by omega),
            w64 (x := x * 131 + y * 1117) (by omega) (by omega), w64 (x := x * 131 + y * 1117 + (pn : Int) * 29) (by omega) (by omega), w64 (by omega) (by omega)]
        rw [z]
        generalize hz : rd l ((pn % l.length : Nat) : Int) * 131 + rd l (((pn * 7 + 3) % l.length : Nat) : Int) * 1117 + (pn : Int) * 29 + (zq : Int) * 53 = w at *
        have w1 : 0 ≤ w := by omega
        have w2 : w < 1099511627776 := by omega
        have w3 : wrap64 (Int.tdiv w 64) = w / 64 := by rw [Int.tdiv_eq_ediv_of_nonneg w1, w64 (by omega) (by omega)]
        rw [w3]
        exact tmod_range (xor_nonneg w1 w2 (by omega) (by omega)) hn
theorem rd_mem {P : Int → Prop} {l : List Int} (h : ∀ x ∈ l, P x) {i : Int} (h0 : 0 ≤ i) (h1 : i < (l.length : Int)) : P (rd l i) := by
  obtain ⟨n, rfl⟩ := Int.eq_ofNat_of_zero_le h0
  have hn : n < l.length := by omega
  rw [rd_get hn]
  exact h _ (List.getElem_mem hn)
theorem half {v n : Int} (h0 : 0 ≤ v) (h1 : v < n) (hn : n ≤ 1000000) : wrap64 (Int.tdiv v 2) = v / 2 := by
  rw [Int.tdiv_eq_ediv_of_nonneg h0, w64 (by omega) (by omega)]
theorem l20Some_ev {l : List Int} (hl : Bs l) {p : Int} (hp : 0 ≤ p) (hp2 : p ≤ 100000) :
    ∃ v q, Ev (fun k => spec_l20Some.f k l p) (v, q) ∧ -30000 ≤ v ∧ v ≤ 30000 ∧ 0 ≤ q ∧ q ≤ p + 10 := by
  obtain ⟨a, ha, a0, a1⟩ := pick_ev hl (p := p) (n := 12) (by omega) (by omega) (by omega) (by omega)
  obtain ⟨b, hb, b0, b1⟩ := pick_ev hl (p := p + 1) (n := 60) (by omega) (by omega) (by omega) (by omega)
  obtain ⟨c, hc, c0, c1⟩ := pick_ev hl (p := p + 1 + 1) (n := 100) (by omega) (by omega) (by omega) (by omega)
  obtain ⟨d, hd, d0, d1⟩ := pick_ev hl (p := p + 1 + 1 + 1) (n := 100) (by omega) (by omega) (by omega) (by omega)
  obtain ⟨e, he, e0, e1⟩ := pick_ev hl (p := p + 1 + 1 + 1 + 1) (n := 60) (by omega) (by omega) (by omega) (by omega)
  obtain ⟨f, hf, f0, f1⟩ := pick_ev hl (p := p + 1 + 1 + 1 + 1 + 1) (n := 13) (by omega) (by omega) (by omega) (by omega)
  obtain ⟨g, hg, g0, g1⟩ := pick_ev hl (p := p + 1 + 1 + 1 + 1 + 1 + 1) (n := 40) (by omega) (by omega) (by omega) (by omega)
  obtain ⟨h, hh, h0, h1⟩ := pick_ev hl (p := p + 1 + 1 + 1 + 1 + 1 + 1 + 1) (n := 50) (by omega) (by omega) (by omega) (by omega)
  have hcd : 0 ≤ c * d := Int.mul_nonneg c0 d0
  have hcd2 : c * d ≤ 100 * 100 := Int.mul_le_mul (by omega) (by omega) d0 (by omega)
  have hy : ∀ x ∈ ([wrap64 (1 + a), wrap64 (1 + b), wrap64 (1 + (wrap64 (c * d))), wrap64 (12 * (wrap64 (1 + e))), 9973, 8192, 9240] : List Int), 0 ≤ x ∧ x ≤ 10001 := by
    rw [w64 (x := 1 + a) (by omega) (by omega), w64 (x := 1 + b) (by omega) (by omega), w64 (x := c * d) (by omega) (by omega), w64 (x := 1 + c * d) (by omega) (by omega), w64 (x := 1 + e) (by omega) (by omega), w64 (x := 12 * (1 + e)) (by omega) (by omega)]
    intro x hx
    simp only [List.mem_cons, List.not_mem_nil, or_false] at hx
    omega
  have hr := rd_mem hy (i := f / 2) (by omega) (by simp; omega)
  refine ⟨?v, p + 1 + 1 + 1 + 1 + 1 + 1 + 1 + 1, ?_, ?_⟩
  case refine_1 =>
    unfold spec_l20Some.f
    refine Ev.bind ha (Ev.bind hb (Ev.bind hc (Ev.bind hd (Ev.bind he ?_))))
    simp only [Option.bind_some]
    refine Ev.bind hf ?_
    simp only [half f0 f1 (by omega), if_pos (show (0 : Int) ≤ f / 2 by omega), List.length_cons, List.length_nil, if_pos (show f / 2 < ((0 + 1 + 1 + 1 + 1 + 1 + 1 + 1 : Nat) : Int) by omega)]
    refine Ev.bind hg ?_
    refine Ev.bind hh ?_
    dsimp only
    exact Ev.now _
  case refine_2 =>
    generalize rd _ (f / 2) = z at hr
    try dsimp only
    rw [Int.tdiv_eq_ediv_of_nonneg g0, Int.tdiv_eq_ediv_of_nonneg h0, w64 (x := g / 39) (by omega) (by omega), w64 (x := h / 49) (by omega) (by omega), w64 (x := g / 39 * 10000) (by omega) (by omega), w64 (x := h / 49 * 20000) (by omega) (by omega), w64 (x := z + g / 39 * 10000) (by omega) (by omega), w64 (by omega) (by omega)]
    omega
theorem DrawUnitarySign_ev {l0 : List Int} (h : ∀ x ∈ l0, (Lit.int .u8 x).wf = true) : ∃ v, Ev (fun k => spec_DrawUnitarySign.f k l0) v ∧ -30000 ≤ v ∧ v ≤ 30000 := by
  obtain ⟨l, e, hl⟩ := l20Open_ev h
  obtain ⟨v, q, hv, b1, b2, _⟩ := l20Some_ev hl (p := 0) (by omega) (by omega)
  refine ⟨v, ?_, b1, b2⟩
  unfold spec_DrawUnitarySign.f
  rw [e]
  simp only [Option.bind_some]
  exact Ev.bind hv (Ev.now _)
theorem l1In_eq (a lo hi : Int) : spec_l1In.f a lo hi = some (decide (lo ≤ a ∧ a ≤ hi)) := by
  unfold spec_l1In.f
  by_cases h : lo ≤ a
  · rw [if_pos h]; simp [h]
  · rw [if_neg h]; simp [h]
theorem spec_fac_l1 {x0 : Int} {out : List (List Int)} {p : Nat} {r : List (List Int)} (h2 : 2 ≤ p) (hp : p ≤ 10000) (hout : out.length < 5864062014805) : ∀ (left j : Nat), 1 ≤ left → left + j ≤ 20000 →
    (0 < j + (strip p left).2 → Ev (fun k => spec_FactorsOf.l0 k x0 (out ++ [[(p : Int), ((j + (strip p left).2 : Nat) : Int)]]) ((strip p left).1 : Int) ((p + 1 : Nat) : Int)) r) →
    (j + (strip p left).2 = 0 → Ev (fun k => spec_FactorsOf.l0 k x0 out ((strip p left).1 : Int) ((p + 1 : Nat) : Int)) r) →
    Ev (fun k => spec_FactorsOf.l1 k x0 out (left : Int) (p : Int) (j : Int)) r := by
  intro left
  induction left using Nat.strongRecOn with
  | ind left ih =>
    intro j h1 hb hy hn
    refine Ev_suc ?_
    have c1 : ¬ (p : Int) = 0 := by omega
    simp only [spec_FactorsOf.l1, if_neg c1, tmod_nat]
    rw [w64_div (show left ≤ 9223372036854775807 by omega), w64_succ (show j < 9223372036854775807 by omega), w64_succ (show p < 9223372036854775807 by omega)]
    by_cases h0 : left % p = 0
    · have c2 : ((left % p : Nat) : Int) = 0 := by omega
      simp only [if_pos c2]
      rw [strip_yes h2 h1 h0] at hy hn
      have hle : left / p ≤ left / 2 := Nat.div_le_div_left h2 (by omega)
      have hlt : left / p < left := Nat.div_lt_self h1 (by omega)
      have hpos : 1 ≤ left / p := div_pos_of (by omega) h1 h0
      have e : j + 1 + (strip p (left / p)).2 = j + ((strip p (left / p)).2 + 1) := by omega
      refine ih (left / p) hlt (j + 1) hpos (by omega) (fun h => ?_) (fun h => by omega)
      rw [e]; exact hy (by simp only; omega)
    · have c2 : ¬ ((left % p : Nat) : Int) = 0 := by omega
      simp only [if_neg c2]
      rw [strip_no h0] at hy hn
      simp only [Nat.add_zero] at hy hn
      by_cases hj : 0 < j
      · have c3 : (j : Int) > 0 := by omega
        simp only [if_pos c3, if_pos hout]
        exact hy hj
      · have c3 : ¬ (j : Int) > 0 := by omega
        simp only [if_neg c3]
        exact hn (by omega)
theorem spec_fac_l0 {n : Nat} (h1n : 1 ≤ n) (h2n : n ≤ 10000) (d : Nat) : ∀ (left p : Nat) (out : List (List Int)), left + 1 - p = d → 2 ≤ p → 1 ≤ left → left ≤ n → out.length ≤ p → p ≤ 10001 →
    Ev (fun k => spec_FactorsOf.l0 k (n : Int) out (left : Int) (p : Int)) (out ++ facI (F p left)) := by
  induction d using Nat.strongRecOn with
  | ind d ih =>
    intro left p out hd h2 h1 hle hout hp
    refine Ev_suc ?_
    have hl : decide ((1 : Int) ≤ (n : Int) ∧ (n : Int) ≤ 10000) = true := decide_eq_true (by omega)
    simp only [spec_FactorsOf.l0, l1In_eq, Option.bind_some, hl]
    by_cases h : p ≤ left
    · have c1 : (p : Int) ≤ (left : Int) := Int.ofNat_le.2 h
      simp only [if_pos c1]
      refine Ev_suc ?_
      simp only [spec_FactorsOf.j1, if_true]
      have hs := strip_le p left
      refine spec_fac_l1 h2 (by omega) (by omega) left 0 h1 (by omega) (fun h' => ?_) (fun h' => ?_)
      · rw [Nat.zero_add] at h' ⊢
        have h0 := (strip_pos h2 h1).1 h'
        rw [F_yes h h2 h0]
        have e : out ++ facI ((p, (strip p left).2) :: F (p + 1) (strip p left).1) = (out ++ [[(p : Int), ((strip p left).2 : Int)]]) ++ facI (F (p + 1) (strip p left).1) := by simp [facI]
        rw [e]
        exact ih _ (by omega) _ (p + 1) _ rfl (by omega) (strip_spec h2 left h1).2.1 (by omega) (by simp; omega) (by omega)
      · rw [Nat.zero_add] at h'
        have h0 : ¬ left % p = 0 := fun e => by have := (strip_pos h2 h1).2 e; omega
        rw [F_no h h2 h0, strip_no h0]
        exact ih _ (by omega) left (p + 1) out rfl (by omega) h1 hle (by omega) (by omega)
    · have c1 : ¬ (p : Int) ≤ (left : Int) := fun e => h (Int.ofNat_le.1 e)
      simp only [if_neg c1]
      refine Ev_suc ?_
      simp only [spec_FactorsOf.j1, Bool.false_eq_true, if_false]
      rw [F_end h]
      simp only [facI, List.map_nil, List.append_nil]
      exact Ev.now _
theorem spec_FactorsOf_nat {n : Nat} (h1 : 1 ≤ n) (h2 : n ≤ 10000) : Ev (fun k => spec_FactorsOf.f k (n : Int)) (facI (facs n)) := by
  have := spec_fac_l0 h1 h2 _ n 2 [] rfl (by omega) h1 (Nat.le_refl _) (by simp) (by omega)
  rw [List.nil_append] at this
  exact this
theorem spec_UnitarySign_ev (a : Int) : Ev (fun k => spec_UnitarySign.f k a) (usI a) := by
  unfold spec_UnitarySign.f usI
  by_cases h : 1 ≤ a ∧ a ≤ 10000
  · obtain ⟨n, rfl, h1, h2⟩ := inN_nat h
    simp only [l1In_eq, Option.bind_some, decide_eq_true_eq, if_pos h, if_pos (show inN (n : Int) from h), Int.toNat_natCast]
    refine Ev.bind (spec_FactorsOf_nat h1 h2) ?_
    rw [facI_length]
    have e : 1 - 2 * (((facs n).length : Int) % 2) = if (facs n).length % 2 = 0 then 1 else -1 := by split <;> omega
    rw [e]
    exact Ev.now _
  · simp only [l1In_eq, Option.bind_some, decide_eq_true_eq, if_neg h, if_neg (show ¬ inN a from h)]
    exact Ev.now _
theorem sameInts_l (l : List Int) (hl : l.length ≤ 1048576) (d : Nat) : ∀ i, i ≤ l.length → l.length - i = d →
    Ev (fun k => laws_sameInts.l0 k l l (i : Int)) true := by
  induction d with
  | zero =>
    intro i h1 h2
    have e : i = l.length := by omega
    subst e
    refine Ev_suc ?_
    simp only [laws_sameInts.l0, Int.lt_irrefl, if_false]
    exact Ev.now _
  | succ d ih =>
    intro i h1 h2
    refine Ev_suc ?_
    have c1 : (i : Int) < (l.length : Int) := by omega
    have c2 : (0 : Int) ≤ (i : Int) := by omega
    simp only [laws_sameInts.l0, if_pos c1, if_pos c2, if_true]
    rw [w64_succ (by omega)]
    exact ih (i + 1) (by omega) (by omega)
theorem sameInts_same {l : List Int} (hl : l.length ≤ 1048576) : Ev (fun k => laws_sameInts.f k l l) true := by
  unfold laws_sameInts.f
  simp only [if_true]
  exact sameInts_l l hl l.length 0 (by omega) (by omega)
/-- All unitary divisors, none of what is no number here. -/
def uniI (a : Int) : List Int := if inN a then lI (unis a.toNat) else []
/-- All divisors, none of what is no number here. -/
def divI (a : Int) : List Int := if inN a then lI (divs a.toNat) else []
theorem spec_DivisorsOf_l {n : Nat} (hn : 1 ≤ n) (hn2 : n ≤ 10000) (d : Nat) : ∀ c, c ≤ n → n - c = d →
    Ev (fun k => spec_DivisorsOf.l0 k (n : Int) (lI (L (dv n) c)) ((c + 1 : Nat) : Int)) (lI (divs n)) := by
  induction d with
  | zero =>
    intro c h1 h2
    have e : c = n := by omega
    subst e
    refine Ev_suc ?_
    simp only [spec_DivisorsOf.l0, if_neg (show ¬ ((c + 1 : Nat) : Int) ≤ (c : Int) by omega)]
    refine Ev_suc ?_
    simp only [spec_DivisorsOf.j1, Bool.false_eq_true, if_false]
    exact Ev.now _
  | succ d ih =>
    intro c h1 h2
    refine Ev_suc ?_
    simp only [spec_DivisorsOf.l0, if_pos (show ((c + 1 : Nat) : Int) ≤ (n : Int) by omega), decide_eq_true (show (n : Int) ≤ 10000 by omega)]
    refine Ev_suc ?_
    have l1 : (lI (L (dv n) c)).length < 17592186044416 := by rw [lI_length]; have := L_length_le (dv n) c; omega
    have next := ih (c + 1) (by omega) (by omega)
    simp only [spec_DivisorsOf.j1, if_true, if_neg (show ¬ ((c + 1 : Nat) : Int) = 0 by omega), tmod_nat]
    rw [w64_succ (by omega)]
    by_cases h0 : n % (c + 1) = 0
    · rw [L_yes (dv_iff.2 h0), lI_append] at next
      simp only [if_pos (show ((n % (c + 1) : Nat) : Int) = 0 by omega), if_pos l1]
      exact next
    · rw [L_no (fun e => h0 (dv_iff.1 e))] at next
      simp only [if_neg (show ¬ ((n % (c + 1) : Nat) : Int) = 0 by omega)]
      exact next
theorem spec_DivisorsOf_nat {n : Nat} (h1 : 1 ≤ n) (h2 : n ≤ 10000) : Ev (fun k => spec_DivisorsOf.f k (n : Int)) (lI (divs n)) :=
  spec_DivisorsOf_l h1 h2 n 0 (by omega) (by omega)
theorem spec_DivisorsOf_ev (a : Int) : Ev (fun k => spec_DivisorsOf.f k a) (divI a) := by
  unfold divI
  by_cases h : inN a
  · obtain ⟨n, rfl, h1, h2⟩ := inN_nat h
    rw [if_pos h]
    exact spec_DivisorsOf_nat h1 h2
  · rw [if_neg h]
    unfold spec_DivisorsOf.f
    have hj : Ev (fun k => spec_DivisorsOf.j1 k a [] 1 false) [] := by
      refine Ev_suc ?_
      simp only [spec_DivisorsOf.j1, Bool.false_eq_true, if_false]
      exact Ev.now _
    refine Ev_suc ?_
    by_cases h1 : (1 : Int) ≤ a
    · simp only [spec_DivisorsOf.l0, if_pos h1, decide_eq_false (show ¬ a ≤ 10000 from fun e => h ⟨h1, e⟩)]
      exact hj
    · simp only [spec_DivisorsOf.l0, if_neg h1]
      exact hj
/-- What two numbers share, -1 where one is none. -/
def cmI (a b : Int) : Int := if inN a ∧ inN b then ((Nat.gcd a.toNat b.toNat : Nat) : Int) else -1
theorem spec_CommonOf_l : ∀ (b a : Nat), Ev (fun k => spec_CommonOf.l0 k (a : Int) (b : Int)) ((Nat.gcd a b : Nat) : Int) := by
  intro b
  induction b using Nat.strongRecOn with
  | ind b ih =>
    intro a
    refine Ev_suc ?_
    simp only [spec_CommonOf.l0]
    by_cases hb : b = 0
    · subst hb
      simp only [Int.natCast_zero, gt_iff_lt, Int.lt_irrefl, if_false, Nat.gcd_zero_right]
      exact Ev.now _
    · have h : ¬ ((b : Int) = 0) := by omega
      have h' : (b : Int) > 0 := by omega
      simp only [if_pos h', if_neg h, tmod_nat]
      rw [Nat.gcd_comm a b, Nat.gcd_rec b a, Nat.gcd_comm]
      exact ih (a % b) (Nat.mod_lt _ (by omega)) b
theorem spec_CommonOf_ev (a b : Int) : Ev (fun k => spec_CommonOf.f k a b) (cmI a b) := by
  unfold spec_CommonOf.f cmI inN
  by_cases h1 : 1 ≤ a ∧ a ≤ 10000
  · by_cases h2 : 1 ≤ b ∧ b ≤ 10000
    · obtain ⟨n, rfl, _, _⟩ := inN_nat h1
      obtain ⟨m, rfl, _, _⟩ := inN_nat h2
      simp only [l1In_eq, Option.bind_some, decide_eq_true_eq, if_pos h1, decide_eq_true h2, if_pos (And.intro h1 h2), Int.toNat_natCast, Bool.not_true]
      refine Ev_suc ?_
      simp only [spec_CommonOf.j0, Bool.false_eq_true, if_false]
      exact spec_CommonOf_l m n
    · simp only [l1In_eq, Option.bind_some, decide_eq_true_eq, if_pos h1, decide_eq_false h2, if_neg (fun e : (1 ≤ a ∧ a ≤ 10000) ∧ (1 ≤ b ∧ b ≤ 10000) => h2 e.2), Bool.not_false]
      refine Ev_suc ?_
      simp only [spec_CommonOf.j0, if_true]
      exact Ev.now _
  · simp only [l1In_eq, Option.bind_some, decide_eq_true_eq, if_neg h1, if_neg (fun e : (1 ≤ a ∧ a ≤ 10000) ∧ (1 ≤ b ∧ b ≤ 10000) => h1 e.1)]
    refine Ev_suc ?_
    simp only [spec_CommonOf.j0, if_true]
    exact Ev.now _
theorem spec_ApartOk_ev (a b : Int) : Ev (fun k => spec_ApartOk.f k a b) (cmI a b == 1) := by
  unfold spec_ApartOk.f
  exact Ev.bind (spec_CommonOf_ev a b) (Ev.now _)
theorem cmI_nat {a b : Nat} (h1 : 1 ≤ a) (h2 : a ≤ 10000) (h3 : 1 ≤ b) (h4 : b ≤ 10000) : cmI a b = ((Nat.gcd a b : Nat) : Int) := by
  unfold cmI inN
  rw [if_pos (by omega)]; rfl
theorem spec_UnitaryOf_l {n : Nat} (hn : 1 ≤ n) (hn2 : n ≤ 10000) (d : Nat) : ∀ i, i ≤ (divs n).length → (divs n).length - i = d →
    Ev (fun k => spec_UnitaryOf.l0 k (n : Int) (lI (((divs n).take i).filter (fun d => Nat.gcd d (n / d) == 1))) (lI (divs n)) (i : Int)) (lI (unis n)) := by
  have hlen : (divs n).length ≤ n := L_length_le _ _
  induction d with
  | zero =>
    intro i h1 h2
    have e : i = (divs n).length := by omega
    subst e
    refine Ev_suc ?_
    simp only [spec_UnitaryOf.l0, lI_length, Int.lt_irrefl, if_false, List.take_length]
    exact Ev.now _
  | succ d ih =>
    intro i h1 h2
    have hlt : i < (divs n).length := by omega
    have next := ih (i + 1) (by omega) (by omega)
    rw [List.take_succ_eq_append_getElem hlt, List.filter_append, lI_append] at next
    obtain ⟨m1, m2, m3⟩ := divs_mem.1 (List.getElem_mem hlt)
    refine Ev_suc ?_
    have hq := div_pos_of m1 hn m3
    have hq2 : n / (divs n)[i] ≤ n := Nat.div_le_self _ _
    simp only [spec_UnitaryOf.l0, lI_length, if_pos (show (i : Int) < ((divs n).length : Int) by omega), if_pos (show (0 : Int) ≤ (i : Int) by omega), lI_get hlt, if_neg (show ¬ (((divs n)[i] : Nat) : Int) = 0 by omega)]
    rw [w64_div (show n ≤ 9223372036854775807 by omega), w64_succ (by omega)]
    refine Ev.bind (spec_ApartOk_ev _ _) ?_
    rw [cmI_nat m1 (by omega) hq (by omega)]
    have lb : (((divs n).take i).filter (fun d => Nat.gcd d (n / d) == 1)).length ≤ i := Nat.le_trans (List.length_filter_le _ _) (List.length_take_le _ _)
    by_cases e : Nat.gcd (divs n)[i] (n / (divs n)[i]) = 1
    · have e1 : (((Nat.gcd (divs n)[i] (n / (divs n)[i]) : Nat) : Int) == 1) = true := by rw [e]; rfl
      have e2 : [(divs n)[i]].filter (fun d => Nat.gcd d (n / d) == 1) = [(divs n)[i]] := by simp [e]
      rw [e2] at next
      simp only [e1, if_true, if_pos (show (((divs n).take i).filter (fun d => Nat.gcd d (n / d) == 1)).length < 17592186044416 by omega)]
      exact next
    · have e1 : (((Nat.gcd (divs n)[i] (n / (divs n)[i]) : Nat) : Int) == 1) = false := beq_eq_false_iff_ne.2 (by omega)
      have e2 : [(divs n)[i]].filter (fun d => Nat.gcd d (n / d) == 1) = [] := by simp [e]
      rw [e2] at next
      simp only [lI, List.map_nil, List.append_nil] at next
      simp only [e1, Bool.false_eq_true, if_false]
      exact next
theorem spec_UnitaryOf_ev (a : Int) : Ev (fun k => spec_UnitaryOf.f k a) (uniI a) := by
  unfold spec_UnitaryOf.f uniI
  refine Ev.bind (spec_DivisorsOf_ev a) ?_
  unfold divI
  by_cases h : inN a
  · obtain ⟨n, rfl, h1, h2⟩ := inN_nat h
    rw [if_pos h, if_pos h]
    exact spec_UnitaryOf_l h1 h2 _ 0 (by omega) rfl
  · rw [if_neg h, if_neg h]
    refine Ev_suc ?_
    simp only [spec_UnitaryOf.l0, List.length_nil, Int.natCast_zero, Int.lt_irrefl, if_false]
    exact Ev.now _
def signRow : List Int := [1, -1, -1, -1, -1, 1, -1, -1, -1, 1, -1, 1, -1, 1, 1, -1, -1, 1, -1, 1, 1, 1, -1, 1]
set_option maxRecDepth 100000 in
theorem sign_ok : (List.range 24).all (fun i => impl_UnitarySign.f 100 ((i + 1 : Nat) : Int) == some (signRow.getD i 0)) = true := by kernel_rfl
theorem sign_l (n s : Int) (h : Ev (fun k => laws_FnUnitarySign.l0 k n s signRow 25) true) (d : Nat) : ∀ i, i ≤ 24 → 24 - i = d → Ev (fun k => laws_FnUnitarySign.l0 k n s (signRow.take i) ((i + 1 : Nat) : Int)) true := by
  induction d with
  | zero =>
    intro i h1 h2
    have e : i = 24 := by omega
    subst e
    exact h
  | succ d ih =>
    intro i h1 h2
    have next := ih (i + 1) (by omega) (by omega)
    have hlt : i < signRow.length := by show i < 24; omega
    have hs := beq_iff_eq.1 (List.all_eq_true.1 sign_ok i (List.mem_range.2 (by omega)))
    rw [List.getD_eq_getElem?_getD, List.getElem?_eq_getElem hlt] at hs
    rw [List.take_succ_eq_append_getElem hlt] at next
    refine Ev_suc ?_
    simp only [laws_FnUnitarySign.l0, if_pos (show ((i + 1 : Nat) : Int) ≤ 24 by omega)]
    refine Ev.bind (Ev.of (fun k => impl_UnitarySign.mono _ k) hs) ?_
    have hl : (signRow.take i).length ≤ 24 := List.length_take_le' _ _
    simp only [if_pos (show (signRow.take i).length < 17592186044416 by omega)]
    rw [w64_succ (by omega)]
    exact next
set_option maxRecDepth 100000 in
theorem sign_mult : impl_MultiplicativeOk.f 400 signRow = some true := by kernel_rfl
set_option maxRecDepth 100000 in
theorem sign_times : uV signRow (nrow 1) = (nrow 0, true) := by kernel_rfl
theorem unis_len {n : Nat} : (unis n).length ≤ n := Nat.le_trans (List.length_filter_le _ _) (L_length_le _ _)
theorem us_two (n : Nat) : us n = 1 ∨ us n = -1 := by unfold us; split <;> simp
theorem us_l {n : Nat} (h1 : 1 ≤ n) (h2 : n ≤ 10000) (d : Nat) : ∀ (i : Nat) (acc : Int), i ≤ (unis n).length → (unis n).length - i = d → -(i : Int) ≤ acc → acc ≤ i → acc + sumL us ((unis n).drop i) = (if n = 1 then 1 else 0) →
    Ev (fun k => laws_FnUnitarySign.l1 k (n : Int) (lI (unis n)) acc (i : Int)) true := by
  have hlen := unis_len (n := n)
  induction d with
  | zero =>
    intro i acc hi hd ha hb hs
    have e : i = (unis n).length := by omega
    subst e
    rw [List.drop_length] at hs
    simp only [sumL, Int.add_zero] at hs
    refine Ev_suc ?_
    simp only [laws_FnUnitarySign.l1, lI_length, Int.lt_irrefl, if_false]
    by_cases hn : n = 1
    · rw [if_pos hn] at hs
      subst hs hn
      exact Ev.now _
    · rw [if_neg hn] at hs
      subst hs
      have e1 : ((n : Int) == 1) = false := beq_eq_false_iff_ne.2 (by omega)
      have e2 : decide ((n : Int) > 1) = true := decide_eq_true (by omega)
      rw [e1, e2]
      exact Ev.now _
  | succ d ih =>
    intro i acc hi hd ha hb hs
    have hlt : i < (unis n).length := by omega
    rw [drop_cons hlt] at hs
    simp only [sumL] at hs
    have hm := (unis_mem.1 (List.getElem_mem hlt)).1
    have hx : usI (((unis n)[i] : Nat) : Int) = us (unis n)[i] := by
      unfold usI us
      rw [if_pos (show inN (((unis n)[i] : Nat) : Int) from ⟨by omega, by omega⟩), Int.toNat_natCast]
    have hu := us_two (unis n)[i]
    refine Ev_suc ?_
    simp only [laws_FnUnitarySign.l1, lI_length, if_pos (show (i : Int) < ((unis n).length : Int) by omega), if_pos (show (0 : Int) ≤ (i : Int) by omega), lI_get hlt]
    refine Ev.bind (impl_UnitarySign_ev _) ?_
    rw [hx, w64 (x := acc + us (unis n)[i]) (by omega) (by omega), w64_succ (by omega)]
    exact ih (i + 1) _ (by omega) (by omega) (by omega) (by omega) (by omega)
theorem FnUnitarySign : laws_FnUnitarySign.Pure := by
  intro l0 _ _ hw
  refine Ev.rounds (r := true) ?_
  unfold laws_FnUnitarySign.f
  by_cases h1 : (l0.length : Int) > 1048576
  · simp only [if_pos h1]; exact Ev.now _
  · simp only [if_neg h1]
    obtain ⟨v, hv, _⟩ := DrawUnitarySign_ev hw
    refine Ev.bind hv (Ev.bind (impl_UnitarySign_ev v) (Ev.bind (spec_UnitarySign_ev v) ?_))
    simp only [if_true]
    refine sign_l v (usI v) ?_ 24 0 (by omega) (by omega)
    refine Ev_suc ?_
    simp only [laws_FnUnitarySign.l0, if_neg (show ¬ (25 : Int) ≤ 24 by decide)]
    refine Ev.bind (show Ev (fun k => impl_NamedRow.f k 1) (nrow 1) from NamedRow_ev 1) ?_
    have ht : Ev (fun k => impl_UnitaryTimes.f k signRow (nrow 1)) (uV signRow (nrow 1)) := UnitaryTimes_ev (by decide) (by decide)
    rw [sign_times] at ht
    refine Ev.bind ht ?_
    simp only [if_true]
    refine Ev.bind (show Ev (fun k => impl_NamedRow.f k 0) (nrow 0) from NamedRow_ev 0) (Ev.bind (sameInts_same (by decide)) ?_)
    simp only [if_true]
    refine Ev.bind (Ev.of (fun k => impl_MultiplicativeOk.mono _ k) sign_mult) (Ev_suc ?_)
    simp only [laws_FnUnitarySign.j1, Bool.not_true, Bool.false_eq_true, if_false]
    refine Ev.bind (spec_UnitaryOf_ev v) ?_
    by_cases hn : inN v
    · obtain ⟨n, rfl, n1, n2⟩ := inN_nat hn
      have e : uniI (n : Int) = lI (unis n) := by unfold uniI; rw [if_pos hn]; rfl
      have hp : 1 ≤ (unis n).length := by
        have h := unis_length n1
        have : 1 ≤ 2 ^ (facs n).length := Nat.pow_pos (by omega)
        omega
      rw [e]
      simp only [lI_length, if_neg (show ¬ ((unis n).length : Int) = 0 by omega)]
      refine us_l n1 n2 (unis n).length 0 0 (by omega) (by omega) (by omega) (by omega) ?_
      rw [List.drop_zero, sum_unis, U_us n1]
      omega
    · have e : uniI v = [] := by unfold uniI; rw [if_neg hn]
      have e2 : usI v = 0 := by unfold usI; rw [if_neg hn]
      rw [e, e2]
      simp only [List.length_nil, if_pos (show ((0 : Nat) : Int) = 0 from rfl)]
      exact Ev.now _

end Go.Proofs.Ytdhcgobkkgchpaa.Pure
