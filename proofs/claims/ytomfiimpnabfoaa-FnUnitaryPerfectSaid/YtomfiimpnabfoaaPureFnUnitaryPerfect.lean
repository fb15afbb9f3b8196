/- The program's UnitaryPerfect answers as the reference's; such numbers are even, and 6, 60 and 90 are such: for every code. No conditions. -/
import Derived.Test.YtomfiimpnabfoaaOFnUnitaryPerfectx4
import Derived.Test.YtomfiimpnabfoaaEvs
import Derived.Test.YtomfiimpnabfoaaEuler
import Derived.Test.YtomfiimpnabfoaaMul
namespace Go.Proofs.Ytomfiimpnabfoaa.Pure
open Go.RowKit Go.Proofs.Ytomfiimpnabfoaa.PFnUnitaryPerfect Go.Proofs.YtomfiimpnabfoaaW.PrintWords Go.Proofs.YtomfiimpnabfoaaW.PrintLast Go.Proofs.YtomfiimpnabfoaaW.PrintMore Go.Proofs.Ytomfiimpnabfoaa.Math
set_option linter.unusedVariables false
set_option linter.unusedSimpArgs false

/-- The sum of all unitary divisors, by primes. -/
def usuI (a : Int) : Int := if inN a then ((usF 1 (facs a.toNat) : Nat) : Int) else -1

def uspI (a : Int) : Bool := decide (inN a ∧ usuI a = 2 * a)

/-- A code as it is read: at most 2000 bytes. -/
def Bs (l : List Int) : Prop := l.length ≤ 2000 ∧ ∀ x ∈ l, 0 ≤ x ∧ x ≤ 255

theorem u8_range {x : Int} (h : (Lit.int .u8 x).wf = true) : 0 ≤ x ∧ x ≤ 255 := by
  simp [Lit.wf, IntKind.min, IntKind.max, IntKind.bits, IntKind.signed] at h
  omega

theorem l20Open_ev {l0 : List Int} (h : ∀ x ∈ l0, (Lit.int .u8 x).wf = true) : ∃ l, spec_l20Open.f l0 = some (l, 0) ∧ Bs l := by
  unfold spec_l20Open.f
  by_cases h1 : (l0.length : Int) > 2000
  · refine ⟨l0.take 2000, ?_, ?_, fun x hx => u8_range (h x (List.mem_of_mem_take hx))⟩
    · rw [if_pos h1, if_pos (by omega)]
    · exact List.length_take_le _ _
  · exact ⟨l0, by rw [if_neg h1], by omega, fun x hx => u8_range (h x hx)⟩

theorem rd_byte {l : List Int} (h : Bs l) (i : Int) : 0 ≤ rd l i ∧ rd l i ≤ 255 := by
  unfold rd
  rw [List.getD_eq_getElem?_getD]
  by_cases e : i.toNat < l.length
  · rw [List.getElem?_eq_getElem e]; exact h.2 _ (List.getElem_mem e)
  · rw [List.getElem?_eq_none (by omega)]; simp

theorem tmod_range {a n : Int} (ha : 0 ≤ a) (hn : 1 ≤ n) : 0 ≤ Int.tmod a n ∧ Int.tmod a n < n :=
  ⟨Int.tmod_nonneg _ ha, Int.tmod_lt_of_pos a (by omega)⟩

theorem xor_nonneg {a b : Int} (h1 : 0 ≤ a) (h2 : a < 1099511627776) (h3 : 0 ≤ b) (h4 : b < 1099511627776) : 0 ≤ Go.bits .xor .i64 a b := by
  have e : Go.bits .xor .i64 a b = wrap64 (((BitVec.ofInt 64 a ^^^ BitVec.ofInt 64 b).toNat : Nat) : Int) := i64_w _
  have ha : (BitVec.ofInt 64 a).toNat = a.toNat := by
    rw [BitVec.toNat_ofInt]; omega
  have hb : (BitVec.ofInt 64 b).toNat = b.toNat := by
    rw [BitVec.toNat_ofInt]; omega
  have hx : a.toNat ^^^ b.toNat < 2 ^ 40 := Nat.xor_lt_two_pow (by omega) (by omega)
  rw [e, BitVec.toNat_xor, ha, hb, w64_nat (by omega)]
  omega

theorem pick_ev {l : List Int} (hl : Bs l) {p n : Int} (hp : 0 ≤ p) (hp2 : p ≤ 1000000) (hn : 1 ≤ n) (hn2 : n ≤ 1000000) :
    ∃ v, Ev (fun k => spec_l20Rd_pick.f k l p n) (v, p + 1) ∧ 0 ≤ v ∧ v < n := by
  unfold spec_l20Rd_pick.f
  simp only [if_neg (show ¬ n < 1 by omega)]
  rw [w64 (x := p + 1) (by omega) (by omega)]
  by_cases h0 : (l.length : Int) = 0
  · refine ⟨0, ?_, by omega, by omega⟩
    have e : ((l.length : Int) == 0) = true := by rw [h0]; rfl
    rw [e]
    refine Ev_suc ?_
    simp only [spec_l20Rd_pick.j0, if_true]
    exact Ev.now _
  · have e : ((l.length : Int) == 0) = false := beq_eq_false_iff_ne.2 h0
    have hlen := hl.1
    rw [e]
    by_cases h1 : p < (l.length : Int)
    · have hb := rd_byte hl p
      obtain ⟨t1, t2⟩ := tmod_range (a := rd l p) (n := n) hb.1 hn
      refine ⟨Int.tmod (rd l p) n, ?_, t1, t2⟩
      refine Ev_suc ?_
      simp only [spec_l20Rd_pick.j0, Bool.false_eq_true, if_false]
      rw [w64 (x := p + 1 - 1) (by omega) (by omega), show p + 1 - 1 = p by omega, w64 (x := rd l p) (by omega) (by omega)]
      simp only [if_pos h1, if_pos hp, if_neg (show ¬ n = 0 by omega)]
      exact Ev.now _
    · obtain ⟨pn, rfl⟩ := Int.eq_ofNat_of_zero_le hp
      have hL : 0 < l.length := by omega
      have i1 : Int.tmod (pn : Int) (l.length : Int) = ((pn % l.length : Nat) : Int) := rfl
      have i2 : Int.tmod (wrap64 (wrap64 ((pn : Int) * 7) + 3)) (l.length : Int) = (((pn * 7 + 3) % l.length : Nat) : Int) := by
        rw [w64 (x := (pn : Int) * 7) (by omega) (by omega), w64 (by omega) (by omega)]; rfl
      have i3 : wrap64 (Int.tdiv (pn : Int) (l.length : Int)) = ((pn / l.length : Nat) : Int) := w64_div (by omega)
      have m1 := Nat.mod_lt pn hL
      have m2 := Nat.mod_lt (pn * 7 + 3) hL
      have m3 := Nat.div_le_self pn l.length
      obtain ⟨a1, a2⟩ := rd_byte hl ((pn % l.length : Nat) : Int)
      obtain ⟨b1, b2⟩ := rd_byte hl (((pn * 7 + 3) % l.length : Nat) : Int)
      suffices hs : ∃ v, Ev (fun k => spec_l20Rd_pick.j0 k n false l ((pn : Int) + 1)) (v, (pn : Int) + 1) ∧ 0 ≤ v ∧ v < n from hs
      refine ⟨?v, Ev_suc ?_, ?_⟩
      case refine_1 =>
        simp only [spec_l20Rd_pick.j0, Bool.false_eq_true, if_false]
        rw [w64 (x := (pn : Int) + 1 - 1) (by omega) (by omega), show (pn : Int) + 1 - 1 = (pn : Int) by omega, i1, i2, i3]
        simp only [if_neg h1, if_neg h0, if_neg (show ¬ n = 0 by omega), if_pos (show (0 : Int) ≤ ((pn % l.length : Nat) : Int) by omega), if_pos (show ((pn % l.length : Nat) : Int) < (l.length : Int) by omega), if_pos (show (0 : Int) ≤ (((pn * 7 + 3) % l.length : Nat) : Int) by omega), if_pos (show (((pn * 7 + 3) % l.length : Nat) : Int) < (l.length : Int) by omega)]
        exact Ev.now _
      case refine_2 =>
        clear i3
        generalize pn / l.length = zq at *
        have z : wrap64 (wrap64 (wrap64 (wrap64 (wrap64 (rd l ((pn % l.length : Nat) : Int)) * 131) + wrap64 (wrap64 (rd l (((pn * 7 + 3) % l.length : Nat) : Int)) * 1117)) + wrap64 ((pn : Int) * 29)) + wrap64 ((zq : Int) * 53)) =
            rd l ((pn % l.length : Nat) : Int) * 131 + rd l (((pn * 7 + 3) % l.length : Nat) : Int) * 1117 + (pn : Int) * 29 + (zq : Int) * 53 := by
          generalize rd l ((pn % l.length : Nat) : Int) = x at a1 a2
          generalize rd l (((pn * 7 + 3) % l.length : Nat) : Int) = y at b1 b2
          rw [w64 (x := x) (by omega) (by omega), w64 (x := y) (by omega) (by omega), w64 (x := x * 131) (by omega) (by omega), w64 (x := y * 1117) (by omega) (by omega), w64 (x := (pn : Int) * 29) (by omega) (by omega), w64 (x := (zq : Int) * 53) (by omega) (by omega),
            w64 (x := x * 131 + y * 1117) (by omega) (by omega), w64 (x := x * 131 + y * 1117 + (pn : Int) * 29) (by omega) (by omega), w64 (by omega) (by omega)]
        rw [z]
        generalize hz : rd l ((pn % l.length : Nat) : Int) * 131 + rd l (((pn * 7 + 3) % l.length : Nat) : Int) * 1117 + (pn : Int) * 29 + (zq : Int) * 53 = w at *
        have w1 : 0 ≤ w := by omega
        have w2 : w < 1099511627776 := by omega
        have w3 : wrap64 (Int.tdiv w 64) = w / 64 := by rw [Int.tdiv_eq_ediv_of_nonneg w1, w64 (by omega) (by omega)]
        rw [w3]
        exact tmod_range (xor_nonneg w1 w2 (by omega) (by omega)) hn

theorem rd_mem {P : Int → Prop} {l : List Int} (h : ∀ x ∈ l, P x) {i : Int} (h0 : 0 ≤ i) (h1 : i < (l.length : Int)) : P (rd l i) := by
  obtain ⟨n, rfl⟩ := Int.eq_ofNat_of_zero_le h0
  have hn : n < l.length := by omega
  rw [rd_get hn]
  exact h _ (List.getElem_mem hn)

theorem half {v n : Int} (h0 : 0 ≤ v) (h1 : v < n) (hn : n ≤ 1000000) : wrap64 (Int.tdiv v 2) = v / 2 := by
  rw [Int.tdiv_eq_ediv_of_nonneg h0, w64 (by omega) (by omega)]

theorem l20Some_ev {l : List Int} (hl : Bs l) {p : Int} (hp : 0 ≤ p) (hp2 : p ≤ 100000) :
    ∃ v q, Ev (fun k => spec_l20Some.f k l p) (v, q) ∧ -30000 ≤ v ∧ v ≤ 30000 ∧ 0 ≤ q ∧ q ≤ p + 10 := by
  obtain ⟨a, ha, a0, a1⟩ := pick_ev hl (p := p) (n := 12) (by omega) (by omega) (by omega) (by omega)
  obtain ⟨b, hb, b0, b1⟩ := pick_ev hl (p := p + 1) (n := 60) (by omega) (by omega) (by omega) (by omega)
  obtain ⟨c, hc, c0, c1⟩ := pick_ev hl (p := p + 1 + 1) (n := 100) (by omega) (by omega) (by omega) (by omega)
  obtain ⟨d, hd, d0, d1⟩ := pick_ev hl (p := p + 1 + 1 + 1) (n := 100) (by omega) (by omega) (by omega) (by omega)
  obtain ⟨e, he, e0, e1⟩ := pick_ev hl (p := p + 1 + 1 + 1 + 1) (n := 60) (by omega) (by omega) (by omega) (by omega)
  obtain ⟨f, hf, f0, f1⟩ := pick_ev hl (p := p + 1 + 1 + 1 + 1 + 1) (n := 13) (by omega) (by omega) (by omega) (by omega)
  obtain ⟨g, hg, g0, g1⟩ := pick_ev hl (p := p + 1 + 1 + 1 + 1 + 1 + 1) (n := 40) (by omega) (by omega) (by omega) (by omega)
  obtain ⟨h, hh, h0, h1⟩ := pick_ev hl (p := p + 1 + 1 + 1 + 1 + 1 + 1 + 1) (n := 50) (by omega) (by omega) (by omega) (by omega)
  have hcd : 0 ≤ c * d := Int.mul_nonneg c0 d0
  have hcd2 : c * d ≤ 100 * 100 := Int.mul_le_mul (by omega) (by omega) d0 (by omega)
  have hy : ∀ x ∈ ([wrap64 (1 + a), wrap64 (1 + b), wrap64 (1 + (wrap64 (c * d))), wrap64 (12 * (wrap64 (1 + e))), 9973, 8192, 9240] : List Int), 0 ≤ x ∧ x ≤ 10001 := by
    rw [w64 (x := 1 + a) (by omega) (by omega), w64 (x := 1 + b) (by omega) (by omega), w64 (x := c * d) (by omega) (by omega), w64 (x := 1 + c * d) (by omega) (by omega), w64 (x := 1 + e) (by omega) (by omega), w64 (x := 12 * (1 + e)) (by omega) (by omega)]
    intro x hx
    simp only [List.mem_cons, List.not_mem_nil, or_false] at hx
    omega
  have hr := rd_mem hy (i := f / 2) (by omega) (by simp; omega)
  refine ⟨?v, p + 1 + 1 + 1 + 1 + 1 + 1 + 1 + 1, ?_, ?_⟩
  case refine_1 =>
    unfold spec_l20Some.f
    refine Ev.bind ha (Ev.bind hb (Ev.bind hc (Ev.bind hd (Ev.bind he ?_))))
    simp only [Option.bind_some]
    refine Ev.bind hf ?_
    simp only [half f0 f1 (by omega), if_pos (show (0 : Int) ≤ f / 2 by omega), List.length_cons, List.length_nil, if_pos (show f / 2 < ((0 + 1 + 1 + 1 + 1 + 1 + 1 + 1 : Nat) : Int) by omega)]
    refine Ev.bind hg ?_
    refine Ev.bind hh ?_
    dsimp only
    exact Ev.now _
  case refine_2 =>
    generalize rd _ (f / 2) = z at hr
    try dsimp only
    rw [Int.tdiv_eq_ediv_of_nonneg g0, Int.tdiv_eq_ediv_of_nonneg h0, w64 (x := g / 39) (by omega) (by omega), w64 (x := h / 49) (by omega) (by omega), w64 (x := g / 39 * 10000) (by omega) (by omega), w64 (x := h / 49 * 20000) (by omega) (by omega), w64 (x := z + g / 39 * 10000) (by omega) (by omega), w64 (by omega) (by omega)]
    omega

theorem l20Mid_ev {l : List Int} (hl : Bs l) {p : Int} (hp : 0 ≤ p) (hp2 : p ≤ 100000) :
    ∃ v q, Ev (fun k => spec_l20Mid.f k l p) (v, q) ∧ -30000 ≤ v ∧ v ≤ 30000 ∧ 0 ≤ q ∧ q ≤ p + 10 := by
  obtain ⟨a, ha, a0, a1⟩ := pick_ev hl (p := p) (n := 20) (by omega) (by omega) (by omega) (by omega)
  obtain ⟨b, hb, b0, b1⟩ := pick_ev hl (p := p + 1) (n := 100) (by omega) (by omega) (by omega) (by omega)
  obtain ⟨c, hc, c0, c1⟩ := pick_ev hl (p := p + 1 + 1) (n := 41) (by omega) (by omega) (by omega) (by omega)
  obtain ⟨f, hf, f0, f1⟩ := pick_ev hl (p := p + 1 + 1 + 1) (n := 7) (by omega) (by omega) (by omega) (by omega)
  obtain ⟨g, hg, g0, g1⟩ := pick_ev hl (p := p + 1 + 1 + 1 + 1) (n := 30) (by omega) (by omega) (by omega) (by omega)
  obtain ⟨h, hh, h0, h1⟩ := pick_ev hl (p := p + 1 + 1 + 1 + 1 + 1) (n := 40) (by omega) (by omega) (by omega) (by omega)
  have hy : ∀ x ∈ ([wrap64 (1 + a), wrap64 (1 + b), wrap64 (12 * (wrap64 (1 + c))), 500] : List Int), 0 ≤ x ∧ x ≤ 10001 := by
    rw [w64 (x := 1 + a) (by omega) (by omega), w64 (x := 1 + b) (by omega) (by omega), w64 (x := 1 + c) (by omega) (by omega), w64 (x := 12 * (1 + c)) (by omega) (by omega)]
    intro x hx
    simp only [List.mem_cons, List.not_mem_nil, or_false] at hx
    omega
  have hr := rd_mem hy (i := f / 2) (by omega) (by simp; omega)
  refine ⟨?v, p + 1 + 1 + 1 + 1 + 1 + 1, ?_, ?_⟩
  case refine_1 =>
    unfold spec_l20Mid.f
    refine Ev.bind ha (Ev.bind hb (Ev.bind hc ?_))
    simp only [Option.bind_some]
    refine Ev.bind hf ?_
    simp only [half f0 f1 (by omega), if_pos (show (0 : Int) ≤ f / 2 by omega), List.length_cons, List.length_nil, if_pos (show f / 2 < ((0 + 1 + 1 + 1 + 1 : Nat) : Int) by omega)]
    refine Ev.bind hg ?_
    refine Ev.bind hh ?_
    dsimp only
    exact Ev.now _
  case refine_2 =>
    generalize rd _ (f / 2) = z at hr
    try dsimp only
    rw [Int.tdiv_eq_ediv_of_nonneg g0, Int.tdiv_eq_ediv_of_nonneg h0, w64 (x := g / 29) (by omega) (by omega), w64 (x := h / 39) (by omega) (by omega), w64 (x := g / 29 * 500) (by omega) (by omega), w64 (x := h / 39 * 1000) (by omega) (by omega), w64 (x := z + g / 29 * 500) (by omega) (by omega), w64 (by omega) (by omega)]
    omega

theorem DrawUnitaryPerfect_ev {l0 : List Int} (h : ∀ x ∈ l0, (Lit.int .u8 x).wf = true) : ∃ v, Ev (fun k => spec_DrawUnitaryPerfect.f k l0) v ∧ -30000 ≤ v ∧ v ≤ 30000 := by
  obtain ⟨l, e, hl⟩ := l20Open_ev h
  obtain ⟨v0, q0, hv0, b0, c0, m0, k0⟩ := l20Some_ev hl (p := 0) (by omega) (by omega)
  obtain ⟨v1, q1, hv1, b1, c1, m1, k1⟩ := l20Mid_ev hl (p := q0) (by omega) (by omega)
  obtain ⟨f, hf, f0, f1⟩ := pick_ev hl (p := q1) (n := 6) (by omega) (by omega) (by omega) (by omega)
  have hy : ∀ x ∈ ([6, 60, 90, 28, v0, v1] : List Int), -30000 ≤ x ∧ x ≤ 30000 := by
    intro x hx
    simp only [List.mem_cons, List.not_mem_nil, or_false] at hx
    omega
  have hr := rd_mem hy (i := f) (by omega) (by simp; omega)
  refine ⟨_, ?_, hr⟩
  unfold spec_DrawUnitaryPerfect.f
  rw [e]
  simp only [Option.bind_some]
  refine Ev.bind hv0 (Ev.bind hv1 (?_))
  simp only [Option.bind_some]
  refine Ev.bind hf ?_
  simp only [if_pos f0, List.length_cons, List.length_nil, if_pos (show f < ((0 + 1 + 1 + 1 + 1 + 1 + 1 : Nat) : Int) by omega)]
  exact Ev.now _

theorem numberOk_eq (a : Int) : impl_numberOk.f a = some (decide (inN a)) := by
  unfold impl_numberOk.f inN
  by_cases h : 1 ≤ a
  · rw [if_pos h]; simp [h]
  · rw [if_neg h]; simp [h]

/-- The list of primes as the program has it. -/
def facI (l : List (Nat × Nat)) : List (List Int) := l.map (fun x => [(x.1 : Int), (x.2 : Int)])

theorem impl_fac_l1 {out : List (List Int)} {p : Nat} {r : List (List Int)} (h2 : 2 ≤ p) (hp : p ≤ 10000) (hout : out.length < 5864062014805) : ∀ (left j : Nat), 1 ≤ left → left + j ≤ 20000 →
    (0 < j + (strip p left).2 → Ev (fun k => impl_factors.l0 k ((strip p left).1 : Int) (out ++ [[(p : Int), ((j + (strip p left).2 : Nat) : Int)]]) ((p + 1 : Nat) : Int)) r) →
    (j + (strip p left).2 = 0 → Ev (fun k => impl_factors.l0 k ((strip p left).1 : Int) out ((p + 1 : Nat) : Int)) r) →
    Ev (fun k => impl_factors.l1 k (left : Int) out (p : Int) (j : Int)) r := by
  intro left
  induction left using Nat.strongRecOn with
  | ind left ih =>
    intro j h1 hb hy hn
    refine Ev_suc ?_
    have c1 : ¬ (p : Int) = 0 := by omega
    simp only [impl_factors.l1, if_neg c1, tmod_nat]
    rw [w64_div (show left ≤ 9223372036854775807 by omega), w64_succ (show j < 9223372036854775807 by omega), w64_succ (show p < 9223372036854775807 by omega)]
    by_cases h0 : left % p = 0
    · have c2 : ((left % p : Nat) : Int) = 0 := by omega
      simp only [if_pos c2]
      rw [strip_yes h2 h1 h0] at hy hn
      have hle : left / p ≤ left / 2 := Nat.div_le_div_left h2 (by omega)
      have hlt : left / p < left := Nat.div_lt_self h1 (by omega)
      have hpos : 1 ≤ left / p := div_pos_of (by omega) h1 h0
      have e : j + 1 + (strip p (left / p)).2 = j + ((strip p (left / p)).2 + 1) := by omega
      refine ih (left / p) hlt (j + 1) hpos (by omega) (fun h => ?_) (fun h => by omega)
      rw [e]; exact hy (by simp only; omega)
    · have c2 : ¬ ((left % p : Nat) : Int) = 0 := by omega
      simp only [if_neg c2]
      rw [strip_no h0] at hy hn
      simp only [Nat.add_zero] at hy hn
      by_cases hj : 0 < j
      · have c3 : (j : Int) > 0 := by omega
        simp only [if_pos c3, if_pos hout]
        exact hy hj
      · have c3 : ¬ (j : Int) > 0 := by omega
        simp only [if_neg c3]
        exact hn (by omega)

theorem impl_fac_l0 (d : Nat) : ∀ (left p : Nat) (out : List (List Int)), left + 1 - p = d → 2 ≤ p → 1 ≤ left → left ≤ 10000 → out.length ≤ p → p ≤ 10001 → Rough p left →
    Ev (fun k => impl_factors.l0 k (left : Int) out (p : Int)) (out ++ facI (F p left)) := by
  induction d using Nat.strongRecOn with
  | ind d ih =>
    intro left p out hd h2 h1 hle hout hp hr
    have hsq : p * p ≤ 100000000000 := by
      have : p * p ≤ 10001 * 10001 := Nat.mul_le_mul (by omega) (by omega)
      omega
    refine Ev_suc ?_
    simp only [impl_factors.l0]
    rw [w64_mul (by omega)]
    by_cases hone : left = 1
    · have c1 : ¬ (left : Int) > 1 := by omega
      simp only [if_neg c1]
      rw [F_end (by omega)]
      simp only [facI, List.map_nil, List.append_nil]
      exact Ev.now _
    · have c1 : (left : Int) > 1 := by omega
      simp only [if_pos c1]
      by_cases h : left < p * p
      · have c2 : ((p * p : Nat) : Int) > (left : Int) := Int.ofNat_lt.2 h
        simp only [if_pos c2]
        have hrr := hr.square h
        have hpl : p ≤ left := by
          rcases Nat.lt_or_ge left p with e | e
          · exact absurd (Nat.mod_self left) (hr left (by omega) e)
          · exact e
        rw [F_alone (left - p) p left rfl h2 hpl hrr]
        have hs : strip left left = (1, 1) := by
          rw [strip_yes (by omega) h1 (Nat.mod_self left), Nat.div_self (by omega), strip_no]
          rw [Nat.mod_eq_of_lt (by omega)]; omega
        refine Ev_suc ?_
        simp only [impl_factors.j1]
        refine impl_fac_l1 (by omega) (by omega) (by omega) left 0 h1 (by omega) (fun _ => ?_) (fun e => ?_)
        · rw [hs]
          refine Ev_suc ?_
          have c3 : ¬ ((1 : Nat) : Int) > 1 := by omega
          simp only [impl_factors.l0, if_neg c3]
          exact Ev.now _
        · rw [hs] at e; simp at e
      · have c2 : ¬ ((p * p : Nat) : Int) > (left : Int) := fun e => h (Int.ofNat_lt.1 e)
        simp only [if_neg c2]
        have hpl : p ≤ left := by
          have := Nat.le_mul_of_pos_left p (show 0 < p by omega)
          omega
        refine Ev_suc ?_
        simp only [impl_factors.j1]
        have hs := strip_le p left
        refine impl_fac_l1 h2 (by omega) (by omega) left 0 h1 (by omega) (fun h' => ?_) (fun h' => ?_)
        · rw [Nat.zero_add] at h' ⊢
          have h0 := (strip_pos h2 h1).1 h'
          rw [F_yes hpl h2 h0]
          have e : out ++ facI ((p, (strip p left).2) :: F (p + 1) (strip p left).1) = (out ++ [[(p : Int), ((strip p left).2 : Int)]]) ++ facI (F (p + 1) (strip p left).1) := by simp [facI]
          rw [e]
          exact ih _ (by omega) _ (p + 1) _ rfl (by omega) (strip_spec h2 left h1).2.1 (by omega) (by simp; omega) (by omega) (hr.step h2 h1)
        · rw [Nat.zero_add] at h'
          have h0 : ¬ left % p = 0 := fun e => by have := (strip_pos h2 h1).2 e; omega
          rw [F_no hpl h2 h0, strip_no h0]
          exact ih _ (by omega) left (p + 1) out rfl (by omega) h1 hle (by omega) (by omega) (hr.next h0)

theorem impl_factors_ev {n : Nat} (h1 : 1 ≤ n) (h2 : n ≤ 10000) : Ev (fun k => impl_factors.f k (n : Int)) (facI (facs n)) := by
  have := impl_fac_l0 _ n 2 [] rfl (by omega) h1 h2 (by simp) (by omega) (Rough.two n)
  rw [List.nil_append] at this
  exact this

theorem facs_uall {n : Nat} (h1 : 1 ≤ n) (h2 : n ≤ 10000) : (facs n).length ≤ 1000000 ∧ (∀ x ∈ facs n, 2 ≤ x.1 ∧ x.1 ≤ 10000 ∧ 1 ≤ x.2 ∧ x.2 ≤ 10000) ∧ prodF (facs n) ≤ 10000 :=
  ⟨by have := facs_length h1; omega, fun x hx => by have := facs_bounds h1 x hx; omega, by rw [prodF_facs h1]; exact h2⟩

theorem facI_length (l : List (Nat × Nat)) : (facI l).length = l.length := by simp [facI]

theorem pow_one_le {p k : Nat} (h : 2 ≤ p) (hk : 1 ≤ k) : p ^ k + 1 ≤ p ^ k * p ^ k := by
  have h2 : 2 ≤ p ^ k := by
    obtain ⟨j, rfl⟩ : ∃ j, k = j + 1 := ⟨k - 1, by omega⟩
    rw [Nat.pow_succ]
    have := Nat.le_mul_of_pos_left p (show 0 < p ^ j from Nat.pow_pos (by omega))
    omega
  have h3 : 2 * p ^ k ≤ p ^ k * p ^ k := Nat.mul_le_mul_right _ h2
  omega

theorem facI_get {l : List (Nat × Nat)} {i : Nat} (h : i < l.length) : rd_L1 (facI l) (i : Int) = [(l[i].1 : Int), (l[i].2 : Int)] := by
  unfold rd_L1
  rw [Int.toNat_natCast, List.getD_eq_getElem?_getD, List.getElem?_eq_getElem (by rw [facI_length]; exact h)]
  simp [facI]

theorem facs_uget {l : List (Nat × Nat)} {i : Nat} (h : i < l.length) : rd (rd_L1 (facI l) (i : Int)) 0 = (l[i].1 : Int) ∧ rd (rd_L1 (facI l) (i : Int)) 1 = (l[i].2 : Int) ∧ (rd_L1 (facI l) (i : Int)).length = 2 := by
  rw [facI_get h]; exact ⟨rfl, rfl, rfl⟩

theorem impl_UnitarySum_l {l : List (Nat × Nat)} (hl : l.length ≤ 1000000) (hp : ∀ x ∈ l, 2 ≤ x.1 ∧ x.1 ≤ 10000 ∧ 1 ≤ x.2 ∧ x.2 ≤ 10000) (d : Nat) : ∀ (i acc : Nat), l.length - i = d → i ≤ l.length → 1 ≤ acc → acc * (prodF (l.drop i) * prodF (l.drop i)) ≤ 100000000 →
    Ev (fun k => impl_UnitarySum.l0 k (acc : Int) (facI l) (l.length : Int) (i : Int)) ((usF acc (l.drop i) : Nat) : Int) := by
  induction d with
  | zero =>
    intro i acc hd hi _ _
    have e : i = l.length := by omega
    subst e
    refine Ev_suc ?_
    simp only [impl_UnitarySum.l0, Int.lt_irrefl, if_false, List.drop_length, usF]
    exact Ev.now _
  | succ d ih =>
    intro i acc hd hi ha hb
    have hlt : i < l.length := by omega
    rw [drop_cons hlt] at hb ⊢
    simp only [prodF] at hb
    simp only [usF]
    obtain ⟨b1, b2, b3, b4⟩ := hp l[i] (List.getElem_mem hlt)
    have hR : 1 ≤ prodF (l.drop (i + 1)) := prodF_pos (fun x hx => (hp x (List.mem_of_mem_drop hx)).1)
    obtain ⟨s1, s2, s3, s4, s5⟩ := small_step ha (Nat.le_add_left 1 (l[i].1 ^ l[i].2)) (pow_one_le b1 b3) hR hb
    have next := ih (i + 1) (acc * (l[i].1 ^ l[i].2 + 1)) (by omega) (by omega) s2 s1
    obtain ⟨g0, g1, g2⟩ := facs_uget hlt
    have inner : ∀ (e j : Nat), l[i].2 - j = e → j ≤ l[i].2 →
        Ev (fun k => impl_UnitarySum.l1 k (acc : Int) (rd_L1 (facI l) (i : Int)) ((l[i].1 ^ j : Nat) : Int) (facI l) (l.length : Int) (i : Int) (l[i].2 : Int) (j : Int)) ((usF (acc * (l[i].1 ^ l[i].2 + 1)) (l.drop (i + 1)) : Nat) : Int) := by
      intro e
      induction e with
      | zero =>
        intro j he hj
        have e : j = l[i].2 := by omega
        subst e
        refine Ev_suc ?_
        simp only [impl_UnitarySum.l1, Int.lt_irrefl, if_false]
        rw [w64_succ (by omega), w64_mul (by omega), w64_succ (by omega)]
        exact next
      | succ e ihe =>
        intro j he hj
        refine Ev_suc ?_
        have c1 : (j : Int) < (l[i].2 : Int) := by omega
        have c2 : (0 : Int) < ((rd_L1 (facI l) (i : Int)).length : Int) := by rw [g2]; decide
        have m1 : l[i].1 ^ (j + 1) ≤ l[i].1 ^ l[i].2 := Nat.pow_le_pow_right (by omega) (by omega)
        have m4 : l[i].1 ^ (j + 1) = l[i].1 ^ j * l[i].1 := Nat.pow_succ _ _
        simp only [impl_UnitarySum.l1, if_pos c1, if_pos c2, g0]
        rw [w64_mul (by omega), w64_succ (by omega), ← m4]
        exact ihe (j + 1) (by omega) (by omega)
    refine Ev_suc ?_
    have c0 : (i : Int) < (l.length : Int) := by omega
    have c1 : (i : Int) < ((facI l).length : Int) := by rw [facI_length]; omega
    have c2 : (0 : Int) ≤ (i : Int) := by omega
    have c3 : (1 : Int) < ((rd_L1 (facI l) (i : Int)).length : Int) := by rw [g2]; decide
    simp only [impl_UnitarySum.l0, if_pos c0, if_pos c1, if_pos c2, if_pos c3, g1]
    exact inner l[i].2 0 (by omega) (by omega)

theorem impl_UnitarySum_nat {n : Nat} (h1 : 1 ≤ n) (h2 : n ≤ 10000) : Ev (fun k => impl_UnitarySum.f k (n : Int)) ((usF 1 (facs n) : Nat) : Int) := by
  have h : inN (n : Int) := by unfold inN; omega
  unfold impl_UnitarySum.f
  simp only [numberOk_eq, Option.bind_some, decide_eq_true_eq, if_pos h]
  refine Ev.bind (impl_factors_ev h1 h2) ?_
  obtain ⟨f1, f2, f3⟩ := facs_uall h1 h2
  rw [facI_length]
  refine impl_UnitarySum_l f1 f2 _ 0 1 rfl (by omega) (by omega) ?_
  rw [List.drop_zero, Nat.one_mul]
  have : prodF (facs n) * prodF (facs n) ≤ 10000 * 10000 := Nat.mul_le_mul f3 f3
  omega

theorem impl_UnitarySum_ev (a : Int) : Ev (fun k => impl_UnitarySum.f k a) (usuI a) := by
  unfold usuI
  by_cases h : inN a
  · obtain ⟨n, rfl, h1, h2⟩ := inN_nat h
    rw [if_pos h]
    exact impl_UnitarySum_nat h1 h2
  · unfold impl_UnitarySum.f
    simp only [numberOk_eq, Option.bind_some, decide_eq_true_eq, if_neg h]
    exact Ev.now _

theorem impl_UnitaryPerfect_ev (a : Int) : Ev (fun k => impl_UnitaryPerfect.f k a) (uspI a) := by
  unfold impl_UnitaryPerfect.f uspI
  by_cases h : inN a
  · obtain ⟨n, rfl, h1, h2⟩ := inN_nat h
    simp only [numberOk_eq, Option.bind_some, decide_eq_true_eq, if_pos h]
    refine Ev.bind (impl_UnitarySum_ev _) ?_
    rw [w64 (by omega) (by omega)]
    have e : (usuI (n : Int) == 2 * (n : Int)) = decide (inN (n : Int) ∧ usuI (n : Int) = 2 * (n : Int)) := by
      by_cases e : usuI (n : Int) = 2 * (n : Int)
      · simp [e, h]
      · simp [e]
    rw [e]
    exact Ev.now _
  · simp only [numberOk_eq, Option.bind_some, decide_eq_true_eq, if_neg h, decide_eq_false (fun e : inN a ∧ usuI a = 2 * a => h e.1)]
    exact Ev.now _

theorem l1In_eq (a lo hi : Int) : spec_l1In.f a lo hi = some (decide (lo ≤ a ∧ a ≤ hi)) := by
  unfold spec_l1In.f
  by_cases h : lo ≤ a
  · rw [if_pos h]; simp [h]
  · rw [if_neg h]; simp [h]

theorem spec_fac_l1 {x0 : Int} {out : List (List Int)} {p : Nat} {r : List (List Int)} (h2 : 2 ≤ p) (hp : p ≤ 10000) (hout : out.length < 5864062014805) : ∀ (left j : Nat), 1 ≤ left → left + j ≤ 20000 →
    (0 < j + (strip p left).2 → Ev (fun k => spec_FactorsOf.l0 k x0 (out ++ [[(p : Int), ((j + (strip p left).2 : Nat) : Int)]]) ((strip p left).1 : Int) ((p + 1 : Nat) : Int)) r) →
    (j + (strip p left).2 = 0 → Ev (fun k => spec_FactorsOf.l0 k x0 out ((strip p left).1 : Int) ((p + 1 : Nat) : Int)) r) →
    Ev (fun k => spec_FactorsOf.l1 k x0 out (left : Int) (p : Int) (j : Int)) r := by
  intro left
  induction left using Nat.strongRecOn with
  | ind left ih =>
    intro j h1 hb hy hn
    refine Ev_suc ?_
    have c1 : ¬ (p : Int) = 0 := by omega
    simp only [spec_FactorsOf.l1, if_neg c1, tmod_nat]
    rw [w64_div (show left ≤ 9223372036854775807 by omega), w64_succ (show j < 9223372036854775807 by omega), w64_succ (show p < 9223372036854775807 by omega)]
    by_cases h0 : left % p = 0
    · have c2 : ((left % p : Nat) : Int) = 0 := by omega
      simp only [if_pos c2]
      rw [strip_yes h2 h1 h0] at hy hn
      have hle : left / p ≤ left / 2 := Nat.div_le_div_left h2 (by omega)
      have hlt : left / p < left := Nat.div_lt_self h1 (by omega)
      have hpos : 1 ≤ left / p := div_pos_of (by omega) h1 h0
      have e : j + 1 + (strip p (left / p)).2 = j + ((strip p (left / p)).2 + 1) := by omega
      refine ih (left / p) hlt (j + 1) hpos (by omega) (fun h => ?_) (fun h => by omega)
      rw [e]; exact hy (by simp only; omega)
    · have c2 : ¬ ((left % p : Nat) : Int) = 0 := by omega
      simp only [if_neg c2]
      rw [strip_no h0] at hy hn
      simp only [Nat.add_zero] at hy hn
      by_cases hj : 0 < j
      · have c3 : (j : Int) > 0 := by omega
        simp only [if_pos c3, if_pos hout]
        exact hy hj
      · have c3 : ¬ (j : Int) > 0 := by omega
        simp only [if_neg c3]
        exact hn (by omega)

theorem spec_fac_l0 {n : Nat} (h1n : 1 ≤ n) (h2n : n ≤ 10000) (d : Nat) : ∀ (left p : Nat) (out : List (List Int)), left + 1 - p = d → 2 ≤ p → 1 ≤ left → left ≤ n → out.length ≤ p → p ≤ 10001 →
    Ev (fun k => spec_FactorsOf.l0 k (n : Int) out (left : Int) (p : Int)) (out ++ facI (F p left)) := by
  induction d using Nat.strongRecOn with
  | ind d ih =>
    intro left p out hd h2 h1 hle hout hp
    refine Ev_suc ?_
    have hl : decide ((1 : Int) ≤ (n : Int) ∧ (n : Int) ≤ 10000) = true := decide_eq_true (by omega)
    simp only [spec_FactorsOf.l0, l1In_eq, Option.bind_some, hl]
    by_cases h : p ≤ left
    · have c1 : (p : Int) ≤ (left : Int) := Int.ofNat_le.2 h
      simp only [if_pos c1]
      refine Ev_suc ?_
      simp only [spec_FactorsOf.j1, if_true]
      have hs := strip_le p left
      refine spec_fac_l1 h2 (by omega) (by omega) left 0 h1 (by omega) (fun h' => ?_) (fun h' => ?_)
      · rw [Nat.zero_add] at h' ⊢
        have h0 := (strip_pos h2 h1).1 h'
        rw [F_yes h h2 h0]
        have e : out ++ facI ((p, (strip p left).2) :: F (p + 1) (strip p left).1) = (out ++ [[(p : Int), ((strip p left).2 : Int)]]) ++ facI (F (p + 1) (strip p left).1) := by simp [facI]
        rw [e]
        exact ih _ (by omega) _ (p + 1) _ rfl (by omega) (strip_spec h2 left h1).2.1 (by omega) (by simp; omega) (by omega)
      · rw [Nat.zero_add] at h'
        have h0 : ¬ left % p = 0 := fun e => by have := (strip_pos h2 h1).2 e; omega
        rw [F_no h h2 h0, strip_no h0]
        exact ih _ (by omega) left (p + 1) out rfl (by omega) h1 hle (by omega) (by omega)
    · have c1 : ¬ (p : Int) ≤ (left : Int) := fun e => h (Int.ofNat_le.1 e)
      simp only [if_neg c1]
      refine Ev_suc ?_
      simp only [spec_FactorsOf.j1, Bool.false_eq_true, if_false]
      rw [F_end h]
      simp only [facI, List.map_nil, List.append_nil]
      exact Ev.now _

theorem spec_FactorsOf_nat {n : Nat} (h1 : 1 ≤ n) (h2 : n ≤ 10000) : Ev (fun k => spec_FactorsOf.f k (n : Int)) (facI (facs n)) := by
  have := spec_fac_l0 h1 h2 _ n 2 [] rfl (by omega) h1 (Nat.le_refl _) (by simp) (by omega)
  rw [List.nil_append] at this
  exact this

theorem spec_UnitarySum_l {l : List (Nat × Nat)} (hl : l.length ≤ 1000000) (hp : ∀ x ∈ l, 2 ≤ x.1 ∧ x.1 ≤ 10000 ∧ 1 ≤ x.2 ∧ x.2 ≤ 10000) (d : Nat) : ∀ (i acc : Nat), l.length - i = d → i ≤ l.length → 1 ≤ acc → acc * (prodF (l.drop i) * prodF (l.drop i)) ≤ 100000000 →
    Ev (fun k => spec_UnitarySum.l0 k (acc : Int) (facI l) (i : Int)) ((usF acc (l.drop i) : Nat) : Int) := by
  induction d with
  | zero =>
    intro i acc hd hi _ _
    have e : i = l.length := by omega
    subst e
    refine Ev_suc ?_
    simp only [spec_UnitarySum.l0, facI_length, Int.lt_irrefl, if_false, List.drop_length, usF]
    exact Ev.now _
  | succ d ih =>
    intro i acc hd hi ha hb
    have hlt : i < l.length := by omega
    rw [drop_cons hlt] at hb ⊢
    simp only [prodF] at hb
    simp only [usF]
    obtain ⟨b1, b2, b3, b4⟩ := hp l[i] (List.getElem_mem hlt)
    have hR : 1 ≤ prodF (l.drop (i + 1)) := prodF_pos (fun x hx => (hp x (List.mem_of_mem_drop hx)).1)
    obtain ⟨s1, s2, s3, s4, s5⟩ := small_step ha (Nat.le_add_left 1 (l[i].1 ^ l[i].2)) (pow_one_le b1 b3) hR hb
    have next := ih (i + 1) (acc * (l[i].1 ^ l[i].2 + 1)) (by omega) (by omega) s2 s1
    obtain ⟨g0, g1, g2⟩ := facs_uget hlt
    have c1 : (i : Int) < ((facI l).length : Int) := by rw [facI_length]; omega
    have c2 : (0 : Int) ≤ (i : Int) := by omega
    have c3 : (1 : Int) < ((rd_L1 (facI l) (i : Int)).length : Int) := by rw [g2]; decide
    have c4 : (0 : Int) < ((rd_L1 (facI l) (i : Int)).length : Int) := by rw [g2]; decide
    have inner : ∀ (e j : Nat), l[i].2 - j = e → j ≤ l[i].2 →
        Ev (fun k => spec_UnitarySum.l1 k (acc : Int) (facI l) (i : Int) ((l[i].1 ^ j : Nat) : Int) (j : Int)) ((usF (acc * (l[i].1 ^ l[i].2 + 1)) (l.drop (i + 1)) : Nat) : Int) := by
      intro e
      induction e with
      | zero =>
        intro j he hj
        have e : j = l[i].2 := by omega
        subst e
        refine Ev_suc ?_
        simp only [spec_UnitarySum.l1, if_pos c1, if_pos c2, if_pos c3, g1, Int.lt_irrefl, if_false]
        rw [w64_succ (by omega), w64_mul (by omega), w64_succ (by omega)]
        exact next
      | succ e ihe =>
        intro j he hj
        refine Ev_suc ?_
        have d1 : (j : Int) < (l[i].2 : Int) := by omega
        have m1 : l[i].1 ^ (j + 1) ≤ l[i].1 ^ l[i].2 := Nat.pow_le_pow_right (by omega) (by omega)
        have m4 : l[i].1 ^ (j + 1) = l[i].1 ^ j * l[i].1 := Nat.pow_succ _ _
        simp only [spec_UnitarySum.l1, if_pos c1, if_pos c2, if_pos c3, if_pos c4, g0, g1, if_pos d1]
        rw [w64_mul (by omega), w64_succ (by omega), ← m4]
        exact ihe (j + 1) (by omega) (by omega)
    refine Ev_suc ?_
    simp only [spec_UnitarySum.l0, if_pos c1]
    exact inner l[i].2 0 (by omega) (by omega)

theorem spec_UnitarySum_nat {n : Nat} (h1 : 1 ≤ n) (h2 : n ≤ 10000) : Ev (fun k => spec_UnitarySum.f k (n : Int)) ((usF 1 (facs n) : Nat) : Int) := by
  unfold spec_UnitarySum.f
  simp only [l1In_eq, Option.bind_some, decide_eq_true_eq, if_pos (show 1 ≤ (n : Int) ∧ (n : Int) ≤ 10000 by omega)]
  refine Ev.bind (spec_FactorsOf_nat h1 h2) ?_
  obtain ⟨f1, f2, f3⟩ := facs_uall h1 h2
  refine spec_UnitarySum_l f1 f2 _ 0 1 rfl (by omega) (by omega) ?_
  rw [List.drop_zero, Nat.one_mul]
  have : prodF (facs n) * prodF (facs n) ≤ 10000 * 10000 := Nat.mul_le_mul f3 f3
  omega

theorem spec_UnitarySum_ev (a : Int) : Ev (fun k => spec_UnitarySum.f k a) (usuI a) := by
  unfold usuI
  by_cases h : inN a
  · obtain ⟨n, rfl, h1, h2⟩ := inN_nat h
    rw [if_pos h]
    exact spec_UnitarySum_nat h1 h2
  · unfold spec_UnitarySum.f
    simp only [l1In_eq, Option.bind_some, decide_eq_true_eq, if_neg (show ¬ (1 ≤ a ∧ a ≤ 10000) from h), if_neg h]
    exact Ev.now _

theorem spec_UnitaryPerfect_ev (a : Int) : Ev (fun k => spec_UnitaryPerfect.f k a) (uspI a) := by
  unfold spec_UnitaryPerfect.f uspI
  by_cases h : inN a
  · obtain ⟨n, rfl, h1, h2⟩ := inN_nat h
    simp only [l1In_eq, Option.bind_some, decide_eq_true_eq, if_pos (show 1 ≤ (n : Int) ∧ (n : Int) ≤ 10000 from h)]
    refine Ev.bind (spec_UnitarySum_ev _) ?_
    rw [w64 (by omega) (by omega)]
    have e : (usuI (n : Int) == 2 * (n : Int)) = decide (inN (n : Int) ∧ usuI (n : Int) = 2 * (n : Int)) := by
      by_cases e : usuI (n : Int) = 2 * (n : Int)
      · simp [e, h]
      · simp [e]
    rw [e]
    exact Ev.now _
  · simp only [l1In_eq, Option.bind_some, decide_eq_true_eq, if_neg (show ¬ (1 ≤ a ∧ a ≤ 10000) from h), decide_eq_false (fun e : inN a ∧ usuI a = 2 * a => h e.1)]
    exact Ev.now _

/-- Does a number divide another one, both from 1 up to the greatest number? -/
def dvI (d n : Int) : Bool := decide (inN d ∧ inN n ∧ n.toNat % d.toNat = 0)

theorem impl_DividesOk_eq (d n : Int) : impl_DividesOk.f d n = some (dvI d n) := by
  unfold impl_DividesOk.f dvI
  by_cases h1 : inN d
  · by_cases h2 : inN n
    · obtain ⟨a, rfl, _, _⟩ := inN_nat h1
      obtain ⟨b, rfl, _, _⟩ := inN_nat h2
      have h0 : ¬ ((a : Int) = 0) := by omega
      simp only [numberOk_eq, Option.bind_some, decide_eq_true_eq, if_pos h1, if_pos h2, if_neg h0, tmod_nat, Int.toNat_natCast, h1, h2, true_and]
      congr 1
      by_cases e : b % a = 0
      · simp [e]
      · simp [e]; omega
    · simp only [numberOk_eq, Option.bind_some, decide_eq_true_eq, if_pos h1, if_neg h2]
      simp [h2]
  · simp only [numberOk_eq, Option.bind_some, decide_eq_true_eq, if_neg h1]
    simp [h1]

theorem alive_eq : laws_alive.f = some true := by
  unfold laws_alive.f
  rw [impl_DividesOk_eq, impl_DividesOk_eq]
  rfl

theorem usF_dvd {c : Nat} : ∀ (l : List (Nat × Nat)) (acc : Nat), c ∣ acc → c ∣ usF acc l
  | [], _, h => h
  | x :: l, acc, h => by
    simp only [usF]
    exact usF_dvd l _ (Nat.dvd_trans h (Nat.dvd_mul_right _ _))
theorem facs_odd {n : Nat} (hn : 1 ≤ n) : n % 2 = 1 → ∀ x ∈ facs n, x.1 ^ x.2 % 2 = 1 := by
  refine facs_induct (P := fun n l => n % 2 = 1 → ∀ x ∈ l, x.1 ^ x.2 % 2 = 1) (by simp) ?_ hn
  intro q k m l hq hk hm hqm ih ho x hx
  rw [Nat.mul_mod] at ho
  have h1 : q ^ k % 2 = 1 := by
    rcases Nat.mod_two_eq_zero_or_one (q ^ k) with e | e
    · rw [e] at ho; simp at ho
    · exact e
  have h2 : m % 2 = 1 := by
    rcases Nat.mod_two_eq_zero_or_one m with e | e
    · rw [e] at ho; simp at ho
    · exact e
  rw [List.mem_cons] at hx
  rcases hx with rfl | hx
  · exact h1
  · exact ih h2 x hx
theorem unitary_even {n : Nat} (hn : 1 ≤ n) (h : usF 1 (facs n) = 2 * n) : n % 2 = 0 := by
  rcases Nat.mod_two_eq_zero_or_one n with e | e
  · exact e
  · have ho := facs_odd hn e
    have hp := prodF_facs hn
    have hb := facs_bounds hn
    match hm : facs n, ho, hp, hb with
    | [], _, hp, _ =>
      rw [hm] at h
      simp [usF, prodF] at h hp
      omega
    | [x], _, hp, hb =>
      rw [hm] at h
      simp only [usF, prodF] at h hp
      have hx := hb x (by simp)
      have := Nat.pow_le_pow_right (show 0 < x.1 by omega) hx.2.2.1
      rw [Nat.pow_one] at this
      omega
    | x :: y :: r, ho, _, _ =>
      rw [hm] at h
      simp only [usF] at h
      have hx := ho x (by simp)
      have hy := ho y (by simp)
      have h4 : 2 * 2 ∣ 1 * (x.1 ^ x.2 + 1) * (y.1 ^ y.2 + 1) := by
        rw [Nat.one_mul]
        exact Nat.mul_dvd_mul (Nat.dvd_of_mod_eq_zero (by omega)) (Nat.dvd_of_mod_eq_zero (by omega))
      have := usF_dvd r _ h4
      rw [h] at this
      omega
theorem uspI_even {a : Int} (h : uspI a = true) : Int.tmod a 2 = 0 := by
  unfold uspI at h
  obtain ⟨h1, h2⟩ := of_decide_eq_true h
  obtain ⟨n, rfl, n1, n2⟩ := inN_nat h1
  unfold usuI at h2
  rw [if_pos h1, Int.toNat_natCast] at h2
  have := unitary_even n1 (by omega)
  rw [tmod2]; omega
theorem uspI_at {n : Nat} (h1 : 1 ≤ n) (h2 : n ≤ 10000) (h : U (fun d => (d : Int)) n = 2 * (n : Int)) : uspI (n : Int) = true := by
  have hin : inN (n : Int) := by unfold inN; omega
  unfold uspI usuI
  rw [if_pos hin, Int.toNat_natCast, usF_U h1, h]
  exact decide_eq_true ⟨hin, by omega⟩
theorem usp6 : uspI 6 = true := uspI_at (n := 6) (by omega) (by omega) (by decide +kernel)
theorem usp60 : uspI 60 = true := uspI_at (n := 60) (by omega) (by omega) (by decide +kernel)
theorem usp90 : uspI 90 = true := uspI_at (n := 90) (by omega) (by omega) (by decide +kernel)
theorem FnUnitaryPerfect : laws_FnUnitaryPerfect.Pure := by
  intro l0 _ _ hu
  refine Ev.rounds (r := true) ?_
  unfold laws_FnUnitaryPerfect.f
  by_cases hlen : (l0.length : Int) > 1048576
  · simp only [if_pos hlen]; exact Ev.now _
  simp only [if_neg hlen]
  obtain ⟨n, hd, _⟩ := DrawUnitaryPerfect_ev hu
  refine Ev.bind hd (Ev.bind (impl_UnitaryPerfect_ev n) (Ev.bind (spec_UnitaryPerfect_ev n) ?_))
  simp only [bne_self_eq_false, Bool.false_eq_true, if_false]
  have h6 := impl_UnitaryPerfect_ev 6
  have h60 := impl_UnitaryPerfect_ev 60
  have h90 := impl_UnitaryPerfect_ev 90
  rw [usp6] at h6
  rw [usp60] at h60
  rw [usp90] at h90
  have rest : Ev (fun k => (impl_UnitaryPerfect.f k 6).bind fun t => if t = true then (impl_UnitaryPerfect.f k 60).bind fun t => if t = true then (impl_UnitaryPerfect.f k 90).bind fun t => if t = true then (laws_alive.f).bind fun t => some t else some false else some false else some false) true := by
    refine Ev.bind h6 ?_
    simp only [if_true]
    refine Ev.bind h60 ?_
    simp only [if_true]
    refine Ev.bind h90 ?_
    simp only [if_true, alive_eq, Option.bind_some]
    exact Ev.now _
  by_cases h : uspI n = true
  · simp only [h, if_true, if_pos (uspI_even h)]
    exact rest
  · have h' : uspI n = false := by simpa using h
    simp only [h', Bool.false_eq_true, if_false]
    exact rest

end Go.Proofs.Ytomfiimpnabfoaa.Pure
