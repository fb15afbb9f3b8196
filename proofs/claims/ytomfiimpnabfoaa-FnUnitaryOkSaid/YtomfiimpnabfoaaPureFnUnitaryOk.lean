/- The program's UnitaryOk answers as the reference's; what is left of a unitary divisor is one, and the number itself is one: for every code. No conditions. -/
import Derived.Test.YtomfiimpnabfoaaPFnUnitaryOkx2
import Derived.Test.YtomfiimpnabfoaaEvs
import Derived.Test.YtomfiimpnabfoaaEuler
import Derived.Test.YtomfiimpnabfoaaMul
namespace Go.Proofs.Ytomfiimpnabfoaa.Pure
open Go.RowKit Go.Proofs.Ytomfiimpnabfoaa.PFnUnitaryOk Go.Proofs.YtomfiimpnabfoaaW.PrintWords Go.Proofs.YtomfiimpnabfoaaW.PrintLast Go.Proofs.YtomfiimpnabfoaaW.PrintMore Go.Proofs.Ytomfiimpnabfoaa.Math
set_option linter.unusedVariables false
set_option linter.unusedSimpArgs false

/-- Does a number divide another one, both from 1 up to the greatest number? -/
def dvI (d n : Int) : Bool := decide (inN d ∧ inN n ∧ n.toNat % d.toNat = 0)

/-- Is a number a unitary divisor of another one? -/
def unI (d n : Int) : Bool := dvI d n && decide (Nat.gcd d.toNat (n.toNat / d.toNat) = 1)

theorem dvI_nat {d n : Int} (h : dvI d n = true) : ∃ a b : Nat, d = (a : Int) ∧ n = (b : Int) ∧ 1 ≤ a ∧ a ≤ 10000 ∧ 1 ≤ b ∧ b ≤ 10000 ∧ b % a = 0 := by
  unfold dvI at h
  obtain ⟨h1, h2, h3⟩ := of_decide_eq_true h
  obtain ⟨a, rfl, _, _⟩ := inN_nat h1
  obtain ⟨b, rfl, _, _⟩ := inN_nat h2
  exact ⟨a, b, rfl, rfl, by assumption, by assumption, by assumption, by assumption, h3⟩

/-- A code as it is read: at most 2000 bytes. -/
def Bs (l : List Int) : Prop := l.length ≤ 2000 ∧ ∀ x ∈ l, 0 ≤ x ∧ x ≤ 255

theorem u8_range {x : Int} (h : (Lit.int .u8 x).wf = true) : 0 ≤ x ∧ x ≤ 255 := by
  simp [Lit.wf, IntKind.min, IntKind.max, IntKind.bits, IntKind.signed] at h
  omega

theorem l20Open_ev {l0 : List Int} (h : ∀ x ∈ l0, (Lit.int .u8 x).wf = true) : ∃ l, spec_l20Open.f l0 = some (l, 0) ∧ Bs l := by
  unfold spec_l20Open.f
  by_cases h1 : (l0.length : Int) > 2000
  · refine ⟨l0.take 2000, ?_, ?_, fun x hx => u8_range (h x (List.mem_of_mem_take hx))⟩
    · rw [if_pos h1, if_pos (by omega)]
    · exact List.length_take_le _ _
  · exact ⟨l0, by rw [if_neg h1], by omega, fun x hx => u8_range (h x hx)⟩

theorem rd_byte {l : List Int} (h : Bs l) (i : Int) : 0 ≤ rd l i ∧ rd l i ≤ 255 := by
  unfold rd
  rw [List.getD_eq_getElem?_getD]
  by_cases e : i.toNat < l.length
  · rw [List.getElem?_eq_getElem e]; exact h.2 _ (List.getElem_mem e)
  · rw [List.getElem?_eq_none (by omega)]; simp

theorem tmod_range {a n : Int} (ha : 0 ≤ a) (hn : 1 ≤ n) : 0 ≤ Int.tmod a n ∧ Int.tmod a n < n :=
  ⟨Int.tmod_nonneg _ ha, Int.tmod_lt_of_pos a (by omega)⟩

theorem xor_nonneg {a b : Int} (h1 : 0 ≤ a) (h2 : a < 1099511627776) (h3 : 0 ≤ b) (h4 : b < 1099511627776) : 0 ≤ Go.bits .xor .i64 a b := by
  have e : Go.bits .xor .i64 a b = wrap64 (((BitVec.ofInt 64 a ^^^ BitVec.ofInt 64 b).toNat : Nat) : Int) := i64_w _
  have ha : (BitVec.ofInt 64 a).toNat = a.toNat := by
    rw [BitVec.toNat_ofInt]; omega
  have hb : (BitVec.ofInt 64 b).toNat = b.toNat := by
    rw [BitVec.toNat_ofInt]; omega
  have hx : a.toNat ^^^ b.toNat < 2 ^ 40 := Nat.xor_lt_two_pow (by omega) (by omega)
  rw [e, BitVec.toNat_xor, ha, hb, w64_nat (by omega)]
  omega

theorem pick_ev {l : List Int} (hl : Bs l) {p n : Int} (hp : 0 ≤ p) (hp2 : p ≤ 1000000) (hn : 1 ≤ n) (hn2 : n ≤ 1000000) :
    ∃ v, Ev (fun k => spec_l20Rd_pick.f k l p n) (v, p + 1) ∧ 0 ≤ v ∧ v < n := by
  unfold spec_l20Rd_pick.f
  simp only [if_neg (show ¬ n < 1 by omega)]
  rw [w64 (x := p + 1) (by omega) (by omega)]
  by_cases h0 : (l.length : Int) = 0
  · refine ⟨0, ?_, by omega, by omega⟩
    have e : ((l.length : Int) == 0) = true := by rw [h0]; rfl
    rw [e]
    refine Ev_suc ?_
    simp only [spec_l20Rd_pick.j0, if_true]
    exact Ev.now _
  · have e : ((l.length : Int) == 0) = false := beq_eq_false_iff_ne.2 h0
    have hlen := hl.1
    rw [e]
    by_cases h1 : p < (l.length : Int)
    · have hb := rd_byte hl p
      obtain ⟨t1, t2⟩ := tmod_range (a := rd l p) (n := n) hb.1 hn
      refine ⟨Int.tmod (rd l p) n, ?_, t1, t2⟩
      refine Ev_suc ?_
      simp only [spec_l20Rd_pick.j0, Bool.false_eq_true, if_false]
      rw [w64 (x := p + 1 - 1) (by omega) (by omega), show p + 1 - 1 = p by omega, w64 (x := rd l p) (by omega) (by omega)]
      simp only [if_pos h1, if_pos hp, if_neg (show ¬ n = 0 by omega)]
      exact Ev.now _
    · obtain ⟨pn, rfl⟩ := Int.eq_ofNat_of_zero_le hp
      have hL : 0 < l.length := by omega
      have i1 : Int.tmod (pn : Int) (l.length : Int) = ((pn % l.length : Nat) : Int) := rfl
      have i2 : Int.tmod (wrap64 (wrap64 ((pn : Int) * 7) + 3)) (l.length : Int) = (((pn * 7 + 3) % l.length : Nat) : Int) := by
        rw [w64 (x := (pn : Int) * 7) (by omega) (by omega), w64 (by omega) (by omega)]; rfl
      have i3 : wrap64 (Int.tdiv (pn : Int) (l.length : Int)) = ((pn / l.length : Nat) : Int) := w64_div (by omega)
      have m1 := Nat.mod_lt pn hL
      have m2 := Nat.mod_lt (pn * 7 + 3) hL
      have m3 := Nat.div_le_self pn l.length
      obtain ⟨a1, a2⟩ := rd_byte hl ((pn % l.length : Nat) : Int)
      obtain ⟨b1, b2⟩ := rd_byte hl (((pn * 7 + 3) % l.length : Nat) : Int)
      suffices hs : ∃ v, Ev (fun k => spec_l20Rd_pick.j0 k n false l ((pn : Int) + 1)) (v, (pn : Int) + 1) ∧ 0 ≤ v ∧ v < n from hs
      refine ⟨?v, Ev_suc ?_, ?_⟩
      case refine_1 =>
        simp only [spec_l20Rd_pick.j0, Bool.false_eq_true, if_false]
        rw [w64 (x := (pn : Int) + 1 - 1) (by omega) (by omega), show (pn : Int) + 1 - 1 = (pn : Int) by omega, i1, i2, i3]
        simp only [if_neg h1, if_neg h0, if_neg (show ¬ n = 0 by omega), if_pos (show (0 : Int) ≤ ((pn % l.length : Nat) : Int) by omega), if_pos (show ((pn % l.length : Nat) : Int) < (l.length : Int) by omega), if_pos (show (0 : Int) ≤ (((pn * 7 + 3) % l.length : Nat) : Int) by omega), if_pos (show (((pn * 7 + 3) % l.length : Nat) : Int) < (l.length : Int) by omega)]
        exact Ev.now _
      case refine_2 =>
        clear i3
        generalize pn / l.length = zq at *
        have z : wrap64 (wrap64 (wrap64 (wrap64 (wrap64 (rd l ((pn % l.length : Nat) : Int)) * 131) + wrap64 (wrap64 (rd l (((pn * 7 + 3) % l.length : Nat) : Int)) * 1117)) + wrap64 ((pn : Int) * 29)) + wrap64 ((zq : Int) * 53)) =
            rd l ((pn % l.length : Nat) : Int) * 131 + rd l (((pn * 7 + 3) % l.length : Nat) : Int) * 1117 + (pn : Int) * 29 + (zq : Int) * 53 := by
          generalize rd l ((pn % l.length : Nat) : Int) = x at a1 a2
          generalize rd l (((pn * 7 + 3) % l.length : Nat) : Int) = y at b1 b2
          rw [w64 (x := x) (by omega) (by omega), w64 (x := y) (by omega) (by omega), w64 (x := x * 131) (by omega) (by omega), w64 (x := y * 1117) (by omega) (by omega), w64 (x := (pn : Int) * 29) (by omega) (by omega), w64 (x := (zq : Int) * 53) (by omega) (by omega),
            w64 (x := x * 131 + y * 1117) (by omega) (by omega), w64 (x := x * 131 + y * 1117 + (pn : Int) * 29) (by omega) (by omega), w64 (by omega) (by omega)]
        rw [z]
        generalize hz : rd l ((pn % l.length : Nat) : Int) * 131 + rd l (((pn * 7 + 3) % l.length : Nat) : Int) * 1117 + (pn : Int) * 29 + (zq : Int) * 53 = w at *
        have w1 : 0 ≤ w := by omega
        have w2 : w < 1099511627776 := by omega
        have w3 : wrap64 (Int.tdiv w 64) = w / 64 := by rw [Int.tdiv_eq_ediv_of_nonneg w1, w64 (by omega) (by omega)]
        rw [w3]
        exact tmod_range (xor_nonneg w1 w2 (by omega) (by omega)) hn

theorem rd_mem {P : Int → Prop} {l : List Int} (h : ∀ x ∈ l, P x) {i : Int} (h0 : 0 ≤ i) (h1 : i < (l.length : Int)) : P (rd l i) := by
  obtain ⟨n, rfl⟩ := Int.eq_ofNat_of_zero_le h0
  have hn : n < l.length := by omega
  rw [rd_get hn]
  exact h _ (List.getElem_mem hn)

theorem half {v n : Int} (h0 : 0 ≤ v) (h1 : v < n) (hn : n ≤ 1000000) : wrap64 (Int.tdiv v 2) = v / 2 := by
  rw [Int.tdiv_eq_ediv_of_nonneg h0, w64 (by omega) (by omega)]

theorem l20Some_ev {l : List Int} (hl : Bs l) {p : Int} (hp : 0 ≤ p) (hp2 : p ≤ 100000) :
    ∃ v q, Ev (fun k => spec_l20Some.f k l p) (v, q) ∧ -30000 ≤ v ∧ v ≤ 30000 ∧ 0 ≤ q ∧ q ≤ p + 10 := by
  obtain ⟨a, ha, a0, a1⟩ := pick_ev hl (p := p) (n := 12) (by omega) (by omega) (by omega) (by omega)
  obtain ⟨b, hb, b0, b1⟩ := pick_ev hl (p := p + 1) (n := 60) (by omega) (by omega) (by omega) (by omega)
  obtain ⟨c, hc, c0, c1⟩ := pick_ev hl (p := p + 1 + 1) (n := 100) (by omega) (by omega) (by omega) (by omega)
  obtain ⟨d, hd, d0, d1⟩ := pick_ev hl (p := p + 1 + 1 + 1) (n := 100) (by omega) (by omega) (by omega) (by omega)
  obtain ⟨e, he, e0, e1⟩ := pick_ev hl (p := p + 1 + 1 + 1 + 1) (n := 60) (by omega) (by omega) (by omega) (by omega)
  obtain ⟨f, hf, f0, f1⟩ := pick_ev hl (p := p + 1 + 1 + 1 + 1 + 1) (n := 13) (by omega) (by omega) (by omega) (by omega)
  obtain ⟨g, hg, g0, g1⟩ := pick_ev hl (p := p + 1 + 1 + 1 + 1 + 1 + 1) (n := 40) (by omega) (by omega) (by omega) (by omega)
  obtain ⟨h, hh, h0, h1⟩ := pick_ev hl (p := p + 1 + 1 + 1 + 1 + 1 + 1 + 1) (n := 50) (by omega) (by omega) (by omega) (by omega)
  have hcd : 0 ≤ c * d := Int.mul_nonneg c0 d0
  have hcd2 : c * d ≤ 100 * 100 := Int.mul_le_mul (by omega) (by omega) d0 (by omega)
  have hy : ∀ x ∈ ([wrap64 (1 + a), wrap64 (1 + b), wrap64 (1 + (wrap64 (c * d))), wrap64 (12 * (wrap64 (1 + e))), 9973, 8192, 9240] : List Int), 0 ≤ x ∧ x ≤ 10001 := by
    rw [w64 (x := 1 + a) (by omega) (by omega), w64 (x := 1 + b) (by omega) (by omega), w64 (x := c * d) (by omega) (by omega), w64 (x := 1 + c * d) (by omega) (by omega), w64 (x := 1 + e) (by omega) (by omega), w64 (x := 12 * (1 + e)) (by omega) (by omega)]
    intro x hx
    simp only [List.mem_cons, List.not_mem_nil, or_false] at hx
    omega
  have hr := rd_mem hy (i := f / 2) (by omega) (by simp; omega)
  refine ⟨?v, p + 1 + 1 + 1 + 1 + 1 + 1 + 1 + 1, ?_, ?_⟩
  case refine_1 =>
    unfold spec_l20Some.f
    refine Ev.bind ha (Ev.bind hb (Ev.bind hc (Ev.bind hd (Ev.bind he ?_))))
    simp only [Option.bind_some]
    refine Ev.bind hf ?_
    simp only [half f0 f1 (by omega), if_pos (show (0 : Int) ≤ f / 2 by omega), List.length_cons, List.length_nil, if_pos (show f / 2 < ((0 + 1 + 1 + 1 + 1 + 1 + 1 + 1 : Nat) : Int) by omega)]
    refine Ev.bind hg ?_
    refine Ev.bind hh ?_
    dsimp only
    exact Ev.now _
  case refine_2 =>
    generalize rd _ (f / 2) = z at hr
    try dsimp only
    rw [Int.tdiv_eq_ediv_of_nonneg g0, Int.tdiv_eq_ediv_of_nonneg h0, w64 (x := g / 39) (by omega) (by omega), w64 (x := h / 49) (by omega) (by omega), w64 (x := g / 39 * 10000) (by omega) (by omega), w64 (x := h / 49 * 20000) (by omega) (by omega), w64 (x := z + g / 39 * 10000) (by omega) (by omega), w64 (by omega) (by omega)]
    omega

/-- All divisors, none of what is no number here. -/
def divI (a : Int) : List Int := if inN a then lI (divs a.toNat) else []

theorem divI_length (a : Int) : (divI a).length ≤ 10000 := by
  unfold divI
  by_cases h : inN a
  · obtain ⟨n, rfl, h1, h2⟩ := inN_nat h
    rw [if_pos h, lI_length, Int.toNat_natCast]
    have := L_length_le (dv n) n
    unfold divs; omega
  · rw [if_neg h]; simp

theorem divI_range (a : Int) : ∀ x ∈ divI a, 0 ≤ x ∧ x ≤ 10000 := by
  unfold divI
  by_cases h : inN a
  · obtain ⟨n, rfl, h1, h2⟩ := inN_nat h
    rw [if_pos h]
    intro x hx
    obtain ⟨y, hy, rfl⟩ := List.mem_map.1 hx
    have := divs_mem.1 hy
    rw [Int.toNat_natCast] at this
    omega
  · rw [if_neg h]; simp

theorem spec_DivisorsOf_l {n : Nat} (hn : 1 ≤ n) (hn2 : n ≤ 10000) (d : Nat) : ∀ c, c ≤ n → n - c = d →
    Ev (fun k => spec_DivisorsOf.l0 k (n : Int) (lI (L (dv n) c)) ((c + 1 : Nat) : Int)) (lI (divs n)) := by
  induction d with
  | zero =>
    intro c h1 h2
    have e : c = n := by omega
    subst e
    refine Ev_suc ?_
    simp only [spec_DivisorsOf.l0, if_neg (show ¬ ((c + 1 : Nat) : Int) ≤ (c : Int) by omega)]
    refine Ev_suc ?_
    simp only [spec_DivisorsOf.j1, Bool.false_eq_true, if_false]
    exact Ev.now _
  | succ d ih =>
    intro c h1 h2
    refine Ev_suc ?_
    simp only [spec_DivisorsOf.l0, if_pos (show ((c + 1 : Nat) : Int) ≤ (n : Int) by omega), decide_eq_true (show (n : Int) ≤ 10000 by omega)]
    refine Ev_suc ?_
    have l1 : (lI (L (dv n) c)).length < 17592186044416 := by rw [lI_length]; have := L_length_le (dv n) c; omega
    have next := ih (c + 1) (by omega) (by omega)
    simp only [spec_DivisorsOf.j1, if_true, if_neg (show ¬ ((c + 1 : Nat) : Int) = 0 by omega), tmod_nat]
    rw [w64_succ (by omega)]
    by_cases h0 : n % (c + 1) = 0
    · rw [L_yes (dv_iff.2 h0), lI_append] at next
      simp only [if_pos (show ((n % (c + 1) : Nat) : Int) = 0 by omega), if_pos l1]
      exact next
    · rw [L_no (fun e => h0 (dv_iff.1 e))] at next
      simp only [if_neg (show ¬ ((n % (c + 1) : Nat) : Int) = 0 by omega)]
      exact next

theorem spec_DivisorsOf_nat {n : Nat} (h1 : 1 ≤ n) (h2 : n ≤ 10000) : Ev (fun k => spec_DivisorsOf.f k (n : Int)) (lI (divs n)) :=
  spec_DivisorsOf_l h1 h2 n 0 (by omega) (by omega)

theorem spec_DivisorsOf_ev (a : Int) : Ev (fun k => spec_DivisorsOf.f k a) (divI a) := by
  unfold divI
  by_cases h : inN a
  · obtain ⟨n, rfl, h1, h2⟩ := inN_nat h
    rw [if_pos h]
    exact spec_DivisorsOf_nat h1 h2
  · rw [if_neg h]
    unfold spec_DivisorsOf.f
    have hj : Ev (fun k => spec_DivisorsOf.j1 k a [] 1 false) [] := by
      refine Ev_suc ?_
      simp only [spec_DivisorsOf.j1, Bool.false_eq_true, if_false]
      exact Ev.now _
    refine Ev_suc ?_
    by_cases h1 : (1 : Int) ≤ a
    · simp only [spec_DivisorsOf.l0, if_pos h1, decide_eq_false (show ¬ a ≤ 10000 from fun e => h ⟨h1, e⟩)]
      exact hj
    · simp only [spec_DivisorsOf.l0, if_neg h1]
      exact hj

theorem DrawUnitaryOk_ev {l0 : List Int} (h : ∀ x ∈ l0, (Lit.int .u8 x).wf = true) : ∃ d n, Ev (fun k => spec_DrawUnitaryOk.f k l0) (d, n) ∧ (-30000 ≤ d ∧ d ≤ 30000) ∧ -30000 ≤ n ∧ n ≤ 30000 := by
  obtain ⟨l, e, hl⟩ := l20Open_ev h
  obtain ⟨n, q, hn, b1, b2, q1, q2⟩ := l20Some_ev hl (p := 0) (by omega) (by omega)
  have hlen := divI_length n
  have other : ∀ q : Int, 0 ≤ q → q ≤ 100 → ∃ d, Ev (fun k => spec_DrawUnitaryOk.j0 k n (divI n) false l q) (d, n) ∧ -30000 ≤ d ∧ d ≤ 30000 := by
    intro q q1 q2
    obtain ⟨f, hf, f0, f1⟩ := pick_ev hl (p := q) (n := 20) (by omega) (by omega) (by omega) (by omega)
    refine ⟨f, Ev_suc ?_, by omega, by omega⟩
    simp only [spec_DrawUnitaryOk.j0, Bool.false_eq_true, if_false]
    exact Ev.bind hf (Ev.now _)
  by_cases hl0 : ((divI n).length : Int) > 0
  · obtain ⟨f, hf, f0, f1⟩ := pick_ev hl (p := q) (n := 5) (by omega) (by omega) (by omega) (by omega)
    by_cases hf2 : f > 0
    · obtain ⟨g, hg, g0, g1⟩ := pick_ev hl (p := q + 1) (n := ((divI n).length : Int)) (by omega) (by omega) (by omega) (by omega)
      have hr := rd_mem (divI_range n) g0 g1
      refine ⟨rd (divI n) g, n, ?_, by omega, b1, b2⟩
      unfold spec_DrawUnitaryOk.f
      rw [e]
      simp only [Option.bind_some]
      refine Ev.bind hn (Ev.bind (spec_DivisorsOf_ev n) ?_)
      simp only [if_pos hl0]
      refine Ev.bind hf ?_
      simp only [decide_eq_true hf2]
      refine Ev_suc ?_
      simp only [spec_DrawUnitaryOk.j0, if_true]
      refine Ev.bind hg ?_
      simp only [if_pos g0, if_pos g1]
      exact Ev.now _
    · obtain ⟨d, hd, d1, d2⟩ := other (q + 1) (by omega) (by omega)
      refine ⟨d, n, ?_, ⟨d1, d2⟩, b1, b2⟩
      unfold spec_DrawUnitaryOk.f
      rw [e]
      simp only [Option.bind_some]
      refine Ev.bind hn (Ev.bind (spec_DivisorsOf_ev n) ?_)
      simp only [if_pos hl0]
      refine Ev.bind hf ?_
      simp only [decide_eq_false hf2]
      exact hd
  · obtain ⟨d, hd, d1, d2⟩ := other q (by omega) (by omega)
    refine ⟨d, n, ?_, ⟨d1, d2⟩, b1, b2⟩
    unfold spec_DrawUnitaryOk.f
    rw [e]
    simp only [Option.bind_some]
    refine Ev.bind hn (Ev.bind (spec_DivisorsOf_ev n) ?_)
    simp only [if_neg hl0]
    exact hd

theorem numberOk_eq (a : Int) : impl_numberOk.f a = some (decide (inN a)) := by
  unfold impl_numberOk.f inN
  by_cases h : 1 ≤ a
  · rw [if_pos h]; simp [h]
  · rw [if_neg h]; simp [h]

theorem impl_DividesOk_eq (d n : Int) : impl_DividesOk.f d n = some (dvI d n) := by
  unfold impl_DividesOk.f dvI
  by_cases h1 : inN d
  · by_cases h2 : inN n
    · obtain ⟨a, rfl, _, _⟩ := inN_nat h1
      obtain ⟨b, rfl, _, _⟩ := inN_nat h2
      have h0 : ¬ ((a : Int) = 0) := by omega
      simp only [numberOk_eq, Option.bind_some, decide_eq_true_eq, if_pos h1, if_pos h2, if_neg h0, tmod_nat, Int.toNat_natCast, h1, h2, true_and]
      congr 1
      by_cases e : b % a = 0
      · simp [e]
      · simp [e]; omega
    · simp only [numberOk_eq, Option.bind_some, decide_eq_true_eq, if_pos h1, if_neg h2]
      simp [h2]
  · simp only [numberOk_eq, Option.bind_some, decide_eq_true_eq, if_neg h1]
    simp [h1]

theorem impl_gcd_l : ∀ (b a : Nat), Ev (fun k => impl_gcd.l0 k (a : Int) (b : Int)) ((Nat.gcd a b : Nat) : Int) := by
  intro b
  induction b using Nat.strongRecOn with
  | ind b ih =>
    intro a
    refine Ev_suc ?_
    simp only [impl_gcd.l0]
    by_cases hb : b = 0
    · subst hb
      simp only [Int.natCast_zero, if_true, Nat.gcd_zero_right]
      exact Ev.now _
    · have h : ¬ ((b : Int) = 0) := by omega
      simp only [if_neg h, tmod_nat]
      rw [Nat.gcd_comm a b, Nat.gcd_rec b a, Nat.gcd_comm]
      exact ih (a % b) (Nat.mod_lt _ (by omega)) b

theorem impl_gcd_ev (a b : Nat) : Ev (fun k => impl_gcd.f k (a : Int) (b : Int)) ((Nat.gcd a b : Nat) : Int) := impl_gcd_l b a

theorem impl_UnitaryOk_ev (d n : Int) : Ev (fun k => impl_UnitaryOk.f k d n) (unI d n) := by
  unfold impl_UnitaryOk.f unI
  by_cases h : dvI d n = true
  · obtain ⟨a, b, rfl, rfl, h1, h2, h3, h4, h5⟩ := dvI_nat h
    have h0 : ¬ ((a : Int) = 0) := by omega
    simp only [impl_DividesOk_eq, Option.bind_some, h, if_true, if_neg h0, w64_div (show b ≤ 9223372036854775807 by omega), Int.toNat_natCast, Bool.true_and]
    refine Ev.bind (impl_gcd_ev _ _) ?_
    have e : (((Nat.gcd a (b / a) : Nat) : Int) == 1) = decide (Nat.gcd a (b / a) = 1) := by
      by_cases e : Nat.gcd a (b / a) = 1
      · simp [e]
      · simp [e]; omega
    rw [e]
    exact Ev.now _
  · simp only [impl_DividesOk_eq, Option.bind_some, h, Bool.false_eq_true, if_false, Bool.false_and]
    exact Ev.now _

theorem l1In_eq (a lo hi : Int) : spec_l1In.f a lo hi = some (decide (lo ≤ a ∧ a ≤ hi)) := by
  unfold spec_l1In.f
  by_cases h : lo ≤ a
  · rw [if_pos h]; simp [h]
  · rw [if_neg h]; simp [h]

theorem spec_DividesOk_eq (d n : Int) : spec_DividesOk.f d n = some (dvI d n) := by
  unfold spec_DividesOk.f dvI inN
  by_cases h1 : 1 ≤ d ∧ d ≤ 10000
  · by_cases h2 : 1 ≤ n ∧ n ≤ 10000
    · obtain ⟨a, rfl, _, _⟩ := inN_nat h1
      obtain ⟨b, rfl, _, _⟩ := inN_nat h2
      have h0 : ¬ ((a : Int) = 0) := by omega
      simp only [l1In_eq, Option.bind_some, decide_eq_true_eq, if_pos h1, if_pos h2, if_neg h0, tmod_nat, Int.toNat_natCast, h1, h2, and_self, true_and]
      congr 1
      by_cases e : b % a = 0
      · simp [e]
      · simp [e]; omega
    · simp only [l1In_eq, Option.bind_some, decide_eq_true_eq, if_pos h1, if_neg h2]
      simp [h2]
  · simp only [l1In_eq, Option.bind_some, decide_eq_true_eq, if_neg h1]
    simp [h1]

/-- What two numbers share, -1 where one is none. -/
def cmI (a b : Int) : Int := if inN a ∧ inN b then ((Nat.gcd a.toNat b.toNat : Nat) : Int) else -1

theorem spec_CommonOf_l : ∀ (b a : Nat), Ev (fun k => spec_CommonOf.l0 k (a : Int) (b : Int)) ((Nat.gcd a b : Nat) : Int) := by
  intro b
  induction b using Nat.strongRecOn with
  | ind b ih =>
    intro a
    refine Ev_suc ?_
    simp only [spec_CommonOf.l0]
    by_cases hb : b = 0
    · subst hb
      simp only [Int.natCast_zero, gt_iff_lt, Int.lt_irrefl, if_false, Nat.gcd_zero_right]
      exact Ev.now _
    · have h : ¬ ((b : Int) = 0) := by omega
      have h' : (b : Int) > 0 := by omega
      simp only [if_pos h', if_neg h, tmod_nat]
      rw [Nat.gcd_comm a b, Nat.gcd_rec b a, Nat.gcd_comm]
      exact ih (a % b) (Nat.mod_lt _ (by omega)) b

theorem spec_CommonOf_ev (a b : Int) : Ev (fun k => spec_CommonOf.f k a b) (cmI a b) := by
  unfold spec_CommonOf.f cmI inN
  by_cases h1 : 1 ≤ a ∧ a ≤ 10000
  · by_cases h2 : 1 ≤ b ∧ b ≤ 10000
    · obtain ⟨n, rfl, _, _⟩ := inN_nat h1
      obtain ⟨m, rfl, _, _⟩ := inN_nat h2
      simp only [l1In_eq, Option.bind_some, decide_eq_true_eq, if_pos h1, decide_eq_true h2, if_pos (And.intro h1 h2), Int.toNat_natCast, Bool.not_true]
      refine Ev_suc ?_
      simp only [spec_CommonOf.j0, Bool.false_eq_true, if_false]
      exact spec_CommonOf_l m n
    · simp only [l1In_eq, Option.bind_some, decide_eq_true_eq, if_pos h1, decide_eq_false h2, if_neg (fun e : (1 ≤ a ∧ a ≤ 10000) ∧ (1 ≤ b ∧ b ≤ 10000) => h2 e.2), Bool.not_false]
      refine Ev_suc ?_
      simp only [spec_CommonOf.j0, if_true]
      exact Ev.now _
  · simp only [l1In_eq, Option.bind_some, decide_eq_true_eq, if_neg h1, if_neg (fun e : (1 ≤ a ∧ a ≤ 10000) ∧ (1 ≤ b ∧ b ≤ 10000) => h1 e.1)]
    refine Ev_suc ?_
    simp only [spec_CommonOf.j0, if_true]
    exact Ev.now _

theorem spec_ApartOk_ev (a b : Int) : Ev (fun k => spec_ApartOk.f k a b) (cmI a b == 1) := by
  unfold spec_ApartOk.f
  exact Ev.bind (spec_CommonOf_ev a b) (Ev.now _)

theorem cmI_nat {a b : Nat} (h1 : 1 ≤ a) (h2 : a ≤ 10000) (h3 : 1 ≤ b) (h4 : b ≤ 10000) : cmI a b = ((Nat.gcd a b : Nat) : Int) := by
  unfold cmI inN
  rw [if_pos (by omega)]; rfl

theorem spec_UnitaryOk_ev (d n : Int) : Ev (fun k => spec_UnitaryOk.f k d n) (unI d n) := by
  unfold spec_UnitaryOk.f unI
  by_cases h : dvI d n = true
  · obtain ⟨a, b, rfl, rfl, h1, h2, h3, h4, h5⟩ := dvI_nat h
    have h0 : ¬ ((a : Int) = 0) := by omega
    have hq := div_pos_of h1 h3 h5
    have hq' : b / a ≤ b := Nat.div_le_self b a
    simp only [spec_DividesOk_eq, Option.bind_some, h, if_true, if_neg h0, w64_div (show b ≤ 9223372036854775807 by omega), Int.toNat_natCast, Bool.true_and]
    refine Ev.bind (spec_ApartOk_ev _ _) ?_
    rw [cmI_nat h1 h2 hq (by omega)]
    have e : (((Nat.gcd a (b / a) : Nat) : Int) == 1) = decide (Nat.gcd a (b / a) = 1) := by
      by_cases e : Nat.gcd a (b / a) = 1
      · simp [e]
      · simp [e]; omega
    rw [e]
    exact Ev.now _
  · simp only [spec_DividesOk_eq, Option.bind_some, h, Bool.false_eq_true, if_false, Bool.false_and]
    exact Ev.now _

theorem alive_eq : laws_alive.f = some true := by
  unfold laws_alive.f
  rw [impl_DividesOk_eq, impl_DividesOk_eq]
  rfl

theorem unI_left {d n : Int} (h : unI d n = true) : ¬ d = 0 ∧ unI (wrap64 (Int.tdiv n d)) n = true := by
  unfold unI at h
  rw [Bool.and_eq_true] at h
  obtain ⟨h1, h2⟩ := h
  obtain ⟨a, b, rfl, rfl, a1, a2, b1, b2, hm⟩ := dvI_nat h1
  have hg := of_decide_eq_true h2
  rw [Int.toNat_natCast, Int.toNat_natCast] at hg
  refine ⟨by omega, ?_⟩
  rw [w64_div (show b ≤ 9223372036854775807 by omega)]
  have hd := mod_dvd.1 hm
  have q1 := div_pos_of a1 b1 hm
  have q2 : b / a ≤ b := Nat.div_le_self _ _
  unfold unI dvI inN
  rw [Bool.and_eq_true]
  refine ⟨decide_eq_true ⟨by omega, by omega, ?_⟩, decide_eq_true ?_⟩
  · rw [Int.toNat_natCast, Int.toNat_natCast]
    exact mod_dvd.2 (Nat.div_dvd_of_dvd hd)
  · rw [Int.toNat_natCast, Int.toNat_natCast, Nat.div_div_self hd (by omega), Nat.gcd_comm]
    exact hg
theorem unI_self {n : Int} (h1 : ¬ n < 1) (h2 : ¬ n > 10000) : unI n n = true := by
  obtain ⟨a, rfl, a1, a2⟩ := inN_nat (a := n) ⟨by omega, by omega⟩
  unfold unI dvI inN
  rw [Bool.and_eq_true]
  refine ⟨decide_eq_true ⟨by omega, by omega, ?_⟩, decide_eq_true ?_⟩
  · exact Nat.mod_self _
  · rw [Int.toNat_natCast, Nat.div_self (by omega)]; exact Nat.gcd_one_right a
theorem FnUnitaryOk : laws_FnUnitaryOk.Pure := by
  intro l0 _ _ hu
  refine Ev.rounds (r := true) ?_
  unfold laws_FnUnitaryOk.f
  by_cases hlen : (l0.length : Int) > 1048576
  · simp only [if_pos hlen]; exact Ev.now _
  simp only [if_neg hlen]
  obtain ⟨d, n, hd, _⟩ := DrawUnitaryOk_ev hu
  refine Ev.bind hd (Ev.bind (impl_UnitaryOk_ev d n) (Ev.bind (spec_UnitaryOk_ev d n) ?_))
  simp only [bne_self_eq_false, Bool.false_eq_true, if_false]
  have rest : Ev (fun k => if n < 1 then (laws_alive.f).bind fun t => some t else if n > 10000 then (laws_alive.f).bind fun t => some t else (impl_UnitaryOk.f k n n).bind fun t => if t = true then (laws_alive.f).bind fun t => some t else some false) true := by
    by_cases h1 : n < 1
    · simp only [if_pos h1, alive_eq, Option.bind_some]; exact Ev.now _
    · by_cases h2 : n > 10000
      · simp only [if_neg h1, if_pos h2, alive_eq, Option.bind_some]; exact Ev.now _
      · simp only [if_neg h1, if_neg h2]
        refine Ev.bind (impl_UnitaryOk_ev n n) ?_
        rw [unI_self h1 h2]
        simp only [if_true, alive_eq, Option.bind_some]
        exact Ev.now _
  by_cases h : unI d n = true
  · obtain ⟨hd0, hq⟩ := unI_left h
    simp only [h, if_true, if_neg hd0]
    refine Ev.bind (impl_UnitaryOk_ev _ _) ?_
    rw [hq]
    simp only [if_true]
    exact rest
  · have h' : unI d n = false := by simpa using h
    simp only [h', Bool.false_eq_true, if_false]
    exact rest

end Go.Proofs.Ytomfiimpnabfoaa.Pure
