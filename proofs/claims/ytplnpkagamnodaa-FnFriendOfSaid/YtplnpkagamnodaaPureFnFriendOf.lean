/- The program's FriendOf answers as the reference's; the friend of the friend is the number, one is rich and the other poor, and both have the same sum: for every code. No conditions. -/
import Derived.Test.YtplnpkagamnodaaOFnFriendOfx4
import Derived.Test.YtplnpkagamnodaaEvs
import Derived.Test.YtplnpkagamnodaaEuler
import Derived.Test.YtplnpkagamnodaaMul
namespace Go.Proofs.Ytplnpkagamnodaa.Pure
open Go.RowKit Go.Proofs.Ytplnpkagamnodaa.PFnFriendOf Go.Proofs.YtplnpkagamnodaaW.PrintWords Go.Proofs.YtplnpkagamnodaaW.PrintLast Go.Proofs.YtplnpkagamnodaaW.PrintMore Go.Proofs.Ytplnpkagamnodaa.Math
set_option linter.unusedVariables false
set_option linter.unusedSimpArgs false

/-- The sum of all divisors but the number itself. -/
def propI (a : Int) : Int := if inN a then D (fun d => (d : Int)) a.toNat - a else -1

/-- The answer of FriendOf. -/
def frI (a : Int) : Int × Bool := if propI a < 1 then (-1, false) else if propI a = a then (-1, false) else if propI (propI a) = a then (propI a, true) else (-1, false)

theorem propI_no {a : Int} (h : ¬ inN a) : propI a = -1 := by unfold propI; rw [if_neg h]

theorem propI_bad {a : Int} (h : ¬ inN (propI a)) : frI a = (-1, false) := by
  unfold frI
  by_cases h1 : propI a < 1
  · rw [if_pos h1]
  · rw [if_neg h1]
    by_cases h2 : propI a = a
    · rw [if_pos h2]
    · rw [if_neg h2]
      by_cases h3 : propI (propI a) = a
      · rw [propI_no h] at h3
        rw [← h3, propI_no (by unfold inN; omega)] at h1
        omega
      · rw [if_neg h3]

/-- A code as it is read: at most 2000 bytes. -/
def Bs (l : List Int) : Prop := l.length ≤ 2000 ∧ ∀ x ∈ l, 0 ≤ x ∧ x ≤ 255

theorem u8_range {x : Int} (h : (Lit.int .u8 x).wf = true) : 0 ≤ x ∧ x ≤ 255 := by
  simp [Lit.wf, IntKind.min, IntKind.max, IntKind.bits, IntKind.signed] at h
  omega

theorem l20Open_ev {l0 : List Int} (h : ∀ x ∈ l0, (Lit.int .u8 x).wf = true) : ∃ l, spec_l20Open.f l0 = some (l, 0) ∧ Bs l := by
  unfold spec_l20Open.f
  by_cases h1 : (l0.length : Int) > 2000
  · refine ⟨l0.take 2000, ?_, ?_, fun x hx => u8_range (h x (List.mem_of_mem_take hx))⟩
    · rw [if_pos h1, if_pos (by omega)]
    · exact List.length_take_le _ _
  · exact ⟨l0, by rw [if_neg h1], by omega, fun x hx => u8_range (h x hx)⟩

theorem rd_byte {l : List Int} (h : Bs l) (i : Int) : 0 ≤ rd l i ∧ rd l i ≤ 255 := by
  unfold rd
  rw [List.getD_eq_getElem?_getD]
  by_cases e : i.toNat < l.length
  · rw [List.getElem?_eq_getElem e]; exact h.2 _ (List.getElem_mem e)
  · rw [List.getElem?_eq_none (by omega)]; simp

theorem tmod_range {a n : Int} (ha : 0 ≤ a) (hn : 1 ≤ n) : 0 ≤ Int.tmod a n ∧ Int.tmod a n < n :=
  ⟨Int.tmod_nonneg _ ha, Int.tmod_lt_of_pos a (by omega)⟩

theorem xor_nonneg {a b : Int} (h1 : 0 ≤ a) (h2 : a < 1099511627776) (h3 : 0 ≤ b) (h4 : b < 1099511627776) : 0 ≤ Go.bits .xor .i64 a b := by
  have e : Go.bits .xor .i64 a b = wrap64 (((BitVec.ofInt 64 a ^^^ BitVec.ofInt 64 b).toNat : Nat) : Int) := i64_w _
  have ha : (BitVec.ofInt 64 a).toNat = a.toNat := by
    rw [BitVec.toNat_ofInt]; omega
  have hb : (BitVec.ofInt 64 b).toNat = b.toNat := by
    rw [BitVec.toNat_ofInt]; omega
  have hx : a.toNat ^^^ b.toNat < 2 ^ 40 := Nat.xor_lt_two_pow (by omega) (by omega)
  rw [e, BitVec.toNat_xor, ha, hb, w64_nat (by omega)]
  omega

theorem pick_ev {l : List Int} (hl : Bs l) {p n : Int} (hp : 0 ≤ p) (hp2 : p ≤ 1000000) (hn : 1 ≤ n) (hn2 : n ≤ 1000000) :
    ∃ v, Ev (fun k => spec_l20Rd_pick.f k l p n) (v, p + 1) ∧ 0 ≤ v ∧ v < n := by
  unfold spec_l20Rd_pick.f
  simp only [if_neg (show ¬ n < 1 by omega)]
  rw [w64 (x := p + 1) (by omega) (by omega)]
  by_cases h0 : (l.length : Int) = 0
  · refine ⟨0, ?_, by omega, by omega⟩
    have e : ((l.length : Int) == 0) = true := by rw [h0]; rfl
    rw [e]
    refine Ev_suc ?_
    simp only [spec_l20Rd_pick.j0, if_true]
    exact Ev.now _
  · have e : ((l.length : Int) == 0) = false := beq_eq_false_iff_ne.2 h0
    have hlen := hl.1
    rw [e]
    by_cases h1 : p < (l.length : Int)
    · have hb := rd_byte hl p
      obtain ⟨t1, t2⟩ := tmod_range (a := rd l p) (n := n) hb.1 hn
      refine ⟨Int.tmod (rd l p) n, ?_, t1, t2⟩
      refine Ev_suc ?_
      simp only [spec_l20Rd_pick.j0, Bool.false_eq_true, if_false]
      rw [w64 (x := p + 1 - 1) (by omega) (by omega), show p + 1 - 1 = p by omega, w64 (x := rd l p) (by omega) (by omega)]
      simp only [if_pos h1, if_pos hp, if_neg (show ¬ n = 0 by omega)]
      exact Ev.now _
    · obtain ⟨pn, rfl⟩ := Int.eq_ofNat_of_zero_le hp
      have hL : 0 < l.length := by omega
      have i1 : Int.tmod (pn : Int) (l.length : Int) = ((pn % l.length : Nat) : Int) := rfl
      have i2 : Int.tmod (wrap64 (wrap64 ((pn : Int) * 7) + 3)) (l.length : Int) = (((pn * 7 + 3) % l.length : Nat) : Int) := by
        rw [w64 (x := (pn : Int) * 7) (by omega) (by omega), w64 (by omega) (by omega)]; rfl
      have i3 : wrap64 (Int.tdiv (pn : Int) (l.length : Int)) = ((pn / l.length : Nat) : Int) := w64_div (by omega)
      have m1 := Nat.mod_lt pn hL
      have m2 := Nat.mod_lt (pn * 7 + 3) hL
      have m3 := Nat.div_le_self pn l.length
      obtain ⟨a1, a2⟩ := rd_byte hl ((pn % l.length : Nat) : Int)
      obtain ⟨b1, b2⟩ := rd_byte hl (((pn * 7 + 3) % l.length : Nat) : Int)
      suffices hs : ∃ v, Ev (fun k => spec_l20Rd_pick.j0 k n false l ((pn : Int) + 1)) (v, (pn : Int) + 1) ∧ 0 ≤ v ∧ v < n from hs
      refine ⟨?v, Ev_suc ?_, ?_⟩
      case refine_1 =>
        simp only [spec_l20Rd_pick.j0, Bool.false_eq_true, if_false]
        rw [w64 (x := (pn : Int) + 1 - 1) (by omega) (by omega), show (pn : Int) + 1 - 1 = (pn : Int) by omega, i1, i2, i3]
        simp only [if_neg h1, if_neg h0, if_neg (show ¬ n = 0 by omega), if_pos (show (0 : Int) ≤ ((pn % l.length : Nat) : Int) by omega), if_pos (show ((pn % l.length : Nat) : Int) < (l.length : Int) by omega), if_pos (show (0 : Int) ≤ (((pn * 7 + 3) % l.length : Nat) : Int) by omega), if_pos (show (((pn * 7 + 3) % l.length : Nat) : Int) < (l.length : Int) by omega)]
        exact Ev.now _
      case refine_2 =>
        clear i3
        generalize pn / l.length = zq at *
        have z : wrap64 (wrap64 (wrap64 (wrap64 (wrap64 (rd l ((pn % l.length : Nat) : Int)) * 131) + wrap64 (wrap64 (rd l (((pn * 7 + 3) % l.length : Nat) : Int)) * 1117)) + wrap64 ((pn : Int) * 29)) + wrap64 ((zq : Int) * 53)) =
            rd l ((pn % l.length : Nat) : Int) * 131 + rd l (((pn * 7 + 3) % l.length : Nat) : Int) * 1117 + (pn : Int) * 29 + (zq : Int) * 53 := by
          generalize rd l ((pn % l.length : Nat) : Int) = x at a1 a2
          generalize rd l (((pn * 7 + 3) % l.length : Nat) : Int) = y at b1 b2
          rw [w64 (x := x) (by omega) (by omega), w64 (x := y) (by omega) (by omega), w64 (x := x * 131) (by omega) (by omega), w64 (x := y * 1117) (by omega) (by omega), w64 (x := (pn : Int) * 29) (by omega) (by omega), w64 (x := (zq : Int) * 53) (by omega) (by omega),
            w64 (x := x * 131 + y * 1117) (by omega) (by omega), w64 (x := x * 131 + y * 1117 + (pn : Int) * 29) (by omega) (by omega), w64 (by omega) (by omega)]
        rw [z]
        generalize hz : rd l ((pn % l.length : Nat) : Int) * 131 + rd l (((pn * 7 + 3) % l.length : Nat) : Int) * 1117 + (pn : Int) * 29 + (zq : Int) * 53 = w at *
        have w1 : 0 ≤ w := by omega
        have w2 : w < 1099511627776 := by omega
        have w3 : wrap64 (Int.tdiv w 64) = w / 64 := by rw [Int.tdiv_eq_ediv_of_nonneg w1, w64 (by omega) (by omega)]
        rw [w3]
        exact tmod_range (xor_nonneg w1 w2 (by omega) (by omega)) hn

theorem rd_mem {P : Int → Prop} {l : List Int} (h : ∀ x ∈ l, P x) {i : Int} (h0 : 0 ≤ i) (h1 : i < (l.length : Int)) : P (rd l i) := by
  obtain ⟨n, rfl⟩ := Int.eq_ofNat_of_zero_le h0
  have hn : n < l.length := by omega
  rw [rd_get hn]
  exact h _ (List.getElem_mem hn)

theorem half {v n : Int} (h0 : 0 ≤ v) (h1 : v < n) (hn : n ≤ 1000000) : wrap64 (Int.tdiv v 2) = v / 2 := by
  rw [Int.tdiv_eq_ediv_of_nonneg h0, w64 (by omega) (by omega)]

theorem l20Some_ev {l : List Int} (hl : Bs l) {p : Int} (hp : 0 ≤ p) (hp2 : p ≤ 100000) :
    ∃ v q, Ev (fun k => spec_l20Some.f k l p) (v, q) ∧ -30000 ≤ v ∧ v ≤ 30000 ∧ 0 ≤ q ∧ q ≤ p + 10 := by
  obtain ⟨a, ha, a0, a1⟩ := pick_ev hl (p := p) (n := 12) (by omega) (by omega) (by omega) (by omega)
  obtain ⟨b, hb, b0, b1⟩ := pick_ev hl (p := p + 1) (n := 60) (by omega) (by omega) (by omega) (by omega)
  obtain ⟨c, hc, c0, c1⟩ := pick_ev hl (p := p + 1 + 1) (n := 100) (by omega) (by omega) (by omega) (by omega)
  obtain ⟨d, hd, d0, d1⟩ := pick_ev hl (p := p + 1 + 1 + 1) (n := 100) (by omega) (by omega) (by omega) (by omega)
  obtain ⟨e, he, e0, e1⟩ := pick_ev hl (p := p + 1 + 1 + 1 + 1) (n := 60) (by omega) (by omega) (by omega) (by omega)
  obtain ⟨f, hf, f0, f1⟩ := pick_ev hl (p := p + 1 + 1 + 1 + 1 + 1) (n := 13) (by omega) (by omega) (by omega) (by omega)
  obtain ⟨g, hg, g0, g1⟩ := pick_ev hl (p := p + 1 + 1 + 1 + 1 + 1 + 1) (n := 40) (by omega) (by omega) (by omega) (by omega)
  obtain ⟨h, hh, h0, h1⟩ := pick_ev hl (p := p + 1 + 1 + 1 + 1 + 1 + 1 + 1) (n := 50) (by omega) (by omega) (by omega) (by omega)
  have hcd : 0 ≤ c * d := Int.mul_nonneg c0 d0
  have hcd2 : c * d ≤ 100 * 100 := Int.mul_le_mul (by omega) (by omega) d0 (by omega)
  have hy : ∀ x ∈ ([wrap64 (1 + a), wrap64 (1 + b), wrap64 (1 + (wrap64 (c * d))), wrap64 (12 * (wrap64 (1 + e))), 9973, 8192, 9240] : List Int), 0 ≤ x ∧ x ≤ 10001 := by
    rw [w64 (x := 1 + a) (by omega) (by omega), w64 (x := 1 + b) (by omega) (by omega), w64 (x := c * d) (by omega) (by omega), w64 (x := 1 + c * d) (by omega) (by omega), w64 (x := 1 + e) (by omega) (by omega), w64 (x := 12 * (1 + e)) (by omega) (by omega)]
    intro x hx
    simp only [List.mem_cons, List.not_mem_nil, or_false] at hx
    omega
  have hr := rd_mem hy (i := f / 2) (by omega) (by simp; omega)
  refine ⟨?v, p + 1 + 1 + 1 + 1 + 1 + 1 + 1 + 1, ?_, ?_⟩
  case refine_1 =>
    unfold spec_l20Some.f
    refine Ev.bind ha (Ev.bind hb (Ev.bind hc (Ev.bind hd (Ev.bind he ?_))))
    simp only [Option.bind_some]
    refine Ev.bind hf ?_
    simp only [half f0 f1 (by omega), if_pos (show (0 : Int) ≤ f / 2 by omega), List.length_cons, List.length_nil, if_pos (show f / 2 < ((0 + 1 + 1 + 1 + 1 + 1 + 1 + 1 : Nat) : Int) by omega)]
    refine Ev.bind hg ?_
    refine Ev.bind hh ?_
    dsimp only
    exact Ev.now _
  case refine_2 =>
    generalize rd _ (f / 2) = z at hr
    try dsimp only
    rw [Int.tdiv_eq_ediv_of_nonneg g0, Int.tdiv_eq_ediv_of_nonneg h0, w64 (x := g / 39) (by omega) (by omega), w64 (x := h / 49) (by omega) (by omega), w64 (x := g / 39 * 10000) (by omega) (by omega), w64 (x := h / 49 * 20000) (by omega) (by omega), w64 (x := z + g / 39 * 10000) (by omega) (by omega), w64 (by omega) (by omega)]
    omega

theorem l20Mid_ev {l : List Int} (hl : Bs l) {p : Int} (hp : 0 ≤ p) (hp2 : p ≤ 100000) :
    ∃ v q, Ev (fun k => spec_l20Mid.f k l p) (v, q) ∧ -30000 ≤ v ∧ v ≤ 30000 ∧ 0 ≤ q ∧ q ≤ p + 10 := by
  obtain ⟨a, ha, a0, a1⟩ := pick_ev hl (p := p) (n := 20) (by omega) (by omega) (by omega) (by omega)
  obtain ⟨b, hb, b0, b1⟩ := pick_ev hl (p := p + 1) (n := 100) (by omega) (by omega) (by omega) (by omega)
  obtain ⟨c, hc, c0, c1⟩ := pick_ev hl (p := p + 1 + 1) (n := 41) (by omega) (by omega) (by omega) (by omega)
  obtain ⟨f, hf, f0, f1⟩ := pick_ev hl (p := p + 1 + 1 + 1) (n := 7) (by omega) (by omega) (by omega) (by omega)
  obtain ⟨g, hg, g0, g1⟩ := pick_ev hl (p := p + 1 + 1 + 1 + 1) (n := 30) (by omega) (by omega) (by omega) (by omega)
  obtain ⟨h, hh, h0, h1⟩ := pick_ev hl (p := p + 1 + 1 + 1 + 1 + 1) (n := 40) (by omega) (by omega) (by omega) (by omega)
  have hy : ∀ x ∈ ([wrap64 (1 + a), wrap64 (1 + b), wrap64 (12 * (wrap64 (1 + c))), 500] : List Int), 0 ≤ x ∧ x ≤ 10001 := by
    rw [w64 (x := 1 + a) (by omega) (by omega), w64 (x := 1 + b) (by omega) (by omega), w64 (x := 1 + c) (by omega) (by omega), w64 (x := 12 * (1 + c)) (by omega) (by omega)]
    intro x hx
    simp only [List.mem_cons, List.not_mem_nil, or_false] at hx
    omega
  have hr := rd_mem hy (i := f / 2) (by omega) (by simp; omega)
  refine ⟨?v, p + 1 + 1 + 1 + 1 + 1 + 1, ?_, ?_⟩
  case refine_1 =>
    unfold spec_l20Mid.f
    refine Ev.bind ha (Ev.bind hb (Ev.bind hc ?_))
    simp only [Option.bind_some]
    refine Ev.bind hf ?_
    simp only [half f0 f1 (by omega), if_pos (show (0 : Int) ≤ f / 2 by omega), List.length_cons, List.length_nil, if_pos (show f / 2 < ((0 + 1 + 1 + 1 + 1 : Nat) : Int) by omega)]
    refine Ev.bind hg ?_
    refine Ev.bind hh ?_
    dsimp only
    exact Ev.now _
  case refine_2 =>
    generalize rd _ (f / 2) = z at hr
    try dsimp only
    rw [Int.tdiv_eq_ediv_of_nonneg g0, Int.tdiv_eq_ediv_of_nonneg h0, w64 (x := g / 29) (by omega) (by omega), w64 (x := h / 39) (by omega) (by omega), w64 (x := g / 29 * 500) (by omega) (by omega), w64 (x := h / 39 * 1000) (by omega) (by omega), w64 (x := z + g / 29 * 500) (by omega) (by omega), w64 (by omega) (by omega)]
    omega

theorem DrawFriendOf_ev {l0 : List Int} (h : ∀ x ∈ l0, (Lit.int .u8 x).wf = true) : ∃ v, Ev (fun k => spec_DrawFriendOf.f k l0) v ∧ -30000 ≤ v ∧ v ≤ 30000 := by
  obtain ⟨l, e, hl⟩ := l20Open_ev h
  obtain ⟨v0, q0, hv0, b0, c0, m0, k0⟩ := l20Some_ev hl (p := 0) (by omega) (by omega)
  obtain ⟨v1, q1, hv1, b1, c1, m1, k1⟩ := l20Mid_ev hl (p := q0) (by omega) (by omega)
  obtain ⟨v2, q2, hv2, b2, c2, m2, k2⟩ := l20Mid_ev hl (p := q1) (by omega) (by omega)
  obtain ⟨f, hf, f0, f1⟩ := pick_ev hl (p := q2) (n := 12) (by omega) (by omega) (by omega) (by omega)
  have hy : ∀ x ∈ ([220, 284, 1184, 1210, 2620, 2924, 5020, 5564, 6, v0, v1, v2] : List Int), -30000 ≤ x ∧ x ≤ 30000 := by
    intro x hx
    simp only [List.mem_cons, List.not_mem_nil, or_false] at hx
    omega
  have hr := rd_mem hy (i := f) (by omega) (by simp; omega)
  refine ⟨_, ?_, hr⟩
  unfold spec_DrawFriendOf.f
  rw [e]
  simp only [Option.bind_some]
  refine Ev.bind hv0 (Ev.bind hv1 (Ev.bind hv2 (?_)))
  simp only [Option.bind_some]
  refine Ev.bind hf ?_
  simp only [if_pos f0, List.length_cons, List.length_nil, if_pos (show f < ((0 + 1 + 1 + 1 + 1 + 1 + 1 + 1 + 1 + 1 + 1 + 1 + 1 : Nat) : Int) by omega)]
  exact Ev.now _

theorem numberOk_eq (a : Int) : impl_numberOk.f a = some (decide (inN a)) := by
  unfold impl_numberOk.f inN
  by_cases h : 1 ≤ a
  · rw [if_pos h]; simp [h]
  · rw [if_neg h]; simp [h]

theorem reverse_l (d : Nat) : ∀ (A M B : List Int), M.length ≤ d → A.length + M.length + B.length ≤ 1000000000 →
    Ev (fun k => slices_Reverse_int_int.l0 k (A ++ M ++ B) (A.length : Int) ((A.length : Int) + (M.length : Int) - 1)) (A ++ M.reverse ++ B) := by
  induction d using Nat.strongRecOn with
  | ind d ih =>
    intro A M B hd hb
    refine Ev_suc ?_
    simp only [slices_Reverse_int_int.l0]
    by_cases h2 : M.length ≤ 1
    · have c0 : ¬ (A.length : Int) < (A.length : Int) + (M.length : Int) - 1 := by omega
      simp only [if_neg c0]
      have e : M.reverse = M := by
        match M, h2 with
        | [], _ => rfl
        | [x], _ => rfl
      rw [e]
      exact Ev.now _
    · match M, h2 with
      | x :: M', h2 =>
        obtain ⟨N, y, rfl⟩ : ∃ N y, M' = N ++ [y] := by
          rcases List.eq_nil_or_concat M' with e | ⟨N, y, e⟩
          · rw [e] at h2; simp at h2
          · exact ⟨N, y, by rw [e, List.concat_eq_append]⟩
        have hl : (x :: (N ++ [y])).length = N.length + 2 := by simp
        rw [hl] at hd hb ⊢
        have e3 : (A.length : Int) + ((N.length + 2 : Nat) : Int) - 1 = ((A.length + (N.length + 1) : Nat) : Int) := by omega
        rw [e3]
        have hlen : (A ++ x :: (N ++ [y]) ++ B).length = A.length + N.length + 2 + B.length := by simp; omega
        have r1 : rd (A ++ x :: (N ++ [y]) ++ B) ((A.length + (N.length + 1) : Nat) : Int) = y := by
          unfold rd
          rw [Int.toNat_natCast, List.getD_eq_getElem?_getD, List.append_assoc, List.getElem?_append_right (by omega), Nat.add_sub_cancel_left]
          simp
        have r2 : rd (A ++ x :: (N ++ [y]) ++ B) (A.length : Int) = x := by
          unfold rd
          rw [Int.toNat_natCast, List.getD_eq_getElem?_getD, List.append_assoc, List.getElem?_append_right (Nat.le_refl _), Nat.sub_self]
          simp
        have hs : ((A ++ x :: (N ++ [y]) ++ B).set A.length y).set (A.length + (N.length + 1)) x = (A ++ [y]) ++ N ++ (x :: B) := by
          simp only [List.append_assoc, List.cons_append]
          rw [List.set_append_right _ _ (Nat.le_refl _), Nat.sub_self, List.set_cons_zero, List.set_append_right _ _ (by omega), Nat.add_sub_cancel_left, List.set_cons_succ,
            List.set_append_right _ _ (Nat.le_refl _), Nat.sub_self]
          simp
        have c1 : (A.length : Int) < ((A.length + (N.length + 1) : Nat) : Int) := by omega
        have c2 : (0 : Int) ≤ ((A.length + (N.length + 1) : Nat) : Int) := by omega
        have c3 : ((A.length + (N.length + 1) : Nat) : Int) < ((A ++ x :: (N ++ [y]) ++ B).length : Int) := by rw [hlen]; omega
        have c4 : (0 : Int) ≤ (A.length : Int) := by omega
        have c5 : (A.length : Int) < ((A ++ x :: (N ++ [y]) ++ B).length : Int) := by rw [hlen]; omega
        have w1 : wrap64 ((A.length : Int) + 1) = ((A ++ [y]).length : Int) := by rw [w64 (by omega) (by omega)]; simp
        have w2 : wrap64 (((A.length + (N.length + 1) : Nat) : Int) - 1) = ((A ++ [y]).length : Int) + (N.length : Int) - 1 := by rw [w64 (by omega) (by omega)]; simp; omega
        simp only [if_pos c1, if_pos c2, if_pos c3, if_pos c4, if_pos c5, r1, r2, Int.toNat_natCast, hs, w1, w2]
        have hres : A ++ (x :: (N ++ [y])).reverse ++ B = (A ++ [y]) ++ N.reverse ++ (x :: B) := by simp
        rw [hres]
        exact ih N.length (by omega) (A ++ [y]) N (x :: B) (Nat.le_refl _) (by simp; omega)

theorem reverse_ev (l : List Int) (h : l.length ≤ 1000000000) : Ev (fun k => slices_Reverse_int_int.f k l) l.reverse := by
  unfold slices_Reverse_int_int.f
  have e := reverse_l l.length [] l [] (Nat.le_refl _) (by simpa using h)
  simp only [List.nil_append, List.append_nil, List.length_nil, Int.natCast_zero, Int.zero_add] at e
  rw [w64 (by omega) (by omega)]
  exact e

theorem impl_divisors_l {n : Nat} (hn : 1 ≤ n) (hn2 : n ≤ 10000) (d : Nat) : ∀ c, c * c ≤ n → n - c = d →
    Ev (fun k => impl_divisors.l0 k (n : Int) (lI (L (dv n) c)) (lI ((L (sm n) c).map (fun d => n / d))) ((c + 1 : Nat) : Int)) (lI (divs n)) := by
  induction d using Nat.strongRecOn with
  | ind d ih =>
    intro c hc hd
    have hcn : c ≤ n := by
      rcases Nat.eq_zero_or_pos c with e | e
      · omega
      · have := Nat.le_mul_of_pos_left c e; omega
    have hsq : (c + 1) * (c + 1) ≤ 100000000000 := by
      have : (c + 1) * (c + 1) ≤ 10001 * 10001 := Nat.mul_le_mul (by omega) (by omega)
      omega
    refine Ev_suc ?_
    simp only [impl_divisors.l0]
    rw [w64_mul (by omega)]
    have l1 : (lI (L (dv n) c)).length < 17592186044416 := by rw [lI_length]; have := L_length_le (dv n) c; omega
    have l2 : (lI ((L (sm n) c).map (fun d => n / d))).length < 17592186044416 := by rw [lI_length, List.length_map]; have := L_length_le (sm n) c; omega
    have hw : wrap64 (((c + 1 : Nat) : Int) + 1) = ((c + 1 + 1 : Nat) : Int) := w64_succ (by omega)
    by_cases h : (c + 1) * (c + 1) ≤ n
    · have c1 : (((c + 1) * (c + 1) : Nat) : Int) ≤ (n : Int) := Int.ofNat_le.2 h
      have c2 : ¬ ((c + 1 : Nat) : Int) = 0 := by omega
      have hcn' : c + 1 ≤ n := by
        have := Nat.le_mul_of_pos_left (c + 1) (show 0 < c + 1 by omega); omega
      have next := ih (n - (c + 1)) (by omega) (c + 1) h rfl
      simp only [if_pos c1, if_neg c2, tmod_nat, hw, w64_div (show n ≤ 9223372036854775807 by omega)]
      by_cases h0 : n % (c + 1) = 0
      · have c3 : ((n % (c + 1) : Nat) : Int) = 0 := by omega
        rw [L_yes (dv_iff.2 h0), lI_append] at next
        simp only [if_pos c3, if_pos l1, Option.bind_some]
        by_cases hs : (c + 1) * (c + 1) < n
        · have c4 : (((c + 1) * (c + 1) : Nat) : Int) < (n : Int) := Int.ofNat_lt.2 hs
          rw [L_yes (sm_iff.2 ⟨h0, hs⟩), List.map_append, lI_append] at next
          simp only [if_pos c4, if_pos l2]
          exact next
        · have c4 : ¬ (((c + 1) * (c + 1) : Nat) : Int) < (n : Int) := fun e => hs (Int.ofNat_lt.1 e)
          rw [L_no (fun e => hs (sm_iff.1 e).2)] at next
          simp only [if_neg c4]
          exact next
      · have c3 : ¬ ((n % (c + 1) : Nat) : Int) = 0 := by omega
        rw [L_no (fun e => h0 (dv_iff.1 e)), L_no (fun e => h0 (sm_iff.1 e).1)] at next
        simp only [if_neg c3]
        exact next
    · have c1 : ¬ (((c + 1) * (c + 1) : Nat) : Int) ≤ (n : Int) := fun e => h (Int.ofNat_le.1 e)
      simp only [if_neg c1]
      refine Ev.bind (reverse_ev _ (by rw [lI_length, List.length_map]; have := L_length_le (sm n) c; omega)) ?_
      have l3 : (lI (L (dv n) c)).length + (lI ((L (sm n) c).map (fun d => n / d))).reverse.length < 17592186044416 := by
        rw [List.length_reverse, lI_length, lI_length, List.length_map]
        have := L_length_le (dv n) c
        have := L_length_le (sm n) c
        omega
      simp only [if_pos l3]
      rw [← divs_pairs hn hc (by omega)]
      have e : lI (L (dv n) c ++ ((L (sm n) c).map (fun d => n / d)).reverse) = lI (L (dv n) c) ++ (lI ((L (sm n) c).map (fun d => n / d))).reverse := by
        rw [lI_append]; simp [lI]
      rw [e]
      exact Ev.now _

theorem impl_divisors_ev {n : Nat} (hn : 1 ≤ n) (hn2 : n ≤ 10000) : Ev (fun k => impl_divisors.f k (n : Int)) (lI (divs n)) :=
  impl_divisors_l hn hn2 n 0 (by omega) rfl

theorem impl_sum_l {l : List Nat} (hl : l.length ≤ 1000000) (d : Nat) : ∀ (i : Nat) (acc : Int), l.length - i = d → i ≤ l.length → 0 ≤ acc → acc + sumL (fun x => (x : Int)) (l.drop i) ≤ 1000000000000000 →
    Ev (fun k => impl_sum.l0 k acc (lI l) (l.length : Int) (i : Int)) (acc + sumL (fun x => (x : Int)) (l.drop i)) := by
  induction d with
  | zero =>
    intro i acc hd hi _ _
    have e : i = l.length := by omega
    subst e
    refine Ev_suc ?_
    simp only [impl_sum.l0, Int.lt_irrefl, if_false, List.drop_length, sumL, Int.add_zero]
    exact Ev.now _
  | succ d ih =>
    intro i acc hd hi h0 hb
    have hlt : i < l.length := by omega
    have hlt' : i < (lI l).length := by rw [lI_length]; exact hlt
    have hr : rd (lI l) (i : Int) = ((l[i] : Nat) : Int) := by rw [rd_get hlt']; simp [lI]
    rw [drop_cons hlt] at hb ⊢
    simp only [sumL] at hb ⊢
    have hnn := sumL_nonneg (l.drop (i + 1))
    refine Ev_suc ?_
    have c1 : (i : Int) < (l.length : Int) := by omega
    have c2 : (0 : Int) ≤ (i : Int) := by omega
    have c3 : (i : Int) < ((lI l).length : Int) := by omega
    simp only [impl_sum.l0, if_pos c1, if_pos c2, if_pos c3, hr]
    rw [w64 (by omega) (by omega), w64_succ (by omega), ← Int.add_assoc]
    exact ih (i + 1) _ (by omega) (by omega) (by omega) (by omega)

theorem impl_sum_ev {l : List Nat} (hl : l.length ≤ 1000000) (hb : sumL (fun x => (x : Int)) l ≤ 1000000000000000) : Ev (fun k => impl_sum.f k (lI l)) (sumL (fun x => (x : Int)) l) := by
  unfold impl_sum.f
  have := impl_sum_l hl l.length 0 0 (by omega) (by omega) (by omega) (by rw [List.drop_zero]; omega)
  rw [List.drop_zero, Int.zero_add] at this
  rw [lI_length]
  exact this

theorem impl_ProperSum_ev (a : Int) : Ev (fun k => impl_ProperSum.f k a) (propI a) := by
  unfold impl_ProperSum.f propI
  by_cases h : inN a
  · obtain ⟨n, rfl, h1, h2⟩ := inN_nat h
    simp only [numberOk_eq, Option.bind_some, decide_eq_true_eq, if_pos h, Int.toNat_natCast]
    have hb := D_id_le n
    have hb2 : (n : Int) * n ≤ 10000 * 10000 := Int.mul_le_mul (by omega) (by omega) (by omega) (by omega)
    have hnn := D_id_ge h1
    refine Ev.bind (impl_divisors_ev h1 h2) (Ev.bind (impl_sum_ev (by have := L_length_le (dv n) n; unfold divs; omega) (by rw [sum_divs]; omega)) ?_)
    rw [sum_divs, w64 (by omega) (by omega)]
    exact Ev.now _
  · simp only [numberOk_eq, Option.bind_some, decide_eq_true_eq, if_neg h]
    exact Ev.now _

theorem impl_FriendOf_ev (a : Int) : Ev (fun k => impl_FriendOf.f k a) (frI a) := by
  unfold impl_FriendOf.f
  refine Ev.bind (impl_ProperSum_ev a) ?_
  by_cases h : inN (propI a)
  · simp only [numberOk_eq, Option.bind_some, decide_eq_true_eq, if_pos h]
    unfold frI
    have h0 := h.1
    rw [if_neg (show ¬ propI a < 1 by omega)]
    by_cases h2 : propI a = a
    · simp only [if_pos h2]; exact Ev.now _
    · simp only [if_neg h2]
      refine Ev.bind (impl_ProperSum_ev _) ?_
      by_cases h3 : propI (propI a) = a
      · simp only [if_pos h3]; exact Ev.now _
      · simp only [if_neg h3]; exact Ev.now _
  · simp only [numberOk_eq, Option.bind_some, decide_eq_true_eq, if_neg h]
    rw [propI_bad h]
    exact Ev.now _

theorem l1In_eq (a lo hi : Int) : spec_l1In.f a lo hi = some (decide (lo ≤ a ∧ a ≤ hi)) := by
  unfold spec_l1In.f
  by_cases h : lo ≤ a
  · rw [if_pos h]; simp [h]
  · rw [if_neg h]; simp [h]

theorem spec_ProperSum_l {n : Nat} (hn : 1 ≤ n) (hn2 : n ≤ 10000) (d : Nat) : ∀ c, c + 1 ≤ n → n - c = d →
    Ev (fun k => spec_ProperSum.l0 k (n : Int) (T (fun d => if n % d = 0 then (d : Int) else 0) c) ((c + 1 : Nat) : Int)) (D (fun d => (d : Int)) n - n) := by
  induction d with
  | zero => intro c h1 h2; omega
  | succ d ih =>
    intro c h1 h2
    refine Ev_suc ?_
    simp only [spec_ProperSum.l0]
    have hw : wrap64 (((c + 1 : Nat) : Int) + 1) = ((c + 1 + 1 : Nat) : Int) := w64_succ (by omega)
    by_cases h : c + 1 < n
    · have c1 : ((c + 1 : Nat) : Int) < (n : Int) := by omega
      have c2 : ¬ ((c + 1 : Nat) : Int) = 0 := by omega
      have next := ih (c + 1) (by omega) (by omega)
      simp only [T] at next
      have hT := T_small n c
      have hT2 : (c : Int) * (n + c) ≤ 10000 * 20000 := Int.mul_le_mul (by omega) (by omega) (by omega) (by omega)
      simp only [if_pos c1, if_neg c2, tmod_nat, hw]
      by_cases h0 : n % (c + 1) = 0
      · have c3 : ((n % (c + 1) : Nat) : Int) = 0 := by omega
        rw [if_pos h0] at next
        simp only [if_pos c3]
        rw [w64 (by omega) (by omega)]
        exact next
      · have c3 : ¬ ((n % (c + 1) : Nat) : Int) = 0 := by omega
        rw [if_neg h0, Int.add_zero] at next
        simp only [if_neg c3]
        exact next
    · have e : n = c + 1 := by omega
      have c1 : ¬ ((c + 1 : Nat) : Int) < (n : Int) := by omega
      simp only [if_neg c1]
      have hD : D (fun d => (d : Int)) n - n = T (fun d => if n % d = 0 then (d : Int) else 0) c := by
        unfold D
        rw [show T (fun d => if n % d = 0 then (d : Int) else 0) n = T (fun d => if n % d = 0 then (d : Int) else 0) (c + 1) by rw [← e]]
        simp only [T]
        rw [← e, if_pos (Nat.mod_self n)]; omega
      rw [hD]
      exact Ev.now _

theorem spec_ProperSum_ev (a : Int) : Ev (fun k => spec_ProperSum.f k a) (propI a) := by
  unfold spec_ProperSum.f propI
  by_cases h : 1 ≤ a ∧ a ≤ 10000
  · obtain ⟨n, rfl, h1, h2⟩ := inN_nat h
    simp only [l1In_eq, Option.bind_some, decide_eq_true_eq, if_pos h, if_pos (show inN (n : Int) from h), Int.toNat_natCast]
    exact spec_ProperSum_l h1 h2 n 0 (by omega) (by omega)
  · simp only [l1In_eq, Option.bind_some, decide_eq_true_eq, if_neg h, if_neg (show ¬ inN a from h)]
    exact Ev.now _

theorem spec_FriendOf_ev (a : Int) : Ev (fun k => spec_FriendOf.f k a) (frI a) := by
  unfold spec_FriendOf.f frI
  refine Ev.bind (spec_ProperSum_ev a) ?_
  by_cases h1 : propI a < 1
  · simp only [if_pos h1]; exact Ev.now _
  · simp only [if_neg h1]
    by_cases h2 : propI a = a
    · simp only [if_pos h2]; exact Ev.now _
    · simp only [if_neg h2]
      refine Ev.bind (spec_ProperSum_ev _) ?_
      by_cases h3 : propI (propI a) = a
      · simp only [if_pos h3]; exact Ev.now _
      · simp only [if_neg h3]; exact Ev.now _

/-- Does a number divide another one, both from 1 up to the greatest number? -/
def dvI (d n : Int) : Bool := decide (inN d ∧ inN n ∧ n.toNat % d.toNat = 0)

theorem impl_DividesOk_eq (d n : Int) : impl_DividesOk.f d n = some (dvI d n) := by
  unfold impl_DividesOk.f dvI
  by_cases h1 : inN d
  · by_cases h2 : inN n
    · obtain ⟨a, rfl, _, _⟩ := inN_nat h1
      obtain ⟨b, rfl, _, _⟩ := inN_nat h2
      have h0 : ¬ ((a : Int) = 0) := by omega
      simp only [numberOk_eq, Option.bind_some, decide_eq_true_eq, if_pos h1, if_pos h2, if_neg h0, tmod_nat, Int.toNat_natCast, h1, h2, true_and]
      congr 1
      by_cases e : b % a = 0
      · simp [e]
      · simp [e]; omega
    · simp only [numberOk_eq, Option.bind_some, decide_eq_true_eq, if_pos h1, if_neg h2]
      simp [h2]
  · simp only [numberOk_eq, Option.bind_some, decide_eq_true_eq, if_neg h1]
    simp [h1]

theorem alive_eq : laws_alive.f = some true := by
  unfold laws_alive.f
  rw [impl_DividesOk_eq, impl_DividesOk_eq]
  rfl

/-- Poor, perfect or rich. -/
def kindI (a : Int) : Int := if inN a then (if propI a < a then -1 else if propI a = a then 0 else 1) else -2

/-- The sum of all divisors, by primes. -/
def allI (a : Int) : Int := if inN a then ((sgF 1 (facs a.toNat) : Nat) : Int) else -1

theorem propI_pos {n : Nat} (h1 : 1 ≤ n) (h2 : n ≤ 10000) : 0 ≤ propI (n : Int) ∧ propI (n : Int) = D (fun d => (d : Int)) n - n ∧ propI (n : Int) ≤ 100000000 := by
  have h : inN (n : Int) := by unfold inN; omega
  have hg := D_id_ge h1
  have hb := D_id_le n
  have hb2 : (n : Int) * n ≤ 10000 * 10000 := Int.mul_le_mul (by omega) (by omega) (by omega) (by omega)
  have e : propI (n : Int) = D (fun d => (d : Int)) n - n := by unfold propI; rw [if_pos h]; rfl
  rw [e]
  exact ⟨by omega, rfl, by omega⟩

theorem cmp_eq (a b : Int) : cmp_Compare_int.f a b = some (if a < b then -1 else if a > b then 1 else 0) := by
  unfold cmp_Compare_int.f cmp_isNaN_int.f
  simp only [bne_self_eq_false, Option.bind_some, Bool.false_eq_true, if_false]
  by_cases h1 : a < b
  · simp only [if_pos h1]
  · simp only [if_neg h1]
    by_cases h2 : a > b
    · simp only [if_pos h2]
    · simp only [if_neg h2]

theorem impl_KindOf_ev (a : Int) : Ev (fun k => impl_KindOf.f k a) (kindI a) := by
  unfold impl_KindOf.f kindI
  by_cases h : inN a
  · simp only [numberOk_eq, Option.bind_some, decide_eq_true_eq, if_pos h, cmp_eq]
    refine Ev.bind (impl_ProperSum_ev a) ?_
    by_cases c1 : propI a < a
    · simp only [if_pos c1]; exact Ev.now _
    · simp only [if_neg c1]
      by_cases c2 : propI a = a
      · simp only [if_pos c2, if_neg (show ¬ propI a > a by omega)]; exact Ev.now _
      · simp only [if_neg c2, if_pos (show propI a > a by omega)]; exact Ev.now _
  · simp only [numberOk_eq, Option.bind_some, decide_eq_true_eq, if_neg h]
    exact Ev.now _

/-- The list of primes as the program has it. -/
def facI (l : List (Nat × Nat)) : List (List Int) := l.map (fun x => [(x.1 : Int), (x.2 : Int)])

theorem impl_fac_l1 {out : List (List Int)} {p : Nat} {r : List (List Int)} (h2 : 2 ≤ p) (hp : p ≤ 10000) (hout : out.length < 5864062014805) : ∀ (left j : Nat), 1 ≤ left → left + j ≤ 20000 →
    (0 < j + (strip p left).2 → Ev (fun k => impl_factors.l0 k ((strip p left).1 : Int) (out ++ [[(p : Int), ((j + (strip p left).2 : Nat) : Int)]]) ((p + 1 : Nat) : Int)) r) →
    (j + (strip p left).2 = 0 → Ev (fun k => impl_factors.l0 k ((strip p left).1 : Int) out ((p + 1 : Nat) : Int)) r) →
    Ev (fun k => impl_factors.l1 k (left : Int) out (p : Int) (j : Int)) r := by
  intro left
  induction left using Nat.strongRecOn with
  | ind left ih =>
    intro j h1 hb hy hn
    refine Ev_suc ?_
    have c1 : ¬ (p : Int) = 0 := by omega
    simp only [impl_factors.l1, if_neg c1, tmod_nat]
    rw [w64_div (show left ≤ 9223372036854775807 by omega), w64_succ (show j < 9223372036854775807 by omega), w64_succ (show p < 9223372036854775807 by omega)]
    by_cases h0 : left % p = 0
    · have c2 : ((left % p : Nat) : Int) = 0 := by omega
      simp only [if_pos c2]
      rw [strip_yes h2 h1 h0] at hy hn
      have hle : left / p ≤ left / 2 := Nat.div_le_div_left h2 (by omega)
      have hlt : left / p < left := Nat.div_lt_self h1 (by omega)
      have hpos : 1 ≤ left / p := div_pos_of (by omega) h1 h0
      have e : j + 1 + (strip p (left / p)).2 = j + ((strip p (left / p)).2 + 1) := by omega
      refine ih (left / p) hlt (j + 1) hpos (by omega) (fun h => ?_) (fun h => by omega)
      rw [e]; exact hy (by simp only; omega)
    · have c2 : ¬ ((left % p : Nat) : Int) = 0 := by omega
      simp only [if_neg c2]
      rw [strip_no h0] at hy hn
      simp only [Nat.add_zero] at hy hn
      by_cases hj : 0 < j
      · have c3 : (j : Int) > 0 := by omega
        simp only [if_pos c3, if_pos hout]
        exact hy hj
      · have c3 : ¬ (j : Int) > 0 := by omega
        simp only [if_neg c3]
        exact hn (by omega)

theorem impl_fac_l0 (d : Nat) : ∀ (left p : Nat) (out : List (List Int)), left + 1 - p = d → 2 ≤ p → 1 ≤ left → left ≤ 10000 → out.length ≤ p → p ≤ 10001 → Rough p left →
    Ev (fun k => impl_factors.l0 k (left : Int) out (p : Int)) (out ++ facI (F p left)) := by
  induction d using Nat.strongRecOn with
  | ind d ih =>
    intro left p out hd h2 h1 hle hout hp hr
    have hsq : p * p ≤ 100000000000 := by
      have : p * p ≤ 10001 * 10001 := Nat.mul_le_mul (by omega) (by omega)
      omega
    refine Ev_suc ?_
    simp only [impl_factors.l0]
    rw [w64_mul (by omega)]
    by_cases hone : left = 1
    · have c1 : ¬ (left : Int) > 1 := by omega
      simp only [if_neg c1]
      rw [F_end (by omega)]
      simp only [facI, List.map_nil, List.append_nil]
      exact Ev.now _
    · have c1 : (left : Int) > 1 := by omega
      simp only [if_pos c1]
      by_cases h : left < p * p
      · have c2 : ((p * p : Nat) : Int) > (left : Int) := Int.ofNat_lt.2 h
        simp only [if_pos c2]
        have hrr := hr.square h
        have hpl : p ≤ left := by
          rcases Nat.lt_or_ge left p with e | e
          · exact absurd (Nat.mod_self left) (hr left (by omega) e)
          · exact e
        rw [F_alone (left - p) p left rfl h2 hpl hrr]
        have hs : strip left left = (1, 1) := by
          rw [strip_yes (by omega) h1 (Nat.mod_self left), Nat.div_self (by omega), strip_no]
          rw [Nat.mod_eq_of_lt (by omega)]; omega
        refine Ev_suc ?_
        simp only [impl_factors.j1]
        refine impl_fac_l1 (by omega) (by omega) (by omega) left 0 h1 (by omega) (fun _ => ?_) (fun e => ?_)
        · rw [hs]
          refine Ev_suc ?_
          have c3 : ¬ ((1 : Nat) : Int) > 1 := by omega
          simp only [impl_factors.l0, if_neg c3]
          exact Ev.now _
        · rw [hs] at e; simp at e
      · have c2 : ¬ ((p * p : Nat) : Int) > (left : Int) := fun e => h (Int.ofNat_lt.1 e)
        simp only [if_neg c2]
        have hpl : p ≤ left := by
          have := Nat.le_mul_of_pos_left p (show 0 < p by omega)
          omega
        refine Ev_suc ?_
        simp only [impl_factors.j1]
        have hs := strip_le p left
        refine impl_fac_l1 h2 (by omega) (by omega) left 0 h1 (by omega) (fun h' => ?_) (fun h' => ?_)
        · rw [Nat.zero_add] at h' ⊢
          have h0 := (strip_pos h2 h1).1 h'
          rw [F_yes hpl h2 h0]
          have e : out ++ facI ((p, (strip p left).2) :: F (p + 1) (strip p left).1) = (out ++ [[(p : Int), ((strip p left).2 : Int)]]) ++ facI (F (p + 1) (strip p left).1) := by simp [facI]
          rw [e]
          exact ih _ (by omega) _ (p + 1) _ rfl (by omega) (strip_spec h2 left h1).2.1 (by omega) (by simp; omega) (by omega) (hr.step h2 h1)
        · rw [Nat.zero_add] at h'
          have h0 : ¬ left % p = 0 := fun e => by have := (strip_pos h2 h1).2 e; omega
          rw [F_no hpl h2 h0, strip_no h0]
          exact ih _ (by omega) left (p + 1) out rfl (by omega) h1 hle (by omega) (by omega) (hr.next h0)

theorem impl_factors_ev {n : Nat} (h1 : 1 ≤ n) (h2 : n ≤ 10000) : Ev (fun k => impl_factors.f k (n : Int)) (facI (facs n)) := by
  have := impl_fac_l0 _ n 2 [] rfl (by omega) h1 h2 (by simp) (by omega) (Rough.two n)
  rw [List.nil_append] at this
  exact this

theorem facs_all {n : Nat} (h1 : 1 ≤ n) (h2 : n ≤ 10000) : (facs n).length ≤ 1000000 ∧ (∀ x ∈ facs n, 2 ≤ x.1 ∧ x.1 ≤ 10000 ∧ 1 ≤ x.2 ∧ x.2 ≤ 10000) ∧ prodF (facs n) ≤ 10000 :=
  ⟨by have := facs_length h1; omega, fun x hx => by have := facs_bounds h1 x hx; omega, by rw [prodF_facs h1]; exact h2⟩

theorem facI_length (l : List (Nat × Nat)) : (facI l).length = l.length := by simp [facI]

theorem facI_get {l : List (Nat × Nat)} {i : Nat} (h : i < l.length) : rd_L1 (facI l) (i : Int) = [(l[i].1 : Int), (l[i].2 : Int)] := by
  unfold rd_L1
  rw [Int.toNat_natCast, List.getD_eq_getElem?_getD, List.getElem?_eq_getElem (by rw [facI_length]; exact h)]
  simp [facI]

theorem facs_get {l : List (Nat × Nat)} {i : Nat} (h : i < l.length) : rd (rd_L1 (facI l) (i : Int)) 0 = (l[i].1 : Int) ∧ rd (rd_L1 (facI l) (i : Int)) 1 = (l[i].2 : Int) ∧ (rd_L1 (facI l) (i : Int)).length = 2 := by
  rw [facI_get h]; exact ⟨rfl, rfl, rfl⟩

theorem impl_AllSum_l {l : List (Nat × Nat)} (hl : l.length ≤ 1000000) (hp : ∀ x ∈ l, 2 ≤ x.1 ∧ x.1 ≤ 10000 ∧ 1 ≤ x.2 ∧ x.2 ≤ 10000) (d : Nat) : ∀ (i acc : Nat), l.length - i = d → i ≤ l.length → 1 ≤ acc → acc * (prodF (l.drop i) * prodF (l.drop i)) ≤ 100000000 →
    Ev (fun k => impl_AllSum.l0 k (acc : Int) (facI l) (l.length : Int) (i : Int)) ((sgF acc (l.drop i) : Nat) : Int) := by
  induction d with
  | zero =>
    intro i acc hd hi _ _
    have e : i = l.length := by omega
    subst e
    refine Ev_suc ?_
    simp only [impl_AllSum.l0, Int.lt_irrefl, if_false, List.drop_length, sgF]
    exact Ev.now _
  | succ d ih =>
    intro i acc hd hi ha hb
    have hlt : i < l.length := by omega
    rw [drop_cons hlt] at hb ⊢
    simp only [prodF] at hb
    simp only [sgF]
    obtain ⟨b1, b2, b3, b4⟩ := hp l[i] (List.getElem_mem hlt)
    have hR : 1 ≤ prodF (l.drop (i + 1)) := prodF_pos (fun x hx => (hp x (List.mem_of_mem_drop hx)).1)
    obtain ⟨s1, s2, s3, s4, s5⟩ := small_step ha (gs_pos l[i].1 l[i].2) (gs_le b1 b3) hR hb
    have next := ih (i + 1) (acc * gs l[i].1 l[i].2) (by omega) (by omega) s2 s1
    obtain ⟨g0, g1, g2⟩ := facs_get hlt
    have inner : ∀ (e j : Nat), l[i].2 - j = e → j ≤ l[i].2 →
        Ev (fun k => impl_AllSum.l1 k (acc : Int) (rd_L1 (facI l) (i : Int)) ((gs l[i].1 j : Nat) : Int) (facI l) (l.length : Int) (i : Int) (l[i].2 : Int) (j : Int)) ((sgF (acc * gs l[i].1 l[i].2) (l.drop (i + 1)) : Nat) : Int) := by
      intro e
      induction e with
      | zero =>
        intro j he hj
        have e : j = l[i].2 := by omega
        subst e
        refine Ev_suc ?_
        simp only [impl_AllSum.l1, Int.lt_irrefl, if_false]
        rw [w64_mul (by omega), w64_succ (by omega)]
        exact next
      | succ e ihe =>
        intro j he hj
        refine Ev_suc ?_
        have c1 : (j : Int) < (l[i].2 : Int) := by omega
        have c2 : (0 : Int) < ((rd_L1 (facI l) (i : Int)).length : Int) := by rw [g2]; decide
        have m1 : gs l[i].1 (j + 1) ≤ gs l[i].1 l[i].2 := gs_mono _ (by omega)
        have m2 : gs l[i].1 l[i].2 ≤ acc * gs l[i].1 l[i].2 := Nat.le_mul_of_pos_left _ ha
        have m3 := gs_step l[i].1 j
        have m4 : gs l[i].1 j * l[i].1 = l[i].1 * gs l[i].1 j := Nat.mul_comm _ _
        simp only [impl_AllSum.l1, if_pos c1, if_pos c2, g0]
        rw [w64_mul (by omega), w64_succ (by omega), w64_succ (by omega), m4, ← m3]
        exact ihe (j + 1) (by omega) (by omega)
    refine Ev_suc ?_
    have c0 : (i : Int) < (l.length : Int) := by omega
    have c1 : (i : Int) < ((facI l).length : Int) := by rw [facI_length]; omega
    have c2 : (0 : Int) ≤ (i : Int) := by omega
    have c3 : (1 : Int) < ((rd_L1 (facI l) (i : Int)).length : Int) := by rw [g2]; decide
    simp only [impl_AllSum.l0, if_pos c0, if_pos c1, if_pos c2, if_pos c3, g1]
    exact inner l[i].2 0 (by omega) (by omega)

theorem impl_AllSum_nat {n : Nat} (h1 : 1 ≤ n) (h2 : n ≤ 10000) : Ev (fun k => impl_AllSum.f k (n : Int)) ((sgF 1 (facs n) : Nat) : Int) := by
  have h : inN (n : Int) := by unfold inN; omega
  unfold impl_AllSum.f
  simp only [numberOk_eq, Option.bind_some, decide_eq_true_eq, if_pos h]
  refine Ev.bind (impl_factors_ev h1 h2) ?_
  obtain ⟨f1, f2, f3⟩ := facs_all h1 h2
  rw [facI_length]
  refine impl_AllSum_l f1 f2 _ 0 1 rfl (by omega) (by omega) ?_
  rw [List.drop_zero, Nat.one_mul]
  have : prodF (facs n) * prodF (facs n) ≤ 10000 * 10000 := Nat.mul_le_mul f3 f3
  omega

theorem impl_AllSum_ev (a : Int) : Ev (fun k => impl_AllSum.f k a) (allI a) := by
  unfold allI
  by_cases h : inN a
  · obtain ⟨n, rfl, h1, h2⟩ := inN_nat h
    rw [if_pos h]
    exact impl_AllSum_nat h1 h2
  · unfold impl_AllSum.f
    simp only [numberOk_eq, Option.bind_some, decide_eq_true_eq, if_neg h]
    exact Ev.now _

theorem frI_cases (a : Int) : (frI a = (-1, false)) ∨ ∃ n m : Nat, a = (n : Int) ∧ frI a = ((m : Int), true) ∧ 1 ≤ n ∧ n ≤ 10000 ∧ 1 ≤ m ∧ m ≤ 10000 ∧ n ≠ m ∧ propI (n : Int) = m ∧ propI (m : Int) = n := by
  by_cases h : inN (propI a)
  · unfold frI
    have h0 := h.1
    rw [if_neg (show ¬ propI a < 1 by omega)]
    by_cases h2 : propI a = a
    · rw [if_pos h2]; exact .inl rfl
    · rw [if_neg h2]
      by_cases h3 : propI (propI a) = a
      · rw [if_pos h3]
        right
        have hin : inN a := by
          by_cases hi : inN a
          · exact hi
          · rw [propI_no hi] at h0; omega
        obtain ⟨n, rfl, n1, n2⟩ := inN_nat hin
        obtain ⟨m, hm, m1, m2⟩ := inN_nat h
        refine ⟨n, m, rfl, by rw [hm], n1, n2, m1, m2, fun e => h2 (by rw [hm, e]), hm, by rw [← hm]; exact h3⟩
      · rw [if_neg h3]; exact .inl rfl
  · exact .inl (propI_bad h)
theorem FnFriendOf : laws_FnFriendOf.Pure := by
  intro l0 _ _ hu
  refine Ev.rounds (r := true) ?_
  unfold laws_FnFriendOf.f
  by_cases hlen : (l0.length : Int) > 1048576
  · simp only [if_pos hlen]; exact Ev.now _
  simp only [if_neg hlen]
  obtain ⟨a, hd, _⟩ := DrawFriendOf_ev hu
  refine Ev.bind hd (Ev.bind (impl_FriendOf_ev a) (Ev.bind (spec_FriendOf_ev a) ?_))
  simp only [if_true, bne_self_eq_false]
  refine Ev_suc ?_
  rcases frI_cases a with e | ⟨n, m, rfl, e, n1, n2, m1, m2, hne, pn, pm⟩
  · rw [e]
    simp only [laws_FnFriendOf.j0, Bool.false_eq_true, if_false, if_true, alive_eq, Option.bind_some]
    exact Ev.now _
  · rw [e]
    have hn : inN (n : Int) := by unfold inN; omega
    have hm : inN (m : Int) := by unfold inN; omega
    have back : frI (m : Int) = ((n : Int), true) := by
      unfold frI
      rw [pm, pn, if_neg (show ¬ (n : Int) < 1 by omega), if_neg (show ¬ (n : Int) = (m : Int) by omega), if_pos rfl]
    have k1 : kindI (n : Int) = if m < n then -1 else 1 := by
      unfold kindI
      rw [if_pos hn, pn]
      by_cases c : m < n
      · rw [if_pos c, if_pos (by omega)]
      · rw [if_neg c, if_neg (by omega), if_neg (by omega)]
    have k2 : kindI (m : Int) = if m < n then 1 else -1 := by
      unfold kindI
      rw [if_pos hm, pm]
      by_cases c : m < n
      · rw [if_pos c, if_neg (by omega), if_neg (by omega)]
      · rw [if_neg c, if_pos (by omega)]
    have a1 : allI (n : Int) = (n : Int) + m := by
      have e := (propI_pos n1 n2).2.1
      unfold allI
      rw [if_pos hn, Int.toNat_natCast, sgF_D n1, Int.natCast_one, Int.one_mul]
      omega
    have a2 : allI (m : Int) = (n : Int) + m := by
      have e := (propI_pos m1 m2).2.1
      unfold allI
      rw [if_pos hm, Int.toNat_natCast, sgF_D m1, Int.natCast_one, Int.one_mul]
      omega
    have f1 := impl_FriendOf_ev (m : Int)
    rw [back] at f1
    have g1 := impl_KindOf_ev (n : Int)
    have g2 := impl_KindOf_ev (m : Int)
    have s1 := impl_AllSum_ev (n : Int)
    have s2 := impl_AllSum_ev (m : Int)
    rw [a1] at s1
    rw [a2] at s2
    simp only [laws_FnFriendOf.j0, Bool.false_eq_true, if_false, if_true]
    refine Ev.bind f1 ?_
    simp only [if_true]
    refine Ev.bind g1 (Ev.bind g2 ?_)
    have hw : wrap64 (kindI (n : Int) + kindI (m : Int)) = 0 := by
      rw [k1, k2]
      by_cases c : m < n
      · rw [if_pos c, if_pos c]; exact w64 (by omega) (by omega)
      · rw [if_neg c, if_neg c]; exact w64 (by omega) (by omega)
    rw [hw]
    simp only [if_true]
    refine Ev.bind g1 ?_
    have hk : ¬ kindI (n : Int) = 0 := by
      rw [k1]
      by_cases c : m < n
      · rw [if_pos c]; omega
      · rw [if_neg c]; omega
    simp only [if_neg hk]
    refine Ev.bind s1 (Ev.bind s2 ?_)
    simp only [if_true]
    refine Ev.bind s1 ?_
    rw [w64 (x := (n : Int) + (m : Int)) (by omega) (by omega)]
    simp only [beq_self_eq_true]
    exact Ev.now _

end Go.Proofs.Ytplnpkagamnodaa.Pure
