/- Sums over multiples turn round. No conditions. -/
import Derived.Test.YtdhcgobkkgchpaaCLFnOverMultiples
import Derived.Test.YtdhcgobkkgchpaaTellD
import Derived.Test.YtdhcgobkkgchpaaEvs
namespace Go.Proofs.Ytdhcgobkkgchpaa.Pure
open Go.RowKit Go.Proofs.Ytdhcgobkkgchpaa.CAll Go.Proofs.Ytdhcgobkkgchpaa.Tell Go.Proofs.YtdhcgobkkgchpaaW.PrintWords Go.Proofs.YtdhcgobkkgchpaaW.PrintLast Go.Proofs.YtdhcgobkkgchpaaW.PrintMore Go.Proofs.Ytdhcgobkkgchpaa.Math
set_option linter.unusedVariables false
set_option linter.unusedSimpArgs false
/-- A code as it is read: at most 2000 bytes. -/
def Bs (l : List Int) : Prop := l.length ≤ 2000 ∧ ∀ x ∈ l, 0 ≤ x ∧ x ≤ 255
theorem u8_range {x : Int} (h : (Lit.int .u8 x).wf = true) : 0 ≤ x ∧ x ≤ 255 := by
  simp [Lit.wf, IntKind.min, IntKind.max, IntKind.bits, IntKind.signed] at h
  omega
theorem l20Open_ev {l0 : List Int} (h : ∀ x ∈ l0, (Lit.int .u8 x).wf = true) : ∃ l, spec_l20Open.f l0 = some (l, 0) ∧ Bs l := by
  unfold spec_l20Open.f
  by_cases h1 : (l0.length : Int) > 2000
  · refine ⟨l0.take 2000, ?_, ?_, fun x hx => u8_range (h x (List.mem_of_mem_take hx))⟩
    · rw [if_pos h1, if_pos (by omega)]
    · exact List.length_take_le _ _
  · exact ⟨l0, by rw [if_neg h1], by omega, fun x hx => u8_range (h x hx)⟩
theorem rd_byte {l : List Int} (h : Bs l) (i : Int) : 0 ≤ rd l i ∧ rd l i ≤ 255 := by
  unfold rd
  rw [List.getD_eq_getElem?_getD]
  by_cases e : i.toNat < l.length
  · rw [List.getElem?_eq_getElem e]; exact h.2 _ (List.getElem_mem e)
  · rw [List.getElem?_eq_none (by omega)]; simp
theorem tmod_range {a n : Int} (ha : 0 ≤ a) (hn : 1 ≤ n) : 0 ≤ Int.tmod a n ∧ Int.tmod a n < n :=
  ⟨Int.tmod_nonneg _ ha, Int.tmod_lt_of_pos a (by omega)⟩
theorem xor_nonneg {a b : Int} (h1 : 0 ≤ a) (h2 : a < 1099511627776) (h3 : 0 ≤ b) (h4 : b < 1099511627776) : 0 ≤ Go.bits .xor .i64 a b := by
  have e : Go.bits .xor .i64 a b = wrap64 (((BitVec.ofInt 64 a ^^^ BitVec.ofInt 64 b).toNat : Nat) : Int) := i64_w _
  have ha : (BitVec.ofInt 64 a).toNat = a.toNat := by
    rw [BitVec.toNat_ofInt]; omega
  have hb : (BitVec.ofInt 64 b).toNat = b.toNat := by
    rw [BitVec.toNat_ofInt]; omega
  have hx : a.toNat ^^^ b.toNat < 2 ^ 40 := Nat.xor_lt_two_pow (by omega) (by omega)
  rw [e, BitVec.toNat_xor, ha, hb, w64_nat (by omega)]
  omega
theorem pick_ev {l : List Int} (hl : Bs l) {p n : Int} (hp : 0 ≤ p) (hp2 : p ≤ 1000000) (hn : 1 ≤ n) (hn2 : n ≤ 1000000) :
    ∃ v, Ev (fun k => spec_l20Rd_pick.f k l p n) (v, p + 1) ∧ 0 ≤ v ∧ v < n := by
  unfold spec_l20Rd_pick.f
  simp only [if_neg (show ¬ n < 1 by omega)]
  rw [w64 (x := p + 1) (by omega) (by omega)]
  by_cases h0 : (l.length : Int) = 0
  · refine ⟨0, ?_, by omega, by omega⟩
    have e : ((l.length : Int) == 0) = true := by rw [h0]; rfl
    rw [e]
    refine Ev_suc ?_
    simp only [spec_l20Rd_pick.j0, if_true]
    exact Ev.now _
  · have e : ((l.length : Int) == 0) = false := beq_eq_false_iff_ne.2 h0
    have hlen := hl.1
    rw [e]
    by_cases h1 : p < (l.length : Int)
    · have hb := rd_byte hl p
      obtain ⟨t1, t2⟩ := tmod_range (a := rd l p) (n := n) hb.1 hn
      refine ⟨Int.tmod (rd l p) n, ?_, t1, t2⟩
      refine Ev_suc ?_
      simp only [spec_l20Rd_pick.j0, Bool.false_eq_true, if_false]
      rw [w64 (x := p + 1 - 1) (by omega) (by omega), show p + 1 - 1 = p by omega, w64 (x := rd l p) (by omega) (by omega)]
      simp only [if_pos h1, if_pos hp, if_neg (show ¬ n = 0 by omega)]
      exact Ev.now _
    · obtain ⟨pn, rfl⟩ := Int.eq_ofNat_of_zero_le hp
      have hL : 0 < l.length := by omega
      have i1 : Int.tmod (pn : Int) (l.length : Int) = ((pn % l.length : Nat) : Int) := rfl
      have i2 : Int.tmod (wrap64 (wrap64 ((pn : Int) * 7) + 3)) (l.length : Int) = (((pn * 7 + 3) % l.length : Nat) : Int) := by
        rw [w64 (x := (pn : Int) * 7) (by omega) (by omega), w64 (by omega) (by omega)]; rfl
      have i3 : wrap64 (Int.tdiv (pn : Int) (l.length : Int)) = ((pn / l.length : Nat) : Int) := w64_div (by omega)
      have m1 := Nat.mod_lt pn hL
      have m2 := Nat.mod_lt (pn * 7 + 3) hL
      have m3 := Nat.div_le_self pn l.length
      obtain ⟨a1, a2⟩ := rd_byte hl ((pn % l.length : Nat) : Int)
      obtain ⟨b1, b2⟩ := rd_byte hl (((pn * 7 + 3) % l.length : Nat) : Int)
      suffices hs : ∃ v, Ev (fun k => spec_l20Rd_pick.j0 k n false l ((pn : Int) + 1)) (v, (pn : Int) + 1) ∧ 0 ≤ v ∧ v < n from hs
      refine ⟨?v, Ev_suc ?_, ?_⟩
      case refine_1 =>
        simp only [spec_l20Rd_pick.j0, Bool.false_eq_true, if_false]
        rw [w64 (x := (pn : Int) + 1 - 1) (by omega) (by omega), show (pn : Int) + 1 - 1 = (pn : Int) by omega, i1, i2, i3]
        simp only [if_neg h1, if_neg h0, if_neg (show ¬ n = 0 by omega), if_pos (show (0 : Int) ≤ ((pn % l.length : Nat) : Int) by omega), if_pos (show ((pn % l.length : Nat) : Int) < (l.length : Int) by omega), if_pos (show (0 : Int) ≤ (((pn * 7 + 3) % l.length : Nat) : Int) by omega), if_pos (show (((pn * 7 + 3) % l.length : Nat) : Int) < (l.length : Int) by omega)]
        exact Ev.now _
      case refine_2 =>
        clear i3
        generalize pn / l.length = zq at *
        have z : wrap64 (wrap64 (wrap64 (wrap64 (wrap64 (rd l ((pn % l.length : Nat) : Int)) * 131) + wrap64 (wrap64 (rd l (((pn * 7 + 3) % l.length : Nat) : Int)) * 1117)) + wrap64 ((pn : Int) * 29)) + wrap64 ((zq : Int) * 53)) =
            rd l ((pn % l.length : Nat) : Int) * 131 + rd l (((pn * 7 + 3) % l.length : Nat) : Int) * 1117 + (pn : Int) * 29 + (zq : Int) * 53 := by
          generalize rd l ((pn % l.length : Nat) : Int) = x at a1 a2
          generalize rd l (((pn * 7 + 3) % l.length : Nat) : Int) = y at b1 b2
          rw [w64 (x := x) (by omega) (by omega), w64 (x := y) (by omega) (by omega), w64 (x := x * 131) (by omega) (by omega), w64 (x := y * 1117) (by omega) (by omega), w64 (x := (pn : Int) * 29) (by omega) (by omega), w64 (x := (zq : Int) * 53) (by omega) (by omega),
            w64 (x := x * 131 + y * 1117) (by omega) (by omega), w64 (x := x * 131 + y * 1117 + (pn : Int) * 29) (by omega) (by omega), w64 (by omega) (by omega)]
        rw [z]
        generalize hz : rd l ((pn % l.length : Nat) : Int) * 131 + rd l (((pn * 7 + 3) % l.length : Nat) : Int) * 1117 + (pn : Int) * 29 + (zq : Int) * 53 = w at *
        have w1 : 0 ≤ w := by omega
        have w2 : w < 1099511627776 := by omega
        have w3 : wrap64 (Int.tdiv w 64) = w / 64 := by rw [Int.tdiv_eq_ediv_of_nonneg w1, w64 (by omega) (by omega)]
        rw [w3]
        exact tmod_range (xor_nonneg w1 w2 (by omega) (by omega)) hn
theorem odd_ev {l : List Int} (hl : Bs l) {p n : Int} (hp : 0 ≤ p) (hp2 : p ≤ 1000000) (hn : 1 ≤ n) (hn2 : n ≤ 1000000) :
    ∃ b, Ev (fun k => spec_l20Rd_odd.f k l p n) (b, p + 1) := by
  obtain ⟨v, hv, _, _⟩ := pick_ev hl hp hp2 hn hn2
  refine ⟨(v == wrap64 (n - 1)), ?_⟩
  unfold spec_l20Rd_odd.f
  simp only [if_pos (show n > 0 by omega)]
  exact Ev.bind hv (Ev.now _)
theorem l20Row_j1 {l : List Int} (hl : Bs l) {x : List Int} (hx : x.length = 24) {p n : Int} (hp : 0 ≤ p) (hp2 : p ≤ 900000) (hn : 1 ≤ n) (hn2 : n ≤ 1000000) :
    ∃ v q, Ev (fun k => spec_l20Row.j1 k n x l p) (v, q) ∧ v.length ≤ 24 ∧ 0 ≤ q ∧ q ≤ p + 3 := by
  obtain ⟨b, hb⟩ := odd_ev hl hp (by omega) hn hn2
  cases b with
  | false =>
    refine ⟨x, p + 1, Ev_suc ?_, by omega, by omega, by omega⟩
    simp only [spec_l20Row.j1]
    refine Ev.bind hb ?_
    simp only [Bool.false_eq_true, if_false]
    exact Ev.now _
  | true =>
    obtain ⟨v, hv, v0, v3⟩ := pick_ev hl (p := p + 1) (n := 3) (by omega) (by omega) (by omega) (by omega)
    by_cases e0 : v = 0
    · refine ⟨x.drop (1 : Int).toNat, p + 1 + 1, Ev_suc ?_, by rw [List.length_drop]; omega, by omega, by omega⟩
      simp only [spec_l20Row.j1]
      refine Ev.bind hb ?_
      simp only [if_true]
      refine Ev.bind hv ?_
      simp only [if_pos e0, if_pos (show (1 : Int) ≤ (x.length : Int) by omega)]
      exact Ev.now _
    · by_cases e1 : v = 1
      · obtain ⟨u, hu, u0, u24⟩ := pick_ev hl (p := p + 1 + 1) (n := 24) (by omega) (by omega) (by omega) (by omega)
        refine ⟨x.set u.toNat 20000, p + 1 + 1 + 1, Ev_suc ?_, by rw [List.length_set]; omega, by omega, by omega⟩
        simp only [spec_l20Row.j1]
        refine Ev.bind hb ?_
        simp only [if_true]
        refine Ev.bind hv ?_
        simp only [if_neg e0, if_pos e1]
        refine Ev.bind hu ?_
        simp only [if_pos u0, if_pos (show u < (x.length : Int) by omega)]
        exact Ev.now _
      · refine ⟨x.set (0 : Int).toNat 2000000000, p + 1 + 1, Ev_suc ?_, by rw [List.length_set]; omega, by omega, by omega⟩
        simp only [spec_l20Row.j1]
        refine Ev.bind hb ?_
        simp only [if_true]
        refine Ev.bind hv ?_
        simp only [if_neg e0, if_neg e1, if_pos (show (0 : Int) < (x.length : Int) by omega)]
        exact Ev.now _
theorem l20Row_l0 {l : List Int} (hl : Bs l) {n : Int} (hn : 1 ≤ n) (hn2 : n ≤ 1000000) (d : Nat) : ∀ (i : Nat) (x : List Int) (p : Int), x.length = i → i ≤ 24 → 24 - i = d → 0 ≤ p → p + d ≤ 800000 →
    ∃ v q, Ev (fun k => spec_l20Row.l0 k n x (i : Int) l p) (v, q) ∧ v.length ≤ 24 ∧ 0 ≤ q ∧ q ≤ p + d + 3 := by
  induction d with
  | zero =>
    intro i x p h1 h2 h3 h4 h5
    obtain ⟨v, q, hv, a, b, c⟩ := l20Row_j1 hl (x := x) (by omega) (p := p) h4 (by omega) hn hn2
    refine ⟨v, q, Ev_suc ?_, a, b, by omega⟩
    simp only [spec_l20Row.l0, if_neg (show ¬ (i : Int) < 24 by omega)]
    exact hv
  | succ d ih =>
    intro i x p h1 h2 h3 h4 h5
    obtain ⟨u, hu, u0, u7⟩ := pick_ev hl (p := p) (n := 7) h4 (by omega) (by omega) (by omega)
    obtain ⟨v, q, hv, a, b, c⟩ := ih (i + 1) (x ++ [wrap64 (u - 3)]) (p + 1) (by rw [List.length_append, h1]; rfl) (by omega) (by omega) (by omega) (by omega)
    refine ⟨v, q, Ev_suc ?_, a, b, by omega⟩
    simp only [spec_l20Row.l0, if_pos (show (i : Int) < 24 by omega)]
    refine Ev.bind hu ?_
    simp only [if_pos (show x.length < 17592186044416 by omega)]
    rw [w64_succ (by omega)]
    exact hv
theorem l20Row_ev {l : List Int} (hl : Bs l) {p n : Int} (hp : 0 ≤ p) (hp2 : p ≤ 10000) (hn : 1 ≤ n) (hn2 : n ≤ 1000000) :
    ∃ v q, Ev (fun k => spec_l20Row.f k l p n) (v, q) ∧ v.length ≤ 24 ∧ 0 ≤ q ∧ q ≤ p + 40 := by
  obtain ⟨a, ha, a0, a8⟩ := pick_ev hl (p := p) (n := 8) hp (by omega) (by omega) (by omega)
  obtain ⟨b, hb, b0, b3⟩ := pick_ev hl (p := p + 1) (n := 3) (by omega) (by omega) (by omega) (by omega)
  by_cases e0 : b = 0
  · obtain ⟨v, q, hv, c1, c2, c3⟩ := l20Row_l0 hl hn hn2 24 0 [] (p + 1 + 1) rfl (by omega) (by omega) (by omega) (by omega)
    refine ⟨v, q, ?_, c1, c2, by omega⟩
    unfold spec_l20Row.f
    refine Ev.bind ha (Ev.bind (NamedRow_ev a) (Ev.bind hb ?_))
    simp only [if_pos e0]
    exact hv
  · by_cases e1 : b = 1
    · obtain ⟨c, hc, c0, c8⟩ := pick_ev hl (p := p + 1 + 1) (n := 8) (by omega) (by omega) (by omega) (by omega)
      have sa := nrow_small ⟨a0, a8⟩
      have sc := nrow_small ⟨c0, c8⟩
      have hx : (tV (nrow a) (nrow c)).1.length = 24 := by
        unfold tV
        rw [sa, sc]
        exact dirR_len (sm_len sa) (sm_len sc)
      obtain ⟨v, q, hv, c1, c2, c3⟩ := l20Row_j1 hl hx (p := p + 1 + 1 + 1) (by omega) (by omega) hn hn2
      refine ⟨v, q, ?_, c1, c2, by omega⟩
      unfold spec_l20Row.f
      refine Ev.bind ha (Ev.bind (NamedRow_ev a) (Ev.bind hb ?_))
      simp only [if_neg e0, if_pos e1]
      refine Ev.bind hc (Ev.bind (NamedRow_ev c) (Ev.bind (TimesOf_ev (by rw [sm_len sa]; decide) (by rw [sm_len sc]; decide)) ?_))
      exact hv
    · obtain ⟨v, q, hv, c1, c2, c3⟩ := l20Row_j1 hl (sm_len (nrow_small ⟨a0, a8⟩)) (p := p + 1 + 1) (by omega) (by omega) hn hn2
      refine ⟨v, q, ?_, c1, c2, by omega⟩
      unfold spec_l20Row.f
      refine Ev.bind ha (Ev.bind (NamedRow_ev a) (Ev.bind hb ?_))
      simp only [if_neg e0, if_neg e1]
      exact hv
theorem DrawOverMultiples_ev {l0 : List Int} (h : ∀ x ∈ l0, (Lit.int .u8 x).wf = true) : ∃ v, Ev (fun k => spec_DrawOverMultiples.f k l0) v ∧ v.length ≤ 24 := by
  obtain ⟨l, e, hl⟩ := l20Open_ev h
  obtain ⟨v, q, hv, b1, _, _⟩ := l20Row_ev hl (p := 0) (n := 12) (by omega) (by omega) (by omega) (by omega)
  refine ⟨v, ?_, b1⟩
  unfold spec_DrawOverMultiples.f
  rw [e]
  simp only [Option.bind_some]
  exact Ev.bind hv (Ev.now _)
theorem sameInts_l (l : List Int) (hl : l.length ≤ 1048576) (d : Nat) : ∀ i, i ≤ l.length → l.length - i = d →
    Ev (fun k => laws_sameInts.l0 k l l (i : Int)) true := by
  induction d with
  | zero =>
    intro i h1 h2
    have e : i = l.length := by omega
    subst e
    refine Ev_suc ?_
    simp only [laws_sameInts.l0, Int.lt_irrefl, if_false]
    exact Ev.now _
  | succ d ih =>
    intro i h1 h2
    refine Ev_suc ?_
    have c1 : (i : Int) < (l.length : Int) := by omega
    have c2 : (0 : Int) ≤ (i : Int) := by omega
    simp only [laws_sameInts.l0, if_pos c1, if_pos c2, if_true]
    rw [w64_succ (by omega)]
    exact ih (i + 1) (by omega) (by omega)
theorem sameInts_same {l : List Int} (hl : l.length ≤ 1048576) : Ev (fun k => laws_sameInts.f k l l) true := by
  unfold laws_sameInts.f
  simp only [if_true]
  exact sameInts_l l hl l.length 0 (by omega) (by omega)
/-- Does a number divide another one, both from 1 up to the greatest number? -/
def dvI (d n : Int) : Bool := decide (inN d ∧ inN n ∧ n.toNat % d.toNat = 0)
theorem numberOk_eq (a : Int) : impl_numberOk.f a = some (decide (inN a)) := by
  unfold impl_numberOk.f inN
  by_cases h : 1 ≤ a
  · rw [if_pos h]; simp [h]
  · rw [if_neg h]; simp [h]
theorem impl_DividesOk_eq (d n : Int) : impl_DividesOk.f d n = some (dvI d n) := by
  unfold impl_DividesOk.f dvI
  by_cases h1 : inN d
  · by_cases h2 : inN n
    · obtain ⟨a, rfl, _, _⟩ := inN_nat h1
      obtain ⟨b, rfl, _, _⟩ := inN_nat h2
      have h0 : ¬ ((a : Int) = 0) := by omega
      simp only [numberOk_eq, Option.bind_some, decide_eq_true_eq, if_pos h1, if_pos h2, if_neg h0, tmod_nat, Int.toNat_natCast, h1, h2, true_and]
      congr 1
      by_cases e : b % a = 0
      · simp [e]
      · simp [e]; omega
    · simp only [numberOk_eq, Option.bind_some, decide_eq_true_eq, if_pos h1, if_neg h2]
      simp [h2]
  · simp only [numberOk_eq, Option.bind_some, decide_eq_true_eq, if_neg h1]
    simp [h1]
theorem alive_eq : laws_alive.f = some true := by
  unfold laws_alive.f
  rw [impl_DividesOk_eq, impl_DividesOk_eq]
  rfl
theorem Ev_shift {α : Type} {g f : Nat → Option α} {r : α} (m : Nat) (h : ∀ k, g (k + m) = f k) (e : Ev f r) : Ev g r := by
  obtain ⟨K, hK⟩ := e
  refine ⟨K + m, fun k hk => ?_⟩
  have h2 := h (k - m)
  rw [Nat.sub_add_cancel (by omega)] at h2
  rw [h2]
  exact hK _ (by omega)
set_option maxRecDepth 100000 in
theorem over_loop (f1 f2 f3 f4 f5 f6 f7 f8 f9 f10 f11 f12 f13 f14 f15 f16 f17 f18 f19 f20 f21 f22 f23 f24 : Int) (G : List Int) (k : Nat) : laws_FnOverMultiples.l0 (k + 24) [f1, f2, f3, f4, f5, f6, f7, f8, f9, f10, f11, f12, f13, f14, f15, f16, f17, f18, f19, f20, f21, f22, f23, f24] G 0 0 = laws_FnOverMultiples.l0 k [f1, f2, f3, f4, f5, f6, f7, f8, f9, f10, f11, f12, f13, f14, f15, f16, f17, f18, f19, f20, f21, f22, f23, f24] G (wrap64 (wrap64 (wrap64 (wrap64 (wrap64 (wrap64 (wrap64 (wrap64 (wrap64 (wrap64 (wrap64 (wrap64 (wrap64 (wrap64 (wrap64 (wrap64 (wrap64 (wrap64 (wrap64 (wrap64 (wrap64 (wrap64 (wrap64 (wrap64 (0 + f1) + f2) + f3) + f4) + f5) + f6) + f7) + f8) + f9) + f10) + f11) + f12) + f13) + f14) + f15) + f16) + f17) + f18) + f19) + f20) + f21) + f22) + f23) + f24)) 24 := by kernel_rfl
theorem over_facts {f : List Int} (hs : smB f = true) : ∃ s, (∀ G k, laws_FnOverMultiples.l0 (k + 24) f G 0 0 = laws_FnOverMultiples.l0 k f G s 24) ∧ rd (overR f) 0 = s ∧ ((rd (overR f) 23) == (rd f 23)) = true := by
  have hb := sm_all hs
  obtain ⟨f1, f2, f3, f4, f5, f6, f7, f8, f9, f10, f11, f12, f13, f14, f15, f16, f17, f18, f19, f20, f21, f22, f23, f24, rfl⟩ := row24 (sm_len hs)
  refine ⟨wrap64 (wrap64 (wrap64 (wrap64 (wrap64 (wrap64 (wrap64 (wrap64 (wrap64 (wrap64 (wrap64 (wrap64 (wrap64 (wrap64 (wrap64 (wrap64 (wrap64 (wrap64 (wrap64 (wrap64 (wrap64 (wrap64 (wrap64 (wrap64 (0 + f1) + f2) + f3) + f4) + f5) + f6) + f7) + f8) + f9) + f10) + f11) + f12) + f13) + f14) + f15) + f16) + f17) + f18) + f19) + f20) + f21) + f22) + f23) + f24), fun G k => over_loop f1 f2 f3 f4 f5 f6 f7 f8 f9 f10 f11 f12 f13 f14 f15 f16 f17 f18 f19 f20 f21 f22 f23 f24 G k, ?_, ?_⟩
  · rw [over_val (fun x hx => by have := hb x hx; omega)]
    have b1 := hb f1 (by simp)
    have b2 := hb f2 (by simp)
    have b3 := hb f3 (by simp)
    have b4 := hb f4 (by simp)
    have b5 := hb f5 (by simp)
    have b6 := hb f6 (by simp)
    have b7 := hb f7 (by simp)
    have b8 := hb f8 (by simp)
    have b9 := hb f9 (by simp)
    have b10 := hb f10 (by simp)
    have b11 := hb f11 (by simp)
    have b12 := hb f12 (by simp)
    have b13 := hb f13 (by simp)
    have b14 := hb f14 (by simp)
    have b15 := hb f15 (by simp)
    have b16 := hb f16 (by simp)
    have b17 := hb f17 (by simp)
    have b18 := hb f18 (by simp)
    have b19 := hb f19 (by simp)
    have b20 := hb f20 (by simp)
    have b21 := hb f21 (by simp)
    have b22 := hb f22 (by simp)
    have b23 := hb f23 (by simp)
    have b24 := hb f24 (by simp)
    clear hb hs
    show f1 + f2 + f3 + f4 + f5 + f6 + f7 + f8 + f9 + f10 + f11 + f12 + f13 + f14 + f15 + f16 + f17 + f18 + f19 + f20 + f21 + f22 + f23 + f24 = _
    simp (disch := omega) only [w64]
    omega
  · rw [over_val (fun x hx => by have := hb x hx; omega)]
    exact beq_self_eq_true _
theorem FnOverMultiples : laws_FnOverMultiples.Pure := by
  intro l0 _ _ hw
  refine Ev.rounds (r := true) ?_
  unfold laws_FnOverMultiples.f
  by_cases h1 : (l0.length : Int) > 1048576
  · simp only [if_pos h1]; exact Ev.now _
  · simp only [if_neg h1]
    obtain ⟨f, hf, hf24⟩ := DrawOverMultiples_ev hw
    have hv : Ev (fun k => spec_OverMultiples.f k f) (oV overR f) := OverMultiples_ev (by omega)
    have hv2 : Ev (fun k => impl_OverMultiples.f k f) (oV overR f) := hv
    have hg : (oV overR f).1.length ≤ 1048576 := Nat.le_trans (oV_len over_len) (by decide)
    refine Ev.bind hf (Ev.bind hv2 (Ev.bind hv (Ev.bind (sameInts_same hg) ?_)))
    simp only [if_true, bne_self_eq_false]
    clear hv hv2 hg
    refine Ev_suc ?_
    simp only [laws_FnOverMultiples.j0, Bool.false_eq_true, if_false]
    unfold oV
    cases hs : smB f with
    | false =>
      simp only [Bool.false_eq_true, if_false, List.length_nil, if_pos (show ((0 : Nat) : Int) = 0 from rfl)]
      rw [alive_eq]
      simp only [Option.bind_some]
      exact Ev.now _
    | true =>
      have e24 := over_len hs
      have ef := sm_len hs
      simp only [if_true]
      obtain ⟨s, hloop, h0, h23⟩ := over_facts hs
      refine Ev_shift 24 (fun k => hloop _ k) (Ev_suc ?_)
      have c0 : ¬ (24 : Int) < (f.length : Int) := by omega
      have c1 : (0 : Int) < ((overR f).length : Int) := by omega
      have c2 : (23 : Int) < ((overR f).length : Int) := by omega
      have c3 : (23 : Int) < (f.length : Int) := by omega
      simp only [laws_FnOverMultiples.l0, if_neg c0]
      have hb : Ev (fun k => impl_FromMultiples.f k (overR f)) (oV fmulR (overR f)) := FromMultiples_ev (by omega)
      refine Ev.bind hb ?_
      unfold oV
      cases hs2 : smB (overR f) with
      | false =>
        simp only [Bool.false_eq_true, if_false, if_pos c1, if_pos h0, if_pos c2, if_pos c3, h23]
        exact Ev.now _
      | true =>
        simp only [if_true]
        rw [over_back hs]
        refine Ev.bind (sameInts_same (by omega)) ?_
        simp only [if_true, if_pos c1, if_pos h0, if_pos c2, if_pos c3, h23]
        exact Ev.now _

end Go.Proofs.Ytdhcgobkkgchpaa.Pure
