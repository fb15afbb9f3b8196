/- Unitary products are a ring. No conditions. -/
import Derived.Test.YtdhcgobkkgchpaaVCLFnUnitaryTimes
import Derived.Test.YtdhcgobkkgchpaaVTellD
import Derived.Test.YtdhcgobkkgchpaaVEvs
import Derived.Test.YtdhcgobkkgchpaaVTellU
namespace Go.Proofs.Ytdhcgobkkgchpaa.Pure
open Go.RowKit Go.Proofs.Ytdhcgobkkgchpaa.CAll Go.Proofs.Ytdhcgobkkgchpaa.Tell Go.Proofs.YtdhcgobkkgchpaaW.PrintWords Go.Proofs.YtdhcgobkkgchpaaW.PrintLast Go.Proofs.YtdhcgobkkgchpaaW.PrintMore Go.Proofs.Ytdhcgobkkgchpaa.Math
set_option linter.unusedVariables false
set_option linter.unusedSimpArgs false
theorem withinM_l (l : List Int) (hl : l.length ≤ 9223372036854775807) (d : Nat) : ∀ i, i ≤ l.length → l.length - i = d →
  Ev (fun k => impl_within.l0 k l 1000000000 l (l.length : Int) (i : Int)) (bndB 1000000000 (l.drop i) && ((l.length : Int) == 24)) := by
 induction d with
 | zero =>
  intro i h1 h2
  have e : i = l.length := by omega
  subst e
  refine Ev_suc ?_
  simp only [impl_within.l0, Int.lt_irrefl, if_false, List.drop_length, bndB, List.all_nil, Bool.true_and]
  exact Ev.now _
 | succ d ih =>
  intro i h1 h2
  have hlt : i < l.length := by omega
  rw [drop_cons hlt]
  refine Ev_suc ?_
  have c1 : (i : Int) < (l.length : Int) := by omega
  have c2 : (0 : Int) ≤ (i : Int) := by omega
  have next := ih (i + 1) (by omega) (by omega)
  simp only [impl_within.l0, if_pos c1, if_pos c2, rd_get hlt, bndB, List.all_cons]
  rw [w64 (x := -1000000000) (by omega) (by omega)]
  by_cases h : -1000000000 ≤ l[i] ∧ l[i] ≤ 1000000000
  ·simp only [if_neg (show ¬ l[i] < -1000000000 by omega), if_neg (show ¬ l[i] > 1000000000 by omega), decide_eq_true h, Bool.true_and]
   rw [w64_succ (by omega)]
   exact next
  ·simp only [decide_eq_false h, Bool.false_and]
   by_cases h3 : l[i] < -1000000000
   ·simp only [if_pos h3]; exact Ev.now _
   ·simp only [if_neg h3, if_pos (show l[i] > 1000000000 by omega)]; exact Ev.now _
theorem impl_gcd_l : ∀ (b a : Nat), Ev (fun k => impl_gcd.l0 k (a : Int) (b : Int)) ((Nat.gcd a b : Nat) : Int) := by
 intro b
 induction b using Nat.strongRecOn with
 | ind b ih =>
  intro a
  refine Ev_suc ?_
  simp only [impl_gcd.l0]
  by_cases hb : b = 0
  ·subst hb
   simp only [Int.natCast_zero, if_true, Nat.gcd_zero_right]
   exact Ev.now _
  ·have h : ¬ ((b : Int) = 0) := by omega
   simp only [if_neg h, tmod_nat]
   rw [Nat.gcd_comm a b, Nat.gcd_rec b a, Nat.gcd_comm]
   exact ih (a % b) (Nat.mod_lt _ (by omega)) b
theorem impl_gcd_ev (a b : Nat) : Ev (fun k => impl_gcd.f k (a : Int) (b : Int)) ((Nat.gcd a b : Nat) : Int) := impl_gcd_l b a
theorem w64_pred {m : Nat} (h1 : 1 ≤ m) (h2 : m ≤ 1000000) : wrap64 ((m : Int) - 1) = ((m - 1 : Nat) : Int) := by
 rw [w64 (by omega) (by omega)]; omega
theorem inB_big (l : List Int) {a : Nat} (ha : 1 ≤ a) : ∀ e b, 24 < a * b → inB l a e b = true
 | 0, _, _ => rfl
 | e + 1, b, h => by
  have h2 : 24 < a * (b + 1) := by rw [Nat.mul_succ]; omega
  simp only [inB, decide_eq_true h, Bool.true_or, Bool.true_and]
  exact inB_big l ha e (b + 1) h2
theorem prod_l1 {l : List Int} (hl : l.length = 24) {a : Nat} (ha : 1 ≤ a) (ha2 : a ≤ 24) {R : Bool} (h0 : Ev (fun k => impl_productsOk.l0 k l false ((a + 1 : Nat) : Int)) R) (e : Nat) : ∀ b, 1 ≤ b → b + e = 25 →
  Ev (fun k => impl_productsOk.l1 k l false (a : Int) (b : Int)) (inB l a e b && R) := by
 induction e with
 | zero =>
  intro b h1 h2
  have e : b = 25 := by omega
  subst e
  refine Ev_suc ?_
  have c : ¬ (((a * 25 : Nat) : Int) ≤ 24) := by omega
  simp only [impl_productsOk.l1]
  rw [w64_mul (by omega)]
  simp only [if_neg c, inB, Bool.true_and]
  rw [w64_succ (by omega)]
  exact h0
 | succ e ih =>
  intro b h1 h2
  have hm : a * b ≤ 24 * 24 := Nat.mul_le_mul ha2 (by omega)
  refine Ev_suc ?_
  simp only [impl_productsOk.l1]
  rw [w64_mul (by omega)]
  by_cases hab : a * b ≤ 24
  ·have next := ih (b + 1) (by omega) (by omega)
   have c : (((a * b : Nat) : Int) ≤ 24) := by omega
   have k1 : a ≤ a * b := Nat.le_mul_of_pos_right a (by omega)
   have k2 : b ≤ a * b := Nat.le_mul_of_pos_left b (by omega)
   simp only [if_pos c, Bool.false_eq_true, if_false]
   refine Ev.bind (impl_gcd_ev a b) ?_
   simp only [inB, decide_eq_false (show ¬ 24 < a * b by omega), Bool.false_or]
   by_cases hg : Nat.gcd a b = 1
   ·have cg : ((Nat.gcd a b : Nat) : Int) = 1 := by omega
    have eg : (Nat.gcd a b == 1) = true := by rw [hg]; rfl
    simp only [if_pos cg, ok1, eg, Bool.not_true, Bool.false_or]
    rw [w64_pred (m := a * b) (by omega) (by omega), w64_pred (m := a) ha (by omega), w64_pred (m := b) h1 (by omega)]
    simp only [if_pos (show (0 : Int) ≤ ((a * b - 1 : Nat) : Int) by omega), if_pos (show ((a * b - 1 : Nat) : Int) < (l.length : Int) by omega), if_pos (show (0 : Int) ≤ ((a - 1 : Nat) : Int) by omega), if_pos (show ((a - 1 : Nat) : Int) < (l.length : Int) by omega), if_pos (show (0 : Int) ≤ ((b - 1 : Nat) : Int) by omega), if_pos (show ((b - 1 : Nat) : Int) < (l.length : Int) by omega)]
    by_cases hc : rd l ((a * b - 1 : Nat) : Int) = wrap64 (rd l ((a - 1 : Nat) : Int) * rd l ((b - 1 : Nat) : Int))
    ·simp only [if_pos hc, beq_iff_eq.2 hc, Bool.true_and]
     rw [w64_succ (by omega)]
     exact next
    ·simp only [if_neg hc, beq_eq_false_iff_ne.2 hc, Bool.false_and]
     exact Ev.now _
   ·have cg : ¬ ((Nat.gcd a b : Nat) : Int) = 1 := by omega
    have eg : (Nat.gcd a b == 1) = false := beq_eq_false_iff_ne.2 hg
    simp only [if_neg cg, ok1, eg, Bool.not_false, Bool.true_or, Bool.true_and]
    rw [w64_succ (by omega)]
    exact next
  ·have c : ¬ (((a * b : Nat) : Int) ≤ 24) := by omega
   simp only [if_neg c]
   rw [w64_succ (by omega), inB_big l ha (e + 1) b (by omega), Bool.true_and]
   exact h0
theorem prod_l0 {l : List Int} (hl : l.length = 24) (d : Nat) : ∀ a, 1 ≤ a → a + d = 25 → Ev (fun k => impl_productsOk.l0 k l false (a : Int)) (outB l d a) := by
 induction d with
 | zero =>
  intro a h1 h2
  refine Ev_suc ?_
  simp only [impl_productsOk.l0, if_neg (show ¬ (a : Int) ≤ 24 by omega), if_pos (show (0 : Int) < (l.length : Int) by omega), outB]
  exact Ev.now _
 | succ d ih =>
  intro a h1 h2
  refine Ev_suc ?_
  simp only [impl_productsOk.l0, if_pos (show (a : Int) ≤ 24 by omega), outB]
  exact prod_l1 hl h1 (by omega) (ih (a + 1) (by omega) (by omega)) 24 1 (by omega) (by omega)
theorem Mult_ev {l : List Int} (hl : l.length ≤ 9223372036854775807) : Ev (fun k => impl_MultiplicativeOk.f k l) (rkB l && outB l 24 1) := by
 unfold impl_MultiplicativeOk.f
 refine Ev.bind (a := rkB l) ?_ ?_
 ·unfold impl_RowOk.f
  refine Ev.bind (a := rkB l) ?_ (Ev.now _)
  unfold impl_within.f
  have := withinM_l l hl l.length 0 (by omega) (by omega)
  rw [List.drop_zero] at this
  exact this
 ·cases h : rkB l with
  | false => simp only [Bool.false_eq_true, if_false, Bool.false_and]; exact Ev.now _
  | true =>
   simp only [if_true, Bool.true_and]
   unfold impl_productsOk.f
   exact Ev.bind (prod_l0 (rk_len h) 24 1 (by omega) (by omega)) (Ev.now _)
theorem sameInts_l (l : List Int) (hl : l.length ≤ 1048576) (d : Nat) : ∀ i, i ≤ l.length → l.length - i = d →
  Ev (fun k => laws_sameInts.l0 k l l (i : Int)) true := by
 induction d with
 | zero =>
  intro i h1 h2
  have e : i = l.length := by omega
  subst e
  refine Ev_suc ?_
  simp only [laws_sameInts.l0, Int.lt_irrefl, if_false]
  exact Ev.now _
 | succ d ih =>
  intro i h1 h2
  refine Ev_suc ?_
  have c1 : (i : Int) < (l.length : Int) := by omega
  have c2 : (0 : Int) ≤ (i : Int) := by omega
  simp only [laws_sameInts.l0, if_pos c1, if_pos c2, if_true]
  rw [w64_succ (by omega)]
  exact ih (i + 1) (by omega) (by omega)
theorem sameInts_same {l : List Int} (hl : l.length ≤ 1048576) : Ev (fun k => laws_sameInts.f k l l) true := by
 unfold laws_sameInts.f
 simp only [if_true]
 exact sameInts_l l hl l.length 0 (by omega) (by omega)
/-- A code as it is read: at most 2000 bytes. -/
def Bs (l : List Int) : Prop := l.length ≤ 2000 ∧ ∀ x ∈ l, 0 ≤ x ∧ x ≤ 255
theorem u8_range {x : Int} (h : (Lit.int .u8 x).wf = true) : 0 ≤ x ∧ x ≤ 255 := by
 simp [Lit.wf, IntKind.min, IntKind.max, IntKind.bits, IntKind.signed] at h
 omega
theorem l20Open_ev {l0 : List Int} (h : ∀ x ∈ l0, (Lit.int .u8 x).wf = true) : ∃ l, spec_l20Open.f l0 = some (l, 0) ∧ Bs l := by
 unfold spec_l20Open.f
 by_cases h1 : (l0.length : Int) > 2000
 ·refine ⟨l0.take 2000, ?_, ?_, fun x hx => u8_range (h x (List.mem_of_mem_take hx))⟩
  ·rw [if_pos h1, if_pos (by omega)]
  ·exact List.length_take_le _ _
 ·exact ⟨l0, by rw [if_neg h1], by omega, fun x hx => u8_range (h x hx)⟩
theorem rd_byte {l : List Int} (h : Bs l) (i : Int) : 0 ≤ rd l i ∧ rd l i ≤ 255 := by
 unfold rd
 rw [List.getD_eq_getElem?_getD]
 by_cases e : i.toNat < l.length
 ·rw [List.getElem?_eq_getElem e]; exact h.2 _ (List.getElem_mem e)
 ·rw [List.getElem?_eq_none (by omega)]; simp
theorem tmod_range {a n : Int} (ha : 0 ≤ a) (hn : 1 ≤ n) : 0 ≤ Int.tmod a n ∧ Int.tmod a n < n :=
 ⟨Int.tmod_nonneg _ ha, Int.tmod_lt_of_pos a (by omega)⟩
theorem xor_nonneg {a b : Int} (h1 : 0 ≤ a) (h2 : a < 1099511627776) (h3 : 0 ≤ b) (h4 : b < 1099511627776) : 0 ≤ Go.bits .xor .i64 a b := by
 have e : Go.bits .xor .i64 a b = wrap64 (((BitVec.ofInt 64 a ^^^ BitVec.ofInt 64 b).toNat : Nat) : Int) := i64_w _
 have ha : (BitVec.ofInt 64 a).toNat = a.toNat := by
  rw [BitVec.toNat_ofInt]; omega
 have hb : (BitVec.ofInt 64 b).toNat = b.toNat := by
  rw [BitVec.toNat_ofInt]; omega
 have hx : a.toNat ^^^ b.toNat < 2 ^ 40 := Nat.xor_lt_two_pow (by omega) (by omega)
 rw [e, BitVec.toNat_xor, ha, hb, w64_nat (by omega)]
 omega
theorem pick_ev {l : List Int} (hl : Bs l) {p n : Int} (hp : 0 ≤ p) (hp2 : p ≤ 1000000) (hn : 1 ≤ n) (hn2 : n ≤ 1000000) :
  ∃ v, Ev (fun k => spec_l20Rd_pick.f k l p n) (v, p + 1) ∧ 0 ≤ v ∧ v < n := by
 unfold spec_l20Rd_pick.f
 simp only [if_neg (show ¬ n < 1 by omega)]
 rw [w64 (x := p + 1) (by omega) (by omega)]
 by_cases h0 : (l.length : Int) = 0
 ·refine ⟨0, ?_, by omega, by omega⟩
  have e : ((l.length : Int) == 0) = true := by rw [h0]; rfl
  rw [e]
  refine Ev_suc ?_
  simp only [spec_l20Rd_pick.j0, if_true]
  exact Ev.now _
 ·have e : ((l.length : Int) == 0) = false := beq_eq_false_iff_ne.2 h0
  have hlen := hl.1
  rw [e]
  by_cases h1 : p < (l.length : Int)
  ·have hb := rd_byte hl p
   obtain ⟨t1, t2⟩ := tmod_range (a := rd l p) (n := n) hb.1 hn
   refine ⟨Int.tmod (rd l p) n, ?_, t1, t2⟩
   refine Ev_suc ?_
   simp only [spec_l20Rd_pick.j0, Bool.false_eq_true, if_false]
   rw [w64 (x := p + 1 - 1) (by omega) (by omega), show p + 1 - 1 = p by omega, w64 (x := rd l p) (by omega) (by omega)]
   simp only [if_pos h1, if_pos hp, if_neg (show ¬ n = 0 by omega)]
   exact Ev.now _
  ·obtain ⟨pn, rfl⟩ := Int.eq_ofNat_of_zero_le hp
   have hL : 0 < l.length := by omega
   have i1 : Int.tmod (pn : Int) (l.length : Int) = ((pn % l.length : Nat) : Int) := rfl
   have i2 : Int.tmod (wrap64 (wrap64 ((pn : Int) * 7) + 3)) (l.length : Int) = (((pn * 7 + 3) % l.length : Nat) : Int) := by
    rw [w64 (x := (pn : Int) * 7) (by omega) (by omega), w64 (by omega) (by omega)]; rfl
   have i3 : wrap64 (Int.tdiv (pn : Int) (l.length : Int)) = ((pn / l.length : Nat) : Int) := w64_div (by omega)
   have m1 := Nat.mod_lt pn hL
   have m2 := Nat.mod_lt (pn * 7 + 3) hL
   have m3 := Nat.div_le_self pn l.length
   obtain ⟨a1, a2⟩ := rd_byte hl ((pn % l.length : Nat) : Int)
   obtain ⟨b1, b2⟩ := rd_byte hl (((pn * 7 + 3) % l.length : Nat) : Int)
   suffices hs : ∃ v, Ev (fun k => spec_l20Rd_pick.j0 k n false l ((pn : Int) + 1)) (v, (pn : Int) + 1) ∧ 0 ≤ v ∧ v < n from hs
   refine ⟨?v, Ev_suc ?_, ?_⟩
   case refine_1 =>
    simp only [spec_l20Rd_pick.j0, Bool.false_eq_true, if_false]
    rw [w64 (x := (pn : Int) + 1 - 1) (by omega) (by omega), show (pn : Int) + 1 - 1 = (pn : Int) by omega, i1, i2, i3]
    simp only [if_neg h1, if_neg h0, if_neg (show ¬ n = 0 by omega), if_pos (show (0 : Int) ≤ ((pn % l.length : Nat) : Int) by omega), if_pos (show ((pn % l.length : Nat) : Int) < (l.length : Int) by omega), if_pos (show (0 : Int) ≤ (((pn * 7 + 3) % l.length : Nat) : Int) by omega), if_pos (show (((pn * 7 + 3) % l.length : Nat) : Int) < (l.length : Int) by omega)]
    exact Ev.now _
   case refine_2 =>
    clear i3
    generalize pn / l.length = zq at *
    have z : wrap64 (wrap64 (wrap64 (wrap64 (wrap64 (rd l ((pn % l.length : Nat) : Int)) * 131) + wrap64 (wrap64 (rd l (((pn * 7 + 3) % l.length : Nat) : Int)) * 1117)) + wrap64 ((pn : Int) * 29)) + wrap64 ((zq : Int) * 53)) =
      rd l ((pn % l.length : Nat) : Int) * 131 + rd l (((pn * 7 + 3) % l.length : Nat) : Int) * 1117 + (pn : Int) * 29 + (zq : Int) * 53 := by
     generalize rd l ((pn % l.length : Nat) : Int) = x at a1 a2
     generalize rd l (((pn * 7 + 3) % l.length : Nat) : Int) = y at b1 b2
     rw [w64 (x := x) (by omega) (by omega), w64 (x := y) (by omega) (by omega), w64 (x := x * 131) (by omega) (by omega), w64 (x := y * 1117) (by omega) (by omega), w64 (x := (pn : Int) * 29) (by omega) (by omega), w64 (x := (zq : Int) * 53) (by omega) (by omega),
      w64 (x := x * 131 + y * 1117) (by omega) (by omega), w64 (x := x * 131 + y * 1117 + (pn : Int) * 29) (by omega) (by omega), w64 (by omega) (by omega)]
    rw [z]
    generalize hz : rd l ((pn % l.length : Nat) : Int) * 131 + rd l (((pn * 7 + 3) % l.length : Nat) : Int) * 1117 + (pn : Int) * 29 + (zq : Int) * 53 = w at *
    have w1 : 0 ≤ w := by omega
    have w2 : w < 1099511627776 := by omega
    have w3 : wrap64 (Int.tdiv w 64) = w / 64 := by rw [Int.tdiv_eq_ediv_of_nonneg w1, w64 (by omega) (by omega)]
    rw [w3]
    exact tmod_range (xor_nonneg w1 w2 (by omega) (by omega)) hn
theorem l1In_eq (a lo hi : Int) : spec_l1In.f a lo hi = some (decide (lo ≤ a ∧ a ≤ hi)) := by
 unfold spec_l1In.f
 by_cases h : lo ≤ a
 ·rw [if_pos h]; simp [h]
 ·rw [if_neg h]; simp [h]
theorem spread_l4 (l x : List Int) (hb : ∀ y ∈ l, -1000 ≤ y ∧ y ≤ 1000) (hl : l.length ≤ 1000) (d : Nat) : ∀ i, i ≤ l.length → l.length - i = d → ∀ k, d < k → spec_SpreadOf.l4 k l x (i : Int) = some (x, true) := by
 induction d with
 | zero =>
  intro i h1 h2 k hk
  obtain ⟨k, rfl⟩ : ∃ j, k = j + 1 := ⟨k - 1, by omega⟩
  simp only [spec_SpreadOf.l4, if_neg (show ¬ (i : Int) < (l.length : Int) by omega)]
 | succ d ih =>
  intro i h1 h2 k hk
  obtain ⟨k, rfl⟩ : ∃ j, k = j + 1 := ⟨k - 1, by omega⟩
  have hlt : i < l.length := by omega
  have hx := hb _ (List.getElem_mem hlt)
  simp only [spec_SpreadOf.l4, if_pos (show (i : Int) < (l.length : Int) by omega), if_pos (show (0 : Int) ≤ (i : Int) by omega), rd_get hlt, l1In_eq, Option.bind_some, decide_eq_true_eq, if_pos hx]
  rw [w64_succ (by omega)]
  exact ih (i + 1) (by omega) (by omega) k (by omega)
theorem pp_eq : spec_PrimePowers.f 300 24 = some [2, 3, 4, 5, 7, 8, 9, 11, 13, 16, 17, 19, 23] := by kernel_rfl
set_option maxRecDepth 100000 in
theorem spread_eq (p1 p2 p3 p4 p5 p6 p7 p8 p9 p10 p11 p12 p13 : Int) : spec_SpreadOf.l0 3000 [p1, p2, p3, p4, p5, p6, p7, p8, p9, p10, p11, p12, p13] [2, 3, 4, 5, 7, 8, 9, 11, 13, 16, 17, 19, 23] [] 1 = spec_SpreadOf.l4 2378 [p1, p2, p3, p4, p5, p6, p7, p8, p9, p10, p11, p12, p13] [1, wrap64 (1 * p1), wrap64 (1 * p2), wrap64 (1 * p3), wrap64 (1 * p4), wrap64 (wrap64 (1 * p1) * p2), wrap64 (1 * p5), wrap64 (1 * p6), wrap64 (1 * p7), wrap64 (wrap64 (1 * p1) * p4), wrap64 (1 * p8), wrap64 (wrap64 (1 * p3) * p2), wrap64 (1 * p9), wrap64 (wrap64 (1 * p1) * p5), wrap64 (wrap64 (1 * p2) * p4), wrap64 (1 * p10), wrap64 (1 * p11), wrap64 (wrap64 (1 * p1) * p7), wrap64 (1 * p12), wrap64 (wrap64 (1 * p3) * p4), wrap64 (wrap64 (1 * p2) * p5), wrap64 (wrap64 (1 * p1) * p8), wrap64 (1 * p13), wrap64 (wrap64 (1 * p6) * p2)] 0 := by kernel_rfl
theorem spread_ev {l : List Int} (hl : l.length = 13) (hb : ∀ y ∈ l, -1000 ≤ y ∧ y ≤ 1000) : ∃ x, Ev (fun k => spec_SpreadOf.f k l) (x, true) ∧ x.length = 24 := by
 have hL4 := spread_l4 l
 obtain ⟨p1, t1, rfl, h1⟩ := len_cons hl
 obtain ⟨p2, t2, rfl, h2⟩ := len_cons h1
 obtain ⟨p3, t3, rfl, h3⟩ := len_cons h2
 obtain ⟨p4, t4, rfl, h4⟩ := len_cons h3
 obtain ⟨p5, t5, rfl, h5⟩ := len_cons h4
 obtain ⟨p6, t6, rfl, h6⟩ := len_cons h5
 obtain ⟨p7, t7, rfl, h7⟩ := len_cons h6
 obtain ⟨p8, t8, rfl, h8⟩ := len_cons h7
 obtain ⟨p9, t9, rfl, h9⟩ := len_cons h8
 obtain ⟨p10, t10, rfl, h10⟩ := len_cons h9
 obtain ⟨p11, t11, rfl, h11⟩ := len_cons h10
 obtain ⟨p12, t12, rfl, h12⟩ := len_cons h11
 obtain ⟨p13, t13, rfl, h13⟩ := len_cons h12
 obtain rfl := List.length_eq_zero_iff.1 h13
 refine ⟨[1, wrap64 (1 * p1), wrap64 (1 * p2), wrap64 (1 * p3), wrap64 (1 * p4), wrap64 (wrap64 (1 * p1) * p2), wrap64 (1 * p5), wrap64 (1 * p6), wrap64 (1 * p7), wrap64 (wrap64 (1 * p1) * p4), wrap64 (1 * p8), wrap64 (wrap64 (1 * p3) * p2), wrap64 (1 * p9), wrap64 (wrap64 (1 * p1) * p5), wrap64 (wrap64 (1 * p2) * p4), wrap64 (1 * p10), wrap64 (1 * p11), wrap64 (wrap64 (1 * p1) * p7), wrap64 (1 * p12), wrap64 (wrap64 (1 * p3) * p4), wrap64 (wrap64 (1 * p2) * p5), wrap64 (wrap64 (1 * p1) * p8), wrap64 (1 * p13), wrap64 (wrap64 (1 * p6) * p2)], ?_, rfl⟩
 unfold spec_SpreadOf.f
 refine Ev.bind (Ev.of (fun k => spec_PrimePowers.mono _ k) pp_eq) ?_
 simp only [List.length_cons, List.length_nil, if_true]
 refine Ev.of (k := 3000) (fun k => (spec_SpreadOf.mono_l k).1 _ _ _ _) ?_
 rw [spread_eq]
 exact hL4 _ hb (by simp) 13 0 (by simp) rfl 2378 (by decide)
/-- FullOf's rounds without its tests on what is small: 'true' for the outer ones. -/
def fullc : Nat → Bool → List Int → List Int → List Int → Int → Int → Int → Option (List Int × Bool)
 | 0, _, _, _, _, _, _, _ => none
 | k + 1, true, x0, x4, x6, x7, _, _ => if x7 ≤ 24 then ((spec_FactorsOf.f k x7).bind fun t => (if 0 < (t.length : Int) then (if 0 < ((rd_L1 t 0).length : Int) then (fullc k false x0 x4 x6 x7 (rd (rd_L1 t 0) 0) 0) else (none)) else (none))) else (some (x6, true))
 | k + 1, false, x0, x4, x6, x7, x8, x9 => if x9 < (x4.length : Int) then (if 0 ≤ x9 then (if x9 < (x0.length : Int) then (if (rd x4 x9) = x8 then (if x8 = 0 then (none) else (if 0 ≤ (wrap64 ((wrap64 (Int.tdiv x7 x8)) - 1)) then (if (wrap64 ((wrap64 (Int.tdiv x7 x8)) - 1)) < (x6.length : Int) then (if x6.length < 17592186044416 then (fullc k false x0 x4 (x6 ++ [wrap64 ((rd x0 x9) * (rd x6 (wrap64 ((wrap64 (Int.tdiv x7 x8)) - 1))))]) x7 x8 (wrap64 (x9 + 1))) else (none)) else (none)) else (none))) else (fullc k false x0 x4 x6 x7 x8 (wrap64 (x9 + 1)))) else (none)) else (none)) else (fullc k true x0 x4 x6 (wrap64 (x7 + 1)) 0 0)
def full0 : Nat → List Int → List Int → Int → Option (List Int × Bool)
 | 0, _, _, _ => none
 | k + 1, x0, x4, x5 => if x5 ≤ 24 then ((spec_PrimeOk.f k x5).bind fun t => (if t = true then (if x4.length < 17592186044416 then (full0 k x0 (x4 ++ [x5]) (wrap64 (x5 + 1))) else (none)) else (full0 k x0 x4 (wrap64 (x5 + 1))))) else (if (x0.length : Int) = (x4.length : Int) then (fullc k true x0 x4 (([1] : List Int)) 2 0 0) else (some ((([] : List Int)), false)))
theorem full_same {P : List Int} (hb : ∀ y ∈ P, -9 ≤ y ∧ y ≤ 9) : ∀ k, (∀ x4 x6 x7, spec_FullOf.l1 k P x4 x6 x7 = fullc k true P x4 x6 x7 0 0) ∧ (∀ x4 x6 x7 x8 x9, spec_FullOf.l2 k P x4 x6 x7 x8 x9 = fullc k false P x4 x6 x7 x8 x9)
 | 0 => ⟨fun _ _ _ => by simp only [spec_FullOf.l1, fullc], fun _ _ _ _ _ => by simp only [spec_FullOf.l2, fullc]⟩
 | k + 1 => by
  obtain ⟨i1, i2⟩ := full_same hb k
  constructor
  ·intro x4 x6 x7
   simp only [spec_FullOf.l1, fullc, i2]
  ·intro x4 x6 x7 x8 x9
   simp only [spec_FullOf.l2, fullc, i1, i2, l1In_eq, Option.bind_some, decide_eq_true_eq]
   by_cases c1 : x9 < (x4.length : Int)
   ·by_cases c2 : 0 ≤ x9
    ·by_cases c3 : x9 < (P.length : Int)
     ·obtain ⟨m, rfl⟩ := Int.eq_ofNat_of_zero_le c2
      have hm : m < P.length := by omega
      have hx := hb _ (List.getElem_mem hm)
      rw [← rd_get hm] at hx
      simp only [if_pos hx]
     ·simp only [if_neg c3]
    ·simp only [if_neg c2]
   ·simp only [if_neg c1]
theorem full_same0 {P : List Int} (hb : ∀ y ∈ P, -9 ≤ y ∧ y ≤ 9) : ∀ k x4 x5, spec_FullOf.l0 k P x4 x5 = full0 k P x4 x5
 | 0, _, _ => by simp only [spec_FullOf.l0, full0]
 | k + 1, x4, x5 => by
  have i0 := full_same0 hb k
  have i1 := (full_same hb k).1
  simp only [spec_FullOf.l0, full0, i0, i1]
set_option maxRecDepth 100000 in
theorem full_eq (q1 q2 q3 q4 q5 q6 q7 q8 q9 : Int) : full0 724 [q1, q2, q3, q4, q5, q6, q7, q8, q9] [] 2 = some ([1, wrap64 (q1 * 1), wrap64 (q2 * 1), wrap64 (q1 * wrap64 (q1 * 1)), wrap64 (q3 * 1), wrap64 (q1 * wrap64 (q2 * 1)), wrap64 (q4 * 1), wrap64 (q1 * wrap64 (q1 * wrap64 (q1 * 1))), wrap64 (q2 * wrap64 (q2 * 1)), wrap64 (q1 * wrap64 (q3 * 1)), wrap64 (q5 * 1), wrap64 (q1 * wrap64 (q1 * wrap64 (q2 * 1))), wrap64 (q6 * 1), wrap64 (q1 * wrap64 (q4 * 1)), wrap64 (q2 * wrap64 (q3 * 1)), wrap64 (q1 * wrap64 (q1 * wrap64 (q1 * wrap64 (q1 * 1)))), wrap64 (q7 * 1), wrap64 (q1 * wrap64 (q2 * wrap64 (q2 * 1))), wrap64 (q8 * 1), wrap64 (q1 * wrap64 (q1 * wrap64 (q3 * 1))), wrap64 (q2 * wrap64 (q4 * 1)), wrap64 (q1 * wrap64 (q5 * 1)), wrap64 (q9 * 1), wrap64 (q1 * wrap64 (q1 * wrap64 (q1 * wrap64 (q2 * 1))))], true) := by kernel_rfl
theorem full_ev {l : List Int} (hl : l.length = 9) (hb : ∀ y ∈ l, -9 ≤ y ∧ y ≤ 9) : ∃ x, Ev (fun k => spec_FullOf.f k l) (x, true) ∧ x.length = 24 := by
 have hs := full_same0 hb 724
 obtain ⟨q1, t1, rfl, h1⟩ := len_cons hl
 obtain ⟨q2, t2, rfl, h2⟩ := len_cons h1
 obtain ⟨q3, t3, rfl, h3⟩ := len_cons h2
 obtain ⟨q4, t4, rfl, h4⟩ := len_cons h3
 obtain ⟨q5, t5, rfl, h5⟩ := len_cons h4
 obtain ⟨q6, t6, rfl, h6⟩ := len_cons h5
 obtain ⟨q7, t7, rfl, h7⟩ := len_cons h6
 obtain ⟨q8, t8, rfl, h8⟩ := len_cons h7
 obtain ⟨q9, t9, rfl, h9⟩ := len_cons h8
 obtain rfl := List.length_eq_zero_iff.1 h9
 refine ⟨[1, wrap64 (q1 * 1), wrap64 (q2 * 1), wrap64 (q1 * wrap64 (q1 * 1)), wrap64 (q3 * 1), wrap64 (q1 * wrap64 (q2 * 1)), wrap64 (q4 * 1), wrap64 (q1 * wrap64 (q1 * wrap64 (q1 * 1))), wrap64 (q2 * wrap64 (q2 * 1)), wrap64 (q1 * wrap64 (q3 * 1)), wrap64 (q5 * 1), wrap64 (q1 * wrap64 (q1 * wrap64 (q2 * 1))), wrap64 (q6 * 1), wrap64 (q1 * wrap64 (q4 * 1)), wrap64 (q2 * wrap64 (q3 * 1)), wrap64 (q1 * wrap64 (q1 * wrap64 (q1 * wrap64 (q1 * 1)))), wrap64 (q7 * 1), wrap64 (q1 * wrap64 (q2 * wrap64 (q2 * 1))), wrap64 (q8 * 1), wrap64 (q1 * wrap64 (q1 * wrap64 (q3 * 1))), wrap64 (q2 * wrap64 (q4 * 1)), wrap64 (q1 * wrap64 (q5 * 1)), wrap64 (q9 * 1), wrap64 (q1 * wrap64 (q1 * wrap64 (q1 * wrap64 (q2 * 1))))], ?_, rfl⟩
 unfold spec_FullOf.f
 refine Ev.of (k := 724) (fun k => (spec_FullOf.mono_l k).1 _ _ _) ?_
 rw [hs, full_eq]
theorem odd_ev {l : List Int} (hl : Bs l) {p n : Int} (hp : 0 ≤ p) (hp2 : p ≤ 1000000) (hn : 1 ≤ n) (hn2 : n ≤ 1000000) :
  ∃ b, Ev (fun k => spec_l20Rd_odd.f k l p n) (b, p + 1) := by
 obtain ⟨v, hv, _, _⟩ := pick_ev hl hp hp2 hn hn2
 refine ⟨(v == wrap64 (n - 1)), ?_⟩
 unfold spec_l20Rd_odd.f
 simp only [if_pos (show n > 0 by omega)]
 exact Ev.bind hv (Ev.now _)
theorem l20Mult_j2 {l : List Int} (hl : Bs l) {x : List Int} (hx : x.length = 24) {p n : Int} (hp : 0 ≤ p) (hp2 : p ≤ 900000) (hn : 1 ≤ n) (hn2 : n ≤ 1000000) :
  ∃ v q, Ev (fun k => spec_l20Mult.j2 k n x l p) (v, q) ∧ v.length ≤ 24 ∧ 0 ≤ q ∧ q ≤ p + 3 := by
 obtain ⟨b, hb⟩ := odd_ev hl hp (by omega) hn hn2
 cases b with
 | false =>
  refine ⟨x, p + 1, Ev_suc ?_, by omega, by omega, by omega⟩
  simp only [spec_l20Mult.j2]
  refine Ev.bind hb ?_
  simp only [Bool.false_eq_true, if_false]
  exact Ev.now _
 | true =>
  obtain ⟨u, hu, u0, u24⟩ := pick_ev hl (p := p + 1) (n := 24) (by omega) (by omega) (by omega) (by omega)
  refine ⟨x.set u.toNat 7, p + 1 + 1, Ev_suc ?_, by rw [List.length_set]; omega, by omega, by omega⟩
  simp only [spec_l20Mult.j2]
  refine Ev.bind hb ?_
  simp only [if_true]
  refine Ev.bind hu ?_
  simp only [if_pos u0, if_pos (show u < (x.length : Int) by omega)]
  exact Ev.now _
theorem l20Mult_l1 {l : List Int} (hl : Bs l) {n : Int} (hn : 1 ≤ n) (hn2 : n ≤ 1000000) (x7 : List Int) (d : Nat) : ∀ (i : Nat) (x : List Int) (p : Int), x.length = i → (∀ y ∈ x, -9 ≤ y ∧ y ≤ 9) → i ≤ 9 → 9 - i = d → 0 ≤ p → p + d ≤ 800000 →
  ∃ v q, Ev (fun k => spec_l20Mult.l1 k n x7 x (i : Int) l p) (v, q) ∧ v.length ≤ 24 ∧ 0 ≤ q ∧ q ≤ p + d + 3 := by
 induction d with
 | zero =>
  intro i x p h1 hy h2 h3 h4 h5
  obtain ⟨y, hf, hy24⟩ := full_ev (l := x) (by omega) hy
  obtain ⟨v, q, hv, a, b, c⟩ := l20Mult_j2 hl hy24 (p := p) h4 (by omega) hn hn2
  refine ⟨v, q, Ev_suc ?_, a, b, by omega⟩
  simp only [spec_l20Mult.l1, if_neg (show ¬ (i : Int) < 9 by omega)]
  refine Ev.bind hf ?_
  simp only [if_true]
  exact hv
 | succ d ih =>
  intro i x p h1 hy h2 h3 h4 h5
  obtain ⟨u, hu, u0, u5⟩ := pick_ev hl (p := p) (n := 5) h4 (by omega) (by omega) (by omega)
  have eu : wrap64 (u - 2) = u - 2 := w64 (by omega) (by omega)
  obtain ⟨v, q, hv, a, b, c⟩ := ih (i + 1) (x ++ [wrap64 (u - 2)]) (p + 1) (by rw [List.length_append, h1]; rfl) (fun y hm => by
   rcases List.mem_append.1 hm with hm | hm
   ·exact hy y hm
   ·rw [List.mem_singleton.1 hm, eu]; omega) (by omega) (by omega) (by omega) (by omega)
  refine ⟨v, q, Ev_suc ?_, a, b, by omega⟩
  simp only [spec_l20Mult.l1, if_pos (show (i : Int) < 9 by omega)]
  refine Ev.bind hu ?_
  simp only [if_pos (show x.length < 17592186044416 by omega)]
  rw [w64_succ (by omega)]
  exact hv
theorem l20Mult_l0 {l : List Int} (hl : Bs l) {n : Int} (hn : 1 ≤ n) (hn2 : n ≤ 1000000) (d : Nat) : ∀ (i : Nat) (x : List Int) (p : Int), x.length = i → (∀ y ∈ x, -1000 ≤ y ∧ y ≤ 1000) → i ≤ 13 → 13 - i = d → 0 ≤ p → p + d ≤ 700000 →
  ∃ v q, Ev (fun k => spec_l20Mult.l0 k n x (i : Int) l p) (v, q) ∧ v.length ≤ 24 ∧ 0 ≤ q ∧ q ≤ p + d + 20 := by
 induction d with
 | zero =>
  intro i x p h1 hy h2 h3 h4 h5
  obtain ⟨s, hs, hs24⟩ := spread_ev (l := x) (by omega) hy
  obtain ⟨b, hb, b0, b4⟩ := pick_ev hl (p := p) (n := 4) h4 (by omega) (by omega) (by omega)
  have step : ∀ v q, (Ev (fun k => (if b = 0 then ((spec_l20Rd_pick.f k l (p + 1) 8).bind fun bt431 => ((spec_NamedRow.f k bt431.1).bind fun t433 => (some (t433, bt431.2)))) else (if b = 1 then (spec_l20Mult.l1 k n s (([] : List Int)) 0 l (p + 1)) else (spec_l20Mult.j2 k n s l (p + 1))))) (v, q)) → Ev (fun k => spec_l20Mult.l0 k n x (i : Int) l p) (v, q) := by
   intro v q h
   refine Ev_suc ?_
   simp only [spec_l20Mult.l0]
   refine Ev.bind (Ev.of (fun k => spec_PrimePowers.mono _ k) pp_eq) ?_
   simp only [if_neg (show ¬ (i : Int) < (([2, 3, 4, 5, 7, 8, 9, 11, 13, 16, 17, 19, 23] : List Int).length : Int) by show ¬ (i : Int) < 13; omega)]
   exact Ev.bind hs (Ev.bind hb h)
  by_cases e0 : b = 0
  ·obtain ⟨c, hc, c0, c8⟩ := pick_ev hl (p := p + 1) (n := 8) (by omega) (by omega) (by omega) (by omega)
   refine ⟨nrow c, p + 1 + 1, step _ _ ?_, Nat.le_of_eq (sm_len (nrow_small ⟨c0, c8⟩)), by omega, by omega⟩
   simp only [if_pos e0]
   exact Ev.bind hc (Ev.bind (NamedRow_ev c) (Ev.now _))
  ·by_cases e1 : b = 1
   ·obtain ⟨v, q, hv, a, g, c⟩ := l20Mult_l1 hl hn hn2 s 9 0 [] (p + 1) rfl (by simp) (by omega) (by omega) (by omega) (by omega)
    refine ⟨v, q, step _ _ ?_, a, g, by omega⟩
    simp only [if_neg e0, if_pos e1]
    exact hv
   ·obtain ⟨v, q, hv, a, g, c⟩ := l20Mult_j2 hl hs24 (p := p + 1) (by omega) (by omega) hn hn2
    refine ⟨v, q, step _ _ ?_, a, g, by omega⟩
    simp only [if_neg e0, if_neg e1]
    exact hv
 | succ d ih =>
  intro i x p h1 hy h2 h3 h4 h5
  obtain ⟨u, hu, u0, u7⟩ := pick_ev hl (p := p) (n := 7) h4 (by omega) (by omega) (by omega)
  have eu : wrap64 (u - 3) = u - 3 := w64 (by omega) (by omega)
  obtain ⟨v, q, hv, a, b, c⟩ := ih (i + 1) (x ++ [wrap64 (u - 3)]) (p + 1) (by rw [List.length_append, h1]; rfl) (fun y hm => by
   rcases List.mem_append.1 hm with hm | hm
   ·exact hy y hm
   ·rw [List.mem_singleton.1 hm, eu]; omega) (by omega) (by omega) (by omega) (by omega)
  refine ⟨v, q, Ev_suc ?_, a, b, by omega⟩
  simp only [spec_l20Mult.l0]
  refine Ev.bind (Ev.of (fun k => spec_PrimePowers.mono _ k) pp_eq) ?_
  simp only [if_pos (show (i : Int) < (([2, 3, 4, 5, 7, 8, 9, 11, 13, 16, 17, 19, 23] : List Int).length : Int) by show (i : Int) < 13; omega)]
  refine Ev.bind hu ?_
  simp only [if_pos (show x.length < 17592186044416 by omega)]
  rw [w64_succ (by omega)]
  exact hv
theorem l20Mult_ev {l : List Int} (hl : Bs l) {p n : Int} (hp : 0 ≤ p) (hp2 : p ≤ 10000) (hn : 1 ≤ n) (hn2 : n ≤ 1000000) :
  ∃ v q, Ev (fun k => spec_l20Mult.f k l p n) (v, q) ∧ v.length ≤ 24 ∧ 0 ≤ q ∧ q ≤ p + 40 := by
 obtain ⟨v, q, hv, a, b, c⟩ := l20Mult_l0 hl hn hn2 13 0 [] p rfl (by simp) (by omega) (by omega) hp (by omega)
 exact ⟨v, q, hv, a, b, by omega⟩
theorem l20Row_j1 {l : List Int} (hl : Bs l) {x : List Int} (hx : x.length = 24) {p n : Int} (hp : 0 ≤ p) (hp2 : p ≤ 900000) (hn : 1 ≤ n) (hn2 : n ≤ 1000000) :
  ∃ v q, Ev (fun k => spec_l20Row.j1 k n x l p) (v, q) ∧ v.length ≤ 24 ∧ 0 ≤ q ∧ q ≤ p + 3 := by
 obtain ⟨b, hb⟩ := odd_ev hl hp (by omega) hn hn2
 cases b with
 | false =>
  refine ⟨x, p + 1, Ev_suc ?_, by omega, by omega, by omega⟩
  simp only [spec_l20Row.j1]
  refine Ev.bind hb ?_
  simp only [Bool.false_eq_true, if_false]
  exact Ev.now _
 | true =>
  obtain ⟨v, hv, v0, v3⟩ := pick_ev hl (p := p + 1) (n := 3) (by omega) (by omega) (by omega) (by omega)
  by_cases e0 : v = 0
  ·refine ⟨x.drop (1 : Int).toNat, p + 1 + 1, Ev_suc ?_, by rw [List.length_drop]; omega, by omega, by omega⟩
   simp only [spec_l20Row.j1]
   refine Ev.bind hb ?_
   simp only [if_true]
   refine Ev.bind hv ?_
   simp only [if_pos e0, if_pos (show (1 : Int) ≤ (x.length : Int) by omega)]
   exact Ev.now _
  ·by_cases e1 : v = 1
   ·obtain ⟨u, hu, u0, u24⟩ := pick_ev hl (p := p + 1 + 1) (n := 24) (by omega) (by omega) (by omega) (by omega)
    refine ⟨x.set u.toNat 20000, p + 1 + 1 + 1, Ev_suc ?_, by rw [List.length_set]; omega, by omega, by omega⟩
    simp only [spec_l20Row.j1]
    refine Ev.bind hb ?_
    simp only [if_true]
    refine Ev.bind hv ?_
    simp only [if_neg e0, if_pos e1]
    refine Ev.bind hu ?_
    simp only [if_pos u0, if_pos (show u < (x.length : Int) by omega)]
    exact Ev.now _
   ·refine ⟨x.set (0 : Int).toNat 2000000000, p + 1 + 1, Ev_suc ?_, by rw [List.length_set]; omega, by omega, by omega⟩
    simp only [spec_l20Row.j1]
    refine Ev.bind hb ?_
    simp only [if_true]
    refine Ev.bind hv ?_
    simp only [if_neg e0, if_neg e1, if_pos (show (0 : Int) < (x.length : Int) by omega)]
    exact Ev.now _
theorem l20Row_l0 {l : List Int} (hl : Bs l) {n : Int} (hn : 1 ≤ n) (hn2 : n ≤ 1000000) (d : Nat) : ∀ (i : Nat) (x : List Int) (p : Int), x.length = i → i ≤ 24 → 24 - i = d → 0 ≤ p → p + d ≤ 800000 →
  ∃ v q, Ev (fun k => spec_l20Row.l0 k n x (i : Int) l p) (v, q) ∧ v.length ≤ 24 ∧ 0 ≤ q ∧ q ≤ p + d + 3 := by
 induction d with
 | zero =>
  intro i x p h1 h2 h3 h4 h5
  obtain ⟨v, q, hv, a, b, c⟩ := l20Row_j1 hl (x := x) (by omega) (p := p) h4 (by omega) hn hn2
  refine ⟨v, q, Ev_suc ?_, a, b, by omega⟩
  simp only [spec_l20Row.l0, if_neg (show ¬ (i : Int) < 24 by omega)]
  exact hv
 | succ d ih =>
  intro i x p h1 h2 h3 h4 h5
  obtain ⟨u, hu, u0, u7⟩ := pick_ev hl (p := p) (n := 7) h4 (by omega) (by omega) (by omega)
  obtain ⟨v, q, hv, a, b, c⟩ := ih (i + 1) (x ++ [wrap64 (u - 3)]) (p + 1) (by rw [List.length_append, h1]; rfl) (by omega) (by omega) (by omega) (by omega)
  refine ⟨v, q, Ev_suc ?_, a, b, by omega⟩
  simp only [spec_l20Row.l0, if_pos (show (i : Int) < 24 by omega)]
  refine Ev.bind hu ?_
  simp only [if_pos (show x.length < 17592186044416 by omega)]
  rw [w64_succ (by omega)]
  exact hv
theorem l20Row_ev {l : List Int} (hl : Bs l) {p n : Int} (hp : 0 ≤ p) (hp2 : p ≤ 10000) (hn : 1 ≤ n) (hn2 : n ≤ 1000000) :
  ∃ v q, Ev (fun k => spec_l20Row.f k l p n) (v, q) ∧ v.length ≤ 24 ∧ 0 ≤ q ∧ q ≤ p + 40 := by
 obtain ⟨a, ha, a0, a8⟩ := pick_ev hl (p := p) (n := 8) hp (by omega) (by omega) (by omega)
 obtain ⟨b, hb, b0, b3⟩ := pick_ev hl (p := p + 1) (n := 3) (by omega) (by omega) (by omega) (by omega)
 by_cases e0 : b = 0
 ·obtain ⟨v, q, hv, c1, c2, c3⟩ := l20Row_l0 hl hn hn2 24 0 [] (p + 1 + 1) rfl (by omega) (by omega) (by omega) (by omega)
  refine ⟨v, q, ?_, c1, c2, by omega⟩
  unfold spec_l20Row.f
  refine Ev.bind ha (Ev.bind (NamedRow_ev a) (Ev.bind hb ?_))
  simp only [if_pos e0]
  exact hv
 ·by_cases e1 : b = 1
  ·obtain ⟨c, hc, c0, c8⟩ := pick_ev hl (p := p + 1 + 1) (n := 8) (by omega) (by omega) (by omega) (by omega)
   have sa := nrow_small ⟨a0, a8⟩
   have sc := nrow_small ⟨c0, c8⟩
   have hx : (tV (nrow a) (nrow c)).1.length = 24 := by
    unfold tV
    rw [sa, sc]
    exact dirR_len (sm_len sa) (sm_len sc)
   obtain ⟨v, q, hv, c1, c2, c3⟩ := l20Row_j1 hl hx (p := p + 1 + 1 + 1) (by omega) (by omega) hn hn2
   refine ⟨v, q, ?_, c1, c2, by omega⟩
   unfold spec_l20Row.f
   refine Ev.bind ha (Ev.bind (NamedRow_ev a) (Ev.bind hb ?_))
   simp only [if_neg e0, if_pos e1]
   refine Ev.bind hc (Ev.bind (NamedRow_ev c) (Ev.bind (TimesOf_ev (by rw [sm_len sa]; decide) (by rw [sm_len sc]; decide)) ?_))
   exact hv
  ·obtain ⟨v, q, hv, c1, c2, c3⟩ := l20Row_j1 hl (sm_len (nrow_small ⟨a0, a8⟩)) (p := p + 1 + 1) (by omega) (by omega) hn hn2
   refine ⟨v, q, ?_, c1, c2, by omega⟩
   unfold spec_l20Row.f
   refine Ev.bind ha (Ev.bind (NamedRow_ev a) (Ev.bind hb ?_))
   simp only [if_neg e0, if_neg e1]
   exact hv
theorem DrawUnitaryTimes_ev {l0 : List Int} (h : ∀ x ∈ l0, (Lit.int .u8 x).wf = true) : ∃ v w, Ev (fun k => spec_DrawUnitaryTimes.f k l0) (v, w) ∧ v.length ≤ 24 ∧ w.length ≤ 24 := by
 obtain ⟨l, e, hl⟩ := l20Open_ev h
 obtain ⟨b, hb, b0, b2⟩ := pick_ev hl (p := 0) (n := 2) (by omega) (by omega) (by omega) (by omega)
 by_cases e0 : b = 0
 ·obtain ⟨v, q, hv, v1, q0, q1⟩ := l20Mult_ev hl (p := 0 + 1) (n := 14) (by omega) (by omega) (by omega) (by omega)
  obtain ⟨w, r, hw, w1, r0, r1⟩ := l20Mult_ev hl (p := q) (n := 14) (by omega) (by omega) (by omega) (by omega)
  refine ⟨v, w, ?_, v1, w1⟩
  unfold spec_DrawUnitaryTimes.f
  rw [e]
  simp only [Option.bind_some]
  refine Ev.bind hb ?_
  simp only [if_pos e0]
  exact Ev.bind hv (Ev.bind hw (Ev.now _))
 ·obtain ⟨v, q, hv, v1, q0, q1⟩ := l20Row_ev hl (p := 0 + 1) (n := 14) (by omega) (by omega) (by omega) (by omega)
  obtain ⟨w, r, hw, w1, r0, r1⟩ := l20Row_ev hl (p := q) (n := 14) (by omega) (by omega) (by omega) (by omega)
  refine ⟨v, w, ?_, v1, w1⟩
  unfold spec_DrawUnitaryTimes.f
  rw [e]
  simp only [Option.bind_some]
  refine Ev.bind hb ?_
  simp only [if_neg e0]
  exact Ev.bind hv (Ev.bind hw (Ev.now _))
/-- Does a number divide another one, both from 1 up to the greatest number? -/
def dvI (d n : Int) : Bool := decide (inN d ∧ inN n ∧ n.toNat % d.toNat = 0)
theorem numberOk_eq (a : Int) : impl_numberOk.f a = some (decide (inN a)) := by
 unfold impl_numberOk.f inN
 by_cases h : 1 ≤ a
 ·rw [if_pos h]; simp [h]
 ·rw [if_neg h]; simp [h]
theorem impl_DividesOk_eq (d n : Int) : impl_DividesOk.f d n = some (dvI d n) := by
 unfold impl_DividesOk.f dvI
 by_cases h1 : inN d
 ·by_cases h2 : inN n
  ·obtain ⟨a, rfl, _, _⟩ := inN_nat h1
   obtain ⟨b, rfl, _, _⟩ := inN_nat h2
   have h0 : ¬ ((a : Int) = 0) := by omega
   simp only [numberOk_eq, Option.bind_some, decide_eq_true_eq, if_pos h1, if_pos h2, if_neg h0, tmod_nat, Int.toNat_natCast, h1, h2, true_and]
   congr 1
   by_cases e : b % a = 0
   ·simp [e]
   ·simp [e]; omega
  ·simp only [numberOk_eq, Option.bind_some, decide_eq_true_eq, if_pos h1, if_neg h2]
   simp [h2]
 ·simp only [numberOk_eq, Option.bind_some, decide_eq_true_eq, if_neg h1]
  simp [h1]
theorem alive_eq : laws_alive.f = some true := by
 unfold laws_alive.f
 rw [impl_DividesOk_eq, impl_DividesOk_eq]
 rfl
theorem uV_yes {a b : List Int} (h : (smB a && smB b) = true) : uV a b = (uniR a b, true) := by unfold uV; rw [if_pos h]
theorem uV_no {a b : List Int} (h : ¬ (smB a && smB b) = true) : uV a b = ([], false) := by unfold uV; rw [if_neg h]
theorem ut_j3 {f g : List Int} (hf : smB f = true) (hg : smB g = true) : Ev (fun k => laws_FnUnitaryTimes.j3 k f g (uniR f g) false) true := by
 have lf := sm_len hf
 have lg := sm_len hg
 have lx := uniR_len lf lg
 refine Ev_suc ?_
 simp only [laws_FnUnitaryTimes.j3, Bool.false_eq_true, if_false]
 refine Ev.bind (Mult_ev (by omega)) ?_
 cases mf : (rkB f && outB f 24 1) with
 | false => simp only [Bool.false_eq_true, if_false]; exact Ev.now _
 | true =>
  simp only [if_true]
  refine Ev.bind (Mult_ev (by omega)) ?_
  cases mg : (rkB g && outB g 24 1) with
  | false => simp only [Bool.false_eq_true, if_false]; exact Ev.now _
  | true =>
   simp only [if_true]
   obtain ⟨m, b⟩ := uni_mult hf hg (Bool.and_eq_true_iff.1 mf).2 (Bool.and_eq_true_iff.1 mg).2
   have e : (rkB (uniR f g) && outB (uniR f g) 24 1) = true := by
    rw [m, Bool.and_true]
    unfold rkB bndB
    simp only [Bool.and_eq_true, List.all_eq_true, decide_eq_true_eq, beq_iff_eq]
    exact ⟨b, by omega⟩
   have h := Mult_ev (l := uniR f g) (by omega)
   rw [e] at h
   exact Ev.bind h (Ev.now _)
theorem UT_ev {a b : List Int} (h0 : a.length ≤ 24) (h1 : b.length ≤ 24) : Ev (fun k => impl_UnitaryTimes.f k a b) (uV a b) := UnitaryTimes_ev (by omega) (by omega)
theorem ut_j2 {f g h : List Int} (hf : smB f = true) (hg : smB g = true) (hh : h.length ≤ 24) : Ev (fun k => laws_FnUnitaryTimes.j2 k f g (uniR f g) h false) true := by
 have lf := sm_len hf
 have lg := sm_len hg
 have lx := uniR_len lf lg
 refine Ev_suc ?_
 simp only [laws_FnUnitaryTimes.j2, Bool.false_eq_true, if_false]
 refine Ev.bind (UT_ev (by omega) hh) (Ev.bind (UT_ev (by omega) hh) (Ev.bind (UT_ev (by omega) (uV_len _ _)) ?_))
 by_cases A : (smB (uniR f g) && smB h) = true
 ·rw [uV_yes A]
  simp only [if_true]
  by_cases B : (smB g && smB h) = true
  ·rw [uV_yes B]
   simp only [if_true]
   by_cases C : (smB f && smB (uniR g h)) = true
   ·rw [uV_yes C]
    simp only [if_true]
    have a := Bool.and_eq_true_iff.1 A
    have c := Bool.and_eq_true_iff.1 C
    rw [uni_assoc hf hg a.2 a.1 c.2]
    refine Ev.bind (sameInts_same (by rw [uniR_len lf (sm_len c.2)]; decide)) ?_
    simp only [Bool.not_true]
    exact ut_j3 hf hg
   ·rw [uV_no C]
    simp only [Bool.false_eq_true, if_false]
    exact ut_j3 hf hg
  ·rw [uV_no B]
   simp only [Bool.false_eq_true, if_false]
   exact ut_j3 hf hg
 ·rw [uV_no A]
  simp only [Bool.false_eq_true, if_false]
  exact ut_j3 hf hg
theorem FnUnitaryTimes : laws_FnUnitaryTimes.Pure := by
 intro l0 l1
 intros
 rename_i hw0 hw1
 refine Ev.rounds (r := true) ?_
 have no : Ev (fun k => laws_FnUnitaryTimes.j0 k l0 l1 true) true := by
  refine Ev_suc ?_
  simp only [laws_FnUnitaryTimes.j0, if_true]
  exact Ev.now _
 unfold laws_FnUnitaryTimes.f
 by_cases h1 : (l0.length : Int) > 1048576
 ·simp only [if_pos h1]; exact no
 ·simp only [if_neg h1]
  by_cases h2 : (l1.length : Int) > 1048576
  ·simp only [decide_eq_true h2]; exact no
  ·simp only [decide_eq_false h2]
   obtain ⟨f, g, hd, lf, lg⟩ := DrawUnitaryTimes_ev (l0 := l0) (by assumption)
   obtain ⟨h, h', hd2, lh, _⟩ := DrawUnitaryTimes_ev (l0 := l1) (by assumption)
   refine Ev_suc ?_
   simp only [laws_FnUnitaryTimes.j0, Bool.false_eq_true, if_false]
   have hv : Ev (fun k => spec_UnitaryTimes.f k f g) (uV f g) := UnitaryTimes_ev (by omega) (by omega)
   refine Ev.bind hd (Ev.bind (UT_ev lf lg) (Ev.bind hv (Ev.bind (sameInts_same (Nat.le_trans (uV_len _ _) (by decide))) ?_)))
   simp only [if_true, bne_self_eq_false]
   refine Ev_suc ?_
   simp only [laws_FnUnitaryTimes.j1, Bool.false_eq_true, if_false]
   by_cases A : (smB f && smB g) = true
   ·have hs := Bool.and_eq_true_iff.1 A
    have ef := sm_len hs.1
    have eg := sm_len hs.2
    have e1 : uV g f = (uniR f g, true) := by rw [uV_yes (by rw [hs.1, hs.2]; rfl), uni_comm hs.1 hs.2]
    have e2 : uV f (nrow 0) = (f, true) := by rw [uV_yes (by rw [hs.1]; decide), uni_id hs.1]
    have k1 := UT_ev lg lf
    have k2 : Ev (fun k => impl_UnitaryTimes.f k f (nrow 0)) (uV f (nrow 0)) := UT_ev lf (by decide)
    rw [e1] at k1
    rw [e2] at k2
    rw [uV_yes A]
    simp only [if_true]
    refine Ev.bind hd2 (Ev.bind k1 (Ev.bind (show Ev (fun k => impl_NamedRow.f k 0) (nrow 0) from NamedRow_ev 0) (Ev.bind k2 ?_)))
    simp only [if_true]
    refine Ev.bind (sameInts_same (by rw [uniR_len ef eg]; decide)) ?_
    simp only [if_true]
    refine Ev.bind (sameInts_same (by omega)) ?_
    simp only [Bool.not_true]
    exact ut_j2 hs.1 hs.2 lh
   ·rw [uV_no A]
    simp only [Bool.false_eq_true, if_false, List.length_nil, if_pos (show ((0 : Nat) : Int) = 0 from rfl)]
    rw [alive_eq]
    simp only [Option.bind_some]
    exact Ev.now _

end Go.Proofs.Ytdhcgobkkgchpaa.Pure
