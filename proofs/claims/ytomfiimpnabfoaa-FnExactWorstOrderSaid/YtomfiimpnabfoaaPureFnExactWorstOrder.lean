/- The program's WorstOrder answers as the reference's, for every whole number. No conditions. -/
import Derived.Test.YtomfiimpnabfoaaPFnExactWorstOrderx2
import Derived.Test.YtomfiimpnabfoaaEvs
import Derived.Test.YtomfiimpnabfoaaEuler
import Derived.Test.YtomfiimpnabfoaaMul
namespace Go.Proofs.Ytomfiimpnabfoaa.Pure
open Go.RowKit Go.Proofs.Ytomfiimpnabfoaa.PFnExactWorstOrder Go.Proofs.YtomfiimpnabfoaaW.PrintWords Go.Proofs.YtomfiimpnabfoaaW.PrintLast Go.Proofs.YtomfiimpnabfoaaW.PrintMore Go.Proofs.Ytomfiimpnabfoaa.Math
set_option linter.unusedVariables false
set_option linter.unusedSimpArgs false

/-- k is the least power from 1 on of a that leaves 1. -/
def IsOrd (a n k : Nat) : Prop := 1 ≤ k ∧ k ≤ n ∧ a ^ k % n = 1 % n ∧ ∀ j, 1 ≤ j → j < k → ¬ a ^ j % n = 1 % n

/-- The answer r of OrderOf. -/
def OrdI (a n r : Int) : Prop := (¬ (inN a ∧ (1 ≤ n ∧ n ≤ 500) ∧ Nat.gcd a.toNat n.toNat = 1) ∧ r = -1) ∨ (inN a ∧ (1 ≤ n ∧ n ≤ 500) ∧ Nat.gcd a.toNat n.toNat = 1 ∧ ∃ k : Nat, r = k ∧ IsOrd a.toNat n.toNat k)

theorem OrdI_exists (a n : Int) : ∃ r, OrdI a n r := by
  by_cases h : inN a ∧ (1 ≤ n ∧ n ≤ 500) ∧ Nat.gcd a.toNat n.toNat = 1
  · obtain ⟨k, k1, k2, k3, k4⟩ := order_exists (a := a.toNat) (n := n.toNat) (by omega) h.2.2
    exact ⟨k, .inr ⟨h.1, h.2.1, h.2.2, k, rfl, k1, k2, k3, k4⟩⟩
  · exact ⟨-1, .inl ⟨h, rfl⟩⟩

/-- The answer of OrderOf, as a function. -/
noncomputable def ordI (a n : Int) : Int := Classical.choose (OrdI_exists a n)

noncomputable def worF (n acc : Int) : List Nat → Int
  | [] => acc
  | x :: l => worF n (mx acc (ordI (x : Int) n)) l

/-- Is k apart from n? -/
def apB (n k : Nat) : Bool := Nat.gcd k n == 1

noncomputable def worI (a : Int) : Int := if 1 ≤ a ∧ a ≤ 100 then worF a 0 (L (apB a.toNat) a.toNat) else -1

theorem l1In_eq (a lo hi : Int) : spec_l1In.f a lo hi = some (decide (lo ≤ a ∧ a ≤ hi)) := by
  unfold spec_l1In.f
  by_cases h : lo ≤ a
  · rw [if_pos h]; simp [h]
  · rw [if_neg h]; simp [h]

def auI (a : Int) : List Int := if 1 ≤ a ∧ a ≤ 500 then lI (L (apB a.toNat) a.toNat) else []

/-- What two numbers share, -1 where one is none. -/
def cmI (a b : Int) : Int := if inN a ∧ inN b then ((Nat.gcd a.toNat b.toNat : Nat) : Int) else -1

theorem spec_CommonOf_l : ∀ (b a : Nat), Ev (fun k => spec_CommonOf.l0 k (a : Int) (b : Int)) ((Nat.gcd a b : Nat) : Int) := by
  intro b
  induction b using Nat.strongRecOn with
  | ind b ih =>
    intro a
    refine Ev_suc ?_
    simp only [spec_CommonOf.l0]
    by_cases hb : b = 0
    · subst hb
      simp only [Int.natCast_zero, gt_iff_lt, Int.lt_irrefl, if_false, Nat.gcd_zero_right]
      exact Ev.now _
    · have h : ¬ ((b : Int) = 0) := by omega
      have h' : (b : Int) > 0 := by omega
      simp only [if_pos h', if_neg h, tmod_nat]
      rw [Nat.gcd_comm a b, Nat.gcd_rec b a, Nat.gcd_comm]
      exact ih (a % b) (Nat.mod_lt _ (by omega)) b

theorem spec_CommonOf_ev (a b : Int) : Ev (fun k => spec_CommonOf.f k a b) (cmI a b) := by
  unfold spec_CommonOf.f cmI inN
  by_cases h1 : 1 ≤ a ∧ a ≤ 10000
  · by_cases h2 : 1 ≤ b ∧ b ≤ 10000
    · obtain ⟨n, rfl, _, _⟩ := inN_nat h1
      obtain ⟨m, rfl, _, _⟩ := inN_nat h2
      simp only [l1In_eq, Option.bind_some, decide_eq_true_eq, if_pos h1, decide_eq_true h2, if_pos (And.intro h1 h2), Int.toNat_natCast, Bool.not_true]
      refine Ev_suc ?_
      simp only [spec_CommonOf.j0, Bool.false_eq_true, if_false]
      exact spec_CommonOf_l m n
    · simp only [l1In_eq, Option.bind_some, decide_eq_true_eq, if_pos h1, decide_eq_false h2, if_neg (fun e : (1 ≤ a ∧ a ≤ 10000) ∧ (1 ≤ b ∧ b ≤ 10000) => h2 e.2), Bool.not_false]
      refine Ev_suc ?_
      simp only [spec_CommonOf.j0, if_true]
      exact Ev.now _
  · simp only [l1In_eq, Option.bind_some, decide_eq_true_eq, if_neg h1, if_neg (fun e : (1 ≤ a ∧ a ≤ 10000) ∧ (1 ≤ b ∧ b ≤ 10000) => h1 e.1)]
    refine Ev_suc ?_
    simp only [spec_CommonOf.j0, if_true]
    exact Ev.now _

theorem spec_ApartOk_ev (a b : Int) : Ev (fun k => spec_ApartOk.f k a b) (cmI a b == 1) := by
  unfold spec_ApartOk.f
  exact Ev.bind (spec_CommonOf_ev a b) (Ev.now _)

theorem cmI_nat {a b : Nat} (h1 : 1 ≤ a) (h2 : a ≤ 10000) (h3 : 1 ≤ b) (h4 : b ≤ 10000) : cmI a b = ((Nat.gcd a b : Nat) : Int) := by
  unfold cmI inN
  rw [if_pos (by omega)]; rfl

theorem apB_iff {n k : Nat} : apB n k = true ↔ Nat.gcd k n = 1 := by unfold apB; simp

theorem spec_ApartUpTo_l {n : Nat} (hn : 1 ≤ n) (hn2 : n ≤ 500) (d : Nat) : ∀ c, c ≤ n → n - c = d →
    Ev (fun k => spec_ApartUpTo.l0 k (n : Int) (lI (L (apB n) c)) ((c + 1 : Nat) : Int)) (lI (L (apB n) n)) := by
  induction d with
  | zero =>
    intro c h1 h2
    have e : c = n := by omega
    subst e
    refine Ev_suc ?_
    simp only [spec_ApartUpTo.l0, if_neg (show ¬ ((c + 1 : Nat) : Int) ≤ (c : Int) by omega)]
    refine Ev_suc ?_
    simp only [spec_ApartUpTo.j1, Bool.false_eq_true, if_false]
    exact Ev.now _
  | succ d ih =>
    intro c h1 h2
    refine Ev_suc ?_
    simp only [spec_ApartUpTo.l0, if_pos (show ((c + 1 : Nat) : Int) ≤ (n : Int) by omega), decide_eq_true (show (n : Int) ≤ 500 by omega)]
    refine Ev_suc ?_
    have l1 : (lI (L (apB n) c)).length < 17592186044416 := by rw [lI_length]; have := L_length_le (apB n) c; omega
    have next := ih (c + 1) (by omega) (by omega)
    simp only [spec_ApartUpTo.j1, if_true]
    refine Ev.bind (spec_ApartOk_ev _ _) ?_
    rw [cmI_nat (by omega) (by omega) hn (by omega), w64_succ (by omega)]
    by_cases h0 : Nat.gcd (c + 1) n = 1
    · rw [L_yes (apB_iff.2 h0), lI_append] at next
      have e1 : (((Nat.gcd (c + 1) n : Nat) : Int) == 1) = true := by rw [h0]; rfl
      simp only [e1, if_true, if_pos l1]
      exact next
    · rw [L_no (fun e => h0 (apB_iff.1 e))] at next
      have e1 : (((Nat.gcd (c + 1) n : Nat) : Int) == 1) = false := beq_eq_false_iff_ne.2 (by omega)
      simp only [e1, Bool.false_eq_true, if_false]
      exact next

theorem spec_ApartUpTo_ev (a : Int) : Ev (fun k => spec_ApartUpTo.f k a) (auI a) := by
  unfold auI
  by_cases h : 1 ≤ a ∧ a ≤ 500
  · obtain ⟨n, rfl, h1, h2⟩ := inN_nat (a := a) ⟨h.1, by omega⟩
    rw [if_pos h]
    exact spec_ApartUpTo_l h1 (by omega) n 0 (by omega) (by omega)
  · rw [if_neg h]
    unfold spec_ApartUpTo.f
    have hj : Ev (fun k => spec_ApartUpTo.j1 k a [] 1 false) [] := by
      refine Ev_suc ?_
      simp only [spec_ApartUpTo.j1, Bool.false_eq_true, if_false]
      exact Ev.now _
    refine Ev_suc ?_
    by_cases h1 : (1 : Int) ≤ a
    · simp only [spec_ApartUpTo.l0, if_pos h1, decide_eq_false (show ¬ a ≤ 500 from fun e => h ⟨h1, e⟩)]
      exact hj
    · simp only [spec_ApartUpTo.l0, if_neg h1]
      exact hj

theorem lI_getw {l : List Nat} {i : Nat} (h : i < l.length) : rd (lI l) (i : Int) = ((l[i] : Nat) : Int) := by
  rw [rd_get (by rw [lI_length]; exact h)]; simp [lI]

theorem cmI_one {a n : Int} : (cmI a n == 1) = true ↔ inN a ∧ inN n ∧ Nat.gcd a.toNat n.toNat = 1 := by
  unfold cmI
  by_cases h : inN a ∧ inN n
  · rw [if_pos h, beq_iff_eq]
    exact ⟨fun e => ⟨h.1, h.2, by omega⟩, fun e => by have := e.2.2; omega⟩
  · rw [if_neg h, beq_iff_eq]
    exact ⟨fun e => by omega, fun e => absurd ⟨e.1, e.2.1⟩ h⟩

theorem spec_OrderOf_no (a n : Int) : Ev (fun k => spec_OrderOf.j0 k a n true) (-1) := by
  refine Ev_suc ?_
  simp only [spec_OrderOf.j0, if_true]
  exact Ev.now _

theorem one_tmod' (n : Nat) : (1 : Int) % (n : Int) = ((1 % n : Nat) : Int) := rfl

theorem spec_OrderOf_l {a n m : Nat} (ha : a ≤ 10000) (hn : 1 ≤ n) (hn2 : n ≤ 500) (hm : IsOrd a n m) (d : Nat) : ∀ c, 1 ≤ c → c ≤ m → m - c = d →
    Ev (fun k => spec_OrderOf.l0 k (a : Int) (n : Int) ((a ^ c % n : Nat) : Int) (c : Int)) (m : Int) := by
  have hmn := hm.2.1
  induction d with
  | zero =>
    intro c h1 h2 h3
    have e : c = m := by omega
    subst e
    refine Ev_suc ?_
    have c0 : ¬ (n : Int) = 0 := by omega
    simp only [spec_OrderOf.l0, if_neg c0, one_tmod', hm.2.2.1, if_true]
    exact Ev.now _
  | succ d ih =>
    intro c h1 h2 h3
    refine Ev_suc ?_
    have c0 : ¬ (n : Int) = 0 := by omega
    have hne := hm.2.2.2 c h1 (by omega)
    have c1 : ¬ ((a ^ c % n : Nat) : Int) = ((1 % n : Nat) : Int) := fun e => hne (by omega)
    simp only [spec_OrderOf.l0, if_neg c0, one_tmod', if_neg c1, tmod_nat]
    have hs1 : a ^ c % n < n := Nat.mod_lt _ hn
    have hs2 : a % n < n := Nat.mod_lt _ hn
    have hb : a ^ c % n * (a % n) ≤ 500 * 500 := Nat.mul_le_mul (by omega) (by omega)
    rw [w64_mul (by omega), w64_succ (by omega)]
    simp only [tmod_nat]
    rw [← Nat.mul_mod, ← Nat.pow_succ]
    exact ih (c + 1) (by omega) (by omega) (by omega)

theorem spec_OrderOf_ev {a n r : Int} (hr : OrdI a n r) : Ev (fun k => spec_OrderOf.f k a n) r := by
  unfold spec_OrderOf.f
  refine Ev.bind (spec_ApartOk_ev a n) ?_
  by_cases h : (cmI a n == 1) = true
  · obtain ⟨h1, h2, h3⟩ := cmI_one.1 h
    by_cases h4 : n > 500
    · simp only [h, if_true, decide_eq_true h4]
      rcases hr with ⟨_, rfl⟩ | ⟨_, e, _⟩
      · exact spec_OrderOf_no a n
      · omega
    · simp only [h, if_true, decide_eq_false h4]
      rcases hr with ⟨e, _⟩ | ⟨_, _, _, k, rfl, hk⟩
      · exact absurd ⟨h1, ⟨h2.1, by omega⟩, h3⟩ e
      · obtain ⟨x, rfl, x1, x2⟩ := inN_nat h1
        obtain ⟨m, rfl, m1, m2⟩ := inN_nat h2
        rw [Int.toNat_natCast, Int.toNat_natCast] at hk
        refine Ev_suc ?_
        have c0 : ¬ (m : Int) = 0 := by omega
        simp only [spec_OrderOf.j0, Bool.false_eq_true, if_false, if_neg c0, tmod_nat]
        have := spec_OrderOf_l x2 m1 (by omega) hk (k - 1) 1 (by omega) hk.1 rfl
        rw [Nat.pow_one] at this
        exact this
  · have h' : (cmI a n == 1) = false := by simpa using h
    simp only [h', Bool.false_eq_true, if_false]
    rcases hr with ⟨_, rfl⟩ | ⟨e1, e2, e3, _⟩
    · exact spec_OrderOf_no a n
    · exact absurd (cmI_one.2 ⟨e1, ⟨e2.1, by omega⟩, e3⟩) h

theorem ordI_spec (a n : Int) : OrdI a n (ordI a n) := Classical.choose_spec (OrdI_exists a n)

theorem spec_WorstOrder_l {n : Int} {l : List Nat} (hl : l.length ≤ 1048576) (d : Nat) : ∀ (i : Nat) (acc : Int), i ≤ l.length → l.length - i = d →
    Ev (fun k => spec_WorstOrder.l0 k n acc (lI l) (i : Int)) (worF n acc (l.drop i)) := by
  induction d with
  | zero =>
    intro i acc h1 h2
    have e : i = l.length := by omega
    subst e
    refine Ev_suc ?_
    simp only [spec_WorstOrder.l0, lI_length, Int.lt_irrefl, if_false, List.drop_length, worF]
    exact Ev.now _
  | succ d ih =>
    intro i acc h1 h2
    have hlt : i < l.length := by omega
    rw [drop_cons hlt]
    simp only [worF]
    refine Ev_suc ?_
    simp only [spec_WorstOrder.l0, lI_length, if_pos (show (i : Int) < (l.length : Int) by omega), if_pos (show (0 : Int) ≤ (i : Int) by omega), lI_getw hlt]
    rw [w64_succ (by omega)]
    exact Ev.bind (spec_OrderOf_ev (ordI_spec _ _)) (ih (i + 1) _ (by omega) (by omega))

theorem spec_WorstOrder_ev (a : Int) : Ev (fun k => spec_WorstOrder.f k a) (worI a) := by
  unfold spec_WorstOrder.f worI
  by_cases h : 1 ≤ a ∧ a ≤ 100
  · obtain ⟨n, rfl, h1, h2⟩ := inN_nat (a := a) ⟨h.1, by omega⟩
    simp only [l1In_eq, Option.bind_some, decide_eq_true_eq, if_pos h]
    have e : auI (n : Int) = lI (L (apB n) n) := by unfold auI; rw [if_pos (show 1 ≤ (n : Int) ∧ (n : Int) ≤ 500 by omega)]; rfl
    refine Ev.bind (spec_ApartUpTo_ev (n : Int)) ?_
    rw [e, Int.toNat_natCast]
    have := L_length_le (apB n) n
    have := spec_WorstOrder_l (n := (n : Int)) (l := L (apB n) n) (by omega) _ 0 0 (by omega) rfl
    rw [List.drop_zero] at this
    exact this
  · simp only [l1In_eq, Option.bind_some, decide_eq_true_eq, if_neg h]
    exact Ev.now _

theorem impl_WorstOrder_no (a : Int) : Ev (fun k => impl_WorstOrder.j0 k a true) (-1) := by
  refine Ev_suc ?_
  simp only [impl_WorstOrder.j0, if_true]
  exact Ev.now _

theorem impl_ApartUpTo_no (a : Int) : Ev (fun k => impl_ApartUpTo.j0 k a true) [] := by
  refine Ev_suc ?_
  simp only [impl_ApartUpTo.j0, if_true]
  exact Ev.now _

theorem impl_gcd_l : ∀ (b a : Nat), Ev (fun k => impl_gcd.l0 k (a : Int) (b : Int)) ((Nat.gcd a b : Nat) : Int) := by
  intro b
  induction b using Nat.strongRecOn with
  | ind b ih =>
    intro a
    refine Ev_suc ?_
    simp only [impl_gcd.l0]
    by_cases hb : b = 0
    · subst hb
      simp only [Int.natCast_zero, if_true, Nat.gcd_zero_right]
      exact Ev.now _
    · have h : ¬ ((b : Int) = 0) := by omega
      simp only [if_neg h, tmod_nat]
      rw [Nat.gcd_comm a b, Nat.gcd_rec b a, Nat.gcd_comm]
      exact ih (a % b) (Nat.mod_lt _ (by omega)) b

theorem impl_gcd_ev (a b : Nat) : Ev (fun k => impl_gcd.f k (a : Int) (b : Int)) ((Nat.gcd a b : Nat) : Int) := impl_gcd_l b a

theorem impl_ApartUpTo_l {n : Nat} (hn : 1 ≤ n) (hn2 : n ≤ 500) (d : Nat) : ∀ c, c ≤ n → n - c = d →
    Ev (fun k => impl_ApartUpTo.l0 k (n : Int) (lI (L (apB n) c)) ((c + 1 : Nat) : Int)) (lI (L (apB n) n)) := by
  induction d with
  | zero =>
    intro c h1 h2
    have e : c = n := by omega
    subst e
    refine Ev_suc ?_
    simp only [impl_ApartUpTo.l0, if_neg (show ¬ ((c + 1 : Nat) : Int) ≤ (c : Int) by omega)]
    exact Ev.now _
  | succ d ih =>
    intro c h1 h2
    refine Ev_suc ?_
    simp only [impl_ApartUpTo.l0, if_pos (show ((c + 1 : Nat) : Int) ≤ (n : Int) by omega)]
    have l1 : (lI (L (apB n) c)).length < 17592186044416 := by rw [lI_length]; have := L_length_le (apB n) c; omega
    have next := ih (c + 1) (by omega) (by omega)
    refine Ev.bind (impl_gcd_ev (c + 1) n) ?_
    rw [w64_succ (by omega)]
    by_cases h0 : Nat.gcd (c + 1) n = 1
    · rw [L_yes (apB_iff.2 h0), lI_append] at next
      simp only [if_pos (show ((Nat.gcd (c + 1) n : Nat) : Int) = 1 by omega), if_pos l1]
      exact next
    · rw [L_no (fun e => h0 (apB_iff.1 e))] at next
      simp only [if_neg (show ¬ ((Nat.gcd (c + 1) n : Nat) : Int) = 1 by omega)]
      exact next

theorem impl_ApartUpTo_ev (a : Int) : Ev (fun k => impl_ApartUpTo.f k a) (auI a) := by
  unfold impl_ApartUpTo.f auI
  by_cases h1 : a < 1
  · rw [if_neg (show ¬ (1 ≤ a ∧ a ≤ 500) by omega)]
    simp only [if_pos h1]
    exact impl_ApartUpTo_no a
  · by_cases h2 : a > 500
    · rw [if_neg (show ¬ (1 ≤ a ∧ a ≤ 500) by omega)]
      simp only [if_neg h1, decide_eq_true h2]
      exact impl_ApartUpTo_no a
    · rw [if_pos (show 1 ≤ a ∧ a ≤ 500 by omega)]
      obtain ⟨n, rfl, h3, h4⟩ := inN_nat (a := a) ⟨by omega, by omega⟩
      simp only [if_neg h1, decide_eq_false h2, Int.toNat_natCast]
      refine Ev_suc ?_
      simp only [impl_ApartUpTo.j0, Bool.false_eq_true, if_false]
      exact impl_ApartUpTo_l h3 (by omega) n 0 (by omega) (by omega)

theorem impl_OrderOf_no (a n : Int) : Ev (fun k => impl_OrderOf.j0 k a n true) (-1) := by
  refine Ev_suc ?_
  simp only [impl_OrderOf.j0, if_true]
  exact Ev.now _

theorem numberOk_eq (a : Int) : impl_numberOk.f a = some (decide (inN a)) := by
  unfold impl_numberOk.f inN
  by_cases h : 1 ≤ a
  · rw [if_pos h]; simp [h]
  · rw [if_neg h]; simp [h]

theorem impl_CommonOf_ev (a b : Int) : Ev (fun k => impl_CommonOf.f k a b) (cmI a b) := by
  unfold impl_CommonOf.f cmI
  by_cases h1 : inN a
  · by_cases h2 : inN b
    · obtain ⟨n, rfl, _, _⟩ := inN_nat h1
      obtain ⟨m, rfl, _, _⟩ := inN_nat h2
      simp only [numberOk_eq, Option.bind_some, decide_eq_true_eq, if_pos h1, if_pos h2, if_pos (And.intro h1 h2), Int.toNat_natCast]
      exact Ev.bind (impl_gcd_ev n m) (Ev.now _)
    · simp only [numberOk_eq, Option.bind_some, decide_eq_true_eq, if_pos h1, if_neg h2, if_neg (fun e : inN a ∧ inN b => h2 e.2)]
      exact Ev.now _
  · simp only [numberOk_eq, Option.bind_some, decide_eq_true_eq, if_neg h1, if_neg (fun e : inN a ∧ inN b => h1 e.1)]
    exact Ev.now _

theorem impl_ApartOk_ev (a b : Int) : Ev (fun k => impl_ApartOk.f k a b) (cmI a b == 1) := by
  unfold impl_ApartOk.f
  exact Ev.bind (impl_CommonOf_ev a b) (Ev.now _)

theorem impl_OrderOf_l {a n m : Nat} (ha : a ≤ 10000) (hn : 1 ≤ n) (hn2 : n ≤ 500) (hm : IsOrd a n m) (d : Nat) : ∀ c, 1 ≤ c → c ≤ m → m - c = d →
    Ev (fun k => impl_OrderOf.l0 k (a : Int) (n : Int) (c : Int) ((a ^ c % n : Nat) : Int)) (m : Int) := by
  have hmn := hm.2.1
  induction d with
  | zero =>
    intro c h1 h2 h3
    have e : c = m := by omega
    subst e
    refine Ev_suc ?_
    have c0 : ¬ (n : Int) = 0 := by omega
    simp only [impl_OrderOf.l0, if_neg c0, one_tmod', hm.2.2.1, if_true]
    exact Ev.now _
  | succ d ih =>
    intro c h1 h2 h3
    refine Ev_suc ?_
    have c0 : ¬ (n : Int) = 0 := by omega
    have hne := hm.2.2.2 c h1 (by omega)
    have c1 : ¬ ((a ^ c % n : Nat) : Int) = ((1 % n : Nat) : Int) := fun e => hne (by omega)
    simp only [impl_OrderOf.l0, if_neg c0, one_tmod', if_neg c1]
    have hs1 : a ^ c % n < n := Nat.mod_lt _ hn
    have hb : a ^ c % n * a ≤ 500 * 10000 := Nat.mul_le_mul (by omega) ha
    rw [w64_mul (by omega), w64_succ (by omega)]
    simp only [tmod_nat]
    have e : a ^ c % n * a % n = a ^ (c + 1) % n := by rw [Nat.pow_succ, Nat.mod_mul_mod]
    rw [e]
    exact ih (c + 1) (by omega) (by omega) (by omega)

theorem impl_OrderOf_ev {a n r : Int} (hr : OrdI a n r) : Ev (fun k => impl_OrderOf.f k a n) r := by
  unfold impl_OrderOf.f
  by_cases h1 : n < 1
  · simp only [if_pos h1]
    rcases hr with ⟨_, rfl⟩ | ⟨_, e, _⟩
    · exact impl_OrderOf_no a n
    · omega
  by_cases h4 : n > 500
  · simp only [if_neg h1, if_pos h4]
    rcases hr with ⟨_, rfl⟩ | ⟨_, e, _⟩
    · exact impl_OrderOf_no a n
    · omega
  simp only [if_neg h1, if_neg h4]
  refine Ev.bind (impl_ApartOk_ev a n) ?_
  by_cases h : (cmI a n == 1) = true
  · obtain ⟨h1, h2, h3⟩ := cmI_one.1 h
    simp only [h, Bool.not_true]
    rcases hr with ⟨e, _⟩ | ⟨_, _, _, k, rfl, hk⟩
    · exact absurd ⟨h1, ⟨h2.1, by omega⟩, h3⟩ e
    · obtain ⟨x, rfl, x1, x2⟩ := inN_nat h1
      obtain ⟨m, rfl, m1, m2⟩ := inN_nat h2
      rw [Int.toNat_natCast, Int.toNat_natCast] at hk
      refine Ev_suc ?_
      have c0 : ¬ (m : Int) = 0 := by omega
      simp only [impl_OrderOf.j0, Bool.false_eq_true, if_false, if_neg c0, tmod_nat]
      have := impl_OrderOf_l x2 m1 (by omega) hk (k - 1) 1 (by omega) hk.1 rfl
      rw [Nat.pow_one] at this
      exact this
  · have h' : (cmI a n == 1) = false := by simpa using h
    simp only [h', Bool.not_false]
    rcases hr with ⟨_, rfl⟩ | ⟨e1, e2, e3, _⟩
    · exact impl_OrderOf_no a n
    · exact absurd (cmI_one.2 ⟨e1, ⟨e2.1, by omega⟩, e3⟩) h

theorem impl_WorstOrder_l {n : Int} {l : List Nat} (hl : l.length ≤ 1048576) (d : Nat) : ∀ (i : Nat) (acc : Int), i ≤ l.length → l.length - i = d →
    Ev (fun k => impl_WorstOrder.l0 k n acc (lI l) (l.length : Int) (i : Int)) (worF n acc (l.drop i)) := by
  induction d with
  | zero =>
    intro i acc h1 h2
    have e : i = l.length := by omega
    subst e
    refine Ev_suc ?_
    simp only [impl_WorstOrder.l0, Int.lt_irrefl, if_false, List.drop_length, worF]
    exact Ev.now _
  | succ d ih =>
    intro i acc h1 h2
    have hlt : i < l.length := by omega
    rw [drop_cons hlt]
    simp only [worF]
    refine Ev_suc ?_
    simp only [impl_WorstOrder.l0, lI_length, if_pos (show (i : Int) < (l.length : Int) by omega), if_pos (show (0 : Int) ≤ (i : Int) by omega), lI_getw hlt]
    rw [w64_succ (by omega)]
    exact Ev.bind (impl_OrderOf_ev (ordI_spec _ _)) (ih (i + 1) _ (by omega) (by omega))

theorem impl_WorstOrder_ev (a : Int) : Ev (fun k => impl_WorstOrder.f k a) (worI a) := by
  unfold impl_WorstOrder.f worI
  by_cases h1 : a < 1
  · rw [if_neg (show ¬ (1 ≤ a ∧ a ≤ 100) by omega)]
    simp only [if_pos h1]
    exact impl_WorstOrder_no a
  · by_cases h2 : a > 100
    · rw [if_neg (show ¬ (1 ≤ a ∧ a ≤ 100) by omega)]
      simp only [if_neg h1, decide_eq_true h2]
      exact impl_WorstOrder_no a
    · rw [if_pos (show 1 ≤ a ∧ a ≤ 100 by omega)]
      obtain ⟨n, rfl, h3, h4⟩ := inN_nat (a := a) ⟨by omega, by omega⟩
      simp only [if_neg h1, decide_eq_false h2]
      refine Ev_suc ?_
      simp only [impl_WorstOrder.j0, Bool.false_eq_true, if_false]
      have e : auI (n : Int) = lI (L (apB n) n) := by unfold auI; rw [if_pos (show 1 ≤ (n : Int) ∧ (n : Int) ≤ 500 by omega)]; rfl
      refine Ev.bind (impl_ApartUpTo_ev (n : Int)) ?_
      rw [e, Int.toNat_natCast, lI_length]
      have := L_length_le (apB n) n
      have := impl_WorstOrder_l (n := (n : Int)) (l := L (apB n) n) (by omega) _ 0 0 (by omega) rfl
      rw [List.drop_zero] at this
      exact this

theorem FnExactWorstOrder : laws_FnExactWorstOrder.Pure := by
  intro a _
  refine Ev.rounds (r := true) ?_
  unfold laws_FnExactWorstOrder.f
  refine Ev.bind (spec_WorstOrder_ev a) (Ev.bind (impl_WorstOrder_ev a) ?_)
  simp only [if_true]
  exact Ev.now _

end Go.Proofs.Ytomfiimpnabfoaa.Pure
