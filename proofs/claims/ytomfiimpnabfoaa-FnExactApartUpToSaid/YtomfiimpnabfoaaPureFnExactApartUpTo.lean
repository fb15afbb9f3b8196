/- The program's ApartUpTo answers as the reference's, for every whole number, with memory of its own. No conditions. -/
import Derived.Test.YtomfiimpnabfoaaPFnExactApartUpTox2
import Derived.Test.YtomfiimpnabfoaaEvs
namespace Go.Proofs.Ytomfiimpnabfoaa.Pure
open Go.RowKit Go.Proofs.Ytomfiimpnabfoaa.PFnExactApartUpTo Go.Proofs.YtomfiimpnabfoaaW.PrintWords Go.Proofs.YtomfiimpnabfoaaW.PrintLast Go.Proofs.YtomfiimpnabfoaaW.PrintMore Go.Proofs.Ytomfiimpnabfoaa.Math
set_option linter.unusedVariables false
set_option linter.unusedSimpArgs false

theorem l1In_eq (a lo hi : Int) : spec_l1In.f a lo hi = some (decide (lo ≤ a ∧ a ≤ hi)) := by
  unfold spec_l1In.f
  by_cases h : lo ≤ a
  · rw [if_pos h]; simp [h]
  · rw [if_neg h]; simp [h]

theorem spec_CommonOf_l : ∀ (b a : Nat), Ev (fun k => spec_CommonOf.l0 k (a : Int) (b : Int)) ((Nat.gcd a b : Nat) : Int) := by
  intro b
  induction b using Nat.strongRecOn with
  | ind b ih =>
    intro a
    refine Ev_suc ?_
    simp only [spec_CommonOf.l0]
    by_cases hb : b = 0
    · subst hb
      simp only [Int.natCast_zero, gt_iff_lt, Int.lt_irrefl, if_false, Nat.gcd_zero_right]
      exact Ev.now _
    · have h : ¬ ((b : Int) = 0) := by omega
      have h' : (b : Int) > 0 := by omega
      simp only [if_pos h', if_neg h, tmod_nat]
      rw [Nat.gcd_comm a b, Nat.gcd_rec b a, Nat.gcd_comm]
      exact ih (a % b) (Nat.mod_lt _ (by omega)) b
/-- What two numbers share, -1 where one is none. -/
def cmI (a b : Int) : Int := if inN a ∧ inN b then ((Nat.gcd a.toNat b.toNat : Nat) : Int) else -1
theorem cmI_nat {a b : Nat} (h1 : 1 ≤ a) (h2 : a ≤ 10000) (h3 : 1 ≤ b) (h4 : b ≤ 10000) : cmI a b = ((Nat.gcd a b : Nat) : Int) := by
  unfold cmI inN
  rw [if_pos (by omega)]; rfl
theorem spec_CommonOf_ev (a b : Int) : Ev (fun k => spec_CommonOf.f k a b) (cmI a b) := by
  unfold spec_CommonOf.f cmI inN
  by_cases h1 : 1 ≤ a ∧ a ≤ 10000
  · by_cases h2 : 1 ≤ b ∧ b ≤ 10000
    · obtain ⟨n, rfl, _, _⟩ := inN_nat h1
      obtain ⟨m, rfl, _, _⟩ := inN_nat h2
      simp only [l1In_eq, Option.bind_some, decide_eq_true_eq, if_pos h1, decide_eq_true h2, if_pos (And.intro h1 h2), Int.toNat_natCast, Bool.not_true]
      refine Ev_suc ?_
      simp only [spec_CommonOf.j0, Bool.false_eq_true, if_false]
      exact spec_CommonOf_l m n
    · simp only [l1In_eq, Option.bind_some, decide_eq_true_eq, if_pos h1, decide_eq_false h2, if_neg (fun e : (1 ≤ a ∧ a ≤ 10000) ∧ (1 ≤ b ∧ b ≤ 10000) => h2 e.2), Bool.not_false]
      refine Ev_suc ?_
      simp only [spec_CommonOf.j0, if_true]
      exact Ev.now _
  · simp only [l1In_eq, Option.bind_some, decide_eq_true_eq, if_neg h1, if_neg (fun e : (1 ≤ a ∧ a ≤ 10000) ∧ (1 ≤ b ∧ b ≤ 10000) => h1 e.1)]
    refine Ev_suc ?_
    simp only [spec_CommonOf.j0, if_true]
    exact Ev.now _

theorem spec_ApartOk_ev (a b : Int) : Ev (fun k => spec_ApartOk.f k a b) (cmI a b == 1) := by
  unfold spec_ApartOk.f
  exact Ev.bind (spec_CommonOf_ev a b) (Ev.now _)

/-- Is k apart from n? -/
def apB (n k : Nat) : Bool := Nat.gcd k n == 1
def auI (a : Int) : List Int := if 1 ≤ a ∧ a ≤ 500 then lI (L (apB a.toNat) a.toNat) else []
theorem auI_length (a : Int) : (auI a).length ≤ 1048576 := by
  unfold auI
  by_cases h : 1 ≤ a ∧ a ≤ 500
  · rw [if_pos h, lI_length]
    have := L_length_le (apB a.toNat) a.toNat
    omega
  · rw [if_neg h]; simp
theorem apB_iff {n k : Nat} : apB n k = true ↔ Nat.gcd k n = 1 := by unfold apB; simp
theorem spec_ApartUpTo_l {n : Nat} (hn : 1 ≤ n) (hn2 : n ≤ 500) (d : Nat) : ∀ c, c ≤ n → n - c = d →
    Ev (fun k => spec_ApartUpTo.l0 k (n : Int) (lI (L (apB n) c)) ((c + 1 : Nat) : Int)) (lI (L (apB n) n)) := by
  induction d with
  | zero =>
    intro c h1 h2
    have e : c = n := by omega
    subst e
    refine Ev_suc ?_
    simp only [spec_ApartUpTo.l0, if_neg (show ¬ ((c + 1 : Nat) : Int) ≤ (c : Int) by omega)]
    refine Ev_suc ?_
    simp only [spec_ApartUpTo.j1, Bool.false_eq_true, if_false]
    exact Ev.now _
  | succ d ih =>
    intro c h1 h2
    refine Ev_suc ?_
    simp only [spec_ApartUpTo.l0, if_pos (show ((c + 1 : Nat) : Int) ≤ (n : Int) by omega), decide_eq_true (show (n : Int) ≤ 500 by omega)]
    refine Ev_suc ?_
    have l1 : (lI (L (apB n) c)).length < 17592186044416 := by rw [lI_length]; have := L_length_le (apB n) c; omega
    have next := ih (c + 1) (by omega) (by omega)
    simp only [spec_ApartUpTo.j1, if_true]
    refine Ev.bind (spec_ApartOk_ev _ _) ?_
    rw [cmI_nat (by omega) (by omega) hn (by omega), w64_succ (by omega)]
    by_cases h0 : Nat.gcd (c + 1) n = 1
    · rw [L_yes (apB_iff.2 h0), lI_append] at next
      have e1 : (((Nat.gcd (c + 1) n : Nat) : Int) == 1) = true := by rw [h0]; rfl
      simp only [e1, if_true, if_pos l1]
      exact next
    · rw [L_no (fun e => h0 (apB_iff.1 e))] at next
      have e1 : (((Nat.gcd (c + 1) n : Nat) : Int) == 1) = false := beq_eq_false_iff_ne.2 (by omega)
      simp only [e1, Bool.false_eq_true, if_false]
      exact next
theorem spec_ApartUpTo_ev (a : Int) : Ev (fun k => spec_ApartUpTo.f k a) (auI a) := by
  unfold auI
  by_cases h : 1 ≤ a ∧ a ≤ 500
  · obtain ⟨n, rfl, h1, h2⟩ := inN_nat (a := a) ⟨h.1, by omega⟩
    rw [if_pos h]
    exact spec_ApartUpTo_l h1 (by omega) n 0 (by omega) (by omega)
  · rw [if_neg h]
    unfold spec_ApartUpTo.f
    have hj : Ev (fun k => spec_ApartUpTo.j1 k a [] 1 false) [] := by
      refine Ev_suc ?_
      simp only [spec_ApartUpTo.j1, Bool.false_eq_true, if_false]
      exact Ev.now _
    refine Ev_suc ?_
    by_cases h1 : (1 : Int) ≤ a
    · simp only [spec_ApartUpTo.l0, if_pos h1, decide_eq_false (show ¬ a ≤ 500 from fun e => h ⟨h1, e⟩)]
      exact hj
    · simp only [spec_ApartUpTo.l0, if_neg h1]
      exact hj

theorem impl_gcd_l : ∀ (b a : Nat), Ev (fun k => impl_gcd.l0 k (a : Int) (b : Int)) ((Nat.gcd a b : Nat) : Int) := by
  intro b
  induction b using Nat.strongRecOn with
  | ind b ih =>
    intro a
    refine Ev_suc ?_
    simp only [impl_gcd.l0]
    by_cases hb : b = 0
    · subst hb
      simp only [Int.natCast_zero, if_true, Nat.gcd_zero_right]
      exact Ev.now _
    · have h : ¬ ((b : Int) = 0) := by omega
      simp only [if_neg h, tmod_nat]
      rw [Nat.gcd_comm a b, Nat.gcd_rec b a, Nat.gcd_comm]
      exact ih (a % b) (Nat.mod_lt _ (by omega)) b
theorem impl_gcd_ev (a b : Nat) : Ev (fun k => impl_gcd.f k (a : Int) (b : Int)) ((Nat.gcd a b : Nat) : Int) := impl_gcd_l b a

theorem impl_ApartUpTo_l {n : Nat} (hn : 1 ≤ n) (hn2 : n ≤ 500) (d : Nat) : ∀ c, c ≤ n → n - c = d →
    Ev (fun k => impl_ApartUpTo.l0 k (n : Int) (lI (L (apB n) c)) ((c + 1 : Nat) : Int)) (lI (L (apB n) n)) := by
  induction d with
  | zero =>
    intro c h1 h2
    have e : c = n := by omega
    subst e
    refine Ev_suc ?_
    simp only [impl_ApartUpTo.l0, if_neg (show ¬ ((c + 1 : Nat) : Int) ≤ (c : Int) by omega)]
    exact Ev.now _
  | succ d ih =>
    intro c h1 h2
    refine Ev_suc ?_
    simp only [impl_ApartUpTo.l0, if_pos (show ((c + 1 : Nat) : Int) ≤ (n : Int) by omega)]
    have l1 : (lI (L (apB n) c)).length < 17592186044416 := by rw [lI_length]; have := L_length_le (apB n) c; omega
    have next := ih (c + 1) (by omega) (by omega)
    refine Ev.bind (impl_gcd_ev (c + 1) n) ?_
    rw [w64_succ (by omega)]
    by_cases h0 : Nat.gcd (c + 1) n = 1
    · rw [L_yes (apB_iff.2 h0), lI_append] at next
      simp only [if_pos (show ((Nat.gcd (c + 1) n : Nat) : Int) = 1 by omega), if_pos l1]
      exact next
    · rw [L_no (fun e => h0 (apB_iff.1 e))] at next
      simp only [if_neg (show ¬ ((Nat.gcd (c + 1) n : Nat) : Int) = 1 by omega)]
      exact next
theorem impl_ApartUpTo_no (a : Int) : Ev (fun k => impl_ApartUpTo.j0 k a true) [] := by
  refine Ev_suc ?_
  simp only [impl_ApartUpTo.j0, if_true]
  exact Ev.now _
theorem impl_ApartUpTo_ev (a : Int) : Ev (fun k => impl_ApartUpTo.f k a) (auI a) := by
  unfold impl_ApartUpTo.f auI
  by_cases h1 : a < 1
  · rw [if_neg (show ¬ (1 ≤ a ∧ a ≤ 500) by omega)]
    simp only [if_pos h1]
    exact impl_ApartUpTo_no a
  · by_cases h2 : a > 500
    · rw [if_neg (show ¬ (1 ≤ a ∧ a ≤ 500) by omega)]
      simp only [if_neg h1, decide_eq_true h2]
      exact impl_ApartUpTo_no a
    · rw [if_pos (show 1 ≤ a ∧ a ≤ 500 by omega)]
      obtain ⟨n, rfl, h3, h4⟩ := inN_nat (a := a) ⟨by omega, by omega⟩
      simp only [if_neg h1, decide_eq_false h2, Int.toNat_natCast]
      refine Ev_suc ?_
      simp only [impl_ApartUpTo.j0, Bool.false_eq_true, if_false]
      exact impl_ApartUpTo_l h3 (by omega) n 0 (by omega) (by omega)

theorem eqIntS_l (l : List Int) (hl : l.length ≤ 1048576) (d : Nat) : ∀ i, i ≤ l.length → l.length - i = d →
    Ev (fun k => laws_eqIntS.l0 k l l (i : Int)) true := by
  induction d with
  | zero =>
    intro i h1 h2
    have e : i = l.length := by omega
    subst e
    refine Ev_suc ?_
    simp only [laws_eqIntS.l0, Int.lt_irrefl, if_false]
    exact Ev.now _
  | succ d ih =>
    intro i h1 h2
    refine Ev_suc ?_
    have c1 : (i : Int) < (l.length : Int) := by omega
    have c2 : (0 : Int) ≤ (i : Int) := by omega
    simp only [laws_eqIntS.l0, if_pos c1, if_pos c2, if_true]
    rw [w64_succ (by omega)]
    exact ih (i + 1) (by omega) (by omega)
theorem eqIntS_same {l : List Int} (hl : l.length ≤ 1048576) : Ev (fun k => laws_eqIntS.f k l l) true := by
  unfold laws_eqIntS.f
  simp only [if_true]
  exact eqIntS_l l hl l.length 0 (by omega) (by omega)

/-- 1, 2, and so on up to n. -/
def upL (n : Nat) : List Int := (List.range n).map (fun i => ((i + 1 : Nat) : Int))
theorem upL_length (n : Nat) : (upL n).length = n := by simp [upL]
theorem upL_succ (n : Nat) : upL (n + 1) = upL n ++ [((n + 1 : Nat) : Int)] := by simp [upL, List.range_succ]
theorem markIntS_l (l : List Int) (hl : l.length ≤ 1048576) (d : Nat) : ∀ i, i ≤ l.length → l.length - i = d →
    Ev (fun k => laws_markIntS.l0 k (upL i ++ l.drop i) ((i + 1 : Nat) : Int) (i : Int)) (((l.length + 1 : Nat) : Int), upL l.length) := by
  induction d with
  | zero =>
    intro i h1 h2
    have e : i = l.length := by omega
    subst e
    refine Ev_suc ?_
    simp only [laws_markIntS.l0, List.drop_length, List.append_nil, upL_length, Int.lt_irrefl, if_false]
    exact Ev.now _
  | succ d ih =>
    intro i h1 h2
    have hlt : i < l.length := by omega
    refine Ev_suc ?_
    have c1 : (i : Int) < ((upL i ++ l.drop i).length : Int) := by rw [List.length_append, upL_length, List.length_drop]; omega
    have c2 : (0 : Int) ≤ (i : Int) := by omega
    have e : (upL i ++ l.drop i).set i ((i + 1 : Nat) : Int) = upL (i + 1) ++ l.drop (i + 1) := by
      rw [List.set_append_right _ _ (by rw [upL_length]; exact Nat.le_refl _), upL_length, Nat.sub_self, drop_cons hlt, List.set_cons_zero, upL_succ, List.append_assoc]
      rfl
    simp only [laws_markIntS.l0, if_pos c1, if_pos c2, Int.toNat_natCast, e]
    rw [w64_succ (by omega), w64_succ (by omega)]
    exact ih (i + 1) (by omega) (by omega)
theorem markIntS_ev {l : List Int} (hl : l.length ≤ 1048576) : Ev (fun k => laws_markIntS.f k l 1) (((l.length + 1 : Nat) : Int), upL l.length) :=
  markIntS_l l hl l.length 0 (by omega) (by omega)

theorem upL_get {n i : Nat} (h : i < n) : rd (upL n) (i : Int) = ((i + 1 : Nat) : Int) := by
  rw [rd_get (by rw [upL_length]; exact h)]
  simp [upL]
theorem heldIntS_l (n : Nat) (hn : n ≤ 1048576) (d : Nat) : ∀ i, i ≤ n → n - i = d →
    Ev (fun k => laws_heldIntS.l0 k (upL n) ((i + 1 : Nat) : Int) (i : Int)) ((n + 1 : Nat) : Int) := by
  induction d with
  | zero =>
    intro i h1 h2
    have e : i = n := by omega
    subst e
    refine Ev_suc ?_
    simp only [laws_heldIntS.l0, upL_length, Int.lt_irrefl, if_false]
    exact Ev.now _
  | succ d ih =>
    intro i h1 h2
    have hlt : i < n := by omega
    refine Ev_suc ?_
    simp only [laws_heldIntS.l0, upL_length, if_pos (show (i : Int) < (n : Int) by omega), if_pos (show (0 : Int) ≤ (i : Int) by omega), upL_get hlt, if_true]
    rw [w64_succ (by omega), w64_succ (by omega)]
    exact ih (i + 1) (by omega) (by omega)
theorem heldIntS_ev {n : Nat} (hn : n ≤ 1048576) : Ev (fun k => laws_heldIntS.f k (upL n) 1) ((n + 1 : Nat) : Int) :=
  heldIntS_l n hn n 0 (by omega) (by omega)

theorem FnExactApartUpTo : laws_FnExactApartUpTo.Pure := by
  intro a _
  refine Ev.rounds (r := true) ?_
  unfold laws_FnExactApartUpTo.f
  have hl := auI_length a
  refine Ev.bind (spec_ApartUpTo_ev a) (Ev.bind (impl_ApartUpTo_ev a) (Ev.bind (eqIntS_same hl) ?_))
  simp only [if_true]
  refine Ev.bind (markIntS_ev hl) (Ev.bind (heldIntS_ev hl) ?_)
  simp only [if_neg (show ¬ (((auI a).length + 1 : Nat) : Int) < 0 by omega), if_true]
  refine Ev.bind (impl_ApartUpTo_ev a) (Ev.bind (eqIntS_same hl) ?_)
  simp only [if_true]
  refine Ev.bind (heldIntS_ev hl) ?_
  simp only [if_neg (show ¬ (((auI a).length + 1 : Nat) : Int) < 0 by omega), if_true]
  exact Ev.now _

end Go.Proofs.Ytomfiimpnabfoaa.Pure
