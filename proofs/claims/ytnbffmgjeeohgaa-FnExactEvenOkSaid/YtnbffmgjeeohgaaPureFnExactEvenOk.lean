/- The program's EvenOk answers as the reference's, for every list of whole numbers, and leaves it as it was. No conditions. -/
import Derived.Test.YtnbffmgjeeohgaaPFnExactEvenOkx2
import Derived.Test.YtnbffmgjeeohgaaEvs
namespace Go.Proofs.Ytnbffmgjeeohgaa.Pure
open Go.RowKit Go.Proofs.Ytnbffmgjeeohgaa.PFnExactEvenOk Go.Proofs.YtnbffmgjeeohgaaW.PrintWords Go.Proofs.YtnbffmgjeeohgaaW.PrintLast Go.Proofs.YtnbffmgjeeohgaaW.PrintMore Go.Proofs.Ytnbffmgjeeohgaa.Math
set_option linter.unusedVariables false
set_option linter.unusedSimpArgs false

theorem l1In_eq (a lo hi : Int) : spec_l1In.f a lo hi = some (decide (lo ≤ a ∧ a ≤ hi)) := by
  unfold spec_l1In.f
  by_cases h : lo ≤ a
  · rw [if_pos h]; simp [h]
  · rw [if_neg h]; simp [h]

theorem spec_CommonOf_l : ∀ (b a : Nat), Ev (fun k => spec_CommonOf.l0 k (a : Int) (b : Int)) ((Nat.gcd a b : Nat) : Int) := by
  intro b
  induction b using Nat.strongRecOn with
  | ind b ih =>
    intro a
    refine Ev_suc ?_
    simp only [spec_CommonOf.l0]
    by_cases hb : b = 0
    · subst hb
      simp only [Int.natCast_zero, gt_iff_lt, Int.lt_irrefl, if_false, Nat.gcd_zero_right]
      exact Ev.now _
    · have h : ¬ ((b : Int) = 0) := by omega
      have h' : (b : Int) > 0 := by omega
      simp only [if_pos h', if_neg h, tmod_nat]
      rw [Nat.gcd_comm a b, Nat.gcd_rec b a, Nat.gcd_comm]
      exact ih (a % b) (Nat.mod_lt _ (by omega)) b
/-- What two numbers share, -1 where one is none. -/
def cmI (a b : Int) : Int := if inN a ∧ inN b then ((Nat.gcd a.toNat b.toNat : Nat) : Int) else -1
theorem cmI_nat {a b : Nat} (h1 : 1 ≤ a) (h2 : a ≤ 10000) (h3 : 1 ≤ b) (h4 : b ≤ 10000) : cmI a b = ((Nat.gcd a b : Nat) : Int) := by
  unfold cmI inN
  rw [if_pos (by omega)]; rfl
theorem spec_CommonOf_ev (a b : Int) : Ev (fun k => spec_CommonOf.f k a b) (cmI a b) := by
  unfold spec_CommonOf.f cmI inN
  by_cases h1 : 1 ≤ a ∧ a ≤ 10000
  · by_cases h2 : 1 ≤ b ∧ b ≤ 10000
    · obtain ⟨n, rfl, _, _⟩ := inN_nat h1
      obtain ⟨m, rfl, _, _⟩ := inN_nat h2
      simp only [l1In_eq, Option.bind_some, decide_eq_true_eq, if_pos h1, decide_eq_true h2, if_pos (And.intro h1 h2), Int.toNat_natCast, Bool.not_true]
      refine Ev_suc ?_
      simp only [spec_CommonOf.j0, Bool.false_eq_true, if_false]
      exact spec_CommonOf_l m n
    · simp only [l1In_eq, Option.bind_some, decide_eq_true_eq, if_pos h1, decide_eq_false h2, if_neg (fun e : (1 ≤ a ∧ a ≤ 10000) ∧ (1 ≤ b ∧ b ≤ 10000) => h2 e.2), Bool.not_false]
      refine Ev_suc ?_
      simp only [spec_CommonOf.j0, if_true]
      exact Ev.now _
  · simp only [l1In_eq, Option.bind_some, decide_eq_true_eq, if_neg h1, if_neg (fun e : (1 ≤ a ∧ a ≤ 10000) ∧ (1 ≤ b ∧ b ≤ 10000) => h1 e.1)]
    refine Ev_suc ?_
    simp only [spec_CommonOf.j0, if_true]
    exact Ev.now _

/-- What the row tells at place i is in bounds and as at what the place shares with the length. -/
def evAt (l : List Int) (i : Nat) : Prop := (-1000 ≤ l.getD i 0 ∧ l.getD i 0 ≤ 1000) ∧ l.getD i 0 = l.getD (Nat.gcd (i + 1) l.length - 1) 0
instance (l : List Int) (i : Nat) : Decidable (evAt l i) := inferInstanceAs (Decidable (_ ∧ _))
/-- From place i on. -/
def evF (l : List Int) : Nat → Nat → Bool
  | 0, _ => true
  | d + 1, i => decide (evAt l i) && evF l d (i + 1)
def evI (l : List Int) : Bool := decide (1 ≤ l.length ∧ l.length ≤ 60) && evF l l.length 0
theorem rd_nat (l : List Int) (i : Nat) : rd l (i : Int) = l.getD i 0 := rfl
theorem ev_place {l : List Int} {i : Nat} (hi : i < l.length) (hl : l.length ≤ 60) : 1 ≤ Nat.gcd (i + 1) l.length ∧ Nat.gcd (i + 1) l.length ≤ l.length :=
  ⟨Nat.gcd_pos_of_pos_left _ (by omega), Nat.gcd_le_right (i + 1) (by omega)⟩
theorem spec_EvenOk_l {l : List Int} (h1 : 1 ≤ l.length) (hl : l.length ≤ 60) (d : Nat) : ∀ i, i ≤ l.length → l.length - i = d →
    Ev (fun k => spec_EvenOk.l0 k l ((i + 1 : Nat) : Int)) (evF l d i) := by
  induction d with
  | zero =>
    intro i hi hd
    have e : i = l.length := by omega
    subst e
    refine Ev_suc ?_
    simp only [spec_EvenOk.l0, if_neg (show ¬ ((l.length + 1 : Nat) : Int) ≤ (l.length : Int) by omega)]
    refine Ev_suc ?_
    simp only [spec_EvenOk.j1, Bool.false_eq_true, if_false, l1In_eq, Option.bind_some, decide_eq_true (show (1 : Int) ≤ (l.length : Int) ∧ (l.length : Int) ≤ 60 by omega), evF]
    exact Ev.now _
  | succ d ih =>
    intro i hi hd
    have hlt : i < l.length := by omega
    refine Ev_suc ?_
    simp only [spec_EvenOk.l0, if_pos (show ((i + 1 : Nat) : Int) ≤ (l.length : Int) by omega), decide_eq_true (show (l.length : Int) ≤ 60 by omega)]
    refine Ev_suc ?_
    have e1 : wrap64 (((i + 1 : Nat) : Int) - 1) = (i : Int) := by rw [w64 (by omega) (by omega)]; omega
    obtain ⟨g1, g2⟩ := ev_place hlt hl
    simp only [spec_EvenOk.j1, if_true, e1, if_pos (show (0 : Int) ≤ (i : Int) by omega), if_pos (show (i : Int) < (l.length : Int) by omega), l1In_eq, Option.bind_some, decide_eq_true_eq, evF]
    have next := ih (i + 1) (by omega) (by omega)
    by_cases hb : -1000 ≤ l.getD i 0 ∧ l.getD i 0 ≤ 1000
    · simp only [if_pos (show -1000 ≤ rd l (i : Int) ∧ rd l (i : Int) ≤ 1000 from hb)]
      refine Ev.bind (spec_CommonOf_ev _ _) ?_
      rw [cmI_nat (by omega) (by omega) h1 (by omega)]
      have e2 : wrap64 (((Nat.gcd (i + 1) l.length : Nat) : Int) - 1) = ((Nat.gcd (i + 1) l.length - 1 : Nat) : Int) := by rw [w64 (by omega) (by omega)]; omega
      rw [e2, w64_succ (by omega)]
      simp only [if_pos (show (0 : Int) ≤ ((Nat.gcd (i + 1) l.length - 1 : Nat) : Int) by omega), if_pos (show ((Nat.gcd (i + 1) l.length - 1 : Nat) : Int) < (l.length : Int) by omega)]
      by_cases he : l.getD i 0 = l.getD (Nat.gcd (i + 1) l.length - 1) 0
      · simp only [if_pos (show rd l (i : Int) = rd l ((Nat.gcd (i + 1) l.length - 1 : Nat) : Int) from he), decide_eq_true (show evAt l i from ⟨hb, he⟩), Bool.true_and]
        exact next
      · simp only [if_neg (show ¬ rd l (i : Int) = rd l ((Nat.gcd (i + 1) l.length - 1 : Nat) : Int) from he), decide_eq_false (show ¬ evAt l i from fun e => he e.2), Bool.false_and]
        exact Ev.now _
    · simp only [if_neg (show ¬ (-1000 ≤ rd l (i : Int) ∧ rd l (i : Int) ≤ 1000) from hb), decide_eq_false (show ¬ evAt l i from fun e => hb e.1), Bool.false_and]
      exact Ev.now _
theorem spec_EvenOk_ev (l : List Int) : Ev (fun k => spec_EvenOk.f k l) (evI l) := by
  unfold spec_EvenOk.f evI
  by_cases h : 1 ≤ l.length ∧ l.length ≤ 60
  · rw [decide_eq_true h, Bool.true_and]
    exact spec_EvenOk_l h.1 h.2 l.length 0 (by omega) (by omega)
  · rw [decide_eq_false h, Bool.false_and]
    refine Ev_suc ?_
    have hj : Ev (fun k => spec_EvenOk.j1 k l 1 false) false := by
      refine Ev_suc ?_
      simp only [spec_EvenOk.j1, Bool.false_eq_true, if_false, l1In_eq, Option.bind_some, decide_eq_false (show ¬ ((1 : Int) ≤ (l.length : Int) ∧ (l.length : Int) ≤ 60) by omega)]
      exact Ev.now _
    by_cases h1 : (1 : Int) ≤ (l.length : Int)
    · simp only [spec_EvenOk.l0, if_pos h1, decide_eq_false (show ¬ (l.length : Int) ≤ 60 by omega)]
      exact hj
    · simp only [spec_EvenOk.l0, if_neg h1]
      exact hj

theorem toIntS_l (l : List Int) (hl : l.length ≤ 1048576) (d : Nat) : ∀ i, i ≤ l.length → l.length - i = d →
    Ev (fun k => laws_toIntS.l0 k l (l.take i ++ List.replicate (l.length - i) 0) (i : Int)) l := by
  induction d with
  | zero =>
    intro i h1 h2
    have e : i = l.length := by omega
    subst e
    refine Ev_suc ?_
    simp only [laws_toIntS.l0, Int.lt_irrefl, if_false, List.take_length, Nat.sub_self, List.replicate_zero, List.append_nil]
    exact Ev.now _
  | succ d ih =>
    intro i h1 h2
    have hlt : i < l.length := by omega
    refine Ev_suc ?_
    have c1 : (i : Int) < (l.length : Int) := by omega
    have c2 : (0 : Int) ≤ (i : Int) := by omega
    have ht : (l.take i).length = i := by simp; omega
    have c3 : (i : Int) < ((l.take i ++ List.replicate (l.length - i) 0).length : Int) := by
      rw [List.length_append, ht, List.length_replicate]; omega
    simp only [laws_toIntS.l0, if_pos c1, if_pos c2, if_pos c3, rd_get hlt, Int.toNat_natCast]
    have e : (l.take i ++ List.replicate (l.length - i) 0).set i l[i] = l.take (i + 1) ++ List.replicate (l.length - (i + 1)) 0 := by
      rw [List.set_append_right _ _ (by omega), ht, Nat.sub_self, show l.length - i = (l.length - (i + 1)) + 1 by omega, List.replicate_succ, List.set_cons_zero, List.take_succ_eq_append_getElem hlt, List.append_assoc]
      rfl
    rw [e, w64_succ (by omega)]
    exact ih (i + 1) (by omega) (by omega)
theorem toIntS_ev {l : List Int} (hl : l.length ≤ 1048576) : Ev (fun k => laws_toIntS.f k l) l := by
  unfold laws_toIntS.f
  simp only [if_pos (show (0 : Int) ≤ (l.length : Int) by omega), Int.toNat_natCast, if_pos (show l.length ≤ 35184372088832 by omega)]
  have := toIntS_l l hl l.length 0 (by omega) (by omega)
  simp only [List.take_zero, List.nil_append, Nat.sub_zero] at this
  exact this

theorem impl_gcd_l : ∀ (b a : Nat), Ev (fun k => impl_gcd.l0 k (a : Int) (b : Int)) ((Nat.gcd a b : Nat) : Int) := by
  intro b
  induction b using Nat.strongRecOn with
  | ind b ih =>
    intro a
    refine Ev_suc ?_
    simp only [impl_gcd.l0]
    by_cases hb : b = 0
    · subst hb
      simp only [Int.natCast_zero, if_true, Nat.gcd_zero_right]
      exact Ev.now _
    · have h : ¬ ((b : Int) = 0) := by omega
      simp only [if_neg h, tmod_nat]
      rw [Nat.gcd_comm a b, Nat.gcd_rec b a, Nat.gcd_comm]
      exact ih (a % b) (Nat.mod_lt _ (by omega)) b
theorem impl_gcd_ev (a b : Nat) : Ev (fun k => impl_gcd.f k (a : Int) (b : Int)) ((Nat.gcd a b : Nat) : Int) := impl_gcd_l b a

/-- Are all of size m at most? -/
def lwB (m : Int) (l : List Int) : Bool := l.all (fun x => decide (-m ≤ x ∧ x ≤ m))
theorem impl_listWithin_l {m : Int} (hm : 0 ≤ m) (hm2 : m ≤ 1000000000000) (l : List Int) (hl : l.length ≤ 1048576) (d : Nat) : ∀ i, i ≤ l.length → l.length - i = d →
    Ev (fun k => impl_listWithin.l0 k m l (l.length : Int) (i : Int)) (lwB m (l.drop i)) := by
  induction d with
  | zero =>
    intro i h1 h2
    have e : i = l.length := by omega
    subst e
    refine Ev_suc ?_
    simp only [impl_listWithin.l0, Int.lt_irrefl, if_false, List.drop_length, lwB, List.all_nil]
    exact Ev.now _
  | succ d ih =>
    intro i h1 h2
    have hlt : i < l.length := by omega
    rw [drop_cons hlt]
    refine Ev_suc ?_
    have c1 : (i : Int) < (l.length : Int) := by omega
    have c2 : (0 : Int) ≤ (i : Int) := by omega
    have next := ih (i + 1) (by omega) (by omega)
    simp only [impl_listWithin.l0, if_pos c1, if_pos c2, rd_get hlt, lwB, List.all_cons]
    rw [w64 (x := -m) (by omega) (by omega)]
    by_cases h : -m ≤ l[i] ∧ l[i] ≤ m
    · simp only [if_neg (show ¬ l[i] < -m by omega), if_neg (show ¬ l[i] > m by omega), decide_eq_true h, Bool.true_and]
      rw [w64_succ (by omega)]
      exact next
    · simp only [decide_eq_false h, Bool.false_and]
      by_cases h3 : l[i] < -m
      · simp only [if_pos h3]; exact Ev.now _
      · simp only [if_neg h3, if_pos (show l[i] > m by omega)]; exact Ev.now _
theorem impl_listWithin_ev {m : Int} (hm : 0 ≤ m) (hm2 : m ≤ 1000000000000) {l : List Int} (hl : l.length ≤ 1048576) : Ev (fun k => impl_listWithin.f k l m) (lwB m l) := by
  unfold impl_listWithin.f
  have := impl_listWithin_l hm hm2 l hl l.length 0 (by omega) (by omega)
  rw [List.drop_zero] at this
  exact this

theorem evF_within {l : List Int} : ∀ (d i : Nat), i + d = l.length → lwB 1000 (l.drop i) = false → evF l d i = false
  | 0, i, h, hb => by
    rw [show i = l.length by omega, List.drop_length] at hb
    cases hb
  | d + 1, i, h, hb => by
    have hlt : i < l.length := by omega
    rw [drop_cons hlt] at hb
    simp only [lwB, List.all_cons] at hb
    simp only [evF]
    have e : l.getD i 0 = l[i] := by rw [List.getD_eq_getElem?_getD, List.getElem?_eq_getElem hlt]; rfl
    by_cases h0 : -1000 ≤ l[i] ∧ l[i] ≤ 1000
    · rw [decide_eq_true h0, Bool.true_and] at hb
      rw [evF_within d (i + 1) (by omega) hb, Bool.and_false]
    · rw [decide_eq_false (show ¬ evAt l i from fun e' => h0 (by have := e'.1; rw [e] at this; exact this)), Bool.false_and]
theorem lwB_at {l : List Int} (h : lwB 1000 l = true) {i : Nat} (hi : i < l.length) : -1000 ≤ l.getD i 0 ∧ l.getD i 0 ≤ 1000 := by
  have e : l.getD i 0 = l[i] := by rw [List.getD_eq_getElem?_getD, List.getElem?_eq_getElem hi]; rfl
  have := List.all_eq_true.1 h l[i] (List.getElem_mem hi)
  rw [e]
  exact of_decide_eq_true this
theorem impl_EvenOk_l {l : List Int} (hw : lwB 1000 l = true) (h1 : 1 ≤ l.length) (hl : l.length ≤ 60) (d : Nat) : ∀ i, i ≤ l.length → l.length - i = d →
    Ev (fun k => impl_EvenOk.l0 k l l (l.length : Int) (i : Int)) (evF l d i) := by
  induction d with
  | zero =>
    intro i hi hd
    have e : i = l.length := by omega
    subst e
    refine Ev_suc ?_
    simp only [impl_EvenOk.l0, Int.lt_irrefl, if_false, evF]
    exact Ev.now _
  | succ d ih =>
    intro i hi hd
    have hlt : i < l.length := by omega
    refine Ev_suc ?_
    obtain ⟨g1, g2⟩ := ev_place hlt hl
    have next := ih (i + 1) (by omega) (by omega)
    have hb := lwB_at hw hlt
    simp only [impl_EvenOk.l0, if_pos (show (0 : Int) ≤ (i : Int) by omega), if_pos (show (i : Int) < (l.length : Int) by omega), evF]
    rw [w64_succ (by omega)]
    refine Ev.bind (impl_gcd_ev (i + 1) l.length) ?_
    have e2 : wrap64 (((Nat.gcd (i + 1) l.length : Nat) : Int) - 1) = ((Nat.gcd (i + 1) l.length - 1 : Nat) : Int) := by rw [w64 (by omega) (by omega)]; omega
    rw [e2]
    simp only [if_pos (show (0 : Int) ≤ ((Nat.gcd (i + 1) l.length - 1 : Nat) : Int) by omega), if_pos (show ((Nat.gcd (i + 1) l.length - 1 : Nat) : Int) < (l.length : Int) by omega)]
    by_cases he : l.getD i 0 = l.getD (Nat.gcd (i + 1) l.length - 1) 0
    · simp only [if_pos (show rd l (i : Int) = rd l ((Nat.gcd (i + 1) l.length - 1 : Nat) : Int) from he), decide_eq_true (show evAt l i from ⟨hb, he⟩), Bool.true_and]
      exact next
    · simp only [if_neg (show ¬ rd l (i : Int) = rd l ((Nat.gcd (i + 1) l.length - 1 : Nat) : Int) from he), decide_eq_false (show ¬ evAt l i from fun e => he e.2), Bool.false_and]
      exact Ev.now _
theorem impl_EvenOk_no (l : List Int) : Ev (fun k => impl_EvenOk.j0 k l true) false := by
  refine Ev_suc ?_
  simp only [impl_EvenOk.j0, if_true]
  exact Ev.now _
theorem impl_EvenOk_ev (l : List Int) : Ev (fun k => impl_EvenOk.f k l) (evI l) := by
  unfold impl_EvenOk.f evI
  by_cases h1 : (l.length : Int) < 1
  · simp only [if_pos h1, decide_eq_false (show ¬ (1 ≤ l.length ∧ l.length ≤ 60) by omega), Bool.false_and]
    exact impl_EvenOk_no l
  by_cases h2 : (l.length : Int) > 60
  · simp only [if_neg h1, if_pos h2, decide_eq_false (show ¬ (1 ≤ l.length ∧ l.length ≤ 60) by omega), Bool.false_and]
    exact impl_EvenOk_no l
  simp only [if_neg h1, if_neg h2, decide_eq_true (show (1 ≤ l.length ∧ l.length ≤ 60) by omega), Bool.true_and]
  refine Ev.bind (impl_listWithin_ev (by omega) (by omega) (by omega)) ?_
  by_cases hw : lwB 1000 l = true
  · simp only [hw, Bool.not_true]
    refine Ev_suc ?_
    simp only [impl_EvenOk.j0, Bool.false_eq_true, if_false]
    exact impl_EvenOk_l hw (by omega) (by omega) l.length 0 (by omega) (by omega)
  · have hw' : lwB 1000 l = false := by simpa using hw
    simp only [hw', Bool.not_false]
    rw [evF_within l.length 0 (by omega) (by rw [List.drop_zero]; exact hw')]
    exact impl_EvenOk_no l

theorem eqIntS_l (l : List Int) (hl : l.length ≤ 1048576) (d : Nat) : ∀ i, i ≤ l.length → l.length - i = d →
    Ev (fun k => laws_eqIntS.l0 k l l (i : Int)) true := by
  induction d with
  | zero =>
    intro i h1 h2
    have e : i = l.length := by omega
    subst e
    refine Ev_suc ?_
    simp only [laws_eqIntS.l0, Int.lt_irrefl, if_false]
    exact Ev.now _
  | succ d ih =>
    intro i h1 h2
    refine Ev_suc ?_
    have c1 : (i : Int) < (l.length : Int) := by omega
    have c2 : (0 : Int) ≤ (i : Int) := by omega
    simp only [laws_eqIntS.l0, if_pos c1, if_pos c2, if_true]
    rw [w64_succ (by omega)]
    exact ih (i + 1) (by omega) (by omega)
theorem eqIntS_same {l : List Int} (hl : l.length ≤ 1048576) : Ev (fun k => laws_eqIntS.f k l l) true := by
  unfold laws_eqIntS.f
  simp only [if_true]
  exact eqIntS_l l hl l.length 0 (by omega) (by omega)

theorem FnExactEvenOk : laws_FnExactEvenOk.Pure := by
  intro l _ _ _
  refine Ev.rounds (r := true) ?_
  unfold laws_FnExactEvenOk.f
  by_cases h : (l.length : Int) > 1048576
  · simp only [if_pos h]; exact Ev.now _
  · simp only [if_neg h]
    have hl : l.length ≤ 1048576 := by omega
    refine Ev.bind (toIntS_ev hl) (Ev.bind (spec_EvenOk_ev l) (Ev.bind (toIntS_ev hl) (Ev.bind (impl_EvenOk_ev l) ?_)))
    simp only [bne_self_eq_false, Bool.false_eq_true, if_false]
    refine Ev.bind (toIntS_ev hl) (Ev.bind (eqIntS_same hl) ?_)
    simp only [if_true]
    exact Ev.now _

end Go.Proofs.Ytnbffmgjeeohgaa.Pure
