/- The words of the rows: what is small, and what each of the reference's functions on rows answers. No conditions. -/
import Derived.Test.YtdhcgobkkgchpaaVTellA
namespace Go.Proofs.Ytdhcgobkkgchpaa.Tell
open Go.RowKit Go.Proofs.Ytdhcgobkkgchpaa.CAll Go.Proofs.YtdhcgobkkgchpaaW.PrintWords Go.Proofs.YtdhcgobkkgchpaaW.PrintLast Go.Proofs.YtdhcgobkkgchpaaW.PrintMore Go.Proofs.Ytdhcgobkkgchpaa.Math
set_option linter.unusedVariables false
set_option linter.unusedSimpArgs false

/-- Are all of size m at most? -/
def bndB (m : Int) (l : List Int) : Bool := l.all (fun x => decide (-m ≤ x ∧ x ≤ m))
/-- Is it a row whose numbers are small? -/
def smB (l : List Int) : Bool := bndB 10000 l && ((l.length : Int) == 24)
theorem within_l (l : List Int) (hl : l.length ≤ 9223372036854775807) (d : Nat) : ∀ i, i ≤ l.length → l.length - i = d →
  Ev (fun k => CBase.impl_within.l0 k l 10000 l (l.length : Int) (i : Int)) (bndB 10000 (l.drop i) && ((l.length : Int) == 24)) := by
 induction d with
 | zero =>
  intro i h1 h2
  have e : i = l.length := by omega
  subst e
  refine Ev_suc ?_
  simp only [CBase.impl_within.l0, Int.lt_irrefl, if_false, List.drop_length, bndB, List.all_nil, Bool.true_and]
  exact Ev.now _
 | succ d ih =>
  intro i h1 h2
  have hlt : i < l.length := by omega
  rw [drop_cons hlt]
  refine Ev_suc ?_
  have c1 : (i : Int) < (l.length : Int) := by omega
  have c2 : (0 : Int) ≤ (i : Int) := by omega
  have next := ih (i + 1) (by omega) (by omega)
  simp only [CBase.impl_within.l0, if_pos c1, if_pos c2, rd_get hlt, bndB, List.all_cons]
  rw [w64 (x := -10000) (by omega) (by omega)]
  by_cases h : -10000 ≤ l[i] ∧ l[i] ≤ 10000
  ·simp only [if_neg (show ¬ l[i] < -10000 by omega), if_neg (show ¬ l[i] > 10000 by omega), decide_eq_true h, Bool.true_and]
   rw [w64_succ (by omega)]
   exact next
  ·simp only [decide_eq_false h, Bool.false_and]
   by_cases h3 : l[i] < -10000
   ·simp only [if_pos h3]; exact Ev.now _
   ·simp only [if_neg h3, if_pos (show l[i] > 10000 by omega)]; exact Ev.now _
theorem small_ev {l : List Int} (hl : l.length ≤ 9223372036854775807) : Ev (fun k => CBase.impl_small.f k l) (smB l) := by
 unfold CBase.impl_small.f
 refine Ev.bind (a := smB l) ?_ (Ev.now _)
 unfold CBase.impl_within.f
 have := within_l l hl l.length 0 (by omega) (by omega)
 rw [List.drop_zero] at this
 exact this
theorem l1In_eq (a b c : Int) : spec_l1In.f a b c = some (decide (b ≤ a ∧ a ≤ c)) := by
 unfold spec_l1In.f
 by_cases h : a ≥ b
 ·rw [if_pos h]
  by_cases h2 : a ≤ c
  ·rw [decide_eq_true h2, decide_eq_true ⟨h, h2⟩]
  ·rw [decide_eq_false h2, decide_eq_false (fun e => h2 e.2)]
 ·rw [if_neg h, decide_eq_false (fun e => h e.1)]
/-- Is it a row? -/
def rkB (l : List Int) : Bool := bndB 1000000000 l && ((l.length : Int) == 24)
theorem rowok_l (l : List Int) (hl : l.length ≤ 9223372036854775807) (d : Nat) : ∀ i, i ≤ l.length → l.length - i = d →
  Ev (fun k => spec_RowOk.l0 k l (i : Int)) (bndB 1000000000 (l.drop i) && ((l.length : Int) == 24)) := by
 induction d with
 | zero =>
  intro i h1 h2
  have e : i = l.length := by omega
  subst e
  refine Ev_suc ?_
  simp only [spec_RowOk.l0, Int.lt_irrefl, if_false, List.drop_length, bndB, List.all_nil, Bool.true_and]
  exact Ev.now _
 | succ d ih =>
  intro i h1 h2
  have hlt : i < l.length := by omega
  rw [drop_cons hlt]
  refine Ev_suc ?_
  have c1 : (i : Int) < (l.length : Int) := by omega
  have c2 : (0 : Int) ≤ (i : Int) := by omega
  have next := ih (i + 1) (by omega) (by omega)
  simp only [spec_RowOk.l0, if_pos c1, if_pos c2, rd_get hlt, bndB, List.all_cons, l1In_eq, Option.bind_some, decide_eq_true_eq]
  by_cases h : -1000000000 ≤ l[i] ∧ l[i] ≤ 1000000000
  ·simp only [if_pos h, decide_eq_true h, Bool.true_and]
   rw [w64_succ (by omega)]
   exact next
  ·simp only [if_neg h, decide_eq_false h, Bool.false_and]
   exact Ev.now _
theorem rowok_ev {l : List Int} (hl : l.length ≤ 9223372036854775807) : Ev (fun k => spec_RowOk.f k l) (rkB l) := by
 unfold spec_RowOk.f
 have := rowok_l l hl l.length 0 (by omega) (by omega)
 rw [List.drop_zero] at this
 exact this
theorem sm_len {l : List Int} (h : smB l = true) : l.length = 24 := by
 unfold smB at h; simp only [Bool.and_eq_true, beq_iff_eq] at h; omega
theorem sm_all {l : List Int} (h : smB l = true) : ∀ x ∈ l, -10000 ≤ x ∧ x ≤ 10000 := by
 unfold smB bndB at h
 simp only [Bool.and_eq_true, List.all_eq_true, decide_eq_true_eq] at h
 exact h.1
theorem rk_of_sm {l : List Int} (h : smB l = true) : rkB l = true := by
 have h1 := sm_len h
 have h2 := sm_all h
 unfold rkB bndB
 simp only [Bool.and_eq_true, List.all_eq_true, decide_eq_true_eq, beq_iff_eq]
 exact ⟨fun x hx => by have := h2 x hx; omega, by omega⟩
theorem rk_len {l : List Int} (h : rkB l = true) : l.length = 24 := by
 unfold rkB at h; simp only [Bool.and_eq_true, beq_iff_eq] at h; omega
def dirR (l0 l1 : List Int) : List Int := (spec_l2Times.f 200 l0 l1).getD []
theorem dirR_eq {l0 l1 : List Int} (h0 : l0.length = 24) (h1 : l1.length = 24) : spec_l2Times.f 200 l0 l1 = some (dirR l0 l1) := by
 obtain ⟨f1, f2, f3, f4, f5, f6, f7, f8, f9, f10, f11, f12, f13, f14, f15, f16, f17, f18, f19, f20, f21, f22, f23, f24, rfl⟩ := row24 h0
 obtain ⟨g1, g2, g3, g4, g5, g6, g7, g8, g9, g10, g11, g12, g13, g14, g15, g16, g17, g18, g19, g20, g21, g22, g23, g24, rfl⟩ := row24 h1
 unfold dirR
 rw [dir_spec]
 rfl
/-- What the product of two rows answers. -/
def tV (l0 l1 : List Int) : List Int × Bool := if (smB l0 && smB l1) = true then (dirR l0 l1, true) else ([], false)
theorem times_l {l0 l1 : List Int} (h0 : l0.length = 24) (h1 : l1.length = 24) (d : Nat) : ∀ i, i ≤ 24 → 24 - i = d →
  Ev (fun k => spec_TimesOf.l0 k l0 l1 (i : Int)) (if (bndB 10000 (l0.drop i) && bndB 10000 (l1.drop i)) = true then (dirR l0 l1, true) else ([], false)) := by
 induction d with
 | zero =>
  intro i h2 h3
  have e : i = 24 := by omega
  subst e
  rw [List.drop_eq_nil_of_le (by omega), List.drop_eq_nil_of_le (by omega)]
  refine Ev_suc ?_
  have c1 : ¬ (((24 : Nat) : Int) < 24) := by omega
  simp only [spec_TimesOf.l0, if_neg c1, bndB, List.all_nil, Bool.and_self, if_true]
  exact Ev.bind (Ev.of (fun k => spec_l2Times.mono _ _ k) (dirR_eq h0 h1)) (Ev.now _)
 | succ d ih =>
  intro i h2 h3
  have hlt0 : i < l0.length := by omega
  have hlt1 : i < l1.length := by omega
  have next := ih (i + 1) (by omega) (by omega)
  rw [drop_cons hlt0, drop_cons hlt1]
  refine Ev_suc ?_
  have c1 : (i : Int) < 24 := by omega
  have c2 : (0 : Int) ≤ (i : Int) := by omega
  have c3 : (i : Int) < (l0.length : Int) := by omega
  have c4 : (i : Int) < (l1.length : Int) := by omega
  simp only [spec_TimesOf.l0, if_pos c1, if_pos c2, if_pos c3, if_pos c4, rd_get hlt0, rd_get hlt1, bndB, List.all_cons, l1In_eq, Option.bind_some, decide_eq_true_eq]
  by_cases a : -10000 ≤ l0[i] ∧ l0[i] ≤ 10000
  ·simp only [if_pos a, decide_eq_true a, Bool.true_and]
   by_cases b : -10000 ≤ l1[i] ∧ l1[i] ≤ 10000
   ·simp only [if_pos b, decide_eq_true b, Bool.true_and]
    rw [w64_succ (by omega)]
    exact next
   ·simp only [if_neg b, decide_eq_false b, Bool.false_and, Bool.and_false, Bool.false_eq_true, if_false]
    exact Ev.now _
  ·simp only [if_neg a, decide_eq_false a, Bool.false_and, Bool.false_eq_true, if_false]
   exact Ev.now _
theorem times_no (l0 l1 : List Int) : Ev (fun k => spec_TimesOf.j0 k l0 l1 true) ([], false) := by
 refine Ev_suc ?_
 simp only [spec_TimesOf.j0, if_true]
 exact Ev.now _
theorem TimesOf_ev {l0 l1 : List Int} (h0 : l0.length ≤ 9223372036854775807) (h1 : l1.length ≤ 9223372036854775807) : Ev (fun k => spec_TimesOf.f k l0 l1) (tV l0 l1) := by
 unfold spec_TimesOf.f
 refine Ev.bind (rowok_ev h0) ?_
 cases a : rkB l0 with
 | false =>
  have : smB l0 = false := by
   cases e : smB l0 with
   | false => rfl
   | true => rw [rk_of_sm e] at a; cases a
  simp only [Bool.false_eq_true, if_false, tV, this, Bool.false_and]
  exact times_no _ _
 | true =>
  simp only [if_true]
  refine Ev.bind (rowok_ev h1) ?_
  cases b : rkB l1 with
  | false =>
   have : smB l1 = false := by
    cases e : smB l1 with
    | false => rfl
    | true => rw [rk_of_sm e] at b; cases b
   simp only [tV, this, Bool.and_false, Bool.false_eq_true, if_false, Bool.not_false]
   exact times_no _ _
  | true =>
   have e0 := rk_len a
   have e1 := rk_len b
   refine Ev_suc ?_
   simp only [spec_TimesOf.j0, Bool.not_true, Bool.false_eq_true, if_false]
   have := times_l e0 e1 24 0 (by omega) (by omega)
   rw [List.drop_zero, List.drop_zero] at this
   have s0 : smB l0 = bndB 10000 l0 := by unfold smB; rw [show ((l0.length : Int) == 24) = true by rw [beq_iff_eq]; omega, Bool.and_true]
   have s1 : smB l1 = bndB 10000 l1 := by unfold smB; rw [show ((l1.length : Int) == 24) = true by rw [beq_iff_eq]; omega, Bool.and_true]
   unfold tV
   rw [s0, s1]
   exact this
theorem nrow_cases (a : Int) : (0 ≤ a ∧ a < 8 → spec_NamedRow.f 200 a = some (nrow a) ∧ Walk.rowF (fun k i => Walk.impl_NamedRowLit.f k i a) 200 = some (nrow a)) ∧ (¬ (0 ≤ a ∧ a < 8) → nrow a = []) := by
 constructor
 ·intro h
  rcases (show a = 0 ∨ a = 1 ∨ a = 2 ∨ a = 3 ∨ a = 4 ∨ a = 5 ∨ a = 6 ∨ a = 7 by omega) with rfl | rfl | rfl | rfl | rfl | rfl | rfl | rfl
  ·exact ⟨named_spec0, named_walk0⟩
  ·exact ⟨named_spec1, named_walk1⟩
  ·exact ⟨named_spec2, named_walk2⟩
  ·exact ⟨named_spec3, named_walk3⟩
  ·exact ⟨named_spec4, named_walk4⟩
  ·exact ⟨named_spec5, named_walk5⟩
  ·exact ⟨named_spec6, named_walk6⟩
  ·exact ⟨named_spec7, named_walk7⟩
 ·intro h
  unfold nrow
  rw [if_neg (show ¬ a = 0 by omega), if_neg (show ¬ a = 1 by omega), if_neg (show ¬ a = 2 by omega), if_neg (show ¬ a = 3 by omega), if_neg (show ¬ a = 4 by omega), if_neg (show ¬ a = 5 by omega), if_neg (show ¬ a = 6 by omega), if_neg (show ¬ a = 7 by omega)]
theorem NamedRow_ev (a : Int) : Ev (fun k => spec_NamedRow.f k a) (nrow a) := by
 by_cases h : 0 ≤ a ∧ a < 8
 ·exact Ev.of (fun k => spec_NamedRow.mono _ k) ((nrow_cases a).1 h).1
 ·rw [(nrow_cases a).2 h]
  unfold spec_NamedRow.f
  refine Ev_suc ?_
  have c : ¬ (0 ≤ a ∧ a ≤ 7) := by omega
  simp only [spec_NamedRow.l0, l1In_eq, Option.bind_some, decide_eq_true_eq, if_neg c, if_pos (show (1 : Int) ≤ 24 by decide)]
  exact Ev.now _
theorem tV_snd (l0 l1 : List Int) : (tV l0 l1).2 = (smB l0 && smB l1) := by
 unfold tV; cases (smB l0 && smB l1) <;> rfl
def uniR (l0 l1 : List Int) : List Int := ((spec_UnitaryTimes.l0 700 l0 l1 true [] 1).getD ([], true)).1
theorem uniR_eq {l0 l1 : List Int} (h0 : smB l0 = true) (h1 : smB l1 = true) : spec_UnitaryTimes.l0 700 l0 l1 true [] 1 = some (uniR l0 l1, true) ∧ Walk.rowF (fun k i => Walk.impl_UnitaryTimesLit.f k i l0 l1) 200 = some (uniR l0 l1) := by
 obtain ⟨f1, f2, f3, f4, f5, f6, f7, f8, f9, f10, f11, f12, f13, f14, f15, f16, f17, f18, f19, f20, f21, f22, f23, f24, rfl⟩ := row24 (sm_len h0)
 obtain ⟨g1, g2, g3, g4, g5, g6, g7, g8, g9, g10, g11, g12, g13, g14, g15, g16, g17, g18, g19, g20, g21, g22, g23, g24, rfl⟩ := row24 (sm_len h1)
 unfold uniR
 rw [uni_spec, uni_walk]
 exact ⟨rfl, rfl⟩
/-- What the unitary product answers. -/
def uV (l0 l1 : List Int) : List Int × Bool := if (smB l0 && smB l1) = true then (uniR l0 l1, true) else ([], false)
theorem UnitaryTimes_ev {l0 l1 : List Int} (h0 : l0.length ≤ 9223372036854775807) (h1 : l1.length ≤ 9223372036854775807) : Ev (fun k => spec_UnitaryTimes.f k l0 l1) (uV l0 l1) := by
 unfold spec_UnitaryTimes.f
 refine Ev.bind (TimesOf_ev h0 h1) ?_
 rw [tV_snd]
 unfold uV
 cases h : (smB l0 && smB l1) with
 | false =>
  refine Ev_suc ?_
  simp only [spec_UnitaryTimes.l0, if_pos (show (1 : Int) ≤ 24 by decide), Bool.false_eq_true, if_false]
  refine Ev_suc ?_
  simp only [spec_UnitaryTimes.j1, Bool.false_eq_true, if_false]
  exact Ev.now _
 | true =>
  rw [if_pos rfl]
  have hh := Bool.and_eq_true_iff.1 h
  exact Ev.of (fun k => (spec_UnitaryTimes.mono_l k).1 _ _ _ _ _) (uniR_eq hh.1 hh.2).1


end Go.Proofs.Ytdhcgobkkgchpaa.Tell
