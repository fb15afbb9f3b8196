/- The program's FromRounded answers as the reference's, for every row, with memory of its own. No conditions. -/
import Derived.Test.YtdhcgobkkgchpaaCLFnExactFromRounded
import Derived.Test.YtdhcgobkkgchpaaTellD
import Derived.Test.YtdhcgobkkgchpaaEvs
namespace Go.Proofs.Ytdhcgobkkgchpaa.Pure
open Go.RowKit Go.Proofs.Ytdhcgobkkgchpaa.CAll Go.Proofs.Ytdhcgobkkgchpaa.Tell Go.Proofs.YtdhcgobkkgchpaaW.PrintWords Go.Proofs.YtdhcgobkkgchpaaW.PrintLast Go.Proofs.YtdhcgobkkgchpaaW.PrintMore Go.Proofs.Ytdhcgobkkgchpaa.Math
set_option linter.unusedVariables false
set_option linter.unusedSimpArgs false
theorem toIntS_l (l : List Int) (hl : l.length ≤ 1048576) (d : Nat) : ∀ i, i ≤ l.length → l.length - i = d →
    Ev (fun k => laws_toIntS.l0 k l (l.take i ++ List.replicate (l.length - i) 0) (i : Int)) l := by
  induction d with
  | zero =>
    intro i h1 h2
    have e : i = l.length := by omega
    subst e
    refine Ev_suc ?_
    simp only [laws_toIntS.l0, Int.lt_irrefl, if_false, List.take_length, Nat.sub_self, List.replicate_zero, List.append_nil]
    exact Ev.now _
  | succ d ih =>
    intro i h1 h2
    have hlt : i < l.length := by omega
    refine Ev_suc ?_
    have c1 : (i : Int) < (l.length : Int) := by omega
    have c2 : (0 : Int) ≤ (i : Int) := by omega
    have ht : (l.take i).length = i := by simp; omega
    have c3 : (i : Int) < ((l.take i ++ List.replicate (l.length - i) 0).length : Int) := by
      rw [List.length_append, ht, List.length_replicate]; omega
    simp only [laws_toIntS.l0, if_pos c1, if_pos c2, if_pos c3, rd_get hlt, Int.toNat_natCast]
    have e : (l.take i ++ List.replicate (l.length - i) 0).set i l[i] = l.take (i + 1) ++ List.replicate (l.length - (i + 1)) 0 := by
      rw [List.set_append_right _ _ (by omega), ht, Nat.sub_self, show l.length - i = (l.length - (i + 1)) + 1 by omega, List.replicate_succ, List.set_cons_zero, List.take_succ_eq_append_getElem hlt, List.append_assoc]
      rfl
    rw [e, w64_succ (by omega)]
    exact ih (i + 1) (by omega) (by omega)
theorem toIntS_ev {l : List Int} (hl : l.length ≤ 1048576) : Ev (fun k => laws_toIntS.f k l) l := by
  unfold laws_toIntS.f
  simp only [if_pos (show (0 : Int) ≤ (l.length : Int) by omega), Int.toNat_natCast, if_pos (show l.length ≤ 35184372088832 by omega)]
  have := toIntS_l l hl l.length 0 (by omega) (by omega)
  simp only [List.take_zero, List.nil_append, Nat.sub_zero] at this
  exact this
theorem eqIntS_l (l : List Int) (hl : l.length ≤ 1048576) (d : Nat) : ∀ i, i ≤ l.length → l.length - i = d →
    Ev (fun k => laws_eqIntS.l0 k l l (i : Int)) true := by
  induction d with
  | zero =>
    intro i h1 h2
    have e : i = l.length := by omega
    subst e
    refine Ev_suc ?_
    simp only [laws_eqIntS.l0, Int.lt_irrefl, if_false]
    exact Ev.now _
  | succ d ih =>
    intro i h1 h2
    refine Ev_suc ?_
    have c1 : (i : Int) < (l.length : Int) := by omega
    have c2 : (0 : Int) ≤ (i : Int) := by omega
    simp only [laws_eqIntS.l0, if_pos c1, if_pos c2, if_true]
    rw [w64_succ (by omega)]
    exact ih (i + 1) (by omega) (by omega)
theorem eqIntS_same {l : List Int} (hl : l.length ≤ 1048576) : Ev (fun k => laws_eqIntS.f k l l) true := by
  unfold laws_eqIntS.f
  simp only [if_true]
  exact eqIntS_l l hl l.length 0 (by omega) (by omega)
/-- 1, 2, and so on up to n. -/
def upL (n : Nat) : List Int := (List.range n).map (fun i => ((i + 1 : Nat) : Int))
theorem upL_length (n : Nat) : (upL n).length = n := by simp [upL]
theorem upL_succ (n : Nat) : upL (n + 1) = upL n ++ [((n + 1 : Nat) : Int)] := by simp [upL, List.range_succ]
theorem markIntS_l (l : List Int) (hl : l.length ≤ 1048576) (d : Nat) : ∀ i, i ≤ l.length → l.length - i = d →
    Ev (fun k => laws_markIntS.l0 k (upL i ++ l.drop i) ((i + 1 : Nat) : Int) (i : Int)) (((l.length + 1 : Nat) : Int), upL l.length) := by
  induction d with
  | zero =>
    intro i h1 h2
    have e : i = l.length := by omega
    subst e
    refine Ev_suc ?_
    simp only [laws_markIntS.l0, List.drop_length, List.append_nil, upL_length, Int.lt_irrefl, if_false]
    exact Ev.now _
  | succ d ih =>
    intro i h1 h2
    have hlt : i < l.length := by omega
    refine Ev_suc ?_
    have c1 : (i : Int) < ((upL i ++ l.drop i).length : Int) := by rw [List.length_append, upL_length, List.length_drop]; omega
    have c2 : (0 : Int) ≤ (i : Int) := by omega
    have e : (upL i ++ l.drop i).set i ((i + 1 : Nat) : Int) = upL (i + 1) ++ l.drop (i + 1) := by
      rw [List.set_append_right _ _ (by rw [upL_length]; exact Nat.le_refl _), upL_length, Nat.sub_self, drop_cons hlt, List.set_cons_zero, upL_succ, List.append_assoc]
      rfl
    simp only [laws_markIntS.l0, if_pos c1, if_pos c2, Int.toNat_natCast, e]
    rw [w64_succ (by omega), w64_succ (by omega)]
    exact ih (i + 1) (by omega) (by omega)
theorem markIntS_ev {l : List Int} (hl : l.length ≤ 1048576) : Ev (fun k => laws_markIntS.f k l 1) (((l.length + 1 : Nat) : Int), upL l.length) :=
  markIntS_l l hl l.length 0 (by omega) (by omega)
theorem upL_get {n i : Nat} (h : i < n) : rd (upL n) (i : Int) = ((i + 1 : Nat) : Int) := by
  rw [rd_get (by rw [upL_length]; exact h)]
  simp [upL]
theorem heldIntS_l (n : Nat) (hn : n ≤ 1048576) (d : Nat) : ∀ i, i ≤ n → n - i = d →
    Ev (fun k => laws_heldIntS.l0 k (upL n) ((i + 1 : Nat) : Int) (i : Int)) ((n + 1 : Nat) : Int) := by
  induction d with
  | zero =>
    intro i h1 h2
    have e : i = n := by omega
    subst e
    refine Ev_suc ?_
    simp only [laws_heldIntS.l0, upL_length, Int.lt_irrefl, if_false]
    exact Ev.now _
  | succ d ih =>
    intro i h1 h2
    have hlt : i < n := by omega
    refine Ev_suc ?_
    simp only [laws_heldIntS.l0, upL_length, if_pos (show (i : Int) < (n : Int) by omega), if_pos (show (0 : Int) ≤ (i : Int) by omega), upL_get hlt, if_true]
    rw [w64_succ (by omega), w64_succ (by omega)]
    exact ih (i + 1) (by omega) (by omega)
theorem heldIntS_ev {n : Nat} (hn : n ≤ 1048576) : Ev (fun k => laws_heldIntS.f k (upL n) 1) ((n + 1 : Nat) : Int) :=
  heldIntS_l n hn n 0 (by omega) (by omega)
theorem FnExactFromRounded : laws_FnExactFromRounded.Pure := by
  intro l0 _ _ _
  refine Ev.rounds (r := true) ?_
  unfold laws_FnExactFromRounded.f
  by_cases h1 : (l0.length : Int) > 1048576
  · simp only [if_pos h1]; exact Ev.now _
  · simp only [if_neg h1]
    have hl : l0.length ≤ 1048576 := by omega
    obtain ⟨g, ok, hv, hg⟩ : ∃ g ok, Ev (fun k => spec_FromRounded.f k l0) (g, ok) ∧ g.length ≤ 1048576 := ⟨_, _, FromRounded_ev (by omega), Nat.le_trans (oV_len frnd_len) (by decide)⟩
    have hw : Ev (fun k => impl_FromRounded.f k l0) (g, ok) := hv
    refine Ev.bind (toIntS_ev hl) (Ev.bind hv (Ev.bind (toIntS_ev hl) (Ev.bind hw (Ev.bind (eqIntS_same hg) ?_))))
    simp only [if_true, bne_self_eq_false]
    refine Ev_suc ?_
    simp only [laws_FnExactFromRounded.j0, Bool.false_eq_true, if_false]
    refine Ev.bind (toIntS_ev hl) (Ev.bind (eqIntS_same hl) ?_)
    simp only [if_true]
    refine Ev.bind (markIntS_ev hl) ?_
    simp only [if_neg (show ¬ ((l0.length + 1 : Nat) : Int) < 0 by omega)]
    refine Ev.bind (eqIntS_same hg) ?_
    simp only [if_true, bne_self_eq_false]
    refine Ev_suc ?_
    simp only [laws_FnExactFromRounded.j1, Bool.false_eq_true, if_false]
    refine Ev.bind (markIntS_ev hg) (Ev.bind (heldIntS_ev hg) ?_)
    simp only [if_neg (show ¬ ((g.length + 1 : Nat) : Int) < 0 by omega), if_true]
    refine Ev.bind (toIntS_ev hl) (Ev.bind hw (Ev.bind (eqIntS_same hg) ?_))
    simp only [if_true, bne_self_eq_false]
    refine Ev_suc ?_
    simp only [laws_FnExactFromRounded.j2, Bool.false_eq_true, if_false]
    refine Ev.bind (heldIntS_ev hg) ?_
    simp only [if_neg (show ¬ ((g.length + 1 : Nat) : Int) < 0 by omega), if_true]
    exact Ev.now _

end Go.Proofs.Ytdhcgobkkgchpaa.Pure
