/- The functions over closures, by the words of the reference: their calls come out of my walks. No conditions. -/
import Derived.Test.YtdhcgobkkgchpaaVTellB
namespace Go.Proofs.Ytdhcgobkkgchpaa.CAll
open Go.RowKit Go.Proofs.Ytdhcgobkkgchpaa.Tell Go.Proofs.YtdhcgobkkgchpaaW.PrintWords Go.Proofs.YtdhcgobkkgchpaaW.PrintLast Go.Proofs.YtdhcgobkkgchpaaW.PrintMore Go.Proofs.Ytdhcgobkkgchpaa.Math
set_option linter.unusedVariables false
set_option linter.unusedSimpArgs false

theorem uV_case {l0 l1 r1 : List Int} {r2 : Bool} (e : (r1, r2) = uV l0 l1) :
  r2 = (smB l0 && smB l1) ∧ (((smB l0 && smB l1) = false ∧ r1 = []) ∨ ((smB l0 && smB l1) = true ∧ Walk.rowF (fun k i => Walk.impl_UnitaryTimesLit.f k i l0 l1) 200 = some r1)) := by
 unfold uV at e
 cases h : (smB l0 && smB l1) with
 | false => rw [h] at e; simp only [Bool.false_eq_true, if_false, Prod.mk.injEq] at e; exact ⟨e.2, Or.inl ⟨rfl, e.1⟩⟩
 | true =>
  rw [h] at e; simp only [if_true, Prod.mk.injEq] at e
  have hh := Bool.and_eq_true_iff.1 h
  exact ⟨e.2, Or.inr ⟨rfl, by rw [e.1]; exact (uniR_eq hh.1 hh.2).2⟩⟩
def impl_NamedRow.f (k : Nat) (a0 : Int) : Option (List Int) := spec_NamedRow.f k a0
theorem impl_NamedRow.mono : ∀ a0 k, LeO (impl_NamedRow.f k a0) (impl_NamedRow.f (k + 1) a0) := spec_NamedRow.mono
theorem impl_NamedRow.calls (k : Nat) (a0 : Int) (r : List Int) (w : World) (h : impl_NamedRow.f k a0 = some r) :
  Calls Try.prog 20 #[.int .i64 a0] w fun e w' => ∃ v0_ : Value, e = .returned (v0_) ∧ Kd.R (Kd.int .i64) 3 w' w.heap.size (fun _ => True) v0_ r ∧ Below w.heap.size w w' := by
 obtain rfl := Ev_det (NamedRow_ev a0) (fun k => spec_NamedRow.mono _ k) h
 by_cases c : 0 ≤ a0 ∧ a0 < 8
 ·exact Walk.NamedRow_calls 200 a0 _ w (Or.inr ⟨c, ((nrow_cases a0).1 c).2⟩)
 ·rw [(nrow_cases a0).2 c]
  exact Walk.NamedRow_calls 200 a0 [] w (Or.inl ⟨by omega, rfl⟩)
def impl_UnitaryTimes.f (k : Nat) (l0 : List Int) (l1 : List Int) : Option (List Int × Bool) := spec_UnitaryTimes.f k l0 l1
theorem impl_UnitaryTimes.mono : ∀ a0 a1 k, LeO (impl_UnitaryTimes.f k a0 a1) (impl_UnitaryTimes.f (k + 1) a0 a1) := spec_UnitaryTimes.mono
theorem impl_UnitaryTimes.calls (k : Nat) (A0 : Option Addr) (c0 : Nat) (l0 : List Int) (A1 : Option Addr) (c1 : Nat) (l1 : List Int) (r1 : List Int) (r2 : Bool) (w : World) (hr0 : Kd.C (Kd.int .i64) w A0 l0.length l0) (hc0 : l0.length ≤ c0) (hr1 : Kd.C (Kd.int .i64) w A1 l1.length l1) (hc1 : l1.length ≤ c1) (h : impl_UnitaryTimes.f k l0 l1 = some (r1, r2)) :
  Calls Try.prog 25 #[.slice A0 l0.length c0, .slice A1 l1.length c1] w fun e w' => ∃ v0_ : Value, e = .returned (.tuple #[v0_, .bool r2]) ∧ Kd.R (Kd.int .i64) 3 w' w.heap.size (fun _ => True) v0_ r1 ∧ Below w.heap.size w w' := by
 have hl0 : l0.length ≤ 9223372036854775807 := hr0.2.1
 have hl1 : l1.length ≤ 9223372036854775807 := hr1.2.1
 obtain ⟨rfl, hv⟩ := uV_case (Ev_det (UnitaryTimes_ev hl0 hl1) (fun k => spec_UnitaryTimes.mono _ _ k) h)
 obtain ⟨ks0, hs0⟩ := (small_ev hl0).rounds
 obtain ⟨ks1, hs1⟩ := (small_ev hl1).rounds
 exact Walk.UnitaryTimes_calls 200 ks0 ks1 A0 c0 l0 A1 c1 l1 w hr0 hc0 hr1 hc1 _ _ hs0 hs1 r1 hv

end Go.Proofs.Ytdhcgobkkgchpaa.CAll
