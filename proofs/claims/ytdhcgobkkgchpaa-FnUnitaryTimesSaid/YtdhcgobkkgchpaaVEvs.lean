/- Small words on rounds and on whole numbers that fit: no program in sight. No conditions. -/
import Derived.Test.YtdhcgobkkgchpaaWWords

set_option linter.unusedVariables false
set_option linter.unusedSimpArgs false
namespace Go.Proofs.Ytdhcgobkkgchpaa.Math
open Go.RowKit Go.Proofs.YtdhcgobkkgchpaaW.PrintWords

theorem Ev_suc {α : Type} {g : Nat → Option α} {r : α} (h : Ev (fun k => g (k + 1)) r) : Ev g r := Ev.step (fun _ => rfl) h

theorem w64 {x : Int} (h1 : -9223372036854775808 ≤ x) (h2 : x ≤ 9223372036854775807) : wrap64 x = x := by unfold wrap64; omega

theorem w64_succ {i : Nat} (h : i < 9223372036854775807) : wrap64 ((i : Int) + 1) = ((i + 1 : Nat) : Int) := by
 rw [w64 (by omega) (by omega)]; rfl

theorem w64_nat {i : Nat} (h : i ≤ 9223372036854775807) : wrap64 (i : Int) = (i : Int) := w64 (by omega) (by omega)

theorem w64_mul {a b : Nat} (h : a * b ≤ 9223372036854775807) : wrap64 ((a : Int) * (b : Int)) = ((a * b : Nat) : Int) := by
 rw [show (a : Int) * (b : Int) = ((a * b : Nat) : Int) by rw [Int.natCast_mul]]
 exact w64_nat h

theorem tmod_nat (a b : Nat) : Int.tmod (a : Int) (b : Int) = ((a % b : Nat) : Int) := rfl

theorem tdiv_nat (a b : Nat) : Int.tdiv (a : Int) (b : Int) = ((a / b : Nat) : Int) := rfl

theorem tmod2 (a : Nat) : Int.tmod (a : Int) 2 = ((a % 2 : Nat) : Int) := rfl

theorem tdiv2 (a : Nat) : Int.tdiv (a : Int) 2 = ((a / 2 : Nat) : Int) := rfl

theorem w64_div {a b : Nat} (h : a ≤ 9223372036854775807) : wrap64 (Int.tdiv (a : Int) (b : Int)) = ((a / b : Nat) : Int) := by
 rw [tdiv_nat]
 exact w64_nat (by have := Nat.div_le_self a b; omega)

/-- Whole numbers as the program has them. -/
def lI (l : List Nat) : List Int := l.map (fun (x : Nat) => (x : Int))

theorem lI_length (l : List Nat) : (lI l).length = l.length := by simp [lI]
theorem lI_append (l m : List Nat) : lI (l ++ m) = lI l ++ lI m := by simp [lI]

theorem rd_get {l : List Int} {i : Nat} (h : i < l.length) : rd l (i : Int) = l[i] := by
 unfold rd
 rw [Int.toNat_natCast, List.getD_eq_getElem?_getD, List.getElem?_eq_getElem h]; rfl

theorem drop_cons {α : Type} {l : List α} {i : Nat} (h : i < l.length) : l.drop i = l[i] :: l.drop (i + 1) := List.drop_eq_getElem_cons h

/-- Is it from 1 up to the greatest number? -/
def inN (a : Int) : Prop := 1 ≤ a ∧ a ≤ 10000
instance (a : Int) : Decidable (inN a) := inferInstanceAs (Decidable (1 ≤ a ∧ a ≤ 10000))

theorem inN_nat {a : Int} (h : inN a) : ∃ n : Nat, a = (n : Int) ∧ 1 ≤ n ∧ n ≤ 10000 := ⟨a.toNat, by have := h.1; omega, by have := h.1; omega, by have := h.1; have := h.2; omega⟩


end Go.Proofs.Ytdhcgobkkgchpaa.Math
