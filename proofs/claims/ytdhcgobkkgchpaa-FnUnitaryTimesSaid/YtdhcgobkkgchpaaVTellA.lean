/- Rows of 24 numbers: what the print's words answer at 24 free numbers, by the kernel. No conditions. -/
import Derived.Test.YtdhcgobkkgchpaaVCW
import Derived.Test.YtdhcgobkkgchpaaVWrap
import Derived.Test.YtdhcgobkkgchpaaVEvs
namespace Go.Proofs.Ytdhcgobkkgchpaa.Tell
open Go.RowKit Go.Proofs.Ytdhcgobkkgchpaa.CAll Go.Proofs.YtdhcgobkkgchpaaW.PrintWords Go.Proofs.YtdhcgobkkgchpaaW.PrintLast Go.Proofs.YtdhcgobkkgchpaaW.PrintMore Go.Proofs.Ytdhcgobkkgchpaa.Math
set_option linter.unusedVariables false
set_option linter.unusedSimpArgs false
set_option maxRecDepth 100000

theorem Ev_det {α : Type} {g : Nat → Option α} {v r : α} (h : Ev g v) (hm : ∀ k, LeO (g k) (g (k + 1))) {k : Nat} (hk : g k = some r) : r = v := by
 obtain ⟨K, hK⟩ := h
 obtain ⟨K', hK'⟩ := Ev.of hm hk
 have a := hK (K + K') (by omega)
 have b := hK' (K + K') (by omega)
 exact Option.some.inj (b.symm.trans a)
theorem len_cons {α : Type} {m : Nat} {l : List α} (h : l.length = m + 1) : ∃ a t, l = a :: t ∧ t.length = m := by
 cases l with
 | nil => simp at h
 | cons a t => exact ⟨a, t, rfl, by simpa using h⟩
theorem row24 {l : List Int} (h : l.length = 24) : ∃ f1 f2 f3 f4 f5 f6 f7 f8 f9 f10 f11 f12 f13 f14 f15 f16 f17 f18 f19 f20 f21 f22 f23 f24 : Int, l = [f1, f2, f3, f4, f5, f6, f7, f8, f9, f10, f11, f12, f13, f14, f15, f16, f17, f18, f19, f20, f21, f22, f23, f24] := by
 obtain ⟨f1, t1, rfl, h1⟩ := len_cons h
 obtain ⟨f2, t2, rfl, h2⟩ := len_cons h1
 obtain ⟨f3, t3, rfl, h3⟩ := len_cons h2
 obtain ⟨f4, t4, rfl, h4⟩ := len_cons h3
 obtain ⟨f5, t5, rfl, h5⟩ := len_cons h4
 obtain ⟨f6, t6, rfl, h6⟩ := len_cons h5
 obtain ⟨f7, t7, rfl, h7⟩ := len_cons h6
 obtain ⟨f8, t8, rfl, h8⟩ := len_cons h7
 obtain ⟨f9, t9, rfl, h9⟩ := len_cons h8
 obtain ⟨f10, t10, rfl, h10⟩ := len_cons h9
 obtain ⟨f11, t11, rfl, h11⟩ := len_cons h10
 obtain ⟨f12, t12, rfl, h12⟩ := len_cons h11
 obtain ⟨f13, t13, rfl, h13⟩ := len_cons h12
 obtain ⟨f14, t14, rfl, h14⟩ := len_cons h13
 obtain ⟨f15, t15, rfl, h15⟩ := len_cons h14
 obtain ⟨f16, t16, rfl, h16⟩ := len_cons h15
 obtain ⟨f17, t17, rfl, h17⟩ := len_cons h16
 obtain ⟨f18, t18, rfl, h18⟩ := len_cons h17
 obtain ⟨f19, t19, rfl, h19⟩ := len_cons h18
 obtain ⟨f20, t20, rfl, h20⟩ := len_cons h19
 obtain ⟨f21, t21, rfl, h21⟩ := len_cons h20
 obtain ⟨f22, t22, rfl, h22⟩ := len_cons h21
 obtain ⟨f23, t23, rfl, h23⟩ := len_cons h22
 obtain ⟨f24, t24, rfl, h24⟩ := len_cons h23
 obtain rfl := List.length_eq_zero_iff.1 h24
 exact ⟨f1, f2, f3, f4, f5, f6, f7, f8, f9, f10, f11, f12, f13, f14, f15, f16, f17, f18, f19, f20, f21, f22, f23, f24, rfl⟩
/-- The row of a name. -/
def nrow (a : Int) : List Int :=
 if a = 0 then [1, 0, 0, 0, 0, 0, 0, 0, 0, 0, 0, 0, 0, 0, 0, 0, 0, 0, 0, 0, 0, 0, 0, 0]
 else if a = 1 then [1, 1, 1, 1, 1, 1, 1, 1, 1, 1, 1, 1, 1, 1, 1, 1, 1, 1, 1, 1, 1, 1, 1, 1]
 else if a = 2 then [1, 2, 3, 4, 5, 6, 7, 8, 9, 10, 11, 12, 13, 14, 15, 16, 17, 18, 19, 20, 21, 22, 23, 24]
 else if a = 3 then [1, 2, 2, 3, 2, 4, 2, 4, 3, 4, 2, 6, 2, 4, 4, 5, 2, 6, 2, 6, 4, 4, 2, 8]
 else if a = 4 then [1, 3, 4, 7, 6, 12, 8, 15, 13, 18, 12, 28, 14, 24, 24, 31, 18, 39, 20, 42, 32, 36, 24, 60]
 else if a = 5 then [1, 1, 2, 2, 4, 2, 6, 4, 6, 4, 10, 4, 12, 6, 8, 8, 16, 6, 18, 8, 12, 10, 22, 8]
 else if a = 6 then [1, (-1), (-1), 0, (-1), 1, (-1), 0, 0, 1, (-1), 0, (-1), 1, 1, 0, (-1), 0, (-1), 0, 1, 1, (-1), 0]
 else if a = 7 then [1, (-1), (-1), 1, (-1), 1, (-1), (-1), 1, 1, (-1), (-1), (-1), 1, 1, 1, (-1), (-1), (-1), (-1), 1, 1, (-1), 1]
 else []
theorem dir_spec (f1 f2 f3 f4 f5 f6 f7 f8 f9 f10 f11 f12 f13 f14 f15 f16 f17 f18 f19 f20 f21 f22 f23 f24 g1 g2 g3 g4 g5 g6 g7 g8 g9 g10 g11 g12 g13 g14 g15 g16 g17 g18 g19 g20 g21 g22 g23 g24 : Int) : spec_l2Times.f 200 [f1, f2, f3, f4, f5, f6, f7, f8, f9, f10, f11, f12, f13, f14, f15, f16, f17, f18, f19, f20, f21, f22, f23, f24] [g1, g2, g3, g4, g5, g6, g7, g8, g9, g10, g11, g12, g13, g14, g15, g16, g17, g18, g19, g20, g21, g22, g23, g24] = some [wrap64 (0 + wrap64 (f1 * g1)), wrap64 (wrap64 (0 + wrap64 (f1 * g2)) + wrap64 (f2 * g1)), wrap64 (wrap64 (0 + wrap64 (f1 * g3)) + wrap64 (f3 * g1)), wrap64 (wrap64 (wrap64 (0 + wrap64 (f1 * g4)) + wrap64 (f2 * g2)) + wrap64 (f4 * g1)), wrap64 (wrap64 (0 + wrap64 (f1 * g5)) + wrap64 (f5 * g1)), wrap64 (wrap64 (wrap64 (wrap64 (0 + wrap64 (f1 * g6)) + wrap64 (f2 * g3)) + wrap64 (f3 * g2)) + wrap64 (f6 * g1)), wrap64 (wrap64 (0 + wrap64 (f1 * g7)) + wrap64 (f7 * g1)), wrap64 (wrap64 (wrap64 (wrap64 (0 + wrap64 (f1 * g8)) + wrap64 (f2 * g4)) + wrap64 (f4 * g2)) + wrap64 (f8 * g1)), wrap64 (wrap64 (wrap64 (0 + wrap64 (f1 * g9)) + wrap64 (f3 * g3)) + wrap64 (f9 * g1)), wrap64 (wrap64 (wrap64 (wrap64 (0 + wrap64 (f1 * g10)) + wrap64 (f2 * g5)) + wrap64 (f5 * g2)) + wrap64 (f10 * g1)), wrap64 (wrap64 (0 + wrap64 (f1 * g11)) + wrap64 (f11 * g1)), wrap64 (wrap64 (wrap64 (wrap64 (wrap64 (wrap64 (0 + wrap64 (f1 * g12)) + wrap64 (f2 * g6)) + wrap64 (f3 * g4)) + wrap64 (f4 * g3)) + wrap64 (f6 * g2)) + wrap64 (f12 * g1)), wrap64 (wrap64 (0 + wrap64 (f1 * g13)) + wrap64 (f13 * g1)), wrap64 (wrap64 (wrap64 (wrap64 (0 + wrap64 (f1 * g14)) + wrap64 (f2 * g7)) + wrap64 (f7 * g2)) + wrap64 (f14 * g1)), wrap64 (wrap64 (wrap64 (wrap64 (0 + wrap64 (f1 * g15)) + wrap64 (f3 * g5)) + wrap64 (f5 * g3)) + wrap64 (f15 * g1)), wrap64 (wrap64 (wrap64 (wrap64 (wrap64 (0 + wrap64 (f1 * g16)) + wrap64 (f2 * g8)) + wrap64 (f4 * g4)) + wrap64 (f8 * g2)) + wrap64 (f16 * g1)), wrap64 (wrap64 (0 + wrap64 (f1 * g17)) + wrap64 (f17 * g1)), wrap64 (wrap64 (wrap64 (wrap64 (wrap64 (wrap64 (0 + wrap64 (f1 * g18)) + wrap64 (f2 * g9)) + wrap64 (f3 * g6)) + wrap64 (f6 * g3)) + wrap64 (f9 * g2)) + wrap64 (f18 * g1)), wrap64 (wrap64 (0 + wrap64 (f1 * g19)) + wrap64 (f19 * g1)), wrap64 (wrap64 (wrap64 (wrap64 (wrap64 (wrap64 (0 + wrap64 (f1 * g20)) + wrap64 (f2 * g10)) + wrap64 (f4 * g5)) + wrap64 (f5 * g4)) + wrap64 (f10 * g2)) + wrap64 (f20 * g1)), wrap64 (wrap64 (wrap64 (wrap64 (0 + wrap64 (f1 * g21)) + wrap64 (f3 * g7)) + wrap64 (f7 * g3)) + wrap64 (f21 * g1)), wrap64 (wrap64 (wrap64 (wrap64 (0 + wrap64 (f1 * g22)) + wrap64 (f2 * g11)) + wrap64 (f11 * g2)) + wrap64 (f22 * g1)), wrap64 (wrap64 (0 + wrap64 (f1 * g23)) + wrap64 (f23 * g1)), wrap64 (wrap64 (wrap64 (wrap64 (wrap64 (wrap64 (wrap64 (wrap64 (0 + wrap64 (f1 * g24)) + wrap64 (f2 * g12)) + wrap64 (f3 * g8)) + wrap64 (f4 * g6)) + wrap64 (f6 * g4)) + wrap64 (f8 * g3)) + wrap64 (f12 * g2)) + wrap64 (f24 * g1))] := by kernel_rfl
theorem uni_spec (f1 f2 f3 f4 f5 f6 f7 f8 f9 f10 f11 f12 f13 f14 f15 f16 f17 f18 f19 f20 f21 f22 f23 f24 g1 g2 g3 g4 g5 g6 g7 g8 g9 g10 g11 g12 g13 g14 g15 g16 g17 g18 g19 g20 g21 g22 g23 g24 : Int) : spec_UnitaryTimes.l0 700 [f1, f2, f3, f4, f5, f6, f7, f8, f9, f10, f11, f12, f13, f14, f15, f16, f17, f18, f19, f20, f21, f22, f23, f24] [g1, g2, g3, g4, g5, g6, g7, g8, g9, g10, g11, g12, g13, g14, g15, g16, g17, g18, g19, g20, g21, g22, g23, g24] true [] 1 = some ([wrap64 (0 + wrap64 (f1 * g1)), wrap64 (wrap64 (0 + wrap64 (f1 * g2)) + wrap64 (f2 * g1)), wrap64 (wrap64 (0 + wrap64 (f1 * g3)) + wrap64 (f3 * g1)), wrap64 (wrap64 (0 + wrap64 (f1 * g4)) + wrap64 (f4 * g1)), wrap64 (wrap64 (0 + wrap64 (f1 * g5)) + wrap64 (f5 * g1)), wrap64 (wrap64 (wrap64 (wrap64 (0 + wrap64 (f1 * g6)) + wrap64 (f2 * g3)) + wrap64 (f3 * g2)) + wrap64 (f6 * g1)), wrap64 (wrap64 (0 + wrap64 (f1 * g7)) + wrap64 (f7 * g1)), wrap64 (wrap64 (0 + wrap64 (f1 * g8)) + wrap64 (f8 * g1)), wrap64 (wrap64 (0 + wrap64 (f1 * g9)) + wrap64 (f9 * g1)), wrap64 (wrap64 (wrap64 (wrap64 (0 + wrap64 (f1 * g10)) + wrap64 (f2 * g5)) + wrap64 (f5 * g2)) + wrap64 (f10 * g1)), wrap64 (wrap64 (0 + wrap64 (f1 * g11)) + wrap64 (f11 * g1)), wrap64 (wrap64 (wrap64 (wrap64 (0 + wrap64 (f1 * g12)) + wrap64 (f3 * g4)) + wrap64 (f4 * g3)) + wrap64 (f12 * g1)), wrap64 (wrap64 (0 + wrap64 (f1 * g13)) + wrap64 (f13 * g1)), wrap64 (wrap64 (wrap64 (wrap64 (0 + wrap64 (f1 * g14)) + wrap64 (f2 * g7)) + wrap64 (f7 * g2)) + wrap64 (f14 * g1)), wrap64 (wrap64 (wrap64 (wrap64 (0 + wrap64 (f1 * g15)) + wrap64 (f3 * g5)) + wrap64 (f5 * g3)) + wrap64 (f15 * g1)), wrap64 (wrap64 (0 + wrap64 (f1 * g16)) + wrap64 (f16 * g1)), wrap64 (wrap64 (0 + wrap64 (f1 * g17)) + wrap64 (f17 * g1)), wrap64 (wrap64 (wrap64 (wrap64 (0 + wrap64 (f1 * g18)) + wrap64 (f2 * g9)) + wrap64 (f9 * g2)) + wrap64 (f18 * g1)), wrap64 (wrap64 (0 + wrap64 (f1 * g19)) + wrap64 (f19 * g1)), wrap64 (wrap64 (wrap64 (wrap64 (0 + wrap64 (f1 * g20)) + wrap64 (f4 * g5)) + wrap64 (f5 * g4)) + wrap64 (f20 * g1)), wrap64 (wrap64 (wrap64 (wrap64 (0 + wrap64 (f1 * g21)) + wrap64 (f3 * g7)) + wrap64 (f7 * g3)) + wrap64 (f21 * g1)), wrap64 (wrap64 (wrap64 (wrap64 (0 + wrap64 (f1 * g22)) + wrap64 (f2 * g11)) + wrap64 (f11 * g2)) + wrap64 (f22 * g1)), wrap64 (wrap64 (0 + wrap64 (f1 * g23)) + wrap64 (f23 * g1)), wrap64 (wrap64 (wrap64 (wrap64 (0 + wrap64 (f1 * g24)) + wrap64 (f3 * g8)) + wrap64 (f8 * g3)) + wrap64 (f24 * g1))], true) := by kernel_rfl
theorem uni_walk (f1 f2 f3 f4 f5 f6 f7 f8 f9 f10 f11 f12 f13 f14 f15 f16 f17 f18 f19 f20 f21 f22 f23 f24 g1 g2 g3 g4 g5 g6 g7 g8 g9 g10 g11 g12 g13 g14 g15 g16 g17 g18 g19 g20 g21 g22 g23 g24 : Int) : Walk.rowF (fun k i => Walk.impl_UnitaryTimesLit.f k i [f1, f2, f3, f4, f5, f6, f7, f8, f9, f10, f11, f12, f13, f14, f15, f16, f17, f18, f19, f20, f21, f22, f23, f24] [g1, g2, g3, g4, g5, g6, g7, g8, g9, g10, g11, g12, g13, g14, g15, g16, g17, g18, g19, g20, g21, g22, g23, g24]) 200 = some [wrap64 (0 + wrap64 (f1 * g1)), wrap64 (wrap64 (0 + wrap64 (f1 * g2)) + wrap64 (f2 * g1)), wrap64 (wrap64 (0 + wrap64 (f1 * g3)) + wrap64 (f3 * g1)), wrap64 (wrap64 (0 + wrap64 (f1 * g4)) + wrap64 (f4 * g1)), wrap64 (wrap64 (0 + wrap64 (f1 * g5)) + wrap64 (f5 * g1)), wrap64 (wrap64 (wrap64 (wrap64 (0 + wrap64 (f1 * g6)) + wrap64 (f2 * g3)) + wrap64 (f3 * g2)) + wrap64 (f6 * g1)), wrap64 (wrap64 (0 + wrap64 (f1 * g7)) + wrap64 (f7 * g1)), wrap64 (wrap64 (0 + wrap64 (f1 * g8)) + wrap64 (f8 * g1)), wrap64 (wrap64 (0 + wrap64 (f1 * g9)) + wrap64 (f9 * g1)), wrap64 (wrap64 (wrap64 (wrap64 (0 + wrap64 (f1 * g10)) + wrap64 (f2 * g5)) + wrap64 (f5 * g2)) + wrap64 (f10 * g1)), wrap64 (wrap64 (0 + wrap64 (f1 * g11)) + wrap64 (f11 * g1)), wrap64 (wrap64 (wrap64 (wrap64 (0 + wrap64 (f1 * g12)) + wrap64 (f3 * g4)) + wrap64 (f4 * g3)) + wrap64 (f12 * g1)), wrap64 (wrap64 (0 + wrap64 (f1 * g13)) + wrap64 (f13 * g1)), wrap64 (wrap64 (wrap64 (wrap64 (0 + wrap64 (f1 * g14)) + wrap64 (f2 * g7)) + wrap64 (f7 * g2)) + wrap64 (f14 * g1)), wrap64 (wrap64 (wrap64 (wrap64 (0 + wrap64 (f1 * g15)) + wrap64 (f3 * g5)) + wrap64 (f5 * g3)) + wrap64 (f15 * g1)), wrap64 (wrap64 (0 + wrap64 (f1 * g16)) + wrap64 (f16 * g1)), wrap64 (wrap64 (0 + wrap64 (f1 * g17)) + wrap64 (f17 * g1)), wrap64 (wrap64 (wrap64 (wrap64 (0 + wrap64 (f1 * g18)) + wrap64 (f2 * g9)) + wrap64 (f9 * g2)) + wrap64 (f18 * g1)), wrap64 (wrap64 (0 + wrap64 (f1 * g19)) + wrap64 (f19 * g1)), wrap64 (wrap64 (wrap64 (wrap64 (0 + wrap64 (f1 * g20)) + wrap64 (f4 * g5)) + wrap64 (f5 * g4)) + wrap64 (f20 * g1)), wrap64 (wrap64 (wrap64 (wrap64 (0 + wrap64 (f1 * g21)) + wrap64 (f3 * g7)) + wrap64 (f7 * g3)) + wrap64 (f21 * g1)), wrap64 (wrap64 (wrap64 (wrap64 (0 + wrap64 (f1 * g22)) + wrap64 (f2 * g11)) + wrap64 (f11 * g2)) + wrap64 (f22 * g1)), wrap64 (wrap64 (0 + wrap64 (f1 * g23)) + wrap64 (f23 * g1)), wrap64 (wrap64 (wrap64 (wrap64 (0 + wrap64 (f1 * g24)) + wrap64 (f3 * g8)) + wrap64 (f8 * g3)) + wrap64 (f24 * g1))] := by kernel_rfl
theorem named_spec0 : spec_NamedRow.f 200 0 = some (nrow 0) := by kernel_rfl
theorem named_walk0 : Walk.rowF (fun k i => Walk.impl_NamedRowLit.f k i 0) 200 = some (nrow 0) := by kernel_rfl
theorem named_spec1 : spec_NamedRow.f 200 1 = some (nrow 1) := by kernel_rfl
theorem named_walk1 : Walk.rowF (fun k i => Walk.impl_NamedRowLit.f k i 1) 200 = some (nrow 1) := by kernel_rfl
theorem named_spec2 : spec_NamedRow.f 200 2 = some (nrow 2) := by kernel_rfl
theorem named_walk2 : Walk.rowF (fun k i => Walk.impl_NamedRowLit.f k i 2) 200 = some (nrow 2) := by kernel_rfl
theorem named_spec3 : spec_NamedRow.f 200 3 = some (nrow 3) := by kernel_rfl
theorem named_walk3 : Walk.rowF (fun k i => Walk.impl_NamedRowLit.f k i 3) 200 = some (nrow 3) := by kernel_rfl
theorem named_spec4 : spec_NamedRow.f 200 4 = some (nrow 4) := by kernel_rfl
theorem named_walk4 : Walk.rowF (fun k i => Walk.impl_NamedRowLit.f k i 4) 200 = some (nrow 4) := by kernel_rfl
theorem named_spec5 : spec_NamedRow.f 200 5 = some (nrow 5) := by kernel_rfl
theorem named_walk5 : Walk.rowF (fun k i => Walk.impl_NamedRowLit.f k i 5) 200 = some (nrow 5) := by kernel_rfl
theorem named_spec6 : spec_NamedRow.f 200 6 = some (nrow 6) := by kernel_rfl
theorem named_walk6 : Walk.rowF (fun k i => Walk.impl_NamedRowLit.f k i 6) 200 = some (nrow 6) := by kernel_rfl
theorem named_spec7 : spec_NamedRow.f 200 7 = some (nrow 7) := by kernel_rfl
theorem named_walk7 : Walk.rowF (fun k i => Walk.impl_NamedRowLit.f k i 7) 200 = some (nrow 7) := by kernel_rfl


end Go.Proofs.Ytdhcgobkkgchpaa.Tell
