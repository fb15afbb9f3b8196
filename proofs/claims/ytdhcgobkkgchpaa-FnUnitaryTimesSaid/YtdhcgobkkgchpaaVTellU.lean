/- The unitary product of rows of 24 small numbers is a ring, and of multiplicative rows multiplicative: no program in sight. No conditions. -/
import Derived.Test.YtdhcgobkkgchpaaVTellB
namespace Go.Proofs.Ytdhcgobkkgchpaa.Tell
open Go.RowKit Go.Proofs.Ytdhcgobkkgchpaa.CAll Go.Proofs.YtdhcgobkkgchpaaW.PrintWords Go.Proofs.YtdhcgobkkgchpaaW.PrintLast Go.Proofs.YtdhcgobkkgchpaaW.PrintMore Go.Proofs.Ytdhcgobkkgchpaa.Math
set_option linter.unusedVariables false
set_option linter.unusedSimpArgs false
set_option maxRecDepth 100000

def Sm (x : Int) : Prop := -10000 ≤ x ∧ x ≤ 10000
theorem mul_bd {a b : Int} (ha : Sm a) (hb : Sm b) : -100000000 ≤ a * b ∧ a * b ≤ 100000000 := by
 obtain ⟨a1, a2⟩ := ha
 obtain ⟨b1, b2⟩ := hb
 have h1 := Int.mul_nonneg (show (0 : Int) ≤ 10000 - a by omega) (show (0 : Int) ≤ 10000 - b by omega)
 have h2 := Int.mul_nonneg (show (0 : Int) ≤ 10000 + a by omega) (show (0 : Int) ≤ 10000 + b by omega)
 have h3 := Int.mul_nonneg (show (0 : Int) ≤ 10000 - a by omega) (show (0 : Int) ≤ 10000 + b by omega)
 have h4 := Int.mul_nonneg (show (0 : Int) ≤ 10000 + a by omega) (show (0 : Int) ≤ 10000 - b by omega)
 simp only [Int.sub_mul, Int.mul_sub, Int.add_mul, Int.mul_add] at h1 h2 h3 h4
 omega
theorem u1 {a b : Int} (ha : Sm a) (hb : Sm b) : wrap64 (0 + wrap64 (a * b)) = a * b := by
 have p := mul_bd ha hb
 rw [w64 (x := a * b) (by omega) (by omega), w64 (by omega) (by omega)]
 omega
theorem u2 {a b c d : Int} (ha : Sm a) (hb : Sm b) (hc : Sm c) (hd : Sm d) : wrap64 (wrap64 (0 + wrap64 (a * b)) + wrap64 (c * d)) = a * b + c * d := by
 have p := mul_bd ha hb
 have q := mul_bd hc hd
 rw [u1 ha hb, w64 (x := c * d) (by omega) (by omega), w64 (by omega) (by omega)]
theorem u4 {a b c d e f g h : Int} (ha : Sm a) (hb : Sm b) (hc : Sm c) (hd : Sm d) (he : Sm e) (hf : Sm f) (hg : Sm g) (hh : Sm h) :
  wrap64 (wrap64 (wrap64 (wrap64 (0 + wrap64 (a * b)) + wrap64 (c * d)) + wrap64 (e * f)) + wrap64 (g * h)) = a * b + c * d + e * f + g * h := by
 have p := mul_bd ha hb
 have q := mul_bd hc hd
 have r := mul_bd he hf
 have s := mul_bd hg hh
 rw [u2 ha hb hc hd, w64 (x := e * f) (by omega) (by omega), w64 (x := g * h) (by omega) (by omega), w64 (x := a * b + c * d + e * f) (by omega) (by omega), w64 (by omega) (by omega)]
theorem uni_val {f1 f2 f3 f4 f5 f6 f7 f8 f9 f10 f11 f12 f13 f14 f15 f16 f17 f18 f19 f20 f21 f22 f23 f24 g1 g2 g3 g4 g5 g6 g7 g8 g9 g10 g11 g12 g13 g14 g15 g16 g17 g18 g19 g20 g21 g22 g23 g24 : Int} (hf : ∀ x ∈ [f1, f2, f3, f4, f5, f6, f7, f8, f9, f10, f11, f12, f13, f14, f15, f16, f17, f18, f19, f20, f21, f22, f23, f24], -10000 ≤ x ∧ x ≤ 10000) (hg : ∀ x ∈ [g1, g2, g3, g4, g5, g6, g7, g8, g9, g10, g11, g12, g13, g14, g15, g16, g17, g18, g19, g20, g21, g22, g23, g24], -10000 ≤ x ∧ x ≤ 10000) : uniR [f1, f2, f3, f4, f5, f6, f7, f8, f9, f10, f11, f12, f13, f14, f15, f16, f17, f18, f19, f20, f21, f22, f23, f24] [g1, g2, g3, g4, g5, g6, g7, g8, g9, g10, g11, g12, g13, g14, g15, g16, g17, g18, g19, g20, g21, g22, g23, g24] = [f1 * g1, f1 * g2 + f2 * g1, f1 * g3 + f3 * g1, f1 * g4 + f4 * g1, f1 * g5 + f5 * g1, f1 * g6 + f2 * g3 + f3 * g2 + f6 * g1, f1 * g7 + f7 * g1, f1 * g8 + f8 * g1, f1 * g9 + f9 * g1, f1 * g10 + f2 * g5 + f5 * g2 + f10 * g1, f1 * g11 + f11 * g1, f1 * g12 + f3 * g4 + f4 * g3 + f12 * g1, f1 * g13 + f13 * g1, f1 * g14 + f2 * g7 + f7 * g2 + f14 * g1, f1 * g15 + f3 * g5 + f5 * g3 + f15 * g1, f1 * g16 + f16 * g1, f1 * g17 + f17 * g1, f1 * g18 + f2 * g9 + f9 * g2 + f18 * g1, f1 * g19 + f19 * g1, f1 * g20 + f4 * g5 + f5 * g4 + f20 * g1, f1 * g21 + f3 * g7 + f7 * g3 + f21 * g1, f1 * g22 + f2 * g11 + f11 * g2 + f22 * g1, f1 * g23 + f23 * g1, f1 * g24 + f3 * g8 + f8 * g3 + f24 * g1] := by
 have b1 : Sm f1 := hf _ (by simp)
 have c1 : Sm g1 := hg _ (by simp)
 have b2 : Sm f2 := hf _ (by simp)
 have c2 : Sm g2 := hg _ (by simp)
 have b3 : Sm f3 := hf _ (by simp)
 have c3 : Sm g3 := hg _ (by simp)
 have b4 : Sm f4 := hf _ (by simp)
 have c4 : Sm g4 := hg _ (by simp)
 have b5 : Sm f5 := hf _ (by simp)
 have c5 : Sm g5 := hg _ (by simp)
 have b6 : Sm f6 := hf _ (by simp)
 have c6 : Sm g6 := hg _ (by simp)
 have b7 : Sm f7 := hf _ (by simp)
 have c7 : Sm g7 := hg _ (by simp)
 have b8 : Sm f8 := hf _ (by simp)
 have c8 : Sm g8 := hg _ (by simp)
 have b9 : Sm f9 := hf _ (by simp)
 have c9 : Sm g9 := hg _ (by simp)
 have b10 : Sm f10 := hf _ (by simp)
 have c10 : Sm g10 := hg _ (by simp)
 have b11 : Sm f11 := hf _ (by simp)
 have c11 : Sm g11 := hg _ (by simp)
 have b12 : Sm f12 := hf _ (by simp)
 have c12 : Sm g12 := hg _ (by simp)
 have b13 : Sm f13 := hf _ (by simp)
 have c13 : Sm g13 := hg _ (by simp)
 have b14 : Sm f14 := hf _ (by simp)
 have c14 : Sm g14 := hg _ (by simp)
 have b15 : Sm f15 := hf _ (by simp)
 have c15 : Sm g15 := hg _ (by simp)
 have b16 : Sm f16 := hf _ (by simp)
 have c16 : Sm g16 := hg _ (by simp)
 have b17 : Sm f17 := hf _ (by simp)
 have c17 : Sm g17 := hg _ (by simp)
 have b18 : Sm f18 := hf _ (by simp)
 have c18 : Sm g18 := hg _ (by simp)
 have b19 : Sm f19 := hf _ (by simp)
 have c19 : Sm g19 := hg _ (by simp)
 have b20 : Sm f20 := hf _ (by simp)
 have c20 : Sm g20 := hg _ (by simp)
 have b21 : Sm f21 := hf _ (by simp)
 have c21 : Sm g21 := hg _ (by simp)
 have b22 : Sm f22 := hf _ (by simp)
 have c22 : Sm g22 := hg _ (by simp)
 have b23 : Sm f23 := hf _ (by simp)
 have c23 : Sm g23 := hg _ (by simp)
 have b24 : Sm f24 := hf _ (by simp)
 have c24 : Sm g24 := hg _ (by simp)
 unfold uniR
 rw [uni_spec]
 simp only [Option.getD_some]
 rw [u1 b1 c1, u2 b1 c2 b2 c1, u2 b1 c3 b3 c1, u2 b1 c4 b4 c1, u2 b1 c5 b5 c1, u4 b1 c6 b2 c3 b3 c2 b6 c1, u2 b1 c7 b7 c1, u2 b1 c8 b8 c1, u2 b1 c9 b9 c1, u4 b1 c10 b2 c5 b5 c2 b10 c1, u2 b1 c11 b11 c1, u4 b1 c12 b3 c4 b4 c3 b12 c1, u2 b1 c13 b13 c1, u4 b1 c14 b2 c7 b7 c2 b14 c1, u4 b1 c15 b3 c5 b5 c3 b15 c1, u2 b1 c16 b16 c1, u2 b1 c17 b17 c1, u4 b1 c18 b2 c9 b9 c2 b18 c1, u2 b1 c19 b19 c1, u4 b1 c20 b4 c5 b5 c4 b20 c1, u4 b1 c21 b3 c7 b7 c3 b21 c1, u4 b1 c22 b2 c11 b11 c2 b22 c1, u2 b1 c23 b23 c1, u4 b1 c24 b3 c8 b8 c3 b24 c1]
theorem uni_comm {f g : List Int} (hf : smB f = true) (hg : smB g = true) : uniR g f = uniR f g := by
 have bf := sm_all hf
 have bg := sm_all hg
 obtain ⟨f1, f2, f3, f4, f5, f6, f7, f8, f9, f10, f11, f12, f13, f14, f15, f16, f17, f18, f19, f20, f21, f22, f23, f24, rfl⟩ := row24 (sm_len hf)
 obtain ⟨g1, g2, g3, g4, g5, g6, g7, g8, g9, g10, g11, g12, g13, g14, g15, g16, g17, g18, g19, g20, g21, g22, g23, g24, rfl⟩ := row24 (sm_len hg)
 rw [uni_val bg bf, uni_val bf bg]
 repeat (refine List.cons_eq_cons.2 ⟨by first | rfl | ac_rfl, ?_⟩)
 rfl
theorem uni_id {f : List Int} (hf : smB f = true) : uniR f (nrow 0) = f := by
 have bf := sm_all hf
 obtain ⟨f1, f2, f3, f4, f5, f6, f7, f8, f9, f10, f11, f12, f13, f14, f15, f16, f17, f18, f19, f20, f21, f22, f23, f24, rfl⟩ := row24 (sm_len hf)
 rw [show nrow 0 = [1, 0, 0, 0, 0, 0, 0, 0, 0, 0, 0, 0, 0, 0, 0, 0, 0, 0, 0, 0, 0, 0, 0, 0] from by decide, uni_val bf (by decide)]
 repeat (refine List.cons_eq_cons.2 ⟨by first | rfl | omega, ?_⟩)
 rfl
theorem uni_assoc {f g h : List Int} (hf : smB f = true) (hg : smB g = true) (hh : smB h = true) (hx : smB (uniR f g) = true) (hy : smB (uniR g h) = true) : uniR (uniR f g) h = uniR f (uniR g h) := by
 have bf := sm_all hf
 have bg := sm_all hg
 have bh := sm_all hh
 have bx := sm_all hx
 have bY := sm_all hy
 clear hx hy
 obtain ⟨f1, f2, f3, f4, f5, f6, f7, f8, f9, f10, f11, f12, f13, f14, f15, f16, f17, f18, f19, f20, f21, f22, f23, f24, rfl⟩ := row24 (sm_len hf)
 obtain ⟨g1, g2, g3, g4, g5, g6, g7, g8, g9, g10, g11, g12, g13, g14, g15, g16, g17, g18, g19, g20, g21, g22, g23, g24, rfl⟩ := row24 (sm_len hg)
 obtain ⟨h1, h2, h3, h4, h5, h6, h7, h8, h9, h10, h11, h12, h13, h14, h15, h16, h17, h18, h19, h20, h21, h22, h23, h24, rfl⟩ := row24 (sm_len hh)
 rw [uni_val bf bg] at bx ⊢
 rw [uni_val bg bh] at bY ⊢
 rw [uni_val bx bh, uni_val bf bY]
 clear bx bY bf bg bh hf hg hh
 repeat (refine List.cons_eq_cons.2 ⟨by first | rfl | (simp only [Int.add_mul, Int.mul_add, Int.mul_assoc]; done) | (simp only [Int.add_mul, Int.mul_add, Int.mul_assoc]; omega), ?_⟩)
 rfl
/-- Does the row tell the product at a product of numbers that are apart? -/
def ok1 (l : List Int) (a b : Nat) : Bool := !(Nat.gcd a b == 1) || (rd l ((a * b - 1 : Nat) : Int) == wrap64 (rd l ((a - 1 : Nat) : Int) * rd l ((b - 1 : Nat) : Int)))
def inB (l : List Int) (a : Nat) : Nat → Nat → Bool
 | 0, _ => true
 | e + 1, b => (decide (24 < a * b) || ok1 l a b) && inB l a e (b + 1)
def outB (l : List Int) : Nat → Nat → Bool
 | 0, _ => rd l 0 == 1
 | d + 1, a => inB l a 24 1 && outB l d (a + 1)
theorem mult_eq (f1 f2 f3 f4 f5 f6 f7 f8 f9 f10 f11 f12 f13 f14 f15 f16 f17 f18 f19 f20 f21 f22 f23 f24 : Int) : outB [f1, f2, f3, f4, f5, f6, f7, f8, f9, f10, f11, f12, f13, f14, f15, f16, f17, f18, f19, f20, f21, f22, f23, f24] 24 1 = (((f1 == wrap64 (f1 * f1)) && ((f2 == wrap64 (f1 * f2)) && ((f3 == wrap64 (f1 * f3)) && ((f4 == wrap64 (f1 * f4)) && ((f5 == wrap64 (f1 * f5)) && ((f6 == wrap64 (f1 * f6)) && ((f7 == wrap64 (f1 * f7)) && ((f8 == wrap64 (f1 * f8)) && ((f9 == wrap64 (f1 * f9)) && ((f10 == wrap64 (f1 * f10)) && ((f11 == wrap64 (f1 * f11)) && ((f12 == wrap64 (f1 * f12)) && ((f13 == wrap64 (f1 * f13)) && ((f14 == wrap64 (f1 * f14)) && ((f15 == wrap64 (f1 * f15)) && ((f16 == wrap64 (f1 * f16)) && ((f17 == wrap64 (f1 * f17)) && ((f18 == wrap64 (f1 * f18)) && ((f19 == wrap64 (f1 * f19)) && ((f20 == wrap64 (f1 * f20)) && ((f21 == wrap64 (f1 * f21)) && ((f22 == wrap64 (f1 * f22)) && ((f23 == wrap64 (f1 * f23)) && ((f24 == wrap64 (f1 * f24)) && true)))))))))))))))))))))))) && (((f2 == wrap64 (f2 * f1)) && ((f6 == wrap64 (f2 * f3)) && ((f10 == wrap64 (f2 * f5)) && ((f14 == wrap64 (f2 * f7)) && ((f18 == wrap64 (f2 * f9)) && ((f22 == wrap64 (f2 * f11)) && true)))))) && (((f3 == wrap64 (f3 * f1)) && ((f6 == wrap64 (f3 * f2)) && ((f12 == wrap64 (f3 * f4)) && ((f15 == wrap64 (f3 * f5)) && ((f21 == wrap64 (f3 * f7)) && ((f24 == wrap64 (f3 * f8)) && true)))))) && (((f4 == wrap64 (f4 * f1)) && ((f12 == wrap64 (f4 * f3)) && ((f20 == wrap64 (f4 * f5)) && true))) && (((f5 == wrap64 (f5 * f1)) && ((f10 == wrap64 (f5 * f2)) && ((f15 == wrap64 (f5 * f3)) && ((f20 == wrap64 (f5 * f4)) && true)))) && (((f6 == wrap64 (f6 * f1)) && true) && (((f7 == wrap64 (f7 * f1)) && ((f14 == wrap64 (f7 * f2)) && ((f21 == wrap64 (f7 * f3)) && true))) && (((f8 == wrap64 (f8 * f1)) && ((f24 == wrap64 (f8 * f3)) && true)) && (((f9 == wrap64 (f9 * f1)) && ((f18 == wrap64 (f9 * f2)) && true)) && (((f10 == wrap64 (f10 * f1)) && true) && (((f11 == wrap64 (f11 * f1)) && ((f22 == wrap64 (f11 * f2)) && true)) && (((f12 == wrap64 (f12 * f1)) && true) && (((f13 == wrap64 (f13 * f1)) && true) && (((f14 == wrap64 (f14 * f1)) && true) && (((f15 == wrap64 (f15 * f1)) && true) && (((f16 == wrap64 (f16 * f1)) && true) && (((f17 == wrap64 (f17 * f1)) && true) && (((f18 == wrap64 (f18 * f1)) && true) && (((f19 == wrap64 (f19 * f1)) && true) && (((f20 == wrap64 (f20 * f1)) && true) && (((f21 == wrap64 (f21 * f1)) && true) && (((f22 == wrap64 (f22 * f1)) && true) && (((f23 == wrap64 (f23 * f1)) && true) && (((f24 == wrap64 (f24 * f1)) && true) && (f1 == 1))))))))))))))))))))))))) := by kernel_rfl
theorem mult_iff (f1 f2 f3 f4 f5 f6 f7 f8 f9 f10 f11 f12 f13 f14 f15 f16 f17 f18 f19 f20 f21 f22 f23 f24 : Int) : outB [f1, f2, f3, f4, f5, f6, f7, f8, f9, f10, f11, f12, f13, f14, f15, f16, f17, f18, f19, f20, f21, f22, f23, f24] 24 1 = true ↔ f1 = wrap64 (f1 * f1) ∧ f2 = wrap64 (f1 * f2) ∧ f3 = wrap64 (f1 * f3) ∧ f4 = wrap64 (f1 * f4) ∧ f5 = wrap64 (f1 * f5) ∧ f6 = wrap64 (f1 * f6) ∧ f7 = wrap64 (f1 * f7) ∧ f8 = wrap64 (f1 * f8) ∧ f9 = wrap64 (f1 * f9) ∧ f10 = wrap64 (f1 * f10) ∧ f11 = wrap64 (f1 * f11) ∧ f12 = wrap64 (f1 * f12) ∧ f13 = wrap64 (f1 * f13) ∧ f14 = wrap64 (f1 * f14) ∧ f15 = wrap64 (f1 * f15) ∧ f16 = wrap64 (f1 * f16) ∧ f17 = wrap64 (f1 * f17) ∧ f18 = wrap64 (f1 * f18) ∧ f19 = wrap64 (f1 * f19) ∧ f20 = wrap64 (f1 * f20) ∧ f21 = wrap64 (f1 * f21) ∧ f22 = wrap64 (f1 * f22) ∧ f23 = wrap64 (f1 * f23) ∧ f24 = wrap64 (f1 * f24) ∧ f2 = wrap64 (f2 * f1) ∧ f6 = wrap64 (f2 * f3) ∧ f10 = wrap64 (f2 * f5) ∧ f14 = wrap64 (f2 * f7) ∧ f18 = wrap64 (f2 * f9) ∧ f22 = wrap64 (f2 * f11) ∧ f3 = wrap64 (f3 * f1) ∧ f6 = wrap64 (f3 * f2) ∧ f12 = wrap64 (f3 * f4) ∧ f15 = wrap64 (f3 * f5) ∧ f21 = wrap64 (f3 * f7) ∧ f24 = wrap64 (f3 * f8) ∧ f4 = wrap64 (f4 * f1) ∧ f12 = wrap64 (f4 * f3) ∧ f20 = wrap64 (f4 * f5) ∧ f5 = wrap64 (f5 * f1) ∧ f10 = wrap64 (f5 * f2) ∧ f15 = wrap64 (f5 * f3) ∧ f20 = wrap64 (f5 * f4) ∧ f6 = wrap64 (f6 * f1) ∧ f7 = wrap64 (f7 * f1) ∧ f14 = wrap64 (f7 * f2) ∧ f21 = wrap64 (f7 * f3) ∧ f8 = wrap64 (f8 * f1) ∧ f24 = wrap64 (f8 * f3) ∧ f9 = wrap64 (f9 * f1) ∧ f18 = wrap64 (f9 * f2) ∧ f10 = wrap64 (f10 * f1) ∧ f11 = wrap64 (f11 * f1) ∧ f22 = wrap64 (f11 * f2) ∧ f12 = wrap64 (f12 * f1) ∧ f13 = wrap64 (f13 * f1) ∧ f14 = wrap64 (f14 * f1) ∧ f15 = wrap64 (f15 * f1) ∧ f16 = wrap64 (f16 * f1) ∧ f17 = wrap64 (f17 * f1) ∧ f18 = wrap64 (f18 * f1) ∧ f19 = wrap64 (f19 * f1) ∧ f20 = wrap64 (f20 * f1) ∧ f21 = wrap64 (f21 * f1) ∧ f22 = wrap64 (f22 * f1) ∧ f23 = wrap64 (f23 * f1) ∧ f24 = wrap64 (f24 * f1) ∧ f1 = 1 := by
 rw [mult_eq]
 simp only [Bool.and_eq_true, beq_iff_eq, and_true, and_assoc]
theorem m2 {f1 g1 fa fb fab ga gb gab : Int} (e1 : f1 = 1) (e2 : g1 = 1) (ha : Sm fa) (hb : Sm fb) (hc : Sm ga) (hd : Sm gb) (hab : Sm fab) (gg : Sm gab) (e3 : fab = wrap64 (fa * fb)) (e4 : gab = wrap64 (ga * gb)) :
  (f1 * gab + fa * gb + fb * ga + fab * g1 = wrap64 ((f1 * ga + fa * g1) * (f1 * gb + fb * g1))) ∧ (f1 * gab + fa * gb + fb * ga + fab * g1 = wrap64 ((f1 * gb + fb * g1) * (f1 * ga + fa * g1))) := by
 have p := mul_bd ha hb
 have q := mul_bd hc hd
 have r := mul_bd ha hd
 have s := mul_bd hb hc
 rw [w64 (by omega) (by omega)] at e3 e4
 subst e1 e2 e3 e4
 simp only [Int.one_mul, Int.mul_one]
 have k1 : (ga + fa) * (gb + fb) = ga * gb + fa * gb + fb * ga + fa * fb := by simp only [Int.add_mul, Int.mul_add]; rw [Int.mul_comm ga fb]; omega
 have k2 : (gb + fb) * (ga + fa) = ga * gb + fa * gb + fb * ga + fa * fb := by rw [Int.mul_comm]; exact k1
 rw [k1, k2, w64 (by omega) (by omega)]
 exact ⟨rfl, rfl⟩
theorem m1 {f1 g1 x : Int} (e1 : f1 = 1) (e2 : g1 = 1) (h1 : -1000000000 ≤ x) (h2 : x ≤ 1000000000) : x = wrap64 (f1 * g1 * x) ∧ x = wrap64 (x * (f1 * g1)) := by
 subst e1 e2
 simp only [Int.one_mul, Int.mul_one]
 rw [w64 (by omega) (by omega)]
 exact ⟨rfl, rfl⟩
theorem uni_mult {f g : List Int} (hf : smB f = true) (hg : smB g = true) (mf : outB f 24 1 = true) (mg : outB g 24 1 = true) : outB (uniR f g) 24 1 = true ∧ ∀ x ∈ uniR f g, -1000000000 ≤ x ∧ x ≤ 1000000000 := by
 have hf' := sm_all hf
 have hg' := sm_all hg
 obtain ⟨f1, f2, f3, f4, f5, f6, f7, f8, f9, f10, f11, f12, f13, f14, f15, f16, f17, f18, f19, f20, f21, f22, f23, f24, rfl⟩ := row24 (sm_len hf)
 obtain ⟨g1, g2, g3, g4, g5, g6, g7, g8, g9, g10, g11, g12, g13, g14, g15, g16, g17, g18, g19, g20, g21, g22, g23, g24, rfl⟩ := row24 (sm_len hg)
 rw [uni_val hf' hg']
 rw [mult_iff] at mf mg ⊢
 obtain ⟨f_1_1, f_1_2, f_1_3, f_1_4, f_1_5, f_1_6, f_1_7, f_1_8, f_1_9, f_1_10, f_1_11, f_1_12, f_1_13, f_1_14, f_1_15, f_1_16, f_1_17, f_1_18, f_1_19, f_1_20, f_1_21, f_1_22, f_1_23, f_1_24, f_2_1, f_2_3, f_2_5, f_2_7, f_2_9, f_2_11, f_3_1, f_3_2, f_3_4, f_3_5, f_3_7, f_3_8, f_4_1, f_4_3, f_4_5, f_5_1, f_5_2, f_5_3, f_5_4, f_6_1, f_7_1, f_7_2, f_7_3, f_8_1, f_8_3, f_9_1, f_9_2, f_10_1, f_11_1, f_11_2, f_12_1, f_13_1, f_14_1, f_15_1, f_16_1, f_17_1, f_18_1, f_19_1, f_20_1, f_21_1, f_22_1, f_23_1, f_24_1, mf1⟩ := mf
 obtain ⟨g_1_1, g_1_2, g_1_3, g_1_4, g_1_5, g_1_6, g_1_7, g_1_8, g_1_9, g_1_10, g_1_11, g_1_12, g_1_13, g_1_14, g_1_15, g_1_16, g_1_17, g_1_18, g_1_19, g_1_20, g_1_21, g_1_22, g_1_23, g_1_24, g_2_1, g_2_3, g_2_5, g_2_7, g_2_9, g_2_11, g_3_1, g_3_2, g_3_4, g_3_5, g_3_7, g_3_8, g_4_1, g_4_3, g_4_5, g_5_1, g_5_2, g_5_3, g_5_4, g_6_1, g_7_1, g_7_2, g_7_3, g_8_1, g_8_3, g_9_1, g_9_2, g_10_1, g_11_1, g_11_2, g_12_1, g_13_1, g_14_1, g_15_1, g_16_1, g_17_1, g_18_1, g_19_1, g_20_1, g_21_1, g_22_1, g_23_1, g_24_1, mg1⟩ := mg
 have b1 : Sm f1 := hf' _ (by simp)
 have c1 : Sm g1 := hg' _ (by simp)
 have b2 : Sm f2 := hf' _ (by simp)
 have c2 : Sm g2 := hg' _ (by simp)
 have b3 : Sm f3 := hf' _ (by simp)
 have c3 : Sm g3 := hg' _ (by simp)
 have b4 : Sm f4 := hf' _ (by simp)
 have c4 : Sm g4 := hg' _ (by simp)
 have b5 : Sm f5 := hf' _ (by simp)
 have c5 : Sm g5 := hg' _ (by simp)
 have b6 : Sm f6 := hf' _ (by simp)
 have c6 : Sm g6 := hg' _ (by simp)
 have b7 : Sm f7 := hf' _ (by simp)
 have c7 : Sm g7 := hg' _ (by simp)
 have b8 : Sm f8 := hf' _ (by simp)
 have c8 : Sm g8 := hg' _ (by simp)
 have b9 : Sm f9 := hf' _ (by simp)
 have c9 : Sm g9 := hg' _ (by simp)
 have b10 : Sm f10 := hf' _ (by simp)
 have c10 : Sm g10 := hg' _ (by simp)
 have b11 : Sm f11 := hf' _ (by simp)
 have c11 : Sm g11 := hg' _ (by simp)
 have b12 : Sm f12 := hf' _ (by simp)
 have c12 : Sm g12 := hg' _ (by simp)
 have b13 : Sm f13 := hf' _ (by simp)
 have c13 : Sm g13 := hg' _ (by simp)
 have b14 : Sm f14 := hf' _ (by simp)
 have c14 : Sm g14 := hg' _ (by simp)
 have b15 : Sm f15 := hf' _ (by simp)
 have c15 : Sm g15 := hg' _ (by simp)
 have b16 : Sm f16 := hf' _ (by simp)
 have c16 : Sm g16 := hg' _ (by simp)
 have b17 : Sm f17 := hf' _ (by simp)
 have c17 : Sm g17 := hg' _ (by simp)
 have b18 : Sm f18 := hf' _ (by simp)
 have c18 : Sm g18 := hg' _ (by simp)
 have b19 : Sm f19 := hf' _ (by simp)
 have c19 : Sm g19 := hg' _ (by simp)
 have b20 : Sm f20 := hf' _ (by simp)
 have c20 : Sm g20 := hg' _ (by simp)
 have b21 : Sm f21 := hf' _ (by simp)
 have c21 : Sm g21 := hg' _ (by simp)
 have b22 : Sm f22 := hf' _ (by simp)
 have c22 : Sm g22 := hg' _ (by simp)
 have b23 : Sm f23 := hf' _ (by simp)
 have c23 : Sm g23 := hg' _ (by simp)
 have b24 : Sm f24 := hf' _ (by simp)
 have c24 : Sm g24 := hg' _ (by simp)
 clear hf' hg' hf hg
 have x1 : -1000000000 ≤ f1 * g1 ∧ f1 * g1 ≤ 1000000000 := by
  have p1 := mul_bd b1 c1
  omega
 have x2 : -1000000000 ≤ f1 * g2 + f2 * g1 ∧ f1 * g2 + f2 * g1 ≤ 1000000000 := by
  have p1 := mul_bd b1 c2
  have p2 := mul_bd b2 c1
  omega
 have x3 : -1000000000 ≤ f1 * g3 + f3 * g1 ∧ f1 * g3 + f3 * g1 ≤ 1000000000 := by
  have p1 := mul_bd b1 c3
  have p3 := mul_bd b3 c1
  omega
 have x4 : -1000000000 ≤ f1 * g4 + f4 * g1 ∧ f1 * g4 + f4 * g1 ≤ 1000000000 := by
  have p1 := mul_bd b1 c4
  have p4 := mul_bd b4 c1
  omega
 have x5 : -1000000000 ≤ f1 * g5 + f5 * g1 ∧ f1 * g5 + f5 * g1 ≤ 1000000000 := by
  have p1 := mul_bd b1 c5
  have p5 := mul_bd b5 c1
  omega
 have x6 : -1000000000 ≤ f1 * g6 + f2 * g3 + f3 * g2 + f6 * g1 ∧ f1 * g6 + f2 * g3 + f3 * g2 + f6 * g1 ≤ 1000000000 := by
  have p1 := mul_bd b1 c6
  have p2 := mul_bd b2 c3
  have p3 := mul_bd b3 c2
  have p6 := mul_bd b6 c1
  omega
 have x7 : -1000000000 ≤ f1 * g7 + f7 * g1 ∧ f1 * g7 + f7 * g1 ≤ 1000000000 := by
  have p1 := mul_bd b1 c7
  have p7 := mul_bd b7 c1
  omega
 have x8 : -1000000000 ≤ f1 * g8 + f8 * g1 ∧ f1 * g8 + f8 * g1 ≤ 1000000000 := by
  have p1 := mul_bd b1 c8
  have p8 := mul_bd b8 c1
  omega
 have x9 : -1000000000 ≤ f1 * g9 + f9 * g1 ∧ f1 * g9 + f9 * g1 ≤ 1000000000 := by
  have p1 := mul_bd b1 c9
  have p9 := mul_bd b9 c1
  omega
 have x10 : -1000000000 ≤ f1 * g10 + f2 * g5 + f5 * g2 + f10 * g1 ∧ f1 * g10 + f2 * g5 + f5 * g2 + f10 * g1 ≤ 1000000000 := by
  have p1 := mul_bd b1 c10
  have p2 := mul_bd b2 c5
  have p5 := mul_bd b5 c2
  have p10 := mul_bd b10 c1
  omega
 have x11 : -1000000000 ≤ f1 * g11 + f11 * g1 ∧ f1 * g11 + f11 * g1 ≤ 1000000000 := by
  have p1 := mul_bd b1 c11
  have p11 := mul_bd b11 c1
  omega
 have x12 : -1000000000 ≤ f1 * g12 + f3 * g4 + f4 * g3 + f12 * g1 ∧ f1 * g12 + f3 * g4 + f4 * g3 + f12 * g1 ≤ 1000000000 := by
  have p1 := mul_bd b1 c12
  have p3 := mul_bd b3 c4
  have p4 := mul_bd b4 c3
  have p12 := mul_bd b12 c1
  omega
 have x13 : -1000000000 ≤ f1 * g13 + f13 * g1 ∧ f1 * g13 + f13 * g1 ≤ 1000000000 := by
  have p1 := mul_bd b1 c13
  have p13 := mul_bd b13 c1
  omega
 have x14 : -1000000000 ≤ f1 * g14 + f2 * g7 + f7 * g2 + f14 * g1 ∧ f1 * g14 + f2 * g7 + f7 * g2 + f14 * g1 ≤ 1000000000 := by
  have p1 := mul_bd b1 c14
  have p2 := mul_bd b2 c7
  have p7 := mul_bd b7 c2
  have p14 := mul_bd b14 c1
  omega
 have x15 : -1000000000 ≤ f1 * g15 + f3 * g5 + f5 * g3 + f15 * g1 ∧ f1 * g15 + f3 * g5 + f5 * g3 + f15 * g1 ≤ 1000000000 := by
  have p1 := mul_bd b1 c15
  have p3 := mul_bd b3 c5
  have p5 := mul_bd b5 c3
  have p15 := mul_bd b15 c1
  omega
 have x16 : -1000000000 ≤ f1 * g16 + f16 * g1 ∧ f1 * g16 + f16 * g1 ≤ 1000000000 := by
  have p1 := mul_bd b1 c16
  have p16 := mul_bd b16 c1
  omega
 have x17 : -1000000000 ≤ f1 * g17 + f17 * g1 ∧ f1 * g17 + f17 * g1 ≤ 1000000000 := by
  have p1 := mul_bd b1 c17
  have p17 := mul_bd b17 c1
  omega
 have x18 : -1000000000 ≤ f1 * g18 + f2 * g9 + f9 * g2 + f18 * g1 ∧ f1 * g18 + f2 * g9 + f9 * g2 + f18 * g1 ≤ 1000000000 := by
  have p1 := mul_bd b1 c18
  have p2 := mul_bd b2 c9
  have p9 := mul_bd b9 c2
  have p18 := mul_bd b18 c1
  omega
 have x19 : -1000000000 ≤ f1 * g19 + f19 * g1 ∧ f1 * g19 + f19 * g1 ≤ 1000000000 := by
  have p1 := mul_bd b1 c19
  have p19 := mul_bd b19 c1
  omega
 have x20 : -1000000000 ≤ f1 * g20 + f4 * g5 + f5 * g4 + f20 * g1 ∧ f1 * g20 + f4 * g5 + f5 * g4 + f20 * g1 ≤ 1000000000 := by
  have p1 := mul_bd b1 c20
  have p4 := mul_bd b4 c5
  have p5 := mul_bd b5 c4
  have p20 := mul_bd b20 c1
  omega
 have x21 : -1000000000 ≤ f1 * g21 + f3 * g7 + f7 * g3 + f21 * g1 ∧ f1 * g21 + f3 * g7 + f7 * g3 + f21 * g1 ≤ 1000000000 := by
  have p1 := mul_bd b1 c21
  have p3 := mul_bd b3 c7
  have p7 := mul_bd b7 c3
  have p21 := mul_bd b21 c1
  omega
 have x22 : -1000000000 ≤ f1 * g22 + f2 * g11 + f11 * g2 + f22 * g1 ∧ f1 * g22 + f2 * g11 + f11 * g2 + f22 * g1 ≤ 1000000000 := by
  have p1 := mul_bd b1 c22
  have p2 := mul_bd b2 c11
  have p11 := mul_bd b11 c2
  have p22 := mul_bd b22 c1
  omega
 have x23 : -1000000000 ≤ f1 * g23 + f23 * g1 ∧ f1 * g23 + f23 * g1 ≤ 1000000000 := by
  have p1 := mul_bd b1 c23
  have p23 := mul_bd b23 c1
  omega
 have x24 : -1000000000 ≤ f1 * g24 + f3 * g8 + f8 * g3 + f24 * g1 ∧ f1 * g24 + f3 * g8 + f8 * g3 + f24 * g1 ≤ 1000000000 := by
  have p1 := mul_bd b1 c24
  have p3 := mul_bd b3 c8
  have p8 := mul_bd b8 c3
  have p24 := mul_bd b24 c1
  omega
 have y1 := m1 mf1 mg1 x1.1 x1.2
 have y2 := m1 mf1 mg1 x2.1 x2.2
 have y3 := m1 mf1 mg1 x3.1 x3.2
 have y4 := m1 mf1 mg1 x4.1 x4.2
 have y5 := m1 mf1 mg1 x5.1 x5.2
 have y6 := m1 mf1 mg1 x6.1 x6.2
 have y7 := m1 mf1 mg1 x7.1 x7.2
 have y8 := m1 mf1 mg1 x8.1 x8.2
 have y9 := m1 mf1 mg1 x9.1 x9.2
 have y10 := m1 mf1 mg1 x10.1 x10.2
 have y11 := m1 mf1 mg1 x11.1 x11.2
 have y12 := m1 mf1 mg1 x12.1 x12.2
 have y13 := m1 mf1 mg1 x13.1 x13.2
 have y14 := m1 mf1 mg1 x14.1 x14.2
 have y15 := m1 mf1 mg1 x15.1 x15.2
 have y16 := m1 mf1 mg1 x16.1 x16.2
 have y17 := m1 mf1 mg1 x17.1 x17.2
 have y18 := m1 mf1 mg1 x18.1 x18.2
 have y19 := m1 mf1 mg1 x19.1 x19.2
 have y20 := m1 mf1 mg1 x20.1 x20.2
 have y21 := m1 mf1 mg1 x21.1 x21.2
 have y22 := m1 mf1 mg1 x22.1 x22.2
 have y23 := m1 mf1 mg1 x23.1 x23.2
 have y24 := m1 mf1 mg1 x24.1 x24.2
 have z6 := m2 mf1 mg1 b2 b3 c2 c3 b6 c6 f_2_3 g_2_3
 have z10 := m2 mf1 mg1 b2 b5 c2 c5 b10 c10 f_2_5 g_2_5
 have z12 := m2 mf1 mg1 b3 b4 c3 c4 b12 c12 f_3_4 g_3_4
 have z14 := m2 mf1 mg1 b2 b7 c2 c7 b14 c14 f_2_7 g_2_7
 have z15 := m2 mf1 mg1 b3 b5 c3 c5 b15 c15 f_3_5 g_3_5
 have z18 := m2 mf1 mg1 b2 b9 c2 c9 b18 c18 f_2_9 g_2_9
 have z20 := m2 mf1 mg1 b4 b5 c4 c5 b20 c20 f_4_5 g_4_5
 have z21 := m2 mf1 mg1 b3 b7 c3 c7 b21 c21 f_3_7 g_3_7
 have z22 := m2 mf1 mg1 b2 b11 c2 c11 b22 c22 f_2_11 g_2_11
 have z24 := m2 mf1 mg1 b3 b8 c3 c8 b24 c24 f_3_8 g_3_8
 refine ⟨⟨y1.1, y2.1, y3.1, y4.1, y5.1, y6.1, y7.1, y8.1, y9.1, y10.1, y11.1, y12.1, y13.1, y14.1, y15.1, y16.1, y17.1, y18.1, y19.1, y20.1, y21.1, y22.1, y23.1, y24.1, y2.2, z6.1, z10.1, z14.1, z18.1, z22.1, y3.2, z6.2, z12.1, z15.1, z21.1, z24.1, y4.2, z12.2, z20.1, y5.2, z10.2, z15.2, z20.2, y6.2, y7.2, z14.2, z21.2, y8.2, z24.2, y9.2, z18.2, y10.2, y11.2, z22.2, y12.2, y13.2, y14.2, y15.2, y16.2, y17.2, y18.2, y19.2, y20.2, y21.2, y22.2, y23.2, y24.2, by rw [mf1, mg1]; rfl⟩, ?_⟩
 simp only [List.forall_mem_cons]
 exact ⟨x1, x2, x3, x4, x5, x6, x7, x8, x9, x10, x11, x12, x13, x14, x15, x16, x17, x18, x19, x20, x21, x22, x23, x24, by simp⟩


end Go.Proofs.Ytdhcgobkkgchpaa.Tell
