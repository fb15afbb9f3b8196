/- The closure of the named rows: the name lies in a box. No conditions. -/
import Derived.Test.YtdhcgobkkgchpaaVCBasex2
namespace Go.Proofs.Ytdhcgobkkgchpaa.Walk
open Go.RowKit Go.Proofs.YtdhcgobkkgchpaaW.PrintWords Go.Proofs.YtdhcgobkkgchpaaW.PrintLast Go.Proofs.YtdhcgobkkgchpaaW.PrintMore Go.Proofs.Ytdhcgobkkgchpaa.CBase
attribute [local go_sem] max2_int min2_int max_two min_two max_three min_three max_four min_four
set_option linter.unusedVariables false
set_option linter.unusedSimpArgs false

/-! ### impl_NamedRowLit: function 54 -/
def impl_NamedRowLit.l0 : Nat → Int → List (List Int) → Int → Int → Option (Int)
 | 0, _, _, _, _ => none
 | k + 1, x4, x36, x37, x38 => if x38 < x37 then (if 0 ≤ x38 then (if x38 < (x36.length : Int) then (if 1 < ((rd_L1 x36 x38).length : Int) then (if (Int.tmod (rd (rd_L1 x36 x38) 1) 2) = 0 then (impl_NamedRowLit.l0 k x4 x36 x37 (wrap64 (x38 + 1))) else (impl_NamedRowLit.l0 k (wrap64 (-x4)) x36 x37 (wrap64 (x38 + 1)))) else (none)) else (none)) else (none)) else (some x4)
def impl_NamedRowLit.f (k : Nat) (a0 : Int) (a1 : Int) : Option (Int) := if a1 = 0 then (if a0 > 1 then (some 0) else (some 1)) else (if a1 = 1 then (some 1) else (if a1 = 2 then (some a0) else (if a1 = 3 then ((impl_divisors.f k a0).bind fun t170 => (some (t170.length : Int))) else (if a1 = 4 then ((impl_divisors.f k a0).bind fun t173 => ((impl_sum.f k t173).bind fun t176 => (some t176))) else (if a1 = 5 then ((impl_phi.f k a0).bind fun t177 => (some t177)) else (if a1 = 6 then ((impl_sign.f k a0).bind fun t178 => (some t178)) else ((impl_factors.f k a0).bind fun t179 => (impl_NamedRowLit.l0 k 1 t179 (t179.length : Int) 0))))))))
theorem impl_NamedRowLit.mono_l : ∀ k, (∀ y0 y1 y2 y3, LeO (impl_NamedRowLit.l0 k y0 y1 y2 y3) (impl_NamedRowLit.l0 (k + 1) y0 y1 y2 y3))
 | 0 => fun _ _ _ _ r h => by simp [impl_NamedRowLit.l0] at h
 | k + 1 => by
  have ih0 := impl_NamedRowLit.mono_l k
  ·intro y0 y1 y2 y3
   unfold impl_NamedRowLit.l0
   repeat' first
   | (with_reducible exact ih0 _ _ _ _)
   | (with_reducible exact impl_divisors.mono _ _)
   | (with_reducible exact impl_factors.mono _ _)
   | (with_reducible exact impl_phi.mono _ _)
   | (with_reducible exact impl_sign.mono _ _)
   | (with_reducible exact impl_sum.mono _ _)
   | (with_reducible exact LeO.refl _)
   | (with_reducible exact LeO.none _)
   | (with_reducible refine LeO.ite ?_ ?_)
   | (with_reducible refine LeO.bind ?_ (fun _ => ?_))
   | exact ih0 _ _ _ _
   | exact impl_divisors.mono _ _
   | exact impl_factors.mono _ _
   | exact impl_phi.mono _ _
   | exact impl_sign.mono _ _
   | exact impl_sum.mono _ _
   | exact LeO.none _
   | refine LeO.ite ?_ ?_
   | refine LeO.bind ?_ (fun _ => ?_)
theorem impl_NamedRowLit.mono : ∀ a0 a1 k, LeO (impl_NamedRowLit.f k a0 a1) (impl_NamedRowLit.f (k + 1) a0 a1) := by
 intro a0 a1 k
 have ih0 := impl_NamedRowLit.mono_l k
 unfold impl_NamedRowLit.f
 repeat' first
   | (with_reducible exact ih0 _ _ _ _)
   | (with_reducible exact impl_divisors.mono _ _)
   | (with_reducible exact impl_factors.mono _ _)
   | (with_reducible exact impl_phi.mono _ _)
   | (with_reducible exact impl_sign.mono _ _)
   | (with_reducible exact impl_sum.mono _ _)
   | (with_reducible exact LeO.refl _)
   | (with_reducible exact LeO.none _)
   | (with_reducible refine LeO.ite ?_ ?_)
   | (with_reducible refine LeO.bind ?_ (fun _ => ?_))
   | exact ih0 _ _ _ _
   | exact impl_divisors.mono _ _
   | exact impl_factors.mono _ _
   | exact impl_phi.mono _ _
   | exact impl_sign.mono _ _
   | exact impl_sum.mono _ _
   | exact LeO.none _
   | refine LeO.ite ?_ ?_
   | refine LeO.bind ?_ (fun _ => ?_)
set_option maxHeartbeats 8000000 in
set_option maxRecDepth 100000 in
theorem impl_NamedRowLit.calls (k : Nat) (a0 : Int) (a1 : Int) (r : Int) (w : World) (p1 : Addr) (hp1 : w.cell? p1 = some (.int .i64 a1)) (h : impl_NamedRowLit.f k a0 a1 = some r) :
  Calls Try.prog 54 #[.int .i64 a0, .pointer (some p1)] w fun e w' => e = .returned (.int .i64 r) ∧ Below w.heap.size w w' := by
 have HP1 := Aside0.mk hp1
 clear hp1
 have HB := Aside0.mk (Below.refl w.heap.size w)
 have H : (if a1 = 0 then (if a0 > 1 then (some 0) else (some 1)) else (if a1 = 1 then (some 1) else (if a1 = 2 then (some a0) else (if a1 = 3 then ((impl_divisors.f k a0).bind fun t170 => (some (t170.length : Int))) else (if a1 = 4 then ((impl_divisors.f k a0).bind fun t173 => ((impl_sum.f k t173).bind fun t176 => (some t176))) else (if a1 = 5 then ((impl_phi.f k a0).bind fun t177 => (some t177)) else (if a1 = 6 then ((impl_sign.f k a0).bind fun t178 => (some t178)) else ((impl_factors.f k a0).bind fun t179 => (impl_NamedRowLit.l0 k 1 t179 (t179.length : Int) 0))))))))) = some r := h
 clear h
 by_cases c3 : a1 = 0
 ·rw [if_pos c3] at H
  have c3b0 : (a1 == 0) = true := beq_iff_eq.mpr c3
  have c3b1 : (a1 != 0) = false := bne_eq_false_iff_eq.mpr c3
  clear c3
  by_cases c4 : a0 > 1
  ·rw [if_pos c4] at H
   have c4b0 : decide (1 < a0) = true := decide_eq_true c4
   clear c4
   obtain rfl := Option.some.inj H
   have hq1_ := HP1.out
   go_enter Try.func54, Try.ntmps54
   go_wp2
   go_ret
   exact ⟨by first | rfl | (simp [errW_none, errW_some] <;> rfl) | (simp [*, errW_none, errW_some] <;> rfl), by repeat first | exact HB.out | apply below_alloc | apply pw_below_drewN | apply below_drew1⟩
  ·rw [if_neg c4] at H
   have c4b0 : decide (1 < a0) = false := decide_eq_false c4
   clear c4
   obtain rfl := Option.some.inj H
   have hq1_ := HP1.out
   go_enter Try.func54, Try.ntmps54
   go_wp2
   go_ret
   exact ⟨by first | rfl | (simp [errW_none, errW_some] <;> rfl) | (simp [*, errW_none, errW_some] <;> rfl), by repeat first | exact HB.out | apply below_alloc | apply pw_below_drewN | apply below_drew1⟩
 ·rw [if_neg c3] at H
  have c3b0 : (a1 == 0) = false := beq_eq_false_iff_ne.mpr c3
  have c3b1 : (a1 != 0) = true := bne_iff_ne.mpr c3
  by_cases c5 : a1 = 1
  ·rw [if_pos c5] at H
   have c5b0 : (a1 == 1) = true := beq_iff_eq.mpr c5
   have c5b1 : (a1 != 1) = false := bne_eq_false_iff_eq.mpr c5
   clear c5
   obtain rfl := Option.some.inj H
   have hq1_ := HP1.out
   go_enter Try.func54, Try.ntmps54
   go_wp2
   go_ret
   exact ⟨by first | rfl | (simp [errW_none, errW_some] <;> rfl) | (simp [*, errW_none, errW_some] <;> rfl), by repeat first | exact HB.out | apply below_alloc | apply pw_below_drewN | apply below_drew1⟩
  ·rw [if_neg c5] at H
   have c5b0 : (a1 == 1) = false := beq_eq_false_iff_ne.mpr c5
   have c5b1 : (a1 != 1) = true := bne_iff_ne.mpr c5
   by_cases c6 : a1 = 2
   ·rw [if_pos c6] at H
    have c6b0 : (a1 == 2) = true := beq_iff_eq.mpr c6
    have c6b1 : (a1 != 2) = false := bne_eq_false_iff_eq.mpr c6
    clear c6
    obtain rfl := Option.some.inj H
    have hq1_ := HP1.out
    go_enter Try.func54, Try.ntmps54
    go_wp2
    go_ret
    exact ⟨by first | rfl | (simp [errW_none, errW_some] <;> rfl) | (simp [*, errW_none, errW_some] <;> rfl), by repeat first | exact HB.out | apply below_alloc | apply pw_below_drewN | apply below_drew1⟩
   ·rw [if_neg c6] at H
    have c6b0 : (a1 == 2) = false := beq_eq_false_iff_ne.mpr c6
    have c6b1 : (a1 != 2) = true := bne_iff_ne.mpr c6
    by_cases c7 : a1 = 3
    ·rw [if_pos c7] at H
     have c7b0 : (a1 == 3) = true := beq_iff_eq.mpr c7
     have c7b1 : (a1 != 3) = false := bne_eq_false_iff_eq.mpr c7
     clear c7
     replace H := Option.bind_eq_some_iff.mp H
     obtain ⟨t170, A80, H⟩ := H
     replace H : (some (t170.length : Int)) = some r := H
     have A8 := Aside0.mk A80
     clear A80
     obtain rfl := Option.some.inj H
     have hq1_ := HP1.out
     go_enter Try.func54, Try.ntmps54
     go_wp2_with (first | ((with_reducible refine gate_callee (f := 55) rfl ?_); refine goesL_ (some 20) rfl rfl Try.func55 (by kernel_rfl) rfl #[.int .i64 a0] rfl (by (try simp only [List.map_toArray, List.map_cons, List.map_nil]); first | done | rfl | (simp only [List.length_drop, List.length_take]; rfl)) ?_; (with_reducible refine (impl_divisors.calls k a0 t170 _ A8.out).mono ?_); rintro e w9 ⟨v171, rfl, ho0, hb⟩; refine ⟨_, rfl, ?_⟩; have n0_ := Aside0.mk (Kd.R_lower ho0 (below_size (by repeat first | exact HB.out | apply below_alloc | apply pw_below_drewN | apply below_drew1))); have n1_ := Aside0.mk (below_step (by repeat first | exact HB.out | apply below_alloc | apply pw_below_drewN | apply below_drew1) hb); clear HB; have HO172 := n0_; have HB := n1_; clear n0_ n1_; (try clear hb); (try clear ho0); obtain ⟨Ao10, co10, eo10⟩ := Kd.R_slice HO172.out; subst eo10))
     go_ret
     exact ⟨by first | rfl | (simp [errW_none, errW_some] <;> rfl) | (simp [*, errW_none, errW_some] <;> rfl), by repeat first | exact HB.out | apply below_alloc | apply pw_below_drewN | apply below_drew1⟩
    ·rw [if_neg c7] at H
     have c7b0 : (a1 == 3) = false := beq_eq_false_iff_ne.mpr c7
     have c7b1 : (a1 != 3) = true := bne_iff_ne.mpr c7
     by_cases c11 : a1 = 4
     ·rw [if_pos c11] at H
      have c11b0 : (a1 == 4) = true := beq_iff_eq.mpr c11
      have c11b1 : (a1 != 4) = false := bne_eq_false_iff_eq.mpr c11
      clear c11
      replace H := Option.bind_eq_some_iff.mp H
      obtain ⟨t173, A120, H⟩ := H
      replace H : ((impl_sum.f k t173).bind fun t176 => (some t176)) = some r := H
      have A12 := Aside0.mk A120
      clear A120
      replace H := Option.bind_eq_some_iff.mp H
      obtain ⟨t176, A130, H⟩ := H
      replace H : (some t176) = some r := H
      have A13 := Aside0.mk A130
      clear A130
      obtain rfl := Option.some.inj H
      have hq1_ := HP1.out
      go_enter Try.func54, Try.ntmps54
      go_wp2_with (first | ((with_reducible refine gate_callee (f := 55) rfl ?_); refine goesL_ (some 25) rfl rfl Try.func55 (by kernel_rfl) rfl #[.int .i64 a0] rfl (by (try simp only [List.map_toArray, List.map_cons, List.map_nil]); first | done | rfl | (simp only [List.length_drop, List.length_take]; rfl)) ?_; (with_reducible refine (impl_divisors.calls k a0 t173 _ A12.out).mono ?_); rintro e w14 ⟨v174, rfl, ho0, hb⟩; refine ⟨_, rfl, ?_⟩; have n0_ := Aside0.mk (Kd.R_lower ho0 (below_size (by repeat first | exact HB.out | apply below_alloc | apply pw_below_drewN | apply below_drew1))); have n1_ := Aside0.mk (below_step (by repeat first | exact HB.out | apply below_alloc | apply pw_below_drewN | apply below_drew1) hb); clear HB; have HO175 := n0_; have HB := n1_; clear n0_ n1_; (try clear hb); (try clear ho0); obtain ⟨Ao15, co15, eo15⟩ := Kd.R_slice HO175.out; subst eo15) | ((with_reducible refine gate_callee (f := 56) rfl ?_); refine goesL_ (some 26) rfl rfl Try.func56 (by kernel_rfl) rfl #[.slice Ao15 t173.length co15] rfl (by (try simp only [List.map_toArray, List.map_cons, List.map_nil]); first | done | rfl | (simp only [List.length_drop, List.length_take]; rfl)) ?_; (with_reducible refine (impl_sum.calls k _ _ t173 t176 _ ?side1 ?side2 A13.out).mono ?_); (case side1 => repeat (first | exact (Kd.R_reads' HO175.out).2.2 | (with_reducible refine Kd.C_alloc ?_ _) | (with_reducible refine Kd.C_drewN ?_ _) | (with_reducible refine Kd.C_drew ?_))); (case side2 => exact (Kd.R_reads' HO175.out).2.1); rintro e w' ⟨rfl, ⟨nd, rfl⟩⟩; refine ⟨_, rfl, ?_⟩))
      go_ret
      exact ⟨by first | rfl | (simp [errW_none, errW_some] <;> rfl) | (simp [*, errW_none, errW_some] <;> rfl), by repeat first | exact HB.out | apply below_alloc | apply pw_below_drewN | apply below_drew1⟩
     ·rw [if_neg c11] at H
      have c11b0 : (a1 == 4) = false := beq_eq_false_iff_ne.mpr c11
      have c11b1 : (a1 != 4) = true := bne_iff_ne.mpr c11
      by_cases c16 : a1 = 5
      ·rw [if_pos c16] at H
       have c16b0 : (a1 == 5) = true := beq_iff_eq.mpr c16
       have c16b1 : (a1 != 5) = false := bne_eq_false_iff_eq.mpr c16
       clear c16
       replace H := Option.bind_eq_some_iff.mp H
       obtain ⟨t177, A170, H⟩ := H
       replace H : (some t177) = some r := H
       have A17 := Aside0.mk A170
       clear A170
       obtain rfl := Option.some.inj H
       have hq1_ := HP1.out
       go_enter Try.func54, Try.ntmps54
       go_wp2_with (first | ((with_reducible refine gate_callee (f := 57) rfl ?_); refine goesL_ (some 30) rfl rfl Try.func57 (by kernel_rfl) rfl #[.int .i64 a0] rfl (by (try simp only [List.map_toArray, List.map_cons, List.map_nil]); first | done | rfl | (simp only [List.length_drop, List.length_take]; rfl)) ?_; (with_reducible refine (impl_phi.calls k a0 t177 _ A17.out).mono ?_); rintro e w18 ⟨rfl, hb⟩; refine ⟨_, rfl, ?_⟩; have n0_ := Aside0.mk (below_step (by repeat first | exact HB.out | apply below_alloc | apply pw_below_drewN | apply below_drew1) hb); clear HB; have HB := n0_; clear n0_; (try clear hb)))
       go_ret
       exact ⟨by first | rfl | (simp [errW_none, errW_some] <;> rfl) | (simp [*, errW_none, errW_some] <;> rfl), by repeat first | exact HB.out | apply below_alloc | apply pw_below_drewN | apply below_drew1⟩
      ·rw [if_neg c16] at H
       have c16b0 : (a1 == 5) = false := beq_eq_false_iff_ne.mpr c16
       have c16b1 : (a1 != 5) = true := bne_iff_ne.mpr c16
       by_cases c19 : a1 = 6
       ·rw [if_pos c19] at H
        have c19b0 : (a1 == 6) = true := beq_iff_eq.mpr c19
        have c19b1 : (a1 != 6) = false := bne_eq_false_iff_eq.mpr c19
        clear c19
        replace H := Option.bind_eq_some_iff.mp H
        obtain ⟨t178, A200, H⟩ := H
        replace H : (some t178) = some r := H
        have A20 := Aside0.mk A200
        clear A200
        obtain rfl := Option.some.inj H
        have hq1_ := HP1.out
        go_enter Try.func54, Try.ntmps54
        go_wp2_with (first | ((with_reducible refine gate_callee (f := 58) rfl ?_); refine goesL_ (some 34) rfl rfl Try.func58 (by kernel_rfl) rfl #[.int .i64 a0] rfl (by (try simp only [List.map_toArray, List.map_cons, List.map_nil]); first | done | rfl | (simp only [List.length_drop, List.length_take]; rfl)) ?_; (with_reducible refine (impl_sign.calls k a0 t178 _ A20.out).mono ?_); rintro e w21 ⟨rfl, hb⟩; refine ⟨_, rfl, ?_⟩; have n0_ := Aside0.mk (below_step (by repeat first | exact HB.out | apply below_alloc | apply pw_below_drewN | apply below_drew1) hb); clear HB; have HB := n0_; clear n0_; (try clear hb)))
        go_ret
        exact ⟨by first | rfl | (simp [errW_none, errW_some] <;> rfl) | (simp [*, errW_none, errW_some] <;> rfl), by repeat first | exact HB.out | apply below_alloc | apply pw_below_drewN | apply below_drew1⟩
       ·rw [if_neg c19] at H
        have c19b0 : (a1 == 6) = false := beq_eq_false_iff_ne.mpr c19
        have c19b1 : (a1 != 6) = true := bne_iff_ne.mpr c19
        replace H := Option.bind_eq_some_iff.mp H
        obtain ⟨t179, A220, H⟩ := H
        replace H : (impl_NamedRowLit.l0 k 1 t179 (t179.length : Int) 0) = some r := H
        have A22 := Aside0.mk A220
        clear A220
        have H' := Aside0.mk H
        clear H
        have hq1_ := HP1.out
        go_enter Try.func54, Try.ntmps54
        go_wp2_with (first | ((with_reducible refine gate_callee (f := 59) rfl ?_); refine goesL_ (some 36) rfl rfl Try.func59 (by kernel_rfl) rfl #[.int .i64 a0] rfl (by (try simp only [List.map_toArray, List.map_cons, List.map_nil]); first | done | rfl | (simp only [List.length_drop, List.length_take]; rfl)) ?_; (with_reducible refine (impl_factors.calls k a0 t179 _ A22.out).mono ?_); rintro e w23 ⟨v180, rfl, ho0, hb⟩; refine ⟨_, rfl, ?_⟩; have n0_ := Aside0.mk (Kd.S_lower ho0 (below_size (by repeat first | exact HB.out | apply below_alloc | apply pw_below_drewN | apply below_drew1))); have n1_ := Aside0.mk (below_step (by repeat first | exact HB.out | apply below_alloc | apply pw_below_drewN | apply below_drew1) hb); clear HB; have HO181 := n0_; have HB := n1_; clear n0_ n1_; (try clear hb); (try clear ho0); obtain ⟨Ao24, co24, eo24⟩ := Kd.S_slice HO181.out; subst eo24))
        go_loopg [4, 38] k (fun kq v4 v38 w' => ∃ (x4_1 : Int) (x38_1 : Int), v4 = .int .i64 x4_1 ∧ v38 = .int .i64 x38_1 ∧ Aside0 (impl_NamedRowLit.l0 kq x4_1 t179 (t179.length : Int) x38_1 = some r) ∧ Aside0 (kq ≤ k) ∧ Aside0 (Kd.S (Kd.slice 3 (Kd.int .i64)) 23 w' w.heap.size (fun _ => True) (.slice Ao24 t179.length co24) t179) ∧ Aside0 (Below w.heap.size w w'))
        case atStart => exact ⟨(1), (0), (by first | rfl | (simp; done) | (simp [*]; done)), (by first | rfl | (simp; done) | (simp [*]; done)), H', ⟨Nat.le_refl _⟩, ⟨by (with_reducible repeat (first | apply Kd.S_alloc | apply Kd.S_drewN | apply Kd.S_drew)); exact HO181.out⟩, ⟨by repeat first | exact HB.out | apply below_alloc | apply pw_below_drewN | apply below_drew1⟩⟩
        case round =>
         clear H'
         try clear c1
         try clear p2
         try clear c3
         try clear c3b0
         try clear c3b1
         try clear c4
         try clear c4b0
         try clear c5
         try clear c5b0
         try clear c5b1
         try clear c6
         try clear c6b0
         try clear c6b1
         try clear c7
         try clear c7b0
         try clear c7b1
         try clear c11
         try clear c11b0
         try clear c11b1
         try clear c16
         try clear c16b0
         try clear c16b1
         try clear c19
         try clear c19b0
         try clear c19b1
         obtain ⟨x4_1, x38_1, rfl, rfl, HA, HK1, HO_36, HB⟩ := hrel
         cases gk with
         | zero => exact absurd HA.out (by simp [impl_NamedRowLit.l0])
         | succ k1 =>
          have H := HA.out
          clear HA
          simp only [impl_NamedRowLit.l0] at H
          by_cases c25 : x38_1 < (t179.length : Int)
          ·rw [if_pos c25] at H
           have c25b0 : decide (x38_1 < (t179.length : Int)) = true := decide_eq_true c25
           clear c25
           by_cases c26 : 0 ≤ x38_1
           ·rw [if_pos c26] at H
            have c26b0 : decide (0 ≤ x38_1) = true := decide_eq_true c26
            clear c26
            by_cases c27 : x38_1 < (t179.length : Int)
            ·rw [if_pos c27] at H
             have c27b0 : decide (x38_1 < (t179.length : Int)) = true := decide_eq_true c27
             clear c27
             by_cases c28 : 1 < ((rd_L1 t179 x38_1).length : Int)
             ·rw [if_pos c28] at H
              have c28b0 : decide (1 < ((rd_L1 t179 x38_1).length : Int)) = true := decide_eq_true c28
              have c28b1 : decide (1 < (rd_L1 t179 x38_1).length) = true := decide_eq_true (by omega)
              clear c28
              by_cases c29 : (Int.tmod (rd (rd_L1 t179 x38_1) 1) 2) = 0
              ·rw [if_pos c29] at H
               have c29b0 : ((Int.tmod (rd (rd_L1 t179 x38_1) 1) 2) == 0) = true := beq_iff_eq.mpr c29
               have c29b1 : ((Int.tmod (rd (rd_L1 t179 x38_1) 1) 2) != 0) = false := bne_eq_false_iff_eq.mpr c29
               clear c29
               have H' := Aside0.mk H
               clear H
               have p182 : 0 ≤ (x38_1 : Int) := of_decide_eq_true (by assumption)
               have q182 : x38_1 < (t179.length : Int) := of_decide_eq_true (by assumption)
               obtain ⟨ad182, A182_0, c182_0, e182, hx182_0, hl182_0, hi182_0⟩ := at_L1 (Kd.S_reads' HO_36.out).2.2 x38_1 p182 q182
               cases e182
               obtain ⟨ce182, hce182, hMe182, hcc182⟩ := Kd.S_get HO_36.out [] x38_1 p182 (by first | exact q182 | exact of_decide_eq_true (by assumption) | (have e_ := (Kd.S_reads' HO_36.out).1; omega))
               obtain ⟨ve182_0, rfl, ge182_0⟩ := hMe182
               have hv182_0 := hcc182 0 _ rfl
               rw [Nat.add_zero, show ((Kd.slice 3 (Kd.int .i64))).sz = 1 from rfl, Nat.mul_one] at hv182_0
               replace hv182_0 := Option.some.inj (hv182_0.symm.trans hx182_0)
               rw [hv182_0] at ge182_0
               have HL182_0 := Aside0.mk (show Kd.R (Kd.int .i64) 3 _ _ _ _ (rd_L1 t179 x38_1) from ge182_0)
               clear hv182_0 ge182_0
               clear hcc182 hce182
               have HR182_0 := Aside0.mk hi182_0
               have HC182_0 := Aside0.mk hl182_0
               clear hi182_0 hl182_0
               replace p182 := eq_true p182
               replace q182 := eq_true q182
               have p183 : 0 ≤ (1 : Int) := (by omega)
               have q183 : 1 < ((rd_L1 t179 x38_1).length : Int) := of_decide_eq_true (by assumption)
               obtain ⟨ad183, e183, hx183_0⟩ := Kd.at_int (by repeat (first | (with_reducible exact HR182_0.out) | (with_reducible refine Kd.C_alloc ?_ _) | (with_reducible refine Kd.C_drewN ?_ _) | (with_reducible refine Kd.C_drew ?_) | exact HR182_0.out)) 1 p183 q183
               cases e183
               (try simp only [show (1 : Int).toNat = 1 from rfl, Nat.reduceMul, Nat.reduceEqDiff, Go.Addr.add, ↓reduceIte] at hx183_0)
               have qi183 : (1 < (rd_L1 t179 x38_1).length) = True := eq_true (by omega)
               (try rw [show ((1 : Int)).toNat = 1 from rfl] at hx183_0)
               replace p183 := eq_true p183
               replace q183 := eq_true q183
               go_wp2
               go_roundg k1
               case measure => have := HK1.out; omega
               case rel => exact ⟨(x4_1), (wrap64 (x38_1 + 1)), (by first | rfl | (simp; done) | (simp [*]; done)), (by first | rfl | (simp; done) | (simp [*]; done)), H', ⟨by have := HK1.out; omega⟩, ⟨by (with_reducible repeat (first | apply Kd.S_alloc | apply Kd.S_drewN | apply Kd.S_drew)); exact HO_36.out⟩, ⟨by repeat first | exact HB.out | apply below_alloc | apply pw_below_drewN | apply below_drew1⟩⟩
              ·rw [if_neg c29] at H
               have c29b0 : ((Int.tmod (rd (rd_L1 t179 x38_1) 1) 2) == 0) = false := beq_eq_false_iff_ne.mpr c29
               have c29b1 : ((Int.tmod (rd (rd_L1 t179 x38_1) 1) 2) != 0) = true := bne_iff_ne.mpr c29
               have H' := Aside0.mk H
               clear H
               have p182 : 0 ≤ (x38_1 : Int) := of_decide_eq_true (by assumption)
               have q182 : x38_1 < (t179.length : Int) := of_decide_eq_true (by assumption)
               obtain ⟨ad182, A182_0, c182_0, e182, hx182_0, hl182_0, hi182_0⟩ := at_L1 (Kd.S_reads' HO_36.out).2.2 x38_1 p182 q182
               cases e182
               obtain ⟨ce182, hce182, hMe182, hcc182⟩ := Kd.S_get HO_36.out [] x38_1 p182 (by first | exact q182 | exact of_decide_eq_true (by assumption) | (have e_ := (Kd.S_reads' HO_36.out).1; omega))
               obtain ⟨ve182_0, rfl, ge182_0⟩ := hMe182
               have hv182_0 := hcc182 0 _ rfl
               rw [Nat.add_zero, show ((Kd.slice 3 (Kd.int .i64))).sz = 1 from rfl, Nat.mul_one] at hv182_0
               replace hv182_0 := Option.some.inj (hv182_0.symm.trans hx182_0)
               rw [hv182_0] at ge182_0
               have HL182_0 := Aside0.mk (show Kd.R (Kd.int .i64) 3 _ _ _ _ (rd_L1 t179 x38_1) from ge182_0)
               clear hv182_0 ge182_0
               clear hcc182 hce182
               have HR182_0 := Aside0.mk hi182_0
               have HC182_0 := Aside0.mk hl182_0
               clear hi182_0 hl182_0
               replace p182 := eq_true p182
               replace q182 := eq_true q182
               have p183 : 0 ≤ (1 : Int) := (by omega)
               have q183 : 1 < ((rd_L1 t179 x38_1).length : Int) := of_decide_eq_true (by assumption)
               obtain ⟨ad183, e183, hx183_0⟩ := Kd.at_int (by repeat (first | (with_reducible exact HR182_0.out) | (with_reducible refine Kd.C_alloc ?_ _) | (with_reducible refine Kd.C_drewN ?_ _) | (with_reducible refine Kd.C_drew ?_) | exact HR182_0.out)) 1 p183 q183
               cases e183
               (try simp only [show (1 : Int).toNat = 1 from rfl, Nat.reduceMul, Nat.reduceEqDiff, Go.Addr.add, ↓reduceIte] at hx183_0)
               have qi183 : (1 < (rd_L1 t179 x38_1).length) = True := eq_true (by omega)
               (try rw [show ((1 : Int)).toNat = 1 from rfl] at hx183_0)
               replace p183 := eq_true p183
               replace q183 := eq_true q183
               go_wp2
               go_roundg k1
               case measure => have := HK1.out; omega
               case rel => exact ⟨(wrap64 (-x4_1)), (wrap64 (x38_1 + 1)), (by first | rfl | (simp; done) | (simp [*]; done)), (by first | rfl | (simp; done) | (simp [*]; done)), H', ⟨by have := HK1.out; omega⟩, ⟨by (with_reducible repeat (first | apply Kd.S_alloc | apply Kd.S_drewN | apply Kd.S_drew)); exact HO_36.out⟩, ⟨by repeat first | exact HB.out | apply below_alloc | apply pw_below_drewN | apply below_drew1⟩⟩
             ·rw [if_neg c28] at H
              exact absurd H (by simp)
            ·rw [if_neg c27] at H
             exact absurd H (by simp)
           ·rw [if_neg c26] at H
            exact absurd H (by simp)
          ·rw [if_neg c25] at H
           have c25b0 : decide (x38_1 < (t179.length : Int)) = false := decide_eq_false c25
           clear c25
           obtain rfl := Option.some.inj H
           go_wp2
           go_ret
           exact ⟨by first | rfl | (simp [errW_none, errW_some] <;> rfl) | (simp [*, errW_none, errW_some] <;> rfl), by repeat first | exact HB.out | apply below_alloc | apply pw_below_drewN | apply below_drew1⟩



end Go.Proofs.Ytdhcgobkkgchpaa.Walk
