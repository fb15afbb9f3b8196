/- The closures of the two products: captured rows lie in boxes. No conditions. -/
import Derived.Test.YtdhcgobkkgchpaaVCBasex2
namespace Go.Proofs.Ytdhcgobkkgchpaa.Walk
open Go.RowKit Go.Proofs.YtdhcgobkkgchpaaW.PrintWords Go.Proofs.YtdhcgobkkgchpaaW.PrintLast Go.Proofs.YtdhcgobkkgchpaaW.PrintMore Go.Proofs.Ytdhcgobkkgchpaa.CBase
attribute [local go_sem] max2_int min2_int max_two min_two max_three min_three max_four min_four
set_option linter.unusedVariables false
set_option linter.unusedSimpArgs false

/-! ### impl_UnitaryTimesLit: function 64 -/
def impl_UnitaryTimesLit.l0 : Nat → Int → List Int → List Int → Int → List Int → Int → Int → Option (Int)
 | 0, _, _, _, _, _, _, _ => none
 | k + 1, x0, x1, x2, x5, x9, x10, x11 => if x11 < x10 then (if 0 ≤ x11 then (if x11 < (x9.length : Int) then (if 0 ≤ (wrap64 ((rd x9 x11) - 1)) then (if (wrap64 ((rd x9 x11) - 1)) < (x1.length : Int) then (if (rd x9 x11) = 0 then (none) else (if 0 ≤ (wrap64 ((wrap64 (Int.tdiv x0 (rd x9 x11))) - 1)) then (if (wrap64 ((wrap64 (Int.tdiv x0 (rd x9 x11))) - 1)) < (x2.length : Int) then (impl_UnitaryTimesLit.l0 k x0 x1 x2 (wrap64 (x5 + (wrap64 ((rd x1 (wrap64 ((rd x9 x11) - 1))) * (rd x2 (wrap64 ((wrap64 (Int.tdiv x0 (rd x9 x11))) - 1))))))) x9 x10 (wrap64 (x11 + 1))) else (none)) else (none))) else (none)) else (none)) else (none)) else (none)) else (some x5)
def impl_UnitaryTimesLit.f (k : Nat) (a0 : Int) (l1 : List Int) (l2 : List Int) : Option (Int) := (impl_unitary.f k a0).bind fun t164 => (impl_UnitaryTimesLit.l0 k a0 l1 l2 0 t164 (t164.length : Int) 0)
theorem impl_UnitaryTimesLit.mono_l : ∀ k, (∀ y0 y1 y2 y3 y4 y5 y6, LeO (impl_UnitaryTimesLit.l0 k y0 y1 y2 y3 y4 y5 y6) (impl_UnitaryTimesLit.l0 (k + 1) y0 y1 y2 y3 y4 y5 y6))
 | 0 => fun _ _ _ _ _ _ _ r h => by simp [impl_UnitaryTimesLit.l0] at h
 | k + 1 => by
  have ih0 := impl_UnitaryTimesLit.mono_l k
  ·intro y0 y1 y2 y3 y4 y5 y6
   unfold impl_UnitaryTimesLit.l0
   repeat' first
   | (with_reducible exact ih0 _ _ _ _ _ _ _)
   | (with_reducible exact impl_unitary.mono _ _)
   | (with_reducible exact LeO.refl _)
   | (with_reducible exact LeO.none _)
   | (with_reducible refine LeO.ite ?_ ?_)
   | (with_reducible refine LeO.bind ?_ (fun _ => ?_))
   | exact ih0 _ _ _ _ _ _ _
   | exact impl_unitary.mono _ _
   | exact LeO.none _
   | refine LeO.ite ?_ ?_
   | refine LeO.bind ?_ (fun _ => ?_)
theorem impl_UnitaryTimesLit.mono : ∀ a0 a1 a2 k, LeO (impl_UnitaryTimesLit.f k a0 a1 a2) (impl_UnitaryTimesLit.f (k + 1) a0 a1 a2) := by
 intro a0 a1 a2 k
 have ih0 := impl_UnitaryTimesLit.mono_l k
 unfold impl_UnitaryTimesLit.f
 repeat' first
   | (with_reducible exact ih0 _ _ _ _ _ _ _)
   | (with_reducible exact impl_unitary.mono _ _)
   | (with_reducible exact LeO.refl _)
   | (with_reducible exact LeO.none _)
   | (with_reducible refine LeO.ite ?_ ?_)
   | (with_reducible refine LeO.bind ?_ (fun _ => ?_))
   | exact ih0 _ _ _ _ _ _ _
   | exact impl_unitary.mono _ _
   | exact LeO.none _
   | refine LeO.ite ?_ ?_
   | refine LeO.bind ?_ (fun _ => ?_)
set_option maxHeartbeats 8000000 in
set_option maxRecDepth 100000 in
theorem impl_UnitaryTimesLit.calls (k : Nat) (a0 : Int) (A1 : Option Addr) (c1 : Nat) (l1 : List Int) (A2 : Option Addr) (c2 : Nat) (l2 : List Int) (r : Int) (w : World) (hr1 : Kd.C (Kd.int .i64) w A1 l1.length l1) (hc1 : l1.length ≤ c1) (hr2 : Kd.C (Kd.int .i64) w A2 l2.length l2) (hc2 : l2.length ≤ c2) (p1 p2 : Addr) (hp1 : w.cell? p1 = some (.slice A1 l1.length c1)) (hp2 : w.cell? p2 = some (.slice A2 l2.length c2)) (h : impl_UnitaryTimesLit.f k a0 l1 l2 = some r) :
  Calls Try.prog 64 #[.int .i64 a0, .pointer (some p1), .pointer (some p2)] w fun e w' => e = .returned (.int .i64 r) ∧ Below w.heap.size w w' := by
 have HP1 := Aside0.mk hp1
 have HP2 := Aside0.mk hp2
 clear hp1 hp2
 have HR1 := Aside0.mk hr1
 have HC1 := Aside0.mk hc1
 clear hr1 hc1
 have HR2 := Aside0.mk hr2
 have HC2 := Aside0.mk hc2
 clear hr2 hc2
 have HB := Aside0.mk (Below.refl w.heap.size w)
 have H : ((impl_unitary.f k a0).bind fun t164 => (impl_UnitaryTimesLit.l0 k a0 l1 l2 0 t164 (t164.length : Int) 0)) = some r := h
 clear h
 replace H := Option.bind_eq_some_iff.mp H
 obtain ⟨t164, A40, H⟩ := H
 replace H : (impl_UnitaryTimesLit.l0 k a0 l1 l2 0 t164 (t164.length : Int) 0) = some r := H
 have A4 := Aside0.mk A40
 clear A40
 have H' := Aside0.mk H
 clear H
 go_enter Try.func64, Try.ntmps64
 go_wp2_with (first | (go_at_call 65; (with_reducible refine (impl_unitary.calls k a0 t164 _ A4.out).mono ?_); rintro e w5 ⟨v165, rfl, ho0, hb⟩; have n0_ := Aside0.mk (Kd.R_lower ho0 (below_size (by repeat first | exact HB.out | apply below_alloc | apply pw_below_drewN | apply below_drew1))); have n1_ := Aside0.mk (below_step (by repeat first | exact HB.out | apply below_alloc | apply pw_below_drewN | apply below_drew1) hb); clear HB; have HO166 := n0_; have HB := n1_; clear n0_ n1_; (try clear hb); (try clear ho0); obtain ⟨Ao6, co6, eo6⟩ := Kd.R_slice HO166.out; subst eo6))
 repeat (go_quiet (first | (go_at_call 65; (with_reducible refine (impl_unitary.calls k a0 t164 _ A4.out).mono ?_); rintro e w5 ⟨v165, rfl, ho0, hb⟩; have n0_ := Aside0.mk (Kd.R_lower ho0 (below_size (by repeat first | exact HB.out | apply below_alloc | apply pw_below_drewN | apply below_drew1))); have n1_ := Aside0.mk (below_step (by repeat first | exact HB.out | apply below_alloc | apply pw_below_drewN | apply below_drew1) hb); clear HB; have HO166 := n0_; have HB := n1_; clear n0_ n1_; (try clear hb); (try clear ho0); obtain ⟨Ao6, co6, eo6⟩ := Kd.R_slice HO166.out; subst eo6)); try go_wp2_with (first | (go_at_call 65; (with_reducible refine (impl_unitary.calls k a0 t164 _ A4.out).mono ?_); rintro e w5 ⟨v165, rfl, ho0, hb⟩; have n0_ := Aside0.mk (Kd.R_lower ho0 (below_size (by repeat first | exact HB.out | apply below_alloc | apply pw_below_drewN | apply below_drew1))); have n1_ := Aside0.mk (below_step (by repeat first | exact HB.out | apply below_alloc | apply pw_below_drewN | apply below_drew1) hb); clear HB; have HO166 := n0_; have HB := n1_; clear n0_ n1_; (try clear hb); (try clear ho0); obtain ⟨Ao6, co6, eo6⟩ := Kd.R_slice HO166.out; subst eo6)))
 go_loopg [5, 11] k (fun kq v5 v11 w' => ∃ (x5_1 : Int) (x11_1 : Int), v5 = .int .i64 x5_1 ∧ v11 = .int .i64 x11_1 ∧ Aside0 (impl_UnitaryTimesLit.l0 kq a0 l1 l2 x5_1 t164 (t164.length : Int) x11_1 = some r) ∧ Aside0 (kq ≤ k) ∧ Aside0 (Kd.R (Kd.int .i64) 3 w' w.heap.size (fun _ => True) (.slice Ao6 t164.length co6) t164) ∧ Aside0 (Below w.heap.size w w'))
 case atStart => exact ⟨(0), (0), (by first | rfl | (simp; done) | (simp [*]; done)), (by first | rfl | (simp; done) | (simp [*]; done)), H', ⟨Nat.le_refl _⟩, ⟨by (with_reducible repeat (first | apply Kd.R_alloc | apply Kd.R_drewN | apply Kd.R_drew)); exact HO166.out⟩, ⟨by repeat first | exact HB.out | apply below_alloc | apply pw_below_drewN | apply below_drew1⟩⟩
 case round =>
  clear H'
  try clear p2
  try clear c6
  obtain ⟨x5_1, x11_1, rfl, rfl, HA, HK1, HO_9, HB⟩ := hrel
  cases gk with
  | zero => exact absurd HA.out (by simp [impl_UnitaryTimesLit.l0])
  | succ k1 =>
   have H := HA.out
   clear HA
   simp only [impl_UnitaryTimesLit.l0] at H
   by_cases c7 : x11_1 < (t164.length : Int)
   ·rw [if_pos c7] at H
    have c7b0 : decide (x11_1 < (t164.length : Int)) = true := decide_eq_true c7
    clear c7
    by_cases c8 : 0 ≤ x11_1
    ·rw [if_pos c8] at H
     have c8b0 : decide (0 ≤ x11_1) = true := decide_eq_true c8
     clear c8
     by_cases c9 : x11_1 < (t164.length : Int)
     ·rw [if_pos c9] at H
      have c9b0 : decide (x11_1 < (t164.length : Int)) = true := decide_eq_true c9
      clear c9
      obtain ⟨ji10, hji10⟩ : ∃ j_ : Int, (wrap64 ((rd t164 x11_1) - 1)) = j_ := ⟨_, rfl⟩
      replace H : (if 0 ≤ (ji10) then (if (ji10) < (l1.length : Int) then (if (rd t164 x11_1) = 0 then (none) else (if 0 ≤ (wrap64 ((wrap64 (Int.tdiv a0 (rd t164 x11_1))) - 1)) then (if (wrap64 ((wrap64 (Int.tdiv a0 (rd t164 x11_1))) - 1)) < (l2.length : Int) then (impl_UnitaryTimesLit.l0 k1 a0 l1 l2 (wrap64 (x5_1 + (wrap64 ((rd l1 (ji10)) * (rd l2 (wrap64 ((wrap64 (Int.tdiv a0 (rd t164 x11_1))) - 1))))))) t164 (t164.length : Int) (wrap64 (x11_1 + 1))) else (none)) else (none))) else (none)) else (none)) = some r := by first | (rw [hji10] at H; exact H) | (simp only [hji10] at H ⊢; exact H)
      have hji10w : (IntKind.i64.wrap ((rd t164 x11_1) - 1)) = ji10 := (i64_w _).trans hji10
      by_cases c11 : 0 ≤ (ji10)
      ·rw [if_pos c11] at H
       have c11b0 : decide (0 ≤ (ji10)) = true := decide_eq_true c11
       clear c11
       by_cases c12 : (ji10) < (l1.length : Int)
       ·rw [if_pos c12] at H
        have c12b0 : decide ((ji10) < (l1.length : Int)) = true := decide_eq_true c12
        clear c12
        by_cases c13 : (rd t164 x11_1) = 0
        ·rw [if_pos c13] at H
         exact absurd H (by simp)
        ·rw [if_neg c13] at H
         have c13b0 : ((rd t164 x11_1) == 0) = false := beq_eq_false_iff_ne.mpr c13
         have c13b1 : ((rd t164 x11_1) != 0) = true := bne_iff_ne.mpr c13
         obtain ⟨ji14, hji14⟩ : ∃ j_ : Int, (wrap64 ((wrap64 (Int.tdiv a0 (rd t164 x11_1))) - 1)) = j_ := ⟨_, rfl⟩
         replace H : (if 0 ≤ (ji14) then (if (ji14) < (l2.length : Int) then (impl_UnitaryTimesLit.l0 k1 a0 l1 l2 (wrap64 (x5_1 + (wrap64 ((rd l1 (ji10)) * (rd l2 (ji14)))))) t164 (t164.length : Int) (wrap64 (x11_1 + 1))) else (none)) else (none)) = some r := by first | (rw [hji14] at H; exact H) | (simp only [hji14] at H ⊢; exact H)
         have hji14w : (IntKind.i64.wrap ((wrap64 (Int.tdiv a0 (rd t164 x11_1))) - 1)) = ji14 := (i64_w _).trans hji14
         by_cases c15 : 0 ≤ (ji14)
         ·rw [if_pos c15] at H
          have c15b0 : decide (0 ≤ (ji14)) = true := decide_eq_true c15
          clear c15
          by_cases c16 : (ji14) < (l2.length : Int)
          ·rw [if_pos c16] at H
           have c16b0 : decide ((ji14) < (l2.length : Int)) = true := decide_eq_true c16
           clear c16
           have H' := Aside0.mk H
           clear H
           have p167 : 0 ≤ (x11_1 : Int) := of_decide_eq_true (by assumption)
           have q167 : x11_1 < (t164.length : Int) := of_decide_eq_true (by assumption)
           obtain ⟨ad167, e167, hx167_0⟩ := Kd.at_int (Kd.R_reads' HO_9.out).2.2 x11_1 p167 q167
           cases e167
           replace p167 := eq_true p167
           replace q167 := eq_true q167
           have p168 : 0 ≤ ((ji10) : Int) := of_decide_eq_true (by assumption)
           have q168 : (ji10) < (l1.length : Int) := of_decide_eq_true (by assumption)
           obtain ⟨ad168, e168, hx168_0⟩ := Kd.at_int HR1.out (ji10) p168 q168
           cases e168
           (try replace hx168_0 := (HB.out.cell (World.block_lt_of_cell? w _ hx168_0)).trans hx168_0)
           replace p168 := eq_true p168
           replace q168 := eq_true q168
           have p169 : 0 ≤ ((ji14) : Int) := of_decide_eq_true (by assumption)
           have q169 : (ji14) < (l2.length : Int) := of_decide_eq_true (by assumption)
           obtain ⟨ad169, e169, hx169_0⟩ := Kd.at_int HR2.out (ji14) p169 q169
           cases e169
           (try replace hx169_0 := (HB.out.cell (World.block_lt_of_cell? w _ hx169_0)).trans hx169_0)
           replace p169 := eq_true p169
           replace q169 := eq_true q169
           have hq1_ := (HB.out.cell (World.block_lt_of_cell? w _ HP1.out)).trans HP1.out
           have hq2_ := (HB.out.cell (World.block_lt_of_cell? w _ HP2.out)).trans HP2.out
           go_wp2
           repeat (go_quiet (fail); try go_wp2)
           go_roundg k1
           case measure => have := HK1.out; omega
           case rel => exact ⟨(wrap64 (x5_1 + (wrap64 ((rd l1 (ji10)) * (rd l2 (ji14)))))), (wrap64 (x11_1 + 1)), (by first | rfl | (simp; done) | (simp only [← hji10, ← hji14] <;> (first | rfl | simp)) | (simp [*]; done)), (by first | rfl | (simp; done) | (simp [*]; done)), H', ⟨by have := HK1.out; omega⟩, ⟨by (with_reducible repeat (first | apply Kd.R_alloc | apply Kd.R_drewN | apply Kd.R_drew)); exact HO_9.out⟩, ⟨by repeat first | exact HB.out | apply below_alloc | apply pw_below_drewN | apply below_drew1⟩⟩
          ·rw [if_neg c16] at H
           exact absurd H (by simp)
         ·rw [if_neg c15] at H
          exact absurd H (by simp)
       ·rw [if_neg c12] at H
        exact absurd H (by simp)
      ·rw [if_neg c11] at H
       exact absurd H (by simp)
     ·rw [if_neg c9] at H
      exact absurd H (by simp)
    ·rw [if_neg c8] at H
     exact absurd H (by simp)
   ·rw [if_neg c7] at H
    have c7b0 : decide (x11_1 < (t164.length : Int)) = false := decide_eq_false c7
    clear c7
    obtain rfl := Option.some.inj H
    go_wp2
    repeat (go_quiet (fail); try go_wp2)
    go_ret
    exact ⟨by first | rfl | (simp [errW_none, errW_some] <;> rfl) | (simp [*, errW_none, errW_some] <;> rfl), by repeat first | exact HB.out | apply below_alloc | apply pw_below_drewN | apply below_drew1⟩



end Go.Proofs.Ytdhcgobkkgchpaa.Walk
