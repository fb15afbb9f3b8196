-- PRINTED BY print.sh 35421559b90ae4d0a3588c463048766b98c2df88dd9212a6774a882060cdf62d: not written by this session
import Derived.Test.YtkpdhpgocblogaaPFnWayFromx0
import Derived.Test.YtkpdhpgocblogaaPFnWayFromx2
namespace Go.Proofs.Ytkpdhpgocblogaa.PFnWayFrom
open Go.RowKit Go.Proofs.YtkpdhpgocblogaaW.PrintWords Go.Proofs.YtkpdhpgocblogaaW.PrintLast Go.Proofs.YtkpdhpgocblogaaW.PrintMore
attribute [local go_sem] max2_int min2_int max_two min_two max_three min_three max_four min_four   -- for this text's walks alone
set_option linter.unusedVariables false
set_option linter.unusedSimpArgs false

/-! ### spec_l20Mid: function 42 -/
def spec_l20Mid.f (k : Nat) (s0_0 : List Int) (s0_1 : Int) : Option (Int × Int) := (spec_l20Rd_pick.f k s0_0 s0_1 20).bind fun bt144 => ((spec_l20Rd_pick.f k s0_0 bt144.2 100).bind fun bt146 => ((spec_l20Rd_pick.f k s0_0 bt146.2 41).bind fun bt148 => ((some (([wrap64 (1 + bt144.1), wrap64 (1 + bt146.1), wrap64 (12 * (wrap64 (1 + bt148.1))), 500] : List Int) : List Int)).bind fun y150 => ((spec_l20Rd_pick.f k s0_0 bt148.2 7).bind fun bt153 => (if 0 ≤ (wrap64 (Int.tdiv bt153.1 2)) then (if (wrap64 (Int.tdiv bt153.1 2)) < (y150.length : Int) then ((spec_l20Rd_pick.f k s0_0 bt153.2 30).bind fun bt156 => ((spec_l20Rd_pick.f k s0_0 bt156.2 40).bind fun bt158 => (some (wrap64 ((wrap64 ((rd y150 (wrap64 (Int.tdiv bt153.1 2))) + (wrap64 ((wrap64 (Int.tdiv bt156.1 29)) * 500)))) - (wrap64 ((wrap64 (Int.tdiv bt158.1 39)) * 1000))), bt158.2)))) else (none)) else (none))))))
theorem spec_l20Mid.mono : ∀ a0 a1 k, LeO (spec_l20Mid.f k a0 a1) (spec_l20Mid.f (k + 1) a0 a1) := by
  intro a0 a1 k
  unfold spec_l20Mid.f
  repeat' first
      | (with_reducible exact spec_l20Rd_pick.mono _ _ _ _)
      | (with_reducible exact LeO.refl _)
      | (with_reducible exact LeO.none _)
      | (with_reducible refine LeO.ite ?_ ?_)
      | (with_reducible refine LeO.bind ?_ (fun _ => ?_))
      | exact spec_l20Rd_pick.mono _ _ _ _
      | exact LeO.none _
      | refine LeO.ite ?_ ?_
      | refine LeO.bind ?_ (fun _ => ?_)
def spec_l20Mid.T1 : Bool × List (List Nat × List Nat) := (true, [([], []), ([0], [0]), ([1], [1]), ([], []), ([3, 1], [3]), ([4], [4]), ([], []), ([6, 4], [6]), ([7], [7]), ([8], [8]), ([2, 5, 9], [2, 5, 9]), ([], []), ([11, 7], [11]), ([12], [12]), ([10, 13], [10, 13]), ([14], [14]), ([], []), ([16, 12], [16]), ([17], [17]), ([18], [18]), ([15, 19], [15, 19]), ([], []), ([21, 17], [21]), ([22], [22]), ([23], [23]), ([20, 24], [20, 24]), ([25, 22, 0, 1, 2, 3, 4, 5, 6, 7, 8, 9, 10, 11, 12, 13, 14, 15, 16, 17, 18, 19, 20, 21, 22, 23, 24, 25], [25])])
def spec_l20Mid.B1 : List Nat := [0, 1, 3, 0, 11, 27, 0, 91, 219, 475, 1023, 0, 2267, 6363, 16383, 32767, 0, 71899, 202971, 465115, 1048575, 0, 2300123, 6494427, 14883035, 33554431, 67108863]
theorem spec_l20Mid.tab1 : rtab .any (opsOf Try.f42 1) = spec_l20Mid.T1 := by kernel_rfl
theorem spec_l20Mid.bits1 : waitsOk spec_l20Mid.T1.2 spec_l20Mid.B1 = true := by kernel_rfl
set_option maxHeartbeats 8000000 in
set_option maxRecDepth 100000 in
theorem spec_l20Mid.calls (k : Nat) (g : Nat) (s0_0 : List Int) (s0_1 : Int) (r1 : Int) (r2 : Int) (w0 w : World) (hI : IsS46 w0 w g s0_0 s0_1) (hB : Below w0.heap.size w0 w) (h : spec_l20Mid.f k s0_0 s0_1 = some (r1, r2)) :
    Calls Try.prog 42 #[.pointer (some ⟨g, 0, none⟩)] w fun e w' => e = .returned (.int .i64 r1) ∧ IsS46 w0 w' g s0_0 r2 ∧ Below w0.heap.size w0 w' ∧ KeepBut w w' g none := by
  have HI0 := Aside0.mk hI
  have HK := Aside0.mk (KeepBut.refl w g none)
  have HL := Aside0.mk hB.size
  clear hI
  have HW0 := Aside0.mk hB.size
  have HB := Aside0.mk hB
  clear hB
  have H : ((spec_l20Rd_pick.f k s0_0 s0_1 20).bind fun bt144 => ((spec_l20Rd_pick.f k s0_0 bt144.2 100).bind fun bt146 => ((spec_l20Rd_pick.f k s0_0 bt146.2 41).bind fun bt148 => ((some (([wrap64 (1 + bt144.1), wrap64 (1 + bt146.1), wrap64 (12 * (wrap64 (1 + bt148.1))), 500] : List Int) : List Int)).bind fun y150 => ((spec_l20Rd_pick.f k s0_0 bt148.2 7).bind fun bt153 => (if 0 ≤ (wrap64 (Int.tdiv bt153.1 2)) then (if (wrap64 (Int.tdiv bt153.1 2)) < (y150.length : Int) then ((spec_l20Rd_pick.f k s0_0 bt153.2 30).bind fun bt156 => ((spec_l20Rd_pick.f k s0_0 bt156.2 40).bind fun bt158 => (some (wrap64 ((wrap64 ((rd y150 (wrap64 (Int.tdiv bt153.1 2))) + (wrap64 ((wrap64 (Int.tdiv bt156.1 29)) * 500)))) - (wrap64 ((wrap64 (Int.tdiv bt158.1 39)) * 1000))), bt158.2)))) else (none)) else (none))))))) = some (r1, r2) := h
  clear h
  replace H := Option.bind_eq_some_iff.mp H
  obtain ⟨⟨t144, t145⟩, A20, H⟩ := H
  replace H : ((spec_l20Rd_pick.f k s0_0 t145 100).bind fun bt146 => ((spec_l20Rd_pick.f k s0_0 bt146.2 41).bind fun bt148 => ((some (([wrap64 (1 + t144), wrap64 (1 + bt146.1), wrap64 (12 * (wrap64 (1 + bt148.1))), 500] : List Int) : List Int)).bind fun y150 => ((spec_l20Rd_pick.f k s0_0 bt148.2 7).bind fun bt153 => (if 0 ≤ (wrap64 (Int.tdiv bt153.1 2)) then (if (wrap64 (Int.tdiv bt153.1 2)) < (y150.length : Int) then ((spec_l20Rd_pick.f k s0_0 bt153.2 30).bind fun bt156 => ((spec_l20Rd_pick.f k s0_0 bt156.2 40).bind fun bt158 => (some (wrap64 ((wrap64 ((rd y150 (wrap64 (Int.tdiv bt153.1 2))) + (wrap64 ((wrap64 (Int.tdiv bt156.1 29)) * 500)))) - (wrap64 ((wrap64 (Int.tdiv bt158.1 39)) * 1000))), bt158.2)))) else (none)) else (none)))))) = some (r1, r2) := H
  have A2 := Aside0.mk A20
  clear A20
  replace H := Option.bind_eq_some_iff.mp H
  obtain ⟨⟨t146, t147⟩, A30, H⟩ := H
  replace H : ((spec_l20Rd_pick.f k s0_0 t147 41).bind fun bt148 => ((some (([wrap64 (1 + t144), wrap64 (1 + t146), wrap64 (12 * (wrap64 (1 + bt148.1))), 500] : List Int) : List Int)).bind fun y150 => ((spec_l20Rd_pick.f k s0_0 bt148.2 7).bind fun bt153 => (if 0 ≤ (wrap64 (Int.tdiv bt153.1 2)) then (if (wrap64 (Int.tdiv bt153.1 2)) < (y150.length : Int) then ((spec_l20Rd_pick.f k s0_0 bt153.2 30).bind fun bt156 => ((spec_l20Rd_pick.f k s0_0 bt156.2 40).bind fun bt158 => (some (wrap64 ((wrap64 ((rd y150 (wrap64 (Int.tdiv bt153.1 2))) + (wrap64 ((wrap64 (Int.tdiv bt156.1 29)) * 500)))) - (wrap64 ((wrap64 (Int.tdiv bt158.1 39)) * 1000))), bt158.2)))) else (none)) else (none))))) = some (r1, r2) := H
  have A3 := Aside0.mk A30
  clear A30
  replace H := Option.bind_eq_some_iff.mp H
  obtain ⟨⟨t148, t149⟩, A40, H⟩ := H
  replace H : ((some (([wrap64 (1 + t144), wrap64 (1 + t146), wrap64 (12 * (wrap64 (1 + t148))), 500] : List Int) : List Int)).bind fun y150 => ((spec_l20Rd_pick.f k s0_0 t149 7).bind fun bt153 => (if 0 ≤ (wrap64 (Int.tdiv bt153.1 2)) then (if (wrap64 (Int.tdiv bt153.1 2)) < (y150.length : Int) then ((spec_l20Rd_pick.f k s0_0 bt153.2 30).bind fun bt156 => ((spec_l20Rd_pick.f k s0_0 bt156.2 40).bind fun bt158 => (some (wrap64 ((wrap64 ((rd y150 (wrap64 (Int.tdiv bt153.1 2))) + (wrap64 ((wrap64 (Int.tdiv bt156.1 29)) * 500)))) - (wrap64 ((wrap64 (Int.tdiv bt158.1 39)) * 1000))), bt158.2)))) else (none)) else (none)))) = some (r1, r2) := H
  have A4 := Aside0.mk A40
  clear A40
  obtain ⟨y150, hy150⟩ : ∃ y_ : List Int, y_ = (([wrap64 (1 + t144), wrap64 (1 + t146), wrap64 (12 * (wrap64 (1 + t148))), 500] : List Int)) := ⟨_, rfl⟩
  replace H : ((spec_l20Rd_pick.f k s0_0 t149 7).bind fun bt153 => (if 0 ≤ (wrap64 (Int.tdiv bt153.1 2)) then (if (wrap64 (Int.tdiv bt153.1 2)) < (y150.length : Int) then ((spec_l20Rd_pick.f k s0_0 bt153.2 30).bind fun bt156 => ((spec_l20Rd_pick.f k s0_0 bt156.2 40).bind fun bt158 => (some (wrap64 ((wrap64 ((rd y150 (wrap64 (Int.tdiv bt153.1 2))) + (wrap64 ((wrap64 (Int.tdiv bt156.1 29)) * 500)))) - (wrap64 ((wrap64 (Int.tdiv bt158.1 39)) * 1000))), bt158.2)))) else (none)) else (none))) = some (r1, r2) := by first | (rw [hy150]; with_reducible exact H) | (have H2_ := (Option.bind_some _ _).symm.trans H; rw [hy150]; with_reducible exact H2_) | (have H2_ := (Option.bind_some _ _).symm.trans H; with_reducible exact H2_) | with_reducible exact H | (rw [hy150]; exact H) | exact H
  have Ny150 := Aside0.mk hy150
  clear hy150
  replace H := Option.bind_eq_some_iff.mp H
  obtain ⟨⟨t153, t154⟩, A50, H⟩ := H
  replace H : (if 0 ≤ (wrap64 (Int.tdiv t153 2)) then (if (wrap64 (Int.tdiv t153 2)) < (y150.length : Int) then ((spec_l20Rd_pick.f k s0_0 t154 30).bind fun bt156 => ((spec_l20Rd_pick.f k s0_0 bt156.2 40).bind fun bt158 => (some (wrap64 ((wrap64 ((rd y150 (wrap64 (Int.tdiv t153 2))) + (wrap64 ((wrap64 (Int.tdiv bt156.1 29)) * 500)))) - (wrap64 ((wrap64 (Int.tdiv bt158.1 39)) * 1000))), bt158.2)))) else (none)) else (none)) = some (r1, r2) := H
  have A5 := Aside0.mk A50
  clear A50
  obtain ⟨ji6, hji6⟩ : ∃ j_ : Int, (wrap64 (Int.tdiv t153 2)) = j_ := ⟨_, rfl⟩
  replace H : (if 0 ≤ (ji6) then (if (ji6) < (y150.length : Int) then ((spec_l20Rd_pick.f k s0_0 t154 30).bind fun bt156 => ((spec_l20Rd_pick.f k s0_0 bt156.2 40).bind fun bt158 => (some (wrap64 ((wrap64 ((rd y150 (ji6)) + (wrap64 ((wrap64 (Int.tdiv bt156.1 29)) * 500)))) - (wrap64 ((wrap64 (Int.tdiv bt158.1 39)) * 1000))), bt158.2)))) else (none)) else (none)) = some (r1, r2) := by first | (rw [hji6] at H; exact H) | (simp only [hji6] at H ⊢; exact H)
  (try rw [hji6] at A2)
  (try rw [hji6] at A3)
  (try rw [hji6] at A4)
  (try rw [hji6] at A5)
  have hji6w : (IntKind.i64.wrap (Int.tdiv t153 2)) = ji6 := (i64_w _).trans hji6
  by_cases c7 : 0 ≤ (ji6)
  · rw [if_pos c7] at H
    have c7b0 : decide (0 ≤ (ji6)) = true := decide_eq_true c7
    clear c7
    by_cases c8 : (ji6) < (y150.length : Int)
    · rw [if_pos c8] at H
      have c8b0 : decide ((ji6) < (y150.length : Int)) = true := decide_eq_true c8
      clear c8
      replace H := Option.bind_eq_some_iff.mp H
      obtain ⟨⟨t156, t157⟩, A90, H⟩ := H
      replace H : ((spec_l20Rd_pick.f k s0_0 t157 40).bind fun bt158 => (some (wrap64 ((wrap64 ((rd y150 (ji6)) + (wrap64 ((wrap64 (Int.tdiv t156 29)) * 500)))) - (wrap64 ((wrap64 (Int.tdiv bt158.1 39)) * 1000))), bt158.2))) = some (r1, r2) := H
      have A9 := Aside0.mk A90
      clear A90
      replace H := Option.bind_eq_some_iff.mp H
      obtain ⟨⟨t158, t159⟩, A100, H⟩ := H
      replace H : (some (wrap64 ((wrap64 ((rd y150 (ji6)) + (wrap64 ((wrap64 (Int.tdiv t156 29)) * 500)))) - (wrap64 ((wrap64 (Int.tdiv t158 39)) * 1000))), t159)) = some (r1, r2) := H
      have A10 := Aside0.mk A100
      clear A100
      simp only [Option.some.injEq, Prod.mk.injEq] at H
      obtain ⟨rfl, rfl⟩ := H
      go_enter Try.func42, Try.ntmps42
      try go_wp2
      have pi155 : (0 ≤ ((ji6) : Int)) = True := eq_true (of_decide_eq_true (by first | (with_reducible assumption) | assumption))
      have qi155 : ((ji6) < (y150.length : Int)) = True := eq_true (of_decide_eq_true (by first | (with_reducible assumption) | assumption))
      have n0_ := Aside0.mk (IsS46.drew HI0.out)
      have n1_ := Aside0.mk (keep_drew HK.out)
      have n2_ := Aside0.mk (below_drew1 HB.out)
      clear HI0
      clear HK
      clear HB
      have HI0 := n0_
      have HK := n1_
      have HB := n2_
      clear n0_ n1_ n2_
      refine start_ (n := 27) (S := fun w' => True) (ds := []) #[false, false, false, false, false, false, false, false, false, false, false, false, false, false, false, false, false, false, false, false, false, false, false, false, false, false, false] (by kernel_rfl) rfl rfl trivial (fun hHeld => ?_); refine with_tabW spec_l20Mid.tab1 spec_l20Mid.bits1 (fun HT_ HW_ => ?_)
      generalize w.drew = w11 at HI0 HK HB hHeld ⊢
      refine pure_ (i := 0) (N := some 3) (v := ?_) (a' := ?_) #[true, false, false, false, false, false, false, false, false, false, false, false, false, false, false, false, false, false, false, false, false, false, false, false, false, false, false] rfl rfl (any_of HT_.out (by kernel_rfl)) (fun _ _ _ h => h) (Or.inl ⟨by rfl, ?_⟩) ?_ ?_
      rotate_left
      · intro w'
        go_simp
        with_reducible rfl
      rotate_left
      · simp only [Act.put, List.setIfInBounds_toArray, List.set_cons_zero, List.set_cons_succ, i64_w, i32_w]
        rfl
      refine pure_ (i := 3) (N := some 6) (v := ?_) (a' := ?_) #[true, false, false, true, false, false, false, false, false, false, false, false, false, false, false, false, false, false, false, false, false, false, false, false, false, false, false] rfl rfl (any_of HT_.out (by kernel_rfl)) (fun _ _ _ h => h) (Or.inl ⟨by rfl, ?_⟩) ?_ ?_
      rotate_left
      · intro w'
        go_simp
        with_reducible rfl
      rotate_left
      · simp only [Act.put, List.setIfInBounds_toArray, List.set_cons_zero, List.set_cons_succ, i64_w, i32_w]
        rfl
      refine pure_ (i := 6) (N := some 9) (v := ?_) (a' := ?_) #[true, false, false, true, false, false, true, false, false, false, false, false, false, false, false, false, false, false, false, false, false, false, false, false, false, false, false] rfl rfl (any_of HT_.out (by kernel_rfl)) (fun _ _ _ h => h) (Or.inl ⟨by rfl, ?_⟩) ?_ ?_
      rotate_left
      · intro w'
        go_simp
        with_reducible rfl
      rotate_left
      · simp only [Act.put, List.setIfInBounds_toArray, List.set_cons_zero, List.set_cons_succ, i64_w, i32_w]
        rfl
      refine pure_ (i := 11) (N := some 14) (v := ?_) (a' := ?_) #[true, false, false, true, false, false, true, false, false, false, false, true, false, false, false, false, false, false, false, false, false, false, false, false, false, false, false] rfl rfl (any_of HT_.out (by kernel_rfl)) (fun _ _ _ h => h) (Or.inl ⟨by rfl, ?_⟩) ?_ ?_
      rotate_left
      · intro w'
        go_simp
        with_reducible rfl
      rotate_left
      · simp only [Act.put, List.setIfInBounds_toArray, List.set_cons_zero, List.set_cons_succ, i64_w, i32_w]
        rfl
      refine pure_ (i := 16) (N := some 19) (v := ?_) (a' := ?_) #[true, false, false, true, false, false, true, false, false, false, false, true, false, false, false, false, true, false, false, false, false, false, false, false, false, false, false] rfl rfl (any_of HT_.out (by kernel_rfl)) (fun _ _ _ h => h) (Or.inl ⟨by rfl, ?_⟩) ?_ ?_
      rotate_left
      · intro w'
        go_simp
        with_reducible rfl
      rotate_left
      · simp only [Act.put, List.setIfInBounds_toArray, List.set_cons_zero, List.set_cons_succ, i64_w, i32_w]
        rfl
      refine pure_ (i := 21) (N := some 24) (v := ?_) (a' := ?_) #[true, false, false, true, false, false, true, false, false, false, false, true, false, false, false, false, true, false, false, false, false, true, false, false, false, false, false] rfl rfl (any_of HT_.out (by kernel_rfl)) (fun _ _ _ h => h) (Or.inl ⟨by rfl, ?_⟩) ?_ ?_
      rotate_left
      · intro w'
        go_simp
        with_reducible rfl
      rotate_left
      · simp only [Act.put, List.setIfInBounds_toArray, List.set_cons_zero, List.set_cons_succ, i64_w, i32_w]
        rfl
      refine inv_at [1, 2, 4, 5, 7, 8, 9, 10, 12, 13, 14, 15, 17, 18, 19, 20, 22, 23, 24, 25, 26] (fun a0_ b a w' => ∃ (v151 : Value) (adz_v151 : Addr) (m14_ : Value), a = putSel a0_ b [(1, 4, .int .i64 t144), (2, 5, .int .i64 (wrap64 (1 + t144))), (4, 7, .int .i64 t146), (5, 8, .int .i64 (wrap64 (1 + t146))), (7, 10, .int .i64 t148), (8, 11, .int .i64 (wrap64 (1 + t148))), (9, 12, .int .i64 (wrap64 (12 * (wrap64 (1 + t148))))), (10, 13, v151), (12, 15, .int .i64 t153), (13, 16, .int .i64 ji6), (14, 17, m14_), (15, 18, .int .i64 (rd y150 (ji6))), (17, 20, .int .i64 t156), (18, 21, .int .i64 (wrap64 (Int.tdiv t156 29))), (19, 22, .int .i64 (wrap64 ((wrap64 (Int.tdiv t156 29)) * 500))), (20, 23, .int .i64 (wrap64 ((rd y150 (ji6)) + (wrap64 ((wrap64 (Int.tdiv t156 29)) * 500))))), (22, 25, .int .i64 t158), (23, 26, .int .i64 (wrap64 (Int.tdiv t158 39))), (24, 27, .int .i64 (wrap64 ((wrap64 (Int.tdiv t158 39)) * 1000))), (25, 28, .int .i64 (wrap64 ((wrap64 ((rd y150 (ji6)) + (wrap64 ((wrap64 (Int.tdiv t156 29)) * 500)))) - (wrap64 ((wrap64 (Int.tdiv t158 39)) * 1000))))), (26, 2, .int .i64 (wrap64 ((wrap64 ((rd y150 (ji6)) + (wrap64 ((wrap64 (Int.tdiv t156 29)) * 500)))) - (wrap64 ((wrap64 (Int.tdiv t158 39)) * 1000)))))] ∧ (b 1 = false → IsS46 w0 w' g s0_0 s0_1) ∧ (KeepBut w w' g none) ∧ (Below w0.heap.size w0 w') ∧ (b 1 = true → b 4 = false → IsS46 w0 w' g s0_0 t145) ∧ (b 4 = true → b 7 = false → IsS46 w0 w' g s0_0 t147) ∧ (b 7 = true → b 12 = false → IsS46 w0 w' g s0_0 t149) ∧ (b 10 = true → Kd.R (Kd.int .i64) 3 w' w.heap.size (fun _ => True) v151 y150) ∧ (b 10 = true → ∃ c_, (v151 : Value) = .slice (some adz_v151) y150.length c_) ∧ (b 12 = true → b 17 = false → IsS46 w0 w' g s0_0 t154) ∧ (b 17 = true → b 22 = false → IsS46 w0 w' g s0_0 t157) ∧ (b 22 = true → IsS46 w0 w' g s0_0 t159) ∧ (b 14 = true → (m14_ : Value) = .pointer (some (adz_v151.add ((ji6)).toNat)))) HT_.out HW_.out (by kernel_rfl) (by kernel_rfl) ?_ ?_ ?_
      · exact ⟨.bool false, ⟨0, 0, none⟩, .bool false, by simp only [putSel, Bool.false_eq_true, if_false], fun _ => HI0.out, HK.out, HB.out, fun h_ => absurd h_ (by decide), fun h_ => absurd h_ (by decide), fun h_ => absurd h_ (by decide), fun h_ => absurd h_ (by decide), fun h_ => absurd h_ (by decide), fun h_ => absurd h_ (by decide), fun h_ => absurd h_ (by decide), fun h_ => absurd h_ (by decide), fun h_ => absurd h_ (by decide)⟩
      · skip
        clear HB HI0 HK
        refine steps_cons ?_ ?_
        · rintro b a w' ⟨v151, adz_v151, m14_, ha, Q_HI0, Q_HK, Q_HB, Q_HI0_e1, Q_HI0_e4, Q_HI0_e7, Q_HO152, Q_HA_HO152, Q_HI0_e12, Q_HI0_e17, Q_HI0_e22, Q_X14_⟩ hb_ hon hoff
          refine ⟨_, rfl, fun K hK => ?_⟩
          have e3 : a.tmps[3]? = some (.pointer (some ⟨g, 0, none⟩)) := by rw [ha]; exact (putSel_off rfl).trans rfl
          replace ha := Aside0.mk ha
          have HI0 := Aside0.mk (Q_HI0 hb_)
          have HK := Aside0.mk Q_HK
          have HB := Aside0.mk Q_HB
          refine goes_ Try.func33 (by kernel_rfl) rfl #[.pointer (some ⟨g, 0, none⟩), .int .i64 20] (by rfl) rfl rfl (by first | (simp only [List.map_toArray, List.map_cons, List.map_nil, Act.eval, Array.getD_eq_getD_getElem?, Option.getD_some, e3]; done) | (simp only [List.map_toArray, List.map_cons, List.map_nil, Act.eval, Array.getD_eq_getD_getElem?, Option.getD_some, e3]; rfl)) ?_
          with_reducible refine (spec_l20Rd_pick.calls k g s0_0 s0_1 20 t144 t145 w0 _ ?side1 ?side2 A2.out).mono ?_
          (case side1 => repeat (first | (with_reducible first | exact HI0.out | apply IsS46.alloc | apply IsS46.drewN | apply IsS46.drew | apply IsS46.set_1) | exact HI0.out))
          (case side2 => repeat (first | (with_reducible first | exact HB.out | apply below_alloc | apply pw_below_drewN | apply below_drew1 | refine below_set ?_ (IsS46.ge HI0.out)) | exact HB.out))
          rintro e w12 ⟨rfl, hi, hb, hk⟩
          refine ⟨_, rfl, ?_⟩
          have n0_ := Aside0.mk (KeepBut.trans (by repeat (first | (with_reducible first | exact HK.out | apply KeepBut.set_ | apply keep_drewN | apply keep_drew | apply keep_alloc) | exact HK.out)) hk (.inl rfl))
          have n1_ := Aside0.mk (hb)
          have n2_ := Aside0.mk (hi)
          clear HK
          clear HB
          clear HI0
          have HK := n0_
          have HB := n1_
          have HI0 := n2_
          clear n0_ n1_ n2_
          (try clear hb)
          (try clear hb2)
          (try clear hk)
          (try clear hi)
          refine hK.out _ _ ⟨v151, adz_v151, m14_, (by rw [ha.out]; exact putSel_upk 0 hb_ rfl rfl rfl), fun h0_ => absurd ((up_self b 1).symm.trans h0_) (by decide), (by repeat (first | (with_reducible first | exact HK.out | apply KeepBut.set_ | apply keep_drewN | apply keep_drew | apply keep_alloc) | exact HK.out)), (by repeat (first | (with_reducible first | exact HB.out | apply below_alloc | apply pw_below_drewN | apply below_drew1 | refine below_set ?_ (IsS46.ge HI0.out)) | exact HB.out)), fun _ _ => (by repeat (first | (with_reducible first | exact HI0.out | apply IsS46.alloc | apply IsS46.drewN | apply IsS46.drew | apply IsS46.set_1) | exact HI0.out)), fun h0_ _ => absurd ((hoff 4 (by kernel_rfl)).symm.trans h0_) (by decide), fun h0_ _ => absurd ((hoff 7 (by kernel_rfl)).symm.trans h0_) (by decide), fun h0_ => absurd ((hoff 10 (by kernel_rfl)).symm.trans h0_) (by decide), fun h0_ => absurd ((hoff 10 (by kernel_rfl)).symm.trans h0_) (by decide), fun h0_ _ => absurd ((hoff 12 (by kernel_rfl)).symm.trans h0_) (by decide), fun h0_ _ => absurd ((hoff 17 (by kernel_rfl)).symm.trans h0_) (by decide), fun h0_ => absurd ((hoff 22 (by kernel_rfl)).symm.trans h0_) (by decide), fun h0_ => absurd ((hoff 14 (by kernel_rfl)).symm.trans h0_) (by decide)⟩
        refine steps_cons ?_ ?_
        · rintro b a w' ⟨v151, adz_v151, m14_, ha, Q_HI0, Q_HK, Q_HB, Q_HI0_e1, Q_HI0_e4, Q_HI0_e7, Q_HO152, Q_HA_HO152, Q_HI0_e12, Q_HI0_e17, Q_HI0_e22, Q_X14_⟩ hb_ hon hoff
          refine ⟨_, rfl, fun K hK => ?_⟩
          have e4 : a.tmps[4]? = some (.int .i64 t144) := by rw [ha]; exact putSel_on (e := (1, 4, .int .i64 t144)) 0 rfl rfl (hon 1 (by kernel_rfl)) rfl
          replace ha := Aside0.mk ha
          have HK := Aside0.mk Q_HK
          have HB := Aside0.mk Q_HB
          refine value_ (w1 := w') (v := .int .i64 (wrap64 (1 + t144))) (by rfl) rfl ?_ ?_
          · go_simp
            (try simp only [i64_w])
            try rfl
          refine hK.out _ _ ⟨v151, adz_v151, m14_, (by rw [ha.out]; exact putSel_upk 1 hb_ rfl rfl rfl), fun h0_ => absurd ((hon 1 (by kernel_rfl)).symm.trans h0_) (by decide), Q_HK, Q_HB, Q_HI0_e1, Q_HI0_e4, Q_HI0_e7, fun h0_ => absurd ((hoff 10 (by kernel_rfl)).symm.trans h0_) (by decide), fun h0_ => absurd ((hoff 10 (by kernel_rfl)).symm.trans h0_) (by decide), Q_HI0_e12, Q_HI0_e17, Q_HI0_e22, fun h0_ => absurd ((hoff 14 (by kernel_rfl)).symm.trans h0_) (by decide)⟩
        refine steps_cons ?_ ?_
        · rintro b a w' ⟨v151, adz_v151, m14_, ha, Q_HI0, Q_HK, Q_HB, Q_HI0_e1, Q_HI0_e4, Q_HI0_e7, Q_HO152, Q_HA_HO152, Q_HI0_e12, Q_HI0_e17, Q_HI0_e22, Q_X14_⟩ hb_ hon hoff
          refine ⟨_, rfl, fun K hK => ?_⟩
          have e6 : a.tmps[6]? = some (.pointer (some ⟨g, 0, none⟩)) := by rw [ha]; exact (putSel_off rfl).trans rfl
          replace ha := Aside0.mk ha
          have HK := Aside0.mk Q_HK
          have HB := Aside0.mk Q_HB
          have HI0 := Aside0.mk (Q_HI0_e1 (hon 1 (by kernel_rfl)) hb_)
          refine goes_ Try.func33 (by kernel_rfl) rfl #[.pointer (some ⟨g, 0, none⟩), .int .i64 100] (by rfl) rfl rfl (by first | (simp only [List.map_toArray, List.map_cons, List.map_nil, Act.eval, Array.getD_eq_getD_getElem?, Option.getD_some, e6]; done) | (simp only [List.map_toArray, List.map_cons, List.map_nil, Act.eval, Array.getD_eq_getD_getElem?, Option.getD_some, e6]; rfl)) ?_
          with_reducible refine (spec_l20Rd_pick.calls k g s0_0 t145 100 t146 t147 w0 _ ?side1 ?side2 A3.out).mono ?_
          (case side1 => repeat (first | (with_reducible first | exact HI0.out | apply IsS46.alloc | apply IsS46.drewN | apply IsS46.drew | apply IsS46.set_1) | exact HI0.out))
          (case side2 => repeat (first | (with_reducible first | exact HB.out | apply below_alloc | apply pw_below_drewN | apply below_drew1 | refine below_set ?_ (IsS46.ge HI0.out)) | exact HB.out))
          rintro e w14 ⟨rfl, hi, hb, hk⟩
          refine ⟨_, rfl, ?_⟩
          have n0_ := Aside0.mk (KeepBut.trans (by repeat (first | (with_reducible first | exact HK.out | apply KeepBut.set_ | apply keep_drewN | apply keep_drew | apply keep_alloc) | exact HK.out)) hk (.inl rfl))
          have n1_ := Aside0.mk (hb)
          have n2_ := Aside0.mk (hi)
          clear HK
          clear HB
          clear HI0
          have HK := n0_
          have HB := n1_
          have HI0 := n2_
          clear n0_ n1_ n2_
          (try clear hb)
          (try clear hb2)
          (try clear hk)
          (try clear hi)
          refine hK.out _ _ ⟨v151, adz_v151, m14_, (by rw [ha.out]; exact putSel_upk 2 hb_ rfl rfl rfl), fun h0_ => absurd ((hon 1 (by kernel_rfl)).symm.trans h0_) (by decide), (by repeat (first | (with_reducible first | exact HK.out | apply KeepBut.set_ | apply keep_drewN | apply keep_drew | apply keep_alloc) | exact HK.out)), (by repeat (first | (with_reducible first | exact HB.out | apply below_alloc | apply pw_below_drewN | apply below_drew1 | refine below_set ?_ (IsS46.ge HI0.out)) | exact HB.out)), fun _ h1_ => absurd ((up_self b 4).symm.trans h1_) (by decide), fun _ _ => (by repeat (first | (with_reducible first | exact HI0.out | apply IsS46.alloc | apply IsS46.drewN | apply IsS46.drew | apply IsS46.set_1) | exact HI0.out)), fun h0_ _ => absurd ((hoff 7 (by kernel_rfl)).symm.trans h0_) (by decide), fun h0_ => absurd ((hoff 10 (by kernel_rfl)).symm.trans h0_) (by decide), fun h0_ => absurd ((hoff 10 (by kernel_rfl)).symm.trans h0_) (by decide), fun h0_ _ => absurd ((hoff 12 (by kernel_rfl)).symm.trans h0_) (by decide), fun h0_ _ => absurd ((hoff 17 (by kernel_rfl)).symm.trans h0_) (by decide), fun h0_ => absurd ((hoff 22 (by kernel_rfl)).symm.trans h0_) (by decide), fun h0_ => absurd ((hoff 14 (by kernel_rfl)).symm.trans h0_) (by decide)⟩
        refine steps_cons ?_ ?_
        · rintro b a w' ⟨v151, adz_v151, m14_, ha, Q_HI0, Q_HK, Q_HB, Q_HI0_e1, Q_HI0_e4, Q_HI0_e7, Q_HO152, Q_HA_HO152, Q_HI0_e12, Q_HI0_e17, Q_HI0_e22, Q_X14_⟩ hb_ hon hoff
          refine ⟨_, rfl, fun K hK => ?_⟩
          have e7 : a.tmps[7]? = some (.int .i64 t146) := by rw [ha]; exact putSel_on (e := (4, 7, .int .i64 t146)) 2 rfl rfl (hon 4 (by kernel_rfl)) rfl
          replace ha := Aside0.mk ha
          have HK := Aside0.mk Q_HK
          have HB := Aside0.mk Q_HB
          refine value_ (w1 := w') (v := .int .i64 (wrap64 (1 + t146))) (by rfl) rfl ?_ ?_
          · go_simp
            (try simp only [i64_w])
            try rfl
          refine hK.out _ _ ⟨v151, adz_v151, m14_, (by rw [ha.out]; exact putSel_upk 3 hb_ rfl rfl rfl), fun h0_ => absurd ((hon 1 (by kernel_rfl)).symm.trans h0_) (by decide), Q_HK, Q_HB, fun _ h1_ => absurd ((hon 4 (by kernel_rfl)).symm.trans h1_) (by decide), Q_HI0_e4, Q_HI0_e7, fun h0_ => absurd ((hoff 10 (by kernel_rfl)).symm.trans h0_) (by decide), fun h0_ => absurd ((hoff 10 (by kernel_rfl)).symm.trans h0_) (by decide), Q_HI0_e12, Q_HI0_e17, Q_HI0_e22, fun h0_ => absurd ((hoff 14 (by kernel_rfl)).symm.trans h0_) (by decide)⟩
        refine steps_cons ?_ ?_
        · rintro b a w' ⟨v151, adz_v151, m14_, ha, Q_HI0, Q_HK, Q_HB, Q_HI0_e1, Q_HI0_e4, Q_HI0_e7, Q_HO152, Q_HA_HO152, Q_HI0_e12, Q_HI0_e17, Q_HI0_e22, Q_X14_⟩ hb_ hon hoff
          refine ⟨_, rfl, fun K hK => ?_⟩
          have e9 : a.tmps[9]? = some (.pointer (some ⟨g, 0, none⟩)) := by rw [ha]; exact (putSel_off rfl).trans rfl
          replace ha := Aside0.mk ha
          have HK := Aside0.mk Q_HK
          have HB := Aside0.mk Q_HB
          have HI0 := Aside0.mk (Q_HI0_e4 (hon 4 (by kernel_rfl)) hb_)
          refine goes_ Try.func33 (by kernel_rfl) rfl #[.pointer (some ⟨g, 0, none⟩), .int .i64 41] (by rfl) rfl rfl (by first | (simp only [List.map_toArray, List.map_cons, List.map_nil, Act.eval, Array.getD_eq_getD_getElem?, Option.getD_some, e9]; done) | (simp only [List.map_toArray, List.map_cons, List.map_nil, Act.eval, Array.getD_eq_getD_getElem?, Option.getD_some, e9]; rfl)) ?_
          with_reducible refine (spec_l20Rd_pick.calls k g s0_0 t147 41 t148 t149 w0 _ ?side1 ?side2 A4.out).mono ?_
          (case side1 => repeat (first | (with_reducible first | exact HI0.out | apply IsS46.alloc | apply IsS46.drewN | apply IsS46.drew | apply IsS46.set_1) | exact HI0.out))
          (case side2 => repeat (first | (with_reducible first | exact HB.out | apply below_alloc | apply pw_below_drewN | apply below_drew1 | refine below_set ?_ (IsS46.ge HI0.out)) | exact HB.out))
          rintro e w15 ⟨rfl, hi, hb, hk⟩
          refine ⟨_, rfl, ?_⟩
          have n0_ := Aside0.mk (KeepBut.trans (by repeat (first | (with_reducible first | exact HK.out | apply KeepBut.set_ | apply keep_drewN | apply keep_drew | apply keep_alloc) | exact HK.out)) hk (.inl rfl))
          have n1_ := Aside0.mk (hb)
          have n2_ := Aside0.mk (hi)
          clear HK
          clear HB
          clear HI0
          have HK := n0_
          have HB := n1_
          have HI0 := n2_
          clear n0_ n1_ n2_
          (try clear hb)
          (try clear hb2)
          (try clear hk)
          (try clear hi)
          refine hK.out _ _ ⟨v151, adz_v151, m14_, (by rw [ha.out]; exact putSel_upk 4 hb_ rfl rfl rfl), fun h0_ => absurd ((hon 1 (by kernel_rfl)).symm.trans h0_) (by decide), (by repeat (first | (with_reducible first | exact HK.out | apply KeepBut.set_ | apply keep_drewN | apply keep_drew | apply keep_alloc) | exact HK.out)), (by repeat (first | (with_reducible first | exact HB.out | apply below_alloc | apply pw_below_drewN | apply below_drew1 | refine below_set ?_ (IsS46.ge HI0.out)) | exact HB.out)), fun _ h1_ => absurd ((hon 4 (by kernel_rfl)).symm.trans h1_) (by decide), fun _ h1_ => absurd ((up_self b 7).symm.trans h1_) (by decide), fun _ _ => (by repeat (first | (with_reducible first | exact HI0.out | apply IsS46.alloc | apply IsS46.drewN | apply IsS46.drew | apply IsS46.set_1) | exact HI0.out)), fun h0_ => absurd ((hoff 10 (by kernel_rfl)).symm.trans h0_) (by decide), fun h0_ => absurd ((hoff 10 (by kernel_rfl)).symm.trans h0_) (by decide), fun h0_ _ => absurd ((hoff 12 (by kernel_rfl)).symm.trans h0_) (by decide), fun h0_ _ => absurd ((hoff 17 (by kernel_rfl)).symm.trans h0_) (by decide), fun h0_ => absurd ((hoff 22 (by kernel_rfl)).symm.trans h0_) (by decide), fun h0_ => absurd ((hoff 14 (by kernel_rfl)).symm.trans h0_) (by decide)⟩
        refine steps_cons ?_ ?_
        · rintro b a w' ⟨v151, adz_v151, m14_, ha, Q_HI0, Q_HK, Q_HB, Q_HI0_e1, Q_HI0_e4, Q_HI0_e7, Q_HO152, Q_HA_HO152, Q_HI0_e12, Q_HI0_e17, Q_HI0_e22, Q_X14_⟩ hb_ hon hoff
          refine ⟨_, rfl, fun K hK => ?_⟩
          have e10 : a.tmps[10]? = some (.int .i64 t148) := by rw [ha]; exact putSel_on (e := (7, 10, .int .i64 t148)) 4 rfl rfl (hon 7 (by kernel_rfl)) rfl
          replace ha := Aside0.mk ha
          have HK := Aside0.mk Q_HK
          have HB := Aside0.mk Q_HB
          refine value_ (w1 := w') (v := .int .i64 (wrap64 (1 + t148))) (by rfl) rfl ?_ ?_
          · go_simp
            (try simp only [i64_w])
            try rfl
          refine hK.out _ _ ⟨v151, adz_v151, m14_, (by rw [ha.out]; exact putSel_upk 5 hb_ rfl rfl rfl), fun h0_ => absurd ((hon 1 (by kernel_rfl)).symm.trans h0_) (by decide), Q_HK, Q_HB, fun _ h1_ => absurd ((hon 4 (by kernel_rfl)).symm.trans h1_) (by decide), fun _ h1_ => absurd ((hon 7 (by kernel_rfl)).symm.trans h1_) (by decide), Q_HI0_e7, fun h0_ => absurd ((hoff 10 (by kernel_rfl)).symm.trans h0_) (by decide), fun h0_ => absurd ((hoff 10 (by kernel_rfl)).symm.trans h0_) (by decide), Q_HI0_e12, Q_HI0_e17, Q_HI0_e22, fun h0_ => absurd ((hoff 14 (by kernel_rfl)).symm.trans h0_) (by decide)⟩
        refine steps_cons ?_ ?_
        · rintro b a w' ⟨v151, adz_v151, m14_, ha, Q_HI0, Q_HK, Q_HB, Q_HI0_e1, Q_HI0_e4, Q_HI0_e7, Q_HO152, Q_HA_HO152, Q_HI0_e12, Q_HI0_e17, Q_HI0_e22, Q_X14_⟩ hb_ hon hoff
          refine ⟨_, rfl, fun K hK => ?_⟩
          have e11 : a.tmps[11]? = some (.int .i64 (wrap64 (1 + t148))) := by rw [ha]; exact putSel_on (e := (8, 11, .int .i64 (wrap64 (1 + t148)))) 5 rfl rfl (hon 8 (by kernel_rfl)) rfl
          replace ha := Aside0.mk ha
          have HK := Aside0.mk Q_HK
          have HB := Aside0.mk Q_HB
          refine value_ (w1 := w') (v := .int .i64 (wrap64 (12 * (wrap64 (1 + t148))))) (by rfl) rfl ?_ ?_
          · go_simp
            (try simp only [i64_w])
            try rfl
          refine hK.out _ _ ⟨v151, adz_v151, m14_, (by rw [ha.out]; exact putSel_upk 6 hb_ rfl rfl rfl), fun h0_ => absurd ((hon 1 (by kernel_rfl)).symm.trans h0_) (by decide), Q_HK, Q_HB, fun _ h1_ => absurd ((hon 4 (by kernel_rfl)).symm.trans h1_) (by decide), fun _ h1_ => absurd ((hon 7 (by kernel_rfl)).symm.trans h1_) (by decide), Q_HI0_e7, fun h0_ => absurd ((hoff 10 (by kernel_rfl)).symm.trans h0_) (by decide), fun h0_ => absurd ((hoff 10 (by kernel_rfl)).symm.trans h0_) (by decide), Q_HI0_e12, Q_HI0_e17, Q_HI0_e22, fun h0_ => absurd ((hoff 14 (by kernel_rfl)).symm.trans h0_) (by decide)⟩
        refine steps_cons ?_ ?_
        · rintro b a w' ⟨v151, adz_v151, m14_, ha, Q_HI0, Q_HK, Q_HB, Q_HI0_e1, Q_HI0_e4, Q_HI0_e7, Q_HO152, Q_HA_HO152, Q_HI0_e12, Q_HI0_e17, Q_HI0_e22, Q_X14_⟩ hb_ hon hoff
          refine ⟨_, rfl, fun K hK => ?_⟩
          have e5 : a.tmps[5]? = some (.int .i64 (wrap64 (1 + t144))) := by rw [ha]; exact putSel_on (e := (2, 5, .int .i64 (wrap64 (1 + t144)))) 1 rfl rfl (hon 2 (by kernel_rfl)) rfl
          have e8 : a.tmps[8]? = some (.int .i64 (wrap64 (1 + t146))) := by rw [ha]; exact putSel_on (e := (5, 8, .int .i64 (wrap64 (1 + t146)))) 3 rfl rfl (hon 5 (by kernel_rfl)) rfl
          have e12 : a.tmps[12]? = some (.int .i64 (wrap64 (12 * (wrap64 (1 + t148))))) := by rw [ha]; exact putSel_on (e := (9, 12, .int .i64 (wrap64 (12 * (wrap64 (1 + t148)))))) 6 rfl rfl (hon 9 (by kernel_rfl)) rfl
          replace ha := Aside0.mk ha
          have HK := Aside0.mk Q_HK
          have HB := Aside0.mk Q_HB
          refine Kd.R_lit_step (Kd.int .i64) _ 3 ?hg (N := 13) ?hd (xs := ([wrap64 (1 + t144), wrap64 (1 + t146), wrap64 (12 * (wrap64 (1 + t148))), 500] : List Int)) (inner := [.int .i64 (wrap64 (1 + t144)), .int .i64 (wrap64 (1 + t146)), .int .i64 (wrap64 (12 * (wrap64 (1 + t148)))), .int .i64 500]) (ok := fun _ => True) (okp := fun _ => True) ?hr ?hp (fun _ hk => hk) trivial (Below.refl _ _) (Nat.le_refl _) (by simp) ?_; (case hd => rfl); (case hg => rfl); (case hr => first | (go_simp; done) | (go_simp; rfl)); (case hp => exact (Reps.one (show Kd.M (Kd.int .i64) _ _ _ (wrap64 (1 + t144)) [.int .i64 (wrap64 (1 + t144))] from rfl) (Reps.one (show Kd.M (Kd.int .i64) _ _ _ (wrap64 (1 + t146)) [.int .i64 (wrap64 (1 + t146))] from rfl) (Reps.one (show Kd.M (Kd.int .i64) _ _ _ (wrap64 (12 * (wrap64 (1 + t148)))) [.int .i64 (wrap64 (12 * (wrap64 (1 + t148))))] from rfl) (Reps.one (show Kd.M (Kd.int .i64) _ _ _ 500 [.int .i64 500] from rfl) (Reps.none _ _))))))
          intro v151 w16 ho17 hb hg_ hnew_
          clear hg_ hnew_
          (first | rw [← Ny150.out] at ho17 | (simp only [Int.reduceToNat] at ho17; rw [← Ny150.out] at ho17))
          have n0_ := Aside0.mk (Kd.R_lower ho17 (keep_size (w := w) (g := g) (row := none) (by repeat (first | (with_reducible first | exact HK.out | apply KeepBut.set_ | apply keep_drewN | apply keep_drew | apply keep_alloc) | exact HK.out))))
          have n2_ := Aside0.mk (KeepBut.trans (by repeat (first | (with_reducible first | exact HK.out | apply KeepBut.set_ | apply keep_drewN | apply keep_drew | apply keep_alloc) | exact HK.out)) (KeepBut.of_below hb g none) (.inl rfl))
          have n3_ := Aside0.mk (below_step (by repeat (first | (with_reducible first | exact HB.out | apply below_alloc | apply pw_below_drewN | apply below_drew1) | exact HB.out)) hb)
          have z_HI0_e7 := fun (h0_ : b 7 = true) (h1_ : b 12 = false) => (show IsS46 w0 w16 g s0_0 t149 from by first | exact (IsS46.below (by repeat (first | (with_reducible first | exact (Q_HI0_e7 h0_ h1_) | apply IsS46.alloc | apply IsS46.drewN | apply IsS46.drew | apply IsS46.set_1) | exact (Q_HI0_e7 h0_ h1_))) hb))
          have z_HI0_e12 := fun (h0_ : b 12 = true) (h1_ : b 17 = false) => (show IsS46 w0 w16 g s0_0 t154 from by first | exact (IsS46.below (by repeat (first | (with_reducible first | exact (Q_HI0_e12 h0_ h1_) | apply IsS46.alloc | apply IsS46.drewN | apply IsS46.drew | apply IsS46.set_1) | exact (Q_HI0_e12 h0_ h1_))) hb))
          have z_HI0_e17 := fun (h0_ : b 17 = true) (h1_ : b 22 = false) => (show IsS46 w0 w16 g s0_0 t157 from by first | exact (IsS46.below (by repeat (first | (with_reducible first | exact (Q_HI0_e17 h0_ h1_) | apply IsS46.alloc | apply IsS46.drewN | apply IsS46.drew | apply IsS46.set_1) | exact (Q_HI0_e17 h0_ h1_))) hb))
          have z_HI0_e22 := fun (h0_ : b 22 = true) => (show IsS46 w0 w16 g s0_0 t159 from by first | exact (IsS46.below (by repeat (first | (with_reducible first | exact (Q_HI0_e22 h0_) | apply IsS46.alloc | apply IsS46.drewN | apply IsS46.drew | apply IsS46.set_1) | exact (Q_HI0_e22 h0_))) hb))
          clear HK
          clear HB
          have HO152 := n0_
          have HK := n2_
          have HB := n3_
          clear n0_ n2_ n3_
          clear hb ho17
          obtain ⟨Ao18, co18, eo18⟩ := Kd.R_slice HO152.out
          subst eo18
          obtain ⟨ado18, fo18, _⟩ := Kd.at_int (Kd.R_reads' HO152.out).2.2 0 (by decide) (by rw [Ny150.out]; simp)
          cases fo18
          refine hK.out _ _ ⟨.slice (some ado18) y150.length co18, ado18, m14_, (by rw [ha.out]; exact putSel_upk 7 hb_ rfl rfl rfl), fun h0_ => absurd ((hon 1 (by kernel_rfl)).symm.trans h0_) (by decide), (by repeat (first | (with_reducible first | exact HK.out | apply KeepBut.set_ | apply keep_drewN | apply keep_drew | apply keep_alloc) | exact HK.out)), (by repeat (first | (with_reducible first | exact HB.out | apply below_alloc | apply pw_below_drewN | apply below_drew1) | exact HB.out)), fun _ h1_ => absurd ((hon 4 (by kernel_rfl)).symm.trans h1_) (by decide), fun _ h1_ => absurd ((hon 7 (by kernel_rfl)).symm.trans h1_) (by decide), z_HI0_e7, fun _ => (by (with_reducible repeat (first | apply Kd.R_alloc | apply Kd.R_drewN | apply Kd.R_drew)); exact HO152.out), fun _ => ⟨_, rfl⟩, z_HI0_e12, z_HI0_e17, z_HI0_e22, fun h0_ => absurd ((hoff 14 (by kernel_rfl)).symm.trans h0_) (by decide)⟩
        refine steps_cons ?_ ?_
        · rintro b a w' ⟨v151, adz_v151, m14_, ha, Q_HI0, Q_HK, Q_HB, Q_HI0_e1, Q_HI0_e4, Q_HI0_e7, Q_HO152, Q_HA_HO152, Q_HI0_e12, Q_HI0_e17, Q_HI0_e22, Q_X14_⟩ hb_ hon hoff
          refine ⟨_, rfl, fun K hK => ?_⟩
          have e14 : a.tmps[14]? = some (.pointer (some ⟨g, 0, none⟩)) := by rw [ha]; exact (putSel_off rfl).trans rfl
          replace ha := Aside0.mk ha
          have HK := Aside0.mk Q_HK
          have HB := Aside0.mk Q_HB
          have HI0 := Aside0.mk (Q_HI0_e7 (hon 7 (by kernel_rfl)) hb_)
          refine goes_ Try.func33 (by kernel_rfl) rfl #[.pointer (some ⟨g, 0, none⟩), .int .i64 7] (by rfl) rfl rfl (by first | (simp only [List.map_toArray, List.map_cons, List.map_nil, Act.eval, Array.getD_eq_getD_getElem?, Option.getD_some, e14]; done) | (simp only [List.map_toArray, List.map_cons, List.map_nil, Act.eval, Array.getD_eq_getD_getElem?, Option.getD_some, e14]; rfl)) ?_
          with_reducible refine (spec_l20Rd_pick.calls k g s0_0 t149 7 t153 t154 w0 _ ?side1 ?side2 A5.out).mono ?_
          (case side1 => repeat (first | (with_reducible first | exact HI0.out | apply IsS46.alloc | apply IsS46.drewN | apply IsS46.drew | apply IsS46.set_1) | exact HI0.out))
          (case side2 => repeat (first | (with_reducible first | exact HB.out | apply below_alloc | apply pw_below_drewN | apply below_drew1 | refine below_set ?_ (IsS46.ge HI0.out)) | exact HB.out))
          rintro e w16 ⟨rfl, hi, hb, hk⟩
          refine ⟨_, rfl, ?_⟩
          have n0_ := Aside0.mk (KeepBut.trans (by repeat (first | (with_reducible first | exact HK.out | apply KeepBut.set_ | apply keep_drewN | apply keep_drew | apply keep_alloc) | exact HK.out)) hk (.inl rfl))
          have n1_ := Aside0.mk (hb)
          have n2_ := Aside0.mk (hi)
          have z_HO152 := fun (h0_ : b 10 = true) => (show Kd.R (Kd.int .i64) 3 w16 w.heap.size (fun _ => True) v151 y150 from by first | exact (Kd.R_mono (Kd.R_keep (IsS46.apart (show IsS46 w0 _ g s0_0 t149 from by repeat (first | (with_reducible first | exact HI0.out | apply IsS46.alloc | apply IsS46.drewN | apply IsS46.drew | apply IsS46.set_1) | exact HI0.out)) (by (with_reducible repeat (first | apply Kd.R_alloc | apply Kd.R_drewN | apply Kd.R_drew)); exact (Q_HO152 h0_)) (by decide)) hk (fun _ h => h.2)) (fun _ h => h.1)) | exact Kd.R_mono (Kd.R_mono (Kd.R_keep (IsS46.apart (show IsS46 w0 _ g s0_0 t149 from by repeat (first | (with_reducible first | exact HI0.out | apply IsS46.alloc | apply IsS46.drewN | apply IsS46.drew | apply IsS46.set_1) | exact HI0.out)) (by (with_reducible repeat (first | apply Kd.R_alloc | apply Kd.R_drewN | apply Kd.R_drew)); exact (Q_HO152 h0_)) (by decide)) hk (fun _ h => h.2)) (fun _ h => h.1)) (fun _ h_ => by first | trivial | exact h_ | exact h_.1))
          clear HK
          clear HB
          clear HI0
          have HK := n0_
          have HB := n1_
          have HI0 := n2_
          clear n0_ n1_ n2_
          (try clear hb)
          (try clear hb2)
          (try clear hk)
          (try clear hi)
          refine hK.out _ _ ⟨v151, adz_v151, m14_, (by rw [ha.out]; exact putSel_upk 8 hb_ rfl rfl rfl), fun h0_ => absurd ((hon 1 (by kernel_rfl)).symm.trans h0_) (by decide), (by repeat (first | (with_reducible first | exact HK.out | apply KeepBut.set_ | apply keep_drewN | apply keep_drew | apply keep_alloc) | exact HK.out)), (by repeat (first | (with_reducible first | exact HB.out | apply below_alloc | apply pw_below_drewN | apply below_drew1 | refine below_set ?_ (IsS46.ge HI0.out)) | exact HB.out)), fun _ h1_ => absurd ((hon 4 (by kernel_rfl)).symm.trans h1_) (by decide), fun _ h1_ => absurd ((hon 7 (by kernel_rfl)).symm.trans h1_) (by decide), fun _ h1_ => absurd ((up_self b 12).symm.trans h1_) (by decide), z_HO152, Q_HA_HO152, fun _ _ => (by repeat (first | (with_reducible first | exact HI0.out | apply IsS46.alloc | apply IsS46.drewN | apply IsS46.drew | apply IsS46.set_1) | exact HI0.out)), fun h0_ _ => absurd ((hoff 17 (by kernel_rfl)).symm.trans h0_) (by decide), fun h0_ => absurd ((hoff 22 (by kernel_rfl)).symm.trans h0_) (by decide), fun h0_ => absurd ((hoff 14 (by kernel_rfl)).symm.trans h0_) (by decide)⟩
        refine steps_cons ?_ ?_
        · rintro b a w' ⟨v151, adz_v151, m14_, ha, Q_HI0, Q_HK, Q_HB, Q_HI0_e1, Q_HI0_e4, Q_HI0_e7, Q_HO152, Q_HA_HO152, Q_HI0_e12, Q_HI0_e17, Q_HI0_e22, Q_X14_⟩ hb_ hon hoff
          refine ⟨_, rfl, fun K hK => ?_⟩
          have e15 : a.tmps[15]? = some (.int .i64 t153) := by rw [ha]; exact putSel_on (e := (12, 15, .int .i64 t153)) 8 rfl rfl (hon 12 (by kernel_rfl)) rfl
          replace ha := Aside0.mk ha
          have HK := Aside0.mk Q_HK
          have HB := Aside0.mk Q_HB
          refine value_ (w1 := w') (v := .int .i64 ji6) (by rfl) rfl ?_ ?_
          · go_simp
            (try simp only [i64_w])
            try rfl
          refine hK.out _ _ ⟨v151, adz_v151, m14_, (by rw [ha.out]; exact putSel_upk 9 hb_ rfl rfl rfl), fun h0_ => absurd ((hon 1 (by kernel_rfl)).symm.trans h0_) (by decide), Q_HK, Q_HB, fun _ h1_ => absurd ((hon 4 (by kernel_rfl)).symm.trans h1_) (by decide), fun _ h1_ => absurd ((hon 7 (by kernel_rfl)).symm.trans h1_) (by decide), fun _ h1_ => absurd ((hon 12 (by kernel_rfl)).symm.trans h1_) (by decide), Q_HO152, Q_HA_HO152, Q_HI0_e12, Q_HI0_e17, Q_HI0_e22, fun h0_ => absurd ((hoff 14 (by kernel_rfl)).symm.trans h0_) (by decide)⟩
        refine steps_cons ?_ ?_
        · rintro b a w' ⟨v151, adz_v151, m14_, ha, Q_HI0, Q_HK, Q_HB, Q_HI0_e1, Q_HI0_e4, Q_HI0_e7, Q_HO152, Q_HA_HO152, Q_HI0_e12, Q_HI0_e17, Q_HI0_e22, Q_X14_⟩ hb_ hon hoff
          refine ⟨_, rfl, fun K hK => ?_⟩
          have e13 : a.tmps[13]? = some (v151) := by rw [ha]; exact putSel_on (e := (10, 13, v151)) 7 rfl rfl (hon 10 (by kernel_rfl)) rfl
          have e16 : a.tmps[16]? = some (.int .i64 ji6) := by rw [ha]; exact putSel_on (e := (13, 16, .int .i64 ji6)) 9 rfl rfl (hon 13 (by kernel_rfl)) rfl
          replace ha := Aside0.mk ha
          have HK := Aside0.mk Q_HK
          have HB := Aside0.mk Q_HB
          have HO152 := Aside0.mk (Q_HO152 (hon 10 (by kernel_rfl)))
          have HA_HO152 := Aside0.mk (Q_HA_HO152 (hon 10 (by kernel_rfl)))
          obtain ⟨c_, hv_⟩ := HA_HO152.out
          rw [hv_] at e13
          refine value_ (w1 := w') (v := .pointer (some (adz_v151.add ((ji6)).toNat))) (by rfl) rfl ?_ ?_
          · go_simp
            (try simp only [i64_w])
            try rfl
          refine hK.out _ _ ⟨v151, adz_v151, (.pointer (some (adz_v151.add ((ji6)).toNat))), (by rw [ha.out]; exact putSel_upk 10 hb_ rfl rfl rfl), fun h0_ => absurd ((hon 1 (by kernel_rfl)).symm.trans h0_) (by decide), Q_HK, Q_HB, fun _ h1_ => absurd ((hon 4 (by kernel_rfl)).symm.trans h1_) (by decide), fun _ h1_ => absurd ((hon 7 (by kernel_rfl)).symm.trans h1_) (by decide), fun _ h1_ => absurd ((hon 12 (by kernel_rfl)).symm.trans h1_) (by decide), Q_HO152, Q_HA_HO152, Q_HI0_e12, Q_HI0_e17, Q_HI0_e22, fun _ => rfl⟩
        refine steps_cons ?_ ?_
        · rintro b a w' ⟨v151, adz_v151, m14_, ha, Q_HI0, Q_HK, Q_HB, Q_HI0_e1, Q_HI0_e4, Q_HI0_e7, Q_HO152, Q_HA_HO152, Q_HI0_e12, Q_HI0_e17, Q_HI0_e22, Q_X14_⟩ hb_ hon hoff
          refine ⟨_, rfl, fun K hK => ?_⟩
          have e17 : a.tmps[17]? = some (m14_) := by rw [ha]; exact putSel_on (e := (14, 17, m14_)) 10 rfl rfl (hon 14 (by kernel_rfl)) rfl
          rw [Q_X14_ (hon 14 (by kernel_rfl))] at e17
          replace ha := Aside0.mk ha
          have HK := Aside0.mk Q_HK
          have HB := Aside0.mk Q_HB
          have HO152 := Aside0.mk (Q_HO152 (hon 10 (by kernel_rfl)))
          have HA_HO152 := Aside0.mk (Q_HA_HO152 (hon 10 (by kernel_rfl)))
          obtain ⟨c_, hv_⟩ := HA_HO152.out
          have hF_ := HO152.out
          rw [hv_] at hF_
          obtain ⟨ad_, ea_, hx_⟩ := Kd.at_int (Kd.R_reads' hF_).2.2 (ji6) (of_eq_true pi155) (of_eq_true qi155)
          cases ea_
          refine value_ (w1 := w') (v := .int .i64 (rd y150 (ji6))) (by rfl) rfl ?_ ?_
          · go_simp
            (try simp only [i64_w])
            try rfl
          refine hK.out _ _ ⟨v151, adz_v151, m14_, (by rw [ha.out]; exact putSel_upk 11 hb_ rfl rfl rfl), fun h0_ => absurd ((hon 1 (by kernel_rfl)).symm.trans h0_) (by decide), Q_HK, Q_HB, fun _ h1_ => absurd ((hon 4 (by kernel_rfl)).symm.trans h1_) (by decide), fun _ h1_ => absurd ((hon 7 (by kernel_rfl)).symm.trans h1_) (by decide), fun _ h1_ => absurd ((hon 12 (by kernel_rfl)).symm.trans h1_) (by decide), Q_HO152, Q_HA_HO152, Q_HI0_e12, Q_HI0_e17, Q_HI0_e22, Q_X14_⟩
        refine steps_cons ?_ ?_
        · rintro b a w' ⟨v151, adz_v151, m14_, ha, Q_HI0, Q_HK, Q_HB, Q_HI0_e1, Q_HI0_e4, Q_HI0_e7, Q_HO152, Q_HA_HO152, Q_HI0_e12, Q_HI0_e17, Q_HI0_e22, Q_X14_⟩ hb_ hon hoff
          refine ⟨_, rfl, fun K hK => ?_⟩
          have e19 : a.tmps[19]? = some (.pointer (some ⟨g, 0, none⟩)) := by rw [ha]; exact (putSel_off rfl).trans rfl
          replace ha := Aside0.mk ha
          have HK := Aside0.mk Q_HK
          have HB := Aside0.mk Q_HB
          have HI0 := Aside0.mk (Q_HI0_e12 (hon 12 (by kernel_rfl)) hb_)
          refine goes_ Try.func33 (by kernel_rfl) rfl #[.pointer (some ⟨g, 0, none⟩), .int .i64 30] (by rfl) rfl rfl (by first | (simp only [List.map_toArray, List.map_cons, List.map_nil, Act.eval, Array.getD_eq_getD_getElem?, Option.getD_some, e19]; done) | (simp only [List.map_toArray, List.map_cons, List.map_nil, Act.eval, Array.getD_eq_getD_getElem?, Option.getD_some, e19]; rfl)) ?_
          with_reducible refine (spec_l20Rd_pick.calls k g s0_0 t154 30 t156 t157 w0 _ ?side1 ?side2 A9.out).mono ?_
          (case side1 => repeat (first | (with_reducible first | exact HI0.out | apply IsS46.alloc | apply IsS46.drewN | apply IsS46.drew | apply IsS46.set_1) | exact HI0.out))
          (case side2 => repeat (first | (with_reducible first | exact HB.out | apply below_alloc | apply pw_below_drewN | apply below_drew1 | refine below_set ?_ (IsS46.ge HI0.out)) | exact HB.out))
          rintro e w17 ⟨rfl, hi, hb, hk⟩
          refine ⟨_, rfl, ?_⟩
          have n0_ := Aside0.mk (KeepBut.trans (by repeat (first | (with_reducible first | exact HK.out | apply KeepBut.set_ | apply keep_drewN | apply keep_drew | apply keep_alloc) | exact HK.out)) hk (.inl rfl))
          have n1_ := Aside0.mk (hb)
          have n2_ := Aside0.mk (hi)
          have z_HO152 := fun (h0_ : b 10 = true) => (show Kd.R (Kd.int .i64) 3 w17 w.heap.size (fun _ => True) v151 y150 from by first | exact (Kd.R_mono (Kd.R_keep (IsS46.apart (show IsS46 w0 _ g s0_0 t154 from by repeat (first | (with_reducible first | exact HI0.out | apply IsS46.alloc | apply IsS46.drewN | apply IsS46.drew | apply IsS46.set_1) | exact HI0.out)) (by (with_reducible repeat (first | apply Kd.R_alloc | apply Kd.R_drewN | apply Kd.R_drew)); exact (Q_HO152 h0_)) (by decide)) hk (fun _ h => h.2)) (fun _ h => h.1)) | exact Kd.R_mono (Kd.R_mono (Kd.R_keep (IsS46.apart (show IsS46 w0 _ g s0_0 t154 from by repeat (first | (with_reducible first | exact HI0.out | apply IsS46.alloc | apply IsS46.drewN | apply IsS46.drew | apply IsS46.set_1) | exact HI0.out)) (by (with_reducible repeat (first | apply Kd.R_alloc | apply Kd.R_drewN | apply Kd.R_drew)); exact (Q_HO152 h0_)) (by decide)) hk (fun _ h => h.2)) (fun _ h => h.1)) (fun _ h_ => by first | trivial | exact h_ | exact h_.1))
          clear HK
          clear HB
          clear HI0
          have HK := n0_
          have HB := n1_
          have HI0 := n2_
          clear n0_ n1_ n2_
          (try clear hb)
          (try clear hb2)
          (try clear hk)
          (try clear hi)
          refine hK.out _ _ ⟨v151, adz_v151, m14_, (by rw [ha.out]; exact putSel_upk 12 hb_ rfl rfl rfl), fun h0_ => absurd ((hon 1 (by kernel_rfl)).symm.trans h0_) (by decide), (by repeat (first | (with_reducible first | exact HK.out | apply KeepBut.set_ | apply keep_drewN | apply keep_drew | apply keep_alloc) | exact HK.out)), (by repeat (first | (with_reducible first | exact HB.out | apply below_alloc | apply pw_below_drewN | apply below_drew1 | refine below_set ?_ (IsS46.ge HI0.out)) | exact HB.out)), fun _ h1_ => absurd ((hon 4 (by kernel_rfl)).symm.trans h1_) (by decide), fun _ h1_ => absurd ((hon 7 (by kernel_rfl)).symm.trans h1_) (by decide), fun _ h1_ => absurd ((hon 12 (by kernel_rfl)).symm.trans h1_) (by decide), z_HO152, Q_HA_HO152, fun _ h1_ => absurd ((up_self b 17).symm.trans h1_) (by decide), fun _ _ => (by repeat (first | (with_reducible first | exact HI0.out | apply IsS46.alloc | apply IsS46.drewN | apply IsS46.drew | apply IsS46.set_1) | exact HI0.out)), fun h0_ => absurd ((hoff 22 (by kernel_rfl)).symm.trans h0_) (by decide), Q_X14_⟩
        refine steps_cons ?_ ?_
        · rintro b a w' ⟨v151, adz_v151, m14_, ha, Q_HI0, Q_HK, Q_HB, Q_HI0_e1, Q_HI0_e4, Q_HI0_e7, Q_HO152, Q_HA_HO152, Q_HI0_e12, Q_HI0_e17, Q_HI0_e22, Q_X14_⟩ hb_ hon hoff
          refine ⟨_, rfl, fun K hK => ?_⟩
          have e20 : a.tmps[20]? = some (.int .i64 t156) := by rw [ha]; exact putSel_on (e := (17, 20, .int .i64 t156)) 12 rfl rfl (hon 17 (by kernel_rfl)) rfl
          replace ha := Aside0.mk ha
          have HK := Aside0.mk Q_HK
          have HB := Aside0.mk Q_HB
          refine value_ (w1 := w') (v := .int .i64 (wrap64 (Int.tdiv t156 29))) (by rfl) rfl ?_ ?_
          · go_simp
            (try simp only [i64_w])
            try rfl
          refine hK.out _ _ ⟨v151, adz_v151, m14_, (by rw [ha.out]; exact putSel_upk 13 hb_ rfl rfl rfl), fun h0_ => absurd ((hon 1 (by kernel_rfl)).symm.trans h0_) (by decide), Q_HK, Q_HB, fun _ h1_ => absurd ((hon 4 (by kernel_rfl)).symm.trans h1_) (by decide), fun _ h1_ => absurd ((hon 7 (by kernel_rfl)).symm.trans h1_) (by decide), fun _ h1_ => absurd ((hon 12 (by kernel_rfl)).symm.trans h1_) (by decide), Q_HO152, Q_HA_HO152, fun _ h1_ => absurd ((hon 17 (by kernel_rfl)).symm.trans h1_) (by decide), Q_HI0_e17, Q_HI0_e22, Q_X14_⟩
        refine steps_cons ?_ ?_
        · rintro b a w' ⟨v151, adz_v151, m14_, ha, Q_HI0, Q_HK, Q_HB, Q_HI0_e1, Q_HI0_e4, Q_HI0_e7, Q_HO152, Q_HA_HO152, Q_HI0_e12, Q_HI0_e17, Q_HI0_e22, Q_X14_⟩ hb_ hon hoff
          refine ⟨_, rfl, fun K hK => ?_⟩
          have e21 : a.tmps[21]? = some (.int .i64 (wrap64 (Int.tdiv t156 29))) := by rw [ha]; exact putSel_on (e := (18, 21, .int .i64 (wrap64 (Int.tdiv t156 29)))) 13 rfl rfl (hon 18 (by kernel_rfl)) rfl
          replace ha := Aside0.mk ha
          have HK := Aside0.mk Q_HK
          have HB := Aside0.mk Q_HB
          refine value_ (w1 := w') (v := .int .i64 (wrap64 ((wrap64 (Int.tdiv t156 29)) * 500))) (by rfl) rfl ?_ ?_
          · go_simp
            (try simp only [i64_w])
            try rfl
          refine hK.out _ _ ⟨v151, adz_v151, m14_, (by rw [ha.out]; exact putSel_upk 14 hb_ rfl rfl rfl), fun h0_ => absurd ((hon 1 (by kernel_rfl)).symm.trans h0_) (by decide), Q_HK, Q_HB, fun _ h1_ => absurd ((hon 4 (by kernel_rfl)).symm.trans h1_) (by decide), fun _ h1_ => absurd ((hon 7 (by kernel_rfl)).symm.trans h1_) (by decide), fun _ h1_ => absurd ((hon 12 (by kernel_rfl)).symm.trans h1_) (by decide), Q_HO152, Q_HA_HO152, fun _ h1_ => absurd ((hon 17 (by kernel_rfl)).symm.trans h1_) (by decide), Q_HI0_e17, Q_HI0_e22, Q_X14_⟩
        refine steps_cons ?_ ?_
        · rintro b a w' ⟨v151, adz_v151, m14_, ha, Q_HI0, Q_HK, Q_HB, Q_HI0_e1, Q_HI0_e4, Q_HI0_e7, Q_HO152, Q_HA_HO152, Q_HI0_e12, Q_HI0_e17, Q_HI0_e22, Q_X14_⟩ hb_ hon hoff
          refine ⟨_, rfl, fun K hK => ?_⟩
          have e18 : a.tmps[18]? = some (.int .i64 (rd y150 (ji6))) := by rw [ha]; exact putSel_on (e := (15, 18, .int .i64 (rd y150 (ji6)))) 11 rfl rfl (hon 15 (by kernel_rfl)) rfl
          have e22 : a.tmps[22]? = some (.int .i64 (wrap64 ((wrap64 (Int.tdiv t156 29)) * 500))) := by rw [ha]; exact putSel_on (e := (19, 22, .int .i64 (wrap64 ((wrap64 (Int.tdiv t156 29)) * 500)))) 14 rfl rfl (hon 19 (by kernel_rfl)) rfl
          replace ha := Aside0.mk ha
          have HK := Aside0.mk Q_HK
          have HB := Aside0.mk Q_HB
          have HO152 := Aside0.mk (Q_HO152 (hon 10 (by kernel_rfl)))
          have HA_HO152 := Aside0.mk (Q_HA_HO152 (hon 10 (by kernel_rfl)))
          refine value_ (w1 := w') (v := .int .i64 (wrap64 ((rd y150 (ji6)) + (wrap64 ((wrap64 (Int.tdiv t156 29)) * 500))))) (by rfl) rfl ?_ ?_
          · go_simp
            (try simp only [i64_w])
            try rfl
          refine hK.out _ _ ⟨v151, adz_v151, m14_, (by rw [ha.out]; exact putSel_upk 15 hb_ rfl rfl rfl), fun h0_ => absurd ((hon 1 (by kernel_rfl)).symm.trans h0_) (by decide), Q_HK, Q_HB, fun _ h1_ => absurd ((hon 4 (by kernel_rfl)).symm.trans h1_) (by decide), fun _ h1_ => absurd ((hon 7 (by kernel_rfl)).symm.trans h1_) (by decide), fun _ h1_ => absurd ((hon 12 (by kernel_rfl)).symm.trans h1_) (by decide), Q_HO152, Q_HA_HO152, fun _ h1_ => absurd ((hon 17 (by kernel_rfl)).symm.trans h1_) (by decide), Q_HI0_e17, Q_HI0_e22, Q_X14_⟩
        refine steps_cons ?_ ?_
        · rintro b a w' ⟨v151, adz_v151, m14_, ha, Q_HI0, Q_HK, Q_HB, Q_HI0_e1, Q_HI0_e4, Q_HI0_e7, Q_HO152, Q_HA_HO152, Q_HI0_e12, Q_HI0_e17, Q_HI0_e22, Q_X14_⟩ hb_ hon hoff
          refine ⟨_, rfl, fun K hK => ?_⟩
          have e24 : a.tmps[24]? = some (.pointer (some ⟨g, 0, none⟩)) := by rw [ha]; exact (putSel_off rfl).trans rfl
          replace ha := Aside0.mk ha
          have HK := Aside0.mk Q_HK
          have HB := Aside0.mk Q_HB
          have HI0 := Aside0.mk (Q_HI0_e17 (hon 17 (by kernel_rfl)) hb_)
          refine goes_ Try.func33 (by kernel_rfl) rfl #[.pointer (some ⟨g, 0, none⟩), .int .i64 40] (by rfl) rfl rfl (by first | (simp only [List.map_toArray, List.map_cons, List.map_nil, Act.eval, Array.getD_eq_getD_getElem?, Option.getD_some, e24]; done) | (simp only [List.map_toArray, List.map_cons, List.map_nil, Act.eval, Array.getD_eq_getD_getElem?, Option.getD_some, e24]; rfl)) ?_
          with_reducible refine (spec_l20Rd_pick.calls k g s0_0 t157 40 t158 t159 w0 _ ?side1 ?side2 A10.out).mono ?_
          (case side1 => repeat (first | (with_reducible first | exact HI0.out | apply IsS46.alloc | apply IsS46.drewN | apply IsS46.drew | apply IsS46.set_1) | exact HI0.out))
          (case side2 => repeat (first | (with_reducible first | exact HB.out | apply below_alloc | apply pw_below_drewN | apply below_drew1 | refine below_set ?_ (IsS46.ge HI0.out)) | exact HB.out))
          rintro e w18 ⟨rfl, hi, hb, hk⟩
          refine ⟨_, rfl, ?_⟩
          have n0_ := Aside0.mk (KeepBut.trans (by repeat (first | (with_reducible first | exact HK.out | apply KeepBut.set_ | apply keep_drewN | apply keep_drew | apply keep_alloc) | exact HK.out)) hk (.inl rfl))
          have n1_ := Aside0.mk (hb)
          have n2_ := Aside0.mk (hi)
          have z_HO152 := fun (h0_ : b 10 = true) => (show Kd.R (Kd.int .i64) 3 w18 w.heap.size (fun _ => True) v151 y150 from by first | exact (Kd.R_mono (Kd.R_keep (IsS46.apart (show IsS46 w0 _ g s0_0 t157 from by repeat (first | (with_reducible first | exact HI0.out | apply IsS46.alloc | apply IsS46.drewN | apply IsS46.drew | apply IsS46.set_1) | exact HI0.out)) (by (with_reducible repeat (first | apply Kd.R_alloc | apply Kd.R_drewN | apply Kd.R_drew)); exact (Q_HO152 h0_)) (by decide)) hk (fun _ h => h.2)) (fun _ h => h.1)) | exact Kd.R_mono (Kd.R_mono (Kd.R_keep (IsS46.apart (show IsS46 w0 _ g s0_0 t157 from by repeat (first | (with_reducible first | exact HI0.out | apply IsS46.alloc | apply IsS46.drewN | apply IsS46.drew | apply IsS46.set_1) | exact HI0.out)) (by (with_reducible repeat (first | apply Kd.R_alloc | apply Kd.R_drewN | apply Kd.R_drew)); exact (Q_HO152 h0_)) (by decide)) hk (fun _ h => h.2)) (fun _ h => h.1)) (fun _ h_ => by first | trivial | exact h_ | exact h_.1))
          clear HK
          clear HB
          clear HI0
          have HK := n0_
          have HB := n1_
          have HI0 := n2_
          clear n0_ n1_ n2_
          (try clear hb)
          (try clear hb2)
          (try clear hk)
          (try clear hi)
          refine hK.out _ _ ⟨v151, adz_v151, m14_, (by rw [ha.out]; exact putSel_upk 16 hb_ rfl rfl rfl), fun h0_ => absurd ((hon 1 (by kernel_rfl)).symm.trans h0_) (by decide), (by repeat (first | (with_reducible first | exact HK.out | apply KeepBut.set_ | apply keep_drewN | apply keep_drew | apply keep_alloc) | exact HK.out)), (by repeat (first | (with_reducible first | exact HB.out | apply below_alloc | apply pw_below_drewN | apply below_drew1 | refine below_set ?_ (IsS46.ge HI0.out)) | exact HB.out)), fun _ h1_ => absurd ((hon 4 (by kernel_rfl)).symm.trans h1_) (by decide), fun _ h1_ => absurd ((hon 7 (by kernel_rfl)).symm.trans h1_) (by decide), fun _ h1_ => absurd ((hon 12 (by kernel_rfl)).symm.trans h1_) (by decide), z_HO152, Q_HA_HO152, fun _ h1_ => absurd ((hon 17 (by kernel_rfl)).symm.trans h1_) (by decide), fun _ h1_ => absurd ((up_self b 22).symm.trans h1_) (by decide), fun _ => (by repeat (first | (with_reducible first | exact HI0.out | apply IsS46.alloc | apply IsS46.drewN | apply IsS46.drew | apply IsS46.set_1) | exact HI0.out)), Q_X14_⟩
        refine steps_cons ?_ ?_
        · rintro b a w' ⟨v151, adz_v151, m14_, ha, Q_HI0, Q_HK, Q_HB, Q_HI0_e1, Q_HI0_e4, Q_HI0_e7, Q_HO152, Q_HA_HO152, Q_HI0_e12, Q_HI0_e17, Q_HI0_e22, Q_X14_⟩ hb_ hon hoff
          refine ⟨_, rfl, fun K hK => ?_⟩
          have e25 : a.tmps[25]? = some (.int .i64 t158) := by rw [ha]; exact putSel_on (e := (22, 25, .int .i64 t158)) 16 rfl rfl (hon 22 (by kernel_rfl)) rfl
          replace ha := Aside0.mk ha
          have HK := Aside0.mk Q_HK
          have HB := Aside0.mk Q_HB
          have HI0 := Aside0.mk (Q_HI0_e22 (hon 22 (by kernel_rfl)))
          refine value_ (w1 := w') (v := .int .i64 (wrap64 (Int.tdiv t158 39))) (by rfl) rfl ?_ ?_
          · go_simp
            (try simp only [i64_w])
            try rfl
          refine hK.out _ _ ⟨v151, adz_v151, m14_, (by rw [ha.out]; exact putSel_upk 17 hb_ rfl rfl rfl), fun h0_ => absurd ((hon 1 (by kernel_rfl)).symm.trans h0_) (by decide), Q_HK, Q_HB, fun _ h1_ => absurd ((hon 4 (by kernel_rfl)).symm.trans h1_) (by decide), fun _ h1_ => absurd ((hon 7 (by kernel_rfl)).symm.trans h1_) (by decide), fun _ h1_ => absurd ((hon 12 (by kernel_rfl)).symm.trans h1_) (by decide), Q_HO152, Q_HA_HO152, fun _ h1_ => absurd ((hon 17 (by kernel_rfl)).symm.trans h1_) (by decide), fun _ h1_ => absurd ((hon 22 (by kernel_rfl)).symm.trans h1_) (by decide), Q_HI0_e22, Q_X14_⟩
        refine steps_cons ?_ ?_
        · rintro b a w' ⟨v151, adz_v151, m14_, ha, Q_HI0, Q_HK, Q_HB, Q_HI0_e1, Q_HI0_e4, Q_HI0_e7, Q_HO152, Q_HA_HO152, Q_HI0_e12, Q_HI0_e17, Q_HI0_e22, Q_X14_⟩ hb_ hon hoff
          refine ⟨_, rfl, fun K hK => ?_⟩
          have e26 : a.tmps[26]? = some (.int .i64 (wrap64 (Int.tdiv t158 39))) := by rw [ha]; exact putSel_on (e := (23, 26, .int .i64 (wrap64 (Int.tdiv t158 39)))) 17 rfl rfl (hon 23 (by kernel_rfl)) rfl
          replace ha := Aside0.mk ha
          have HK := Aside0.mk Q_HK
          have HB := Aside0.mk Q_HB
          have HI0 := Aside0.mk (Q_HI0_e22 (hon 22 (by kernel_rfl)))
          refine value_ (w1 := w') (v := .int .i64 (wrap64 ((wrap64 (Int.tdiv t158 39)) * 1000))) (by rfl) rfl ?_ ?_
          · go_simp
            (try simp only [i64_w])
            try rfl
          refine hK.out _ _ ⟨v151, adz_v151, m14_, (by rw [ha.out]; exact putSel_upk 18 hb_ rfl rfl rfl), fun h0_ => absurd ((hon 1 (by kernel_rfl)).symm.trans h0_) (by decide), Q_HK, Q_HB, fun _ h1_ => absurd ((hon 4 (by kernel_rfl)).symm.trans h1_) (by decide), fun _ h1_ => absurd ((hon 7 (by kernel_rfl)).symm.trans h1_) (by decide), fun _ h1_ => absurd ((hon 12 (by kernel_rfl)).symm.trans h1_) (by decide), Q_HO152, Q_HA_HO152, fun _ h1_ => absurd ((hon 17 (by kernel_rfl)).symm.trans h1_) (by decide), fun _ h1_ => absurd ((hon 22 (by kernel_rfl)).symm.trans h1_) (by decide), Q_HI0_e22, Q_X14_⟩
        refine steps_cons ?_ ?_
        · rintro b a w' ⟨v151, adz_v151, m14_, ha, Q_HI0, Q_HK, Q_HB, Q_HI0_e1, Q_HI0_e4, Q_HI0_e7, Q_HO152, Q_HA_HO152, Q_HI0_e12, Q_HI0_e17, Q_HI0_e22, Q_X14_⟩ hb_ hon hoff
          refine ⟨_, rfl, fun K hK => ?_⟩
          have e23 : a.tmps[23]? = some (.int .i64 (wrap64 ((rd y150 (ji6)) + (wrap64 ((wrap64 (Int.tdiv t156 29)) * 500))))) := by rw [ha]; exact putSel_on (e := (20, 23, .int .i64 (wrap64 ((rd y150 (ji6)) + (wrap64 ((wrap64 (Int.tdiv t156 29)) * 500)))))) 15 rfl rfl (hon 20 (by kernel_rfl)) rfl
          have e27 : a.tmps[27]? = some (.int .i64 (wrap64 ((wrap64 (Int.tdiv t158 39)) * 1000))) := by rw [ha]; exact putSel_on (e := (24, 27, .int .i64 (wrap64 ((wrap64 (Int.tdiv t158 39)) * 1000)))) 18 rfl rfl (hon 24 (by kernel_rfl)) rfl
          replace ha := Aside0.mk ha
          have HK := Aside0.mk Q_HK
          have HB := Aside0.mk Q_HB
          have HO152 := Aside0.mk (Q_HO152 (hon 10 (by kernel_rfl)))
          have HA_HO152 := Aside0.mk (Q_HA_HO152 (hon 10 (by kernel_rfl)))
          have HI0 := Aside0.mk (Q_HI0_e22 (hon 22 (by kernel_rfl)))
          refine value_ (w1 := w') (v := .int .i64 (wrap64 ((wrap64 ((rd y150 (ji6)) + (wrap64 ((wrap64 (Int.tdiv t156 29)) * 500)))) - (wrap64 ((wrap64 (Int.tdiv t158 39)) * 1000))))) (by rfl) rfl ?_ ?_
          · go_simp
            (try simp only [i64_w])
            try rfl
          refine hK.out _ _ ⟨v151, adz_v151, m14_, (by rw [ha.out]; exact putSel_upk 19 hb_ rfl rfl rfl), fun h0_ => absurd ((hon 1 (by kernel_rfl)).symm.trans h0_) (by decide), Q_HK, Q_HB, fun _ h1_ => absurd ((hon 4 (by kernel_rfl)).symm.trans h1_) (by decide), fun _ h1_ => absurd ((hon 7 (by kernel_rfl)).symm.trans h1_) (by decide), fun _ h1_ => absurd ((hon 12 (by kernel_rfl)).symm.trans h1_) (by decide), Q_HO152, Q_HA_HO152, fun _ h1_ => absurd ((hon 17 (by kernel_rfl)).symm.trans h1_) (by decide), fun _ h1_ => absurd ((hon 22 (by kernel_rfl)).symm.trans h1_) (by decide), Q_HI0_e22, Q_X14_⟩
        refine steps_cons ?_ ?_
        · rintro b a w' ⟨v151, adz_v151, m14_, ha, Q_HI0, Q_HK, Q_HB, Q_HI0_e1, Q_HI0_e4, Q_HI0_e7, Q_HO152, Q_HA_HO152, Q_HI0_e12, Q_HI0_e17, Q_HI0_e22, Q_X14_⟩ hb_ hon hoff
          refine ⟨_, rfl, fun K hK => ?_⟩
          have e28 : a.tmps[28]? = some (.int .i64 (wrap64 ((wrap64 ((rd y150 (ji6)) + (wrap64 ((wrap64 (Int.tdiv t156 29)) * 500)))) - (wrap64 ((wrap64 (Int.tdiv t158 39)) * 1000))))) := by rw [ha]; exact putSel_on (e := (25, 28, .int .i64 (wrap64 ((wrap64 ((rd y150 (ji6)) + (wrap64 ((wrap64 (Int.tdiv t156 29)) * 500)))) - (wrap64 ((wrap64 (Int.tdiv t158 39)) * 1000)))))) 19 rfl rfl (hon 25 (by kernel_rfl)) rfl
          replace ha := Aside0.mk ha
          have HK := Aside0.mk Q_HK
          have HB := Aside0.mk Q_HB
          have HO152 := Aside0.mk (Q_HO152 (hon 10 (by kernel_rfl)))
          have HA_HO152 := Aside0.mk (Q_HA_HO152 (hon 10 (by kernel_rfl)))
          have HI0 := Aside0.mk (Q_HI0_e22 (hon 22 (by kernel_rfl)))
          refine value_ (w1 := w') (v := .int .i64 (wrap64 ((wrap64 ((rd y150 (ji6)) + (wrap64 ((wrap64 (Int.tdiv t156 29)) * 500)))) - (wrap64 ((wrap64 (Int.tdiv t158 39)) * 1000))))) (by rfl) rfl ?_ ?_
          · go_simp
            (try simp only [i64_w])
            try rfl
          refine hK.out _ _ ⟨v151, adz_v151, m14_, (by rw [ha.out]; exact putSel_upk 20 hb_ rfl rfl rfl), fun h0_ => absurd ((hon 1 (by kernel_rfl)).symm.trans h0_) (by decide), Q_HK, Q_HB, fun _ h1_ => absurd ((hon 4 (by kernel_rfl)).symm.trans h1_) (by decide), fun _ h1_ => absurd ((hon 7 (by kernel_rfl)).symm.trans h1_) (by decide), fun _ h1_ => absurd ((hon 12 (by kernel_rfl)).symm.trans h1_) (by decide), Q_HO152, Q_HA_HO152, fun _ h1_ => absurd ((hon 17 (by kernel_rfl)).symm.trans h1_) (by decide), fun _ h1_ => absurd ((hon 22 (by kernel_rfl)).symm.trans h1_) (by decide), Q_HI0_e22, Q_X14_⟩
        exact steps_nil
      rintro b a w21 hall ⟨v151, adz_v151, m14_, ha, Q_HI0, Q_HK, Q_HB, Q_HI0_e1, Q_HI0_e4, Q_HI0_e7, Q_HO152, Q_HA_HO152, Q_HI0_e12, Q_HI0_e17, Q_HI0_e22, Q_X14_⟩
      clear HB HI0 HK
      have hb1_ := hall 1 (by kernel_rfl)
      have hb2_ := hall 2 (by kernel_rfl)
      have hb4_ := hall 4 (by kernel_rfl)
      have hb5_ := hall 5 (by kernel_rfl)
      have hb7_ := hall 7 (by kernel_rfl)
      have hb8_ := hall 8 (by kernel_rfl)
      have hb9_ := hall 9 (by kernel_rfl)
      have hb10_ := hall 10 (by kernel_rfl)
      have hb12_ := hall 12 (by kernel_rfl)
      have hb13_ := hall 13 (by kernel_rfl)
      have hb14_ := hall 14 (by kernel_rfl)
      have hb15_ := hall 15 (by kernel_rfl)
      have hb17_ := hall 17 (by kernel_rfl)
      have hb18_ := hall 18 (by kernel_rfl)
      have hb19_ := hall 19 (by kernel_rfl)
      have hb20_ := hall 20 (by kernel_rfl)
      have hb22_ := hall 22 (by kernel_rfl)
      have hb23_ := hall 23 (by kernel_rfl)
      have hb24_ := hall 24 (by kernel_rfl)
      have hb25_ := hall 25 (by kernel_rfl)
      have hb26_ := hall 26 (by kernel_rfl)
      subst ha
      obtain rfl := Q_X14_ hb14_
      simp only [putSel, hb1_, hb2_, hb4_, hb5_, hb7_, hb8_, hb9_, hb10_, hb12_, hb13_, hb14_, hb15_, hb17_, hb18_, hb19_, hb20_, hb22_, hb23_, hb24_, hb25_, hb26_, if_true, Act.put, List.setIfInBounds_toArray, List.set_cons_zero, List.set_cons_succ]
      clear Q_HI0
      have HK := Aside0.mk Q_HK
      clear Q_HK
      have HB := Aside0.mk Q_HB
      clear Q_HB
      clear Q_HI0_e1
      clear Q_HI0_e4
      clear Q_HI0_e7
      have HO152 := Aside0.mk (Q_HO152 hb10_)
      clear Q_HO152
      have HA_HO152 := Aside0.mk (Q_HA_HO152 hb10_)
      clear Q_HA_HO152
      clear Q_HI0_e12
      clear Q_HI0_e17
      have HI0 := Aside0.mk (Q_HI0_e22 hb22_)
      clear Q_HI0_e22
      clear hall hb1_ hb2_ hb4_ hb5_ hb7_ hb8_ hb9_ hb10_ hb12_ hb13_ hb14_ hb15_ hb17_ hb18_ hb19_ hb20_ hb22_ hb23_ hb24_ hb25_ hb26_
      obtain ⟨co22, eo22⟩ := HA_HO152.out
      clear HA_HO152
      subst eo22
      try go_wp2
      go_ret
      exact ⟨by first | rfl | (simp [errW_none, errW_some] <;> rfl) | (simp only [← hji6]; first | rfl | (simp [errW_none, errW_some] <;> rfl)) | (simp [*, errW_none, errW_some] <;> rfl), by repeat (first | (with_reducible first | exact HI0.out | apply IsS46.alloc | apply IsS46.drewN | apply IsS46.drew | apply IsS46.set_1) | exact HI0.out), by repeat (first | (with_reducible first | exact HB.out | apply below_alloc | apply pw_below_drewN | apply below_drew1 | refine below_set ?_ (IsS46.ge HI0.out)) | exact HB.out), by repeat (first | (with_reducible first | exact HK.out | apply KeepBut.set_ | apply keep_drewN | apply keep_drew | apply keep_alloc) | exact HK.out)⟩
    · rw [if_neg c8] at H
      exact absurd H (by simp)
  · rw [if_neg c7] at H
    exact absurd H (by simp)

/-! ### spec_l20Some: function 45 -/
def spec_l20Some.f (k : Nat) (s0_0 : List Int) (s0_1 : Int) : Option (Int × Int) := (spec_l20Rd_pick.f k s0_0 s0_1 12).bind fun bt160 => ((spec_l20Rd_pick.f k s0_0 bt160.2 60).bind fun bt162 => ((spec_l20Rd_pick.f k s0_0 bt162.2 100).bind fun bt164 => ((spec_l20Rd_pick.f k s0_0 bt164.2 100).bind fun bt166 => ((spec_l20Rd_pick.f k s0_0 bt166.2 60).bind fun bt168 => ((some (([wrap64 (1 + bt160.1), wrap64 (1 + bt162.1), wrap64 (1 + (wrap64 (bt164.1 * bt166.1))), wrap64 (12 * (wrap64 (1 + bt168.1))), 9973, 8192, 9240] : List Int) : List Int)).bind fun y170 => ((spec_l20Rd_pick.f k s0_0 bt168.2 13).bind fun bt173 => (if 0 ≤ (wrap64 (Int.tdiv bt173.1 2)) then (if (wrap64 (Int.tdiv bt173.1 2)) < (y170.length : Int) then ((spec_l20Rd_pick.f k s0_0 bt173.2 40).bind fun bt176 => ((spec_l20Rd_pick.f k s0_0 bt176.2 50).bind fun bt178 => (some (wrap64 ((wrap64 ((rd y170 (wrap64 (Int.tdiv bt173.1 2))) + (wrap64 ((wrap64 (Int.tdiv bt176.1 39)) * 10000)))) - (wrap64 ((wrap64 (Int.tdiv bt178.1 49)) * 20000))), bt178.2)))) else (none)) else (none))))))))
theorem spec_l20Some.mono : ∀ a0 a1 k, LeO (spec_l20Some.f k a0 a1) (spec_l20Some.f (k + 1) a0 a1) := by
  intro a0 a1 k
  unfold spec_l20Some.f
  repeat' first
      | (with_reducible exact spec_l20Rd_pick.mono _ _ _ _)
      | (with_reducible exact LeO.refl _)
      | (with_reducible exact LeO.none _)
      | (with_reducible refine LeO.ite ?_ ?_)
      | (with_reducible refine LeO.bind ?_ (fun _ => ?_))
      | exact spec_l20Rd_pick.mono _ _ _ _
      | exact LeO.none _
      | refine LeO.ite ?_ ?_
      | refine LeO.bind ?_ (fun _ => ?_)
set_option maxHeartbeats 8000000 in
set_option maxRecDepth 100000 in
theorem spec_l20Some.calls (k : Nat) (g : Nat) (s0_0 : List Int) (s0_1 : Int) (r1 : Int) (r2 : Int) (w0 w : World) (hI : IsS46 w0 w g s0_0 s0_1) (hB : Below w0.heap.size w0 w) (h : spec_l20Some.f k s0_0 s0_1 = some (r1, r2)) :
    Calls Try.prog 45 #[.pointer (some ⟨g, 0, none⟩)] w fun e w' => e = .returned (.int .i64 r1) ∧ IsS46 w0 w' g s0_0 r2 ∧ Below w0.heap.size w0 w' ∧ KeepBut w w' g none := by
  have HI0 := Aside0.mk hI
  have HK := Aside0.mk (KeepBut.refl w g none)
  have HL := Aside0.mk hB.size
  clear hI
  have HW0 := Aside0.mk hB.size
  have HB := Aside0.mk hB
  clear hB
  have H : ((spec_l20Rd_pick.f k s0_0 s0_1 12).bind fun bt160 => ((spec_l20Rd_pick.f k s0_0 bt160.2 60).bind fun bt162 => ((spec_l20Rd_pick.f k s0_0 bt162.2 100).bind fun bt164 => ((spec_l20Rd_pick.f k s0_0 bt164.2 100).bind fun bt166 => ((spec_l20Rd_pick.f k s0_0 bt166.2 60).bind fun bt168 => ((some (([wrap64 (1 + bt160.1), wrap64 (1 + bt162.1), wrap64 (1 + (wrap64 (bt164.1 * bt166.1))), wrap64 (12 * (wrap64 (1 + bt168.1))), 9973, 8192, 9240] : List Int) : List Int)).bind fun y170 => ((spec_l20Rd_pick.f k s0_0 bt168.2 13).bind fun bt173 => (if 0 ≤ (wrap64 (Int.tdiv bt173.1 2)) then (if (wrap64 (Int.tdiv bt173.1 2)) < (y170.length : Int) then ((spec_l20Rd_pick.f k s0_0 bt173.2 40).bind fun bt176 => ((spec_l20Rd_pick.f k s0_0 bt176.2 50).bind fun bt178 => (some (wrap64 ((wrap64 ((rd y170 (wrap64 (Int.tdiv bt173.1 2))) + (wrap64 ((wrap64 (Int.tdiv bt176.1 39)) * 10000)))) - (wrap64 ((wrap64 (Int.tdiv bt178.1 49)) * 20000))), bt178.2)))) else (none)) else (none))))))))) = some (r1, r2) := h
  clear h
  replace H := Option.bind_eq_some_iff.mp H
  obtain ⟨⟨t160, t161⟩, A20, H⟩ := H
  replace H : ((spec_l20Rd_pick.f k s0_0 t161 60).bind fun bt162 => ((spec_l20Rd_pick.f k s0_0 bt162.2 100).bind fun bt164 => ((spec_l20Rd_pick.f k s0_0 bt164.2 100).bind fun bt166 => ((spec_l20Rd_pick.f k s0_0 bt166.2 60).bind fun bt168 => ((some (([wrap64 (1 + t160), wrap64 (1 + bt162.1), wrap64 (1 + (wrap64 (bt164.1 * bt166.1))), wrap64 (12 * (wrap64 (1 + bt168.1))), 9973, 8192, 9240] : List Int) : List Int)).bind fun y170 => ((spec_l20Rd_pick.f k s0_0 bt168.2 13).bind fun bt173 => (if 0 ≤ (wrap64 (Int.tdiv bt173.1 2)) then (if (wrap64 (Int.tdiv bt173.1 2)) < (y170.length : Int) then ((spec_l20Rd_pick.f k s0_0 bt173.2 40).bind fun bt176 => ((spec_l20Rd_pick.f k s0_0 bt176.2 50).bind fun bt178 => (some (wrap64 ((wrap64 ((rd y170 (wrap64 (Int.tdiv bt173.1 2))) + (wrap64 ((wrap64 (Int.tdiv bt176.1 39)) * 10000)))) - (wrap64 ((wrap64 (Int.tdiv bt178.1 49)) * 20000))), bt178.2)))) else (none)) else (none)))))))) = some (r1, r2) := H
  have A2 := Aside0.mk A20
  clear A20
  replace H := Option.bind_eq_some_iff.mp H
  obtain ⟨⟨t162, t163⟩, A30, H⟩ := H
  replace H : ((spec_l20Rd_pick.f k s0_0 t163 100).bind fun bt164 => ((spec_l20Rd_pick.f k s0_0 bt164.2 100).bind fun bt166 => ((spec_l20Rd_pick.f k s0_0 bt166.2 60).bind fun bt168 => ((some (([wrap64 (1 + t160), wrap64 (1 + t162), wrap64 (1 + (wrap64 (bt164.1 * bt166.1))), wrap64 (12 * (wrap64 (1 + bt168.1))), 9973, 8192, 9240] : List Int) : List Int)).bind fun y170 => ((spec_l20Rd_pick.f k s0_0 bt168.2 13).bind fun bt173 => (if 0 ≤ (wrap64 (Int.tdiv bt173.1 2)) then (if (wrap64 (Int.tdiv bt173.1 2)) < (y170.length : Int) then ((spec_l20Rd_pick.f k s0_0 bt173.2 40).bind fun bt176 => ((spec_l20Rd_pick.f k s0_0 bt176.2 50).bind fun bt178 => (some (wrap64 ((wrap64 ((rd y170 (wrap64 (Int.tdiv bt173.1 2))) + (wrap64 ((wrap64 (Int.tdiv bt176.1 39)) * 10000)))) - (wrap64 ((wrap64 (Int.tdiv bt178.1 49)) * 20000))), bt178.2)))) else (none)) else (none))))))) = some (r1, r2) := H
  have A3 := Aside0.mk A30
  clear A30
  replace H := Option.bind_eq_some_iff.mp H
  obtain ⟨⟨t164, t165⟩, A40, H⟩ := H
  replace H : ((spec_l20Rd_pick.f k s0_0 t165 100).bind fun bt166 => ((spec_l20Rd_pick.f k s0_0 bt166.2 60).bind fun bt168 => ((some (([wrap64 (1 + t160), wrap64 (1 + t162), wrap64 (1 + (wrap64 (t164 * bt166.1))), wrap64 (12 * (wrap64 (1 + bt168.1))), 9973, 8192, 9240] : List Int) : List Int)).bind fun y170 => ((spec_l20Rd_pick.f k s0_0 bt168.2 13).bind fun bt173 => (if 0 ≤ (wrap64 (Int.tdiv bt173.1 2)) then (if (wrap64 (Int.tdiv bt173.1 2)) < (y170.length : Int) then ((spec_l20Rd_pick.f k s0_0 bt173.2 40).bind fun bt176 => ((spec_l20Rd_pick.f k s0_0 bt176.2 50).bind fun bt178 => (some (wrap64 ((wrap64 ((rd y170 (wrap64 (Int.tdiv bt173.1 2))) + (wrap64 ((wrap64 (Int.tdiv bt176.1 39)) * 10000)))) - (wrap64 ((wrap64 (Int.tdiv bt178.1 49)) * 20000))), bt178.2)))) else (none)) else (none)))))) = some (r1, r2) := H
  have A4 := Aside0.mk A40
  clear A40
  replace H := Option.bind_eq_some_iff.mp H
  obtain ⟨⟨t166, t167⟩, A50, H⟩ := H
  replace H : ((spec_l20Rd_pick.f k s0_0 t167 60).bind fun bt168 => ((some (([wrap64 (1 + t160), wrap64 (1 + t162), wrap64 (1 + (wrap64 (t164 * t166))), wrap64 (12 * (wrap64 (1 + bt168.1))), 9973, 8192, 9240] : List Int) : List Int)).bind fun y170 => ((spec_l20Rd_pick.f k s0_0 bt168.2 13).bind fun bt173 => (if 0 ≤ (wrap64 (Int.tdiv bt173.1 2)) then (if (wrap64 (Int.tdiv bt173.1 2)) < (y170.length : Int) then ((spec_l20Rd_pick.f k s0_0 bt173.2 40).bind fun bt176 => ((spec_l20Rd_pick.f k s0_0 bt176.2 50).bind fun bt178 => (some (wrap64 ((wrap64 ((rd y170 (wrap64 (Int.tdiv bt173.1 2))) + (wrap64 ((wrap64 (Int.tdiv bt176.1 39)) * 10000)))) - (wrap64 ((wrap64 (Int.tdiv bt178.1 49)) * 20000))), bt178.2)))) else (none)) else (none))))) = some (r1, r2) := H
  have A5 := Aside0.mk A50
  clear A50
  replace H := Option.bind_eq_some_iff.mp H
  obtain ⟨⟨t168, t169⟩, A60, H⟩ := H
  replace H : ((some (([wrap64 (1 + t160), wrap64 (1 + t162), wrap64 (1 + (wrap64 (t164 * t166))), wrap64 (12 * (wrap64 (1 + t168))), 9973, 8192, 9240] : List Int) : List Int)).bind fun y170 => ((spec_l20Rd_pick.f k s0_0 t169 13).bind fun bt173 => (if 0 ≤ (wrap64 (Int.tdiv bt173.1 2)) then (if (wrap64 (Int.tdiv bt173.1 2)) < (y170.length : Int) then ((spec_l20Rd_pick.f k s0_0 bt173.2 40).bind fun bt176 => ((spec_l20Rd_pick.f k s0_0 bt176.2 50).bind fun bt178 => (some (wrap64 ((wrap64 ((rd y170 (wrap64 (Int.tdiv bt173.1 2))) + (wrap64 ((wrap64 (Int.tdiv bt176.1 39)) * 10000)))) - (wrap64 ((wrap64 (Int.tdiv bt178.1 49)) * 20000))), bt178.2)))) else (none)) else (none)))) = some (r1, r2) := H
  have A6 := Aside0.mk A60
  clear A60
  obtain ⟨y170, hy170⟩ : ∃ y_ : List Int, y_ = (([wrap64 (1 + t160), wrap64 (1 + t162), wrap64 (1 + (wrap64 (t164 * t166))), wrap64 (12 * (wrap64 (1 + t168))), 9973, 8192, 9240] : List Int)) := ⟨_, rfl⟩
  replace H : ((spec_l20Rd_pick.f k s0_0 t169 13).bind fun bt173 => (if 0 ≤ (wrap64 (Int.tdiv bt173.1 2)) then (if (wrap64 (Int.tdiv bt173.1 2)) < (y170.length : Int) then ((spec_l20Rd_pick.f k s0_0 bt173.2 40).bind fun bt176 => ((spec_l20Rd_pick.f k s0_0 bt176.2 50).bind fun bt178 => (some (wrap64 ((wrap64 ((rd y170 (wrap64 (Int.tdiv bt173.1 2))) + (wrap64 ((wrap64 (Int.tdiv bt176.1 39)) * 10000)))) - (wrap64 ((wrap64 (Int.tdiv bt178.1 49)) * 20000))), bt178.2)))) else (none)) else (none))) = some (r1, r2) := by first | (rw [hy170]; with_reducible exact H) | (have H2_ := (Option.bind_some _ _).symm.trans H; rw [hy170]; with_reducible exact H2_) | (have H2_ := (Option.bind_some _ _).symm.trans H; with_reducible exact H2_) | with_reducible exact H | (rw [hy170]; exact H) | exact H
  have Ny170 := Aside0.mk hy170
  clear hy170
  replace H := Option.bind_eq_some_iff.mp H
  obtain ⟨⟨t173, t174⟩, A70, H⟩ := H
  replace H : (if 0 ≤ (wrap64 (Int.tdiv t173 2)) then (if (wrap64 (Int.tdiv t173 2)) < (y170.length : Int) then ((spec_l20Rd_pick.f k s0_0 t174 40).bind fun bt176 => ((spec_l20Rd_pick.f k s0_0 bt176.2 50).bind fun bt178 => (some (wrap64 ((wrap64 ((rd y170 (wrap64 (Int.tdiv t173 2))) + (wrap64 ((wrap64 (Int.tdiv bt176.1 39)) * 10000)))) - (wrap64 ((wrap64 (Int.tdiv bt178.1 49)) * 20000))), bt178.2)))) else (none)) else (none)) = some (r1, r2) := H
  have A7 := Aside0.mk A70
  clear A70
  obtain ⟨ji8, hji8⟩ : ∃ j_ : Int, (wrap64 (Int.tdiv t173 2)) = j_ := ⟨_, rfl⟩
  replace H : (if 0 ≤ (ji8) then (if (ji8) < (y170.length : Int) then ((spec_l20Rd_pick.f k s0_0 t174 40).bind fun bt176 => ((spec_l20Rd_pick.f k s0_0 bt176.2 50).bind fun bt178 => (some (wrap64 ((wrap64 ((rd y170 (ji8)) + (wrap64 ((wrap64 (Int.tdiv bt176.1 39)) * 10000)))) - (wrap64 ((wrap64 (Int.tdiv bt178.1 49)) * 20000))), bt178.2)))) else (none)) else (none)) = some (r1, r2) := by first | (rw [hji8] at H; exact H) | (simp only [hji8] at H ⊢; exact H)
  (try rw [hji8] at A2)
  (try rw [hji8] at A3)
  (try rw [hji8] at A4)
  (try rw [hji8] at A5)
  (try rw [hji8] at A6)
  (try rw [hji8] at A7)
  have hji8w : (IntKind.i64.wrap (Int.tdiv t173 2)) = ji8 := (i64_w _).trans hji8
  by_cases c9 : 0 ≤ (ji8)
  · rw [if_pos c9] at H
    have c9b0 : decide (0 ≤ (ji8)) = true := decide_eq_true c9
    clear c9
    by_cases c10 : (ji8) < (y170.length : Int)
    · rw [if_pos c10] at H
      have c10b0 : decide ((ji8) < (y170.length : Int)) = true := decide_eq_true c10
      clear c10
      replace H := Option.bind_eq_some_iff.mp H
      obtain ⟨⟨t176, t177⟩, A110, H⟩ := H
      replace H : ((spec_l20Rd_pick.f k s0_0 t177 50).bind fun bt178 => (some (wrap64 ((wrap64 ((rd y170 (ji8)) + (wrap64 ((wrap64 (Int.tdiv t176 39)) * 10000)))) - (wrap64 ((wrap64 (Int.tdiv bt178.1 49)) * 20000))), bt178.2))) = some (r1, r2) := H
      have A11 := Aside0.mk A110
      clear A110
      replace H := Option.bind_eq_some_iff.mp H
      obtain ⟨⟨t178, t179⟩, A120, H⟩ := H
      replace H : (some (wrap64 ((wrap64 ((rd y170 (ji8)) + (wrap64 ((wrap64 (Int.tdiv t176 39)) * 10000)))) - (wrap64 ((wrap64 (Int.tdiv t178 49)) * 20000))), t179)) = some (r1, r2) := H
      have A12 := Aside0.mk A120
      clear A120
      simp only [Option.some.injEq, Prod.mk.injEq] at H
      obtain ⟨rfl, rfl⟩ := H
      go_enter Try.func45, Try.ntmps45
      go_wp2_with (first | ((with_reducible refine gate_callee (f := 33) rfl ?_); refine goesL_ (some 5) rfl rfl Try.func33 (by kernel_rfl) rfl #[.pointer (some ⟨g, 0, none⟩), .int .i64 12] rfl (by (try simp only [List.map_toArray, List.map_cons, List.map_nil]); first | done | rfl | (simp only [List.length_drop, List.length_take]; rfl)) ?_; (with_reducible refine (spec_l20Rd_pick.calls k g s0_0 s0_1 12 t160 t161 w0 _ ?side1 ?side2 A2.out).mono ?_); (case side1 => repeat (first | (with_reducible first | exact HI0.out | apply IsS46.alloc | apply IsS46.drewN | apply IsS46.drew | apply IsS46.set_1) | exact HI0.out)); (case side2 => repeat (first | (with_reducible first | exact HB.out | apply below_alloc | apply pw_below_drewN | apply below_drew1 | refine below_set ?_ (IsS46.ge HI0.out)) | exact HB.out)); rintro e w13 ⟨rfl, hi, hb, hk⟩; refine ⟨_, rfl, ?_⟩; have n0_ := Aside0.mk (KeepBut.trans (by repeat (first | (with_reducible first | exact HK.out | apply KeepBut.set_ | apply keep_drewN | apply keep_drew | apply keep_alloc) | exact HK.out)) hk (.inl rfl)); have n1_ := Aside0.mk (hb); have n2_ := Aside0.mk (hi); clear HK; clear HB; clear HI0; have HK := n0_; have HB := n1_; have HI0 := n2_; clear n0_ n1_ n2_; (try clear hb); (try clear hb2); (try clear hk); (try clear hi)) | ((with_reducible refine gate_callee (f := 33) rfl ?_); refine goesL_ (some 8) rfl rfl Try.func33 (by kernel_rfl) rfl #[.pointer (some ⟨g, 0, none⟩), .int .i64 60] rfl (by (try simp only [List.map_toArray, List.map_cons, List.map_nil]); first | done | rfl | (simp only [List.length_drop, List.length_take]; rfl)) ?_; (with_reducible refine (spec_l20Rd_pick.calls k g s0_0 t161 60 t162 t163 w0 _ ?side1 ?side2 A3.out).mono ?_); (case side1 => repeat (first | (with_reducible first | exact HI0.out | apply IsS46.alloc | apply IsS46.drewN | apply IsS46.drew | apply IsS46.set_1) | exact HI0.out)); (case side2 => repeat (first | (with_reducible first | exact HB.out | apply below_alloc | apply pw_below_drewN | apply below_drew1 | refine below_set ?_ (IsS46.ge HI0.out)) | exact HB.out)); rintro e w14 ⟨rfl, hi, hb, hk⟩; refine ⟨_, rfl, ?_⟩; have n0_ := Aside0.mk (KeepBut.trans (by repeat (first | (with_reducible first | exact HK.out | apply KeepBut.set_ | apply keep_drewN | apply keep_drew | apply keep_alloc) | exact HK.out)) hk (.inl rfl)); have n1_ := Aside0.mk (hb); have n2_ := Aside0.mk (hi); clear HK; clear HB; clear HI0; have HK := n0_; have HB := n1_; have HI0 := n2_; clear n0_ n1_ n2_; (try clear hb); (try clear hb2); (try clear hk); (try clear hi)) | ((with_reducible refine gate_callee (f := 33) rfl ?_); refine goesL_ (some 11) rfl rfl Try.func33 (by kernel_rfl) rfl #[.pointer (some ⟨g, 0, none⟩), .int .i64 100] rfl (by (try simp only [List.map_toArray, List.map_cons, List.map_nil]); first | done | rfl | (simp only [List.length_drop, List.length_take]; rfl)) ?_; (with_reducible refine (spec_l20Rd_pick.calls k g s0_0 t163 100 t164 t165 w0 _ ?side1 ?side2 A4.out).mono ?_); (case side1 => repeat (first | (with_reducible first | exact HI0.out | apply IsS46.alloc | apply IsS46.drewN | apply IsS46.drew | apply IsS46.set_1) | exact HI0.out)); (case side2 => repeat (first | (with_reducible first | exact HB.out | apply below_alloc | apply pw_below_drewN | apply below_drew1 | refine below_set ?_ (IsS46.ge HI0.out)) | exact HB.out)); rintro e w15 ⟨rfl, hi, hb, hk⟩; refine ⟨_, rfl, ?_⟩; have n0_ := Aside0.mk (KeepBut.trans (by repeat (first | (with_reducible first | exact HK.out | apply KeepBut.set_ | apply keep_drewN | apply keep_drew | apply keep_alloc) | exact HK.out)) hk (.inl rfl)); have n1_ := Aside0.mk (hb); have n2_ := Aside0.mk (hi); clear HK; clear HB; clear HI0; have HK := n0_; have HB := n1_; have HI0 := n2_; clear n0_ n1_ n2_; (try clear hb); (try clear hb2); (try clear hk); (try clear hi)) | ((with_reducible refine gate_callee (f := 33) rfl ?_); refine goesL_ (some 13) rfl rfl Try.func33 (by kernel_rfl) rfl #[.pointer (some ⟨g, 0, none⟩), .int .i64 100] rfl (by (try simp only [List.map_toArray, List.map_cons, List.map_nil]); first | done | rfl | (simp only [List.length_drop, List.length_take]; rfl)) ?_; (with_reducible refine (spec_l20Rd_pick.calls k g s0_0 t165 100 t166 t167 w0 _ ?side1 ?side2 A5.out).mono ?_); (case side1 => repeat (first | (with_reducible first | exact HI0.out | apply IsS46.alloc | apply IsS46.drewN | apply IsS46.drew | apply IsS46.set_1) | exact HI0.out)); (case side2 => repeat (first | (with_reducible first | exact HB.out | apply below_alloc | apply pw_below_drewN | apply below_drew1 | refine below_set ?_ (IsS46.ge HI0.out)) | exact HB.out)); rintro e w16 ⟨rfl, hi, hb, hk⟩; refine ⟨_, rfl, ?_⟩; have n0_ := Aside0.mk (KeepBut.trans (by repeat (first | (with_reducible first | exact HK.out | apply KeepBut.set_ | apply keep_drewN | apply keep_drew | apply keep_alloc) | exact HK.out)) hk (.inl rfl)); have n1_ := Aside0.mk (hb); have n2_ := Aside0.mk (hi); clear HK; clear HB; clear HI0; have HK := n0_; have HB := n1_; have HI0 := n2_; clear n0_ n1_ n2_; (try clear hb); (try clear hb2); (try clear hk); (try clear hi)) | ((with_reducible refine gate_callee (f := 33) rfl ?_); refine goesL_ (some 17) rfl rfl Try.func33 (by kernel_rfl) rfl #[.pointer (some ⟨g, 0, none⟩), .int .i64 60] rfl (by (try simp only [List.map_toArray, List.map_cons, List.map_nil]); first | done | rfl | (simp only [List.length_drop, List.length_take]; rfl)) ?_; (with_reducible refine (spec_l20Rd_pick.calls k g s0_0 t167 60 t168 t169 w0 _ ?side1 ?side2 A6.out).mono ?_); (case side1 => repeat (first | (with_reducible first | exact HI0.out | apply IsS46.alloc | apply IsS46.drewN | apply IsS46.drew | apply IsS46.set_1) | exact HI0.out)); (case side2 => repeat (first | (with_reducible first | exact HB.out | apply below_alloc | apply pw_below_drewN | apply below_drew1 | refine below_set ?_ (IsS46.ge HI0.out)) | exact HB.out)); rintro e w17 ⟨rfl, hi, hb, hk⟩; refine ⟨_, rfl, ?_⟩; have n0_ := Aside0.mk (KeepBut.trans (by repeat (first | (with_reducible first | exact HK.out | apply KeepBut.set_ | apply keep_drewN | apply keep_drew | apply keep_alloc) | exact HK.out)) hk (.inl rfl)); have n1_ := Aside0.mk (hb); have n2_ := Aside0.mk (hi); clear HK; clear HB; clear HI0; have HK := n0_; have HB := n1_; have HI0 := n2_; clear n0_ n1_ n2_; (try clear hb); (try clear hb2); (try clear hk); (try clear hi)) | ((with_reducible refine gate_dst (N := 20) rfl ?_); refine Kd.R_lit (Kd.int .i64) _ 3 ?hg (N := 20) ?hd (xs := ([wrap64 (1 + t160), wrap64 (1 + t162), wrap64 (1 + (wrap64 (t164 * t166))), wrap64 (12 * (wrap64 (1 + t168))), 9973, 8192, 9240] : List Int)) (inner := [.int .i64 (wrap64 (1 + t160)), .int .i64 (wrap64 (1 + t162)), .int .i64 (wrap64 (1 + (wrap64 (t164 * t166)))), .int .i64 (wrap64 (12 * (wrap64 (1 + t168)))), .int .i64 9973, .int .i64 8192, .int .i64 9240]) (ok := fun _ => True) (okp := fun _ => True) ?hr ?hp (fun _ hk => hk) trivial (Below.refl _ _) (Nat.le_refl _) (by simp) ?_; (case hd => rfl); (case hg => rfl); (case hr => first | (go_simp; done) | (go_simp; rfl)); (case hp => exact (Reps.one (show Kd.M (Kd.int .i64) _ _ _ (wrap64 (1 + t160)) [.int .i64 (wrap64 (1 + t160))] from rfl) (Reps.one (show Kd.M (Kd.int .i64) _ _ _ (wrap64 (1 + t162)) [.int .i64 (wrap64 (1 + t162))] from rfl) (Reps.one (show Kd.M (Kd.int .i64) _ _ _ (wrap64 (1 + (wrap64 (t164 * t166)))) [.int .i64 (wrap64 (1 + (wrap64 (t164 * t166))))] from rfl) (Reps.one (show Kd.M (Kd.int .i64) _ _ _ (wrap64 (12 * (wrap64 (1 + t168)))) [.int .i64 (wrap64 (12 * (wrap64 (1 + t168))))] from rfl) (Reps.one (show Kd.M (Kd.int .i64) _ _ _ 9973 [.int .i64 9973] from rfl) (Reps.one (show Kd.M (Kd.int .i64) _ _ _ 8192 [.int .i64 8192] from rfl) (Reps.one (show Kd.M (Kd.int .i64) _ _ _ 9240 [.int .i64 9240] from rfl) (Reps.none _ _))))))))); intro v171 w18 ho19 hb hg_ hnew_; clear hg_ hnew_; (first | rw [← Ny170.out] at ho19 | (simp only [Int.reduceToNat] at ho19; rw [← Ny170.out] at ho19)); have n0_ := Aside0.mk (Kd.R_lower ho19 (keep_size (w := w) (g := g) (row := none) (by repeat (first | (with_reducible first | exact HK.out | apply KeepBut.set_ | apply keep_drewN | apply keep_drew | apply keep_alloc) | exact HK.out)))); have n1_ := Aside0.mk (IsS46.below (by repeat (first | (with_reducible first | exact HI0.out | apply IsS46.alloc | apply IsS46.drewN | apply IsS46.drew | apply IsS46.set_1) | exact HI0.out)) hb); have n2_ := Aside0.mk (KeepBut.trans (by repeat (first | (with_reducible first | exact HK.out | apply KeepBut.set_ | apply keep_drewN | apply keep_drew | apply keep_alloc) | exact HK.out)) (KeepBut.of_below hb g none) (.inl rfl)); have n3_ := Aside0.mk (below_step (by repeat (first | (with_reducible first | exact HB.out | apply below_alloc | apply pw_below_drewN | apply below_drew1 | refine below_set ?_ (IsS46.ge HI0.out)) | exact HB.out)) hb); clear HI0; clear HK; clear HB; have HO172 := n0_; have HI0 := n1_; have HK := n2_; have HB := n3_; clear n0_ n1_ n2_ n3_; clear hb ho19) | ((with_reducible refine gate_callee (f := 33) rfl ?_); refine goesL_ (some 22) rfl rfl Try.func33 (by kernel_rfl) rfl #[.pointer (some ⟨g, 0, none⟩), .int .i64 13] rfl (by (try simp only [List.map_toArray, List.map_cons, List.map_nil]); first | done | rfl | (simp only [List.length_drop, List.length_take]; rfl)) ?_; (with_reducible refine (spec_l20Rd_pick.calls k g s0_0 t169 13 t173 t174 w0 _ ?side1 ?side2 A7.out).mono ?_); (case side1 => repeat (first | (with_reducible first | exact HI0.out | apply IsS46.alloc | apply IsS46.drewN | apply IsS46.drew | apply IsS46.set_1) | exact HI0.out)); (case side2 => repeat (first | (with_reducible first | exact HB.out | apply below_alloc | apply pw_below_drewN | apply below_drew1 | refine below_set ?_ (IsS46.ge HI0.out)) | exact HB.out)); rintro e w20 ⟨rfl, hi, hb, hk⟩; refine ⟨_, rfl, ?_⟩; have n0_ := Aside0.mk (Kd.R_mono (Kd.R_keep (IsS46.apart (show IsS46 w0 _ g s0_0 t169 from by repeat (first | (with_reducible first | exact HI0.out | apply IsS46.alloc | apply IsS46.drewN | apply IsS46.drew | apply IsS46.set_1) | exact HI0.out)) (by (with_reducible repeat (first | apply Kd.R_alloc | apply Kd.R_drewN | apply Kd.R_drew)); exact HO172.out) (by decide)) hk (fun _ h => h.2)) (fun _ h => h.1)); have n1_ := Aside0.mk (KeepBut.trans (by repeat (first | (with_reducible first | exact HK.out | apply KeepBut.set_ | apply keep_drewN | apply keep_drew | apply keep_alloc) | exact HK.out)) hk (.inl rfl)); have n2_ := Aside0.mk (hb); have n3_ := Aside0.mk (hi); clear HO172; clear HK; clear HB; clear HI0; have HO172 := n0_; have HK := n1_; have HB := n2_; have HI0 := n3_; clear n0_ n1_ n2_ n3_; (try clear hb); (try clear hb2); (try clear hk); (try clear hi); obtain ⟨Ao21, co21, eo21⟩ := Kd.R_slice HO172.out; subst eo21; have p175 : 0 ≤ ((ji8) : Int) := of_decide_eq_true (by first | (with_reducible assumption) | assumption); have q175 : (ji8) < (y170.length : Int) := of_decide_eq_true (by first | (with_reducible assumption) | assumption); obtain ⟨ad175, e175, hx175_0⟩ := Kd.at_int (Kd.R_reads' HO172.out).2.2 (ji8) p175 q175; cases e175; replace p175 := eq_true p175; replace q175 := eq_true q175) | ((with_reducible refine gate_callee (f := 33) rfl ?_); refine goesL_ (some 28) rfl rfl Try.func33 (by kernel_rfl) rfl #[.pointer (some ⟨g, 0, none⟩), .int .i64 40] rfl (by (try simp only [List.map_toArray, List.map_cons, List.map_nil]); first | done | rfl | (simp only [List.length_drop, List.length_take]; rfl)) ?_; (with_reducible refine (spec_l20Rd_pick.calls k g s0_0 t174 40 t176 t177 w0 _ ?side1 ?side2 A11.out).mono ?_); (case side1 => repeat (first | (with_reducible first | exact HI0.out | apply IsS46.alloc | apply IsS46.drewN | apply IsS46.drew | apply IsS46.set_1) | exact HI0.out)); (case side2 => repeat (first | (with_reducible first | exact HB.out | apply below_alloc | apply pw_below_drewN | apply below_drew1 | refine below_set ?_ (IsS46.ge HI0.out)) | exact HB.out)); rintro e w22 ⟨rfl, hi, hb, hk⟩; refine ⟨_, rfl, ?_⟩; have n0_ := Aside0.mk (Kd.R_mono (Kd.R_keep (IsS46.apart (show IsS46 w0 _ g s0_0 t174 from by repeat (first | (with_reducible first | exact HI0.out | apply IsS46.alloc | apply IsS46.drewN | apply IsS46.drew | apply IsS46.set_1) | exact HI0.out)) (by (with_reducible repeat (first | apply Kd.R_alloc | apply Kd.R_drewN | apply Kd.R_drew)); exact HO172.out) (by decide)) hk (fun _ h => h.2)) (fun _ h => h.1)); have n1_ := Aside0.mk (KeepBut.trans (by repeat (first | (with_reducible first | exact HK.out | apply KeepBut.set_ | apply keep_drewN | apply keep_drew | apply keep_alloc) | exact HK.out)) hk (.inl rfl)); have n2_ := Aside0.mk (hb); have n3_ := Aside0.mk (hi); clear HO172; clear HK; clear HB; clear HI0; have HO172 := n0_; have HK := n1_; have HB := n2_; have HI0 := n3_; clear n0_ n1_ n2_ n3_; (try clear hb); (try clear hb2); (try clear hk); (try clear hi)) | ((with_reducible refine gate_callee (f := 33) rfl ?_); refine goesL_ (some 33) rfl rfl Try.func33 (by kernel_rfl) rfl #[.pointer (some ⟨g, 0, none⟩), .int .i64 50] rfl (by (try simp only [List.map_toArray, List.map_cons, List.map_nil]); first | done | rfl | (simp only [List.length_drop, List.length_take]; rfl)) ?_; (with_reducible refine (spec_l20Rd_pick.calls k g s0_0 t177 50 t178 t179 w0 _ ?side1 ?side2 A12.out).mono ?_); (case side1 => repeat (first | (with_reducible first | exact HI0.out | apply IsS46.alloc | apply IsS46.drewN | apply IsS46.drew | apply IsS46.set_1) | exact HI0.out)); (case side2 => repeat (first | (with_reducible first | exact HB.out | apply below_alloc | apply pw_below_drewN | apply below_drew1 | refine below_set ?_ (IsS46.ge HI0.out)) | exact HB.out)); rintro e w23 ⟨rfl, hi, hb, hk⟩; refine ⟨_, rfl, ?_⟩; have n0_ := Aside0.mk (Kd.R_mono (Kd.R_keep (IsS46.apart (show IsS46 w0 _ g s0_0 t177 from by repeat (first | (with_reducible first | exact HI0.out | apply IsS46.alloc | apply IsS46.drewN | apply IsS46.drew | apply IsS46.set_1) | exact HI0.out)) (by (with_reducible repeat (first | apply Kd.R_alloc | apply Kd.R_drewN | apply Kd.R_drew)); exact HO172.out) (by decide)) hk (fun _ h => h.2)) (fun _ h => h.1)); have n1_ := Aside0.mk (KeepBut.trans (by repeat (first | (with_reducible first | exact HK.out | apply KeepBut.set_ | apply keep_drewN | apply keep_drew | apply keep_alloc) | exact HK.out)) hk (.inl rfl)); have n2_ := Aside0.mk (hb); have n3_ := Aside0.mk (hi); clear HO172; clear HK; clear HB; clear HI0; have HO172 := n0_; have HK := n1_; have HB := n2_; have HI0 := n3_; clear n0_ n1_ n2_ n3_; (try clear hb); (try clear hb2); (try clear hk); (try clear hi)))
      go_ret
      exact ⟨by first | rfl | (simp [errW_none, errW_some] <;> rfl) | (simp only [← hji8]; first | rfl | (simp [errW_none, errW_some] <;> rfl)) | (simp [*, errW_none, errW_some] <;> rfl), by repeat (first | (with_reducible first | exact HI0.out | apply IsS46.alloc | apply IsS46.drewN | apply IsS46.drew | apply IsS46.set_1) | exact HI0.out), by repeat (first | (with_reducible first | exact HB.out | apply below_alloc | apply pw_below_drewN | apply below_drew1 | refine below_set ?_ (IsS46.ge HI0.out)) | exact HB.out), by repeat (first | (with_reducible first | exact HK.out | apply KeepBut.set_ | apply keep_drewN | apply keep_drew | apply keep_alloc) | exact HK.out)⟩
    · rw [if_neg c10] at H
      exact absurd H (by simp)
  · rw [if_neg c9] at H
    exact absurd H (by simp)

/-! ### spec_DrawWayFrom: function 26 -/
def spec_DrawWayFrom.f (k : Nat) (l0 : List Int) : Option (Int) := (spec_l20Open.f l0).bind fun bt180 => ((spec_l20Mid.f k bt180.1 bt180.2).bind fun bt183 => ((spec_l20Some.f k bt180.1 bt183.2).bind fun bt185 => ((some (([bt183.1, bt185.1, 220, 562, 276, 25] : List Int) : List Int)).bind fun y187 => ((spec_l20Rd_pick.f k bt180.1 bt185.2 9).bind fun bt190 => ((spec_l20Rd_pick.f k bt180.1 bt190.2 3).bind fun bt192 => (if 0 ≤ (Int.tmod (wrap64 (Int.tdiv (wrap64 (bt190.1 * bt192.1)) 3)) 6) then (if (Int.tmod (wrap64 (Int.tdiv (wrap64 (bt190.1 * bt192.1)) 3)) 6) < (y187.length : Int) then (some (rd y187 (Int.tmod (wrap64 (Int.tdiv (wrap64 (bt190.1 * bt192.1)) 3)) 6))) else (none)) else (none)))))))
theorem spec_DrawWayFrom.mono : ∀ a0 k, LeO (spec_DrawWayFrom.f k a0) (spec_DrawWayFrom.f (k + 1) a0) := by
  intro a0 k
  unfold spec_DrawWayFrom.f
  repeat' first
      | (with_reducible exact spec_l20Mid.mono _ _ _)
      | (with_reducible exact spec_l20Rd_pick.mono _ _ _ _)
      | (with_reducible exact spec_l20Some.mono _ _ _)
      | (with_reducible exact LeO.refl _)
      | (with_reducible exact LeO.none _)
      | (with_reducible refine LeO.ite ?_ ?_)
      | (with_reducible refine LeO.bind ?_ (fun _ => ?_))
      | exact spec_l20Mid.mono _ _ _
      | exact spec_l20Rd_pick.mono _ _ _ _
      | exact spec_l20Some.mono _ _ _
      | exact LeO.none _
      | refine LeO.ite ?_ ?_
      | refine LeO.bind ?_ (fun _ => ?_)
set_option maxHeartbeats 8000000 in
set_option maxRecDepth 100000 in
theorem spec_DrawWayFrom.calls (k : Nat) (A0 : Option Addr) (c0 : Nat) (l0 : List Int) (r : Int) (w : World) (hr0 : Kd.C (Kd.int .u8) w A0 l0.length l0) (hc0 : l0.length ≤ c0) (h : spec_DrawWayFrom.f k l0 = some r) :
    Calls Try.prog 26 #[.slice A0 l0.length c0] w fun e w' => e = .returned (.int .i64 r) ∧ Below w.heap.size w w' := by
  have HR0 := Aside0.mk hr0
  have HC0 := Aside0.mk hc0
  clear hr0 hc0
  have HB := Aside0.mk (Below.refl w.heap.size w)
  have H : ((spec_l20Open.f l0).bind fun bt180 => ((spec_l20Mid.f k bt180.1 bt180.2).bind fun bt183 => ((spec_l20Some.f k bt180.1 bt183.2).bind fun bt185 => ((some (([bt183.1, bt185.1, 220, 562, 276, 25] : List Int) : List Int)).bind fun y187 => ((spec_l20Rd_pick.f k bt180.1 bt185.2 9).bind fun bt190 => ((spec_l20Rd_pick.f k bt180.1 bt190.2 3).bind fun bt192 => (if 0 ≤ (Int.tmod (wrap64 (Int.tdiv (wrap64 (bt190.1 * bt192.1)) 3)) 6) then (if (Int.tmod (wrap64 (Int.tdiv (wrap64 (bt190.1 * bt192.1)) 3)) 6) < (y187.length : Int) then (some (rd y187 (Int.tmod (wrap64 (Int.tdiv (wrap64 (bt190.1 * bt192.1)) 3)) 6))) else (none)) else (none)))))))) = some r := h
  clear h
  replace H := Option.bind_eq_some_iff.mp H
  obtain ⟨⟨t180, t181⟩, A20, H⟩ := H
  replace H : ((spec_l20Mid.f k t180 t181).bind fun bt183 => ((spec_l20Some.f k t180 bt183.2).bind fun bt185 => ((some (([bt183.1, bt185.1, 220, 562, 276, 25] : List Int) : List Int)).bind fun y187 => ((spec_l20Rd_pick.f k t180 bt185.2 9).bind fun bt190 => ((spec_l20Rd_pick.f k t180 bt190.2 3).bind fun bt192 => (if 0 ≤ (Int.tmod (wrap64 (Int.tdiv (wrap64 (bt190.1 * bt192.1)) 3)) 6) then (if (Int.tmod (wrap64 (Int.tdiv (wrap64 (bt190.1 * bt192.1)) 3)) 6) < (y187.length : Int) then (some (rd y187 (Int.tmod (wrap64 (Int.tdiv (wrap64 (bt190.1 * bt192.1)) 3)) 6))) else (none)) else (none))))))) = some r := H
  have A2 := Aside0.mk A20
  clear A20
  replace H := Option.bind_eq_some_iff.mp H
  obtain ⟨⟨t183, t184⟩, A30, H⟩ := H
  replace H : ((spec_l20Some.f k t180 t184).bind fun bt185 => ((some (([t183, bt185.1, 220, 562, 276, 25] : List Int) : List Int)).bind fun y187 => ((spec_l20Rd_pick.f k t180 bt185.2 9).bind fun bt190 => ((spec_l20Rd_pick.f k t180 bt190.2 3).bind fun bt192 => (if 0 ≤ (Int.tmod (wrap64 (Int.tdiv (wrap64 (bt190.1 * bt192.1)) 3)) 6) then (if (Int.tmod (wrap64 (Int.tdiv (wrap64 (bt190.1 * bt192.1)) 3)) 6) < (y187.length : Int) then (some (rd y187 (Int.tmod (wrap64 (Int.tdiv (wrap64 (bt190.1 * bt192.1)) 3)) 6))) else (none)) else (none)))))) = some r := H
  have A3 := Aside0.mk A30
  clear A30
  replace H := Option.bind_eq_some_iff.mp H
  obtain ⟨⟨t185, t186⟩, A40, H⟩ := H
  replace H : ((some (([t183, t185, 220, 562, 276, 25] : List Int) : List Int)).bind fun y187 => ((spec_l20Rd_pick.f k t180 t186 9).bind fun bt190 => ((spec_l20Rd_pick.f k t180 bt190.2 3).bind fun bt192 => (if 0 ≤ (Int.tmod (wrap64 (Int.tdiv (wrap64 (bt190.1 * bt192.1)) 3)) 6) then (if (Int.tmod (wrap64 (Int.tdiv (wrap64 (bt190.1 * bt192.1)) 3)) 6) < (y187.length : Int) then (some (rd y187 (Int.tmod (wrap64 (Int.tdiv (wrap64 (bt190.1 * bt192.1)) 3)) 6))) else (none)) else (none))))) = some r := H
  have A4 := Aside0.mk A40
  clear A40
  obtain ⟨y187, hy187⟩ : ∃ y_ : List Int, y_ = (([t183, t185, 220, 562, 276, 25] : List Int)) := ⟨_, rfl⟩
  replace H : ((spec_l20Rd_pick.f k t180 t186 9).bind fun bt190 => ((spec_l20Rd_pick.f k t180 bt190.2 3).bind fun bt192 => (if 0 ≤ (Int.tmod (wrap64 (Int.tdiv (wrap64 (bt190.1 * bt192.1)) 3)) 6) then (if (Int.tmod (wrap64 (Int.tdiv (wrap64 (bt190.1 * bt192.1)) 3)) 6) < (y187.length : Int) then (some (rd y187 (Int.tmod (wrap64 (Int.tdiv (wrap64 (bt190.1 * bt192.1)) 3)) 6))) else (none)) else (none)))) = some r := by first | (rw [hy187]; with_reducible exact H) | (have H2_ := (Option.bind_some _ _).symm.trans H; rw [hy187]; with_reducible exact H2_) | (have H2_ := (Option.bind_some _ _).symm.trans H; with_reducible exact H2_) | with_reducible exact H | (rw [hy187]; exact H) | exact H
  have Ny187 := Aside0.mk hy187
  clear hy187
  replace H := Option.bind_eq_some_iff.mp H
  obtain ⟨⟨t190, t191⟩, A50, H⟩ := H
  replace H : ((spec_l20Rd_pick.f k t180 t191 3).bind fun bt192 => (if 0 ≤ (Int.tmod (wrap64 (Int.tdiv (wrap64 (t190 * bt192.1)) 3)) 6) then (if (Int.tmod (wrap64 (Int.tdiv (wrap64 (t190 * bt192.1)) 3)) 6) < (y187.length : Int) then (some (rd y187 (Int.tmod (wrap64 (Int.tdiv (wrap64 (t190 * bt192.1)) 3)) 6))) else (none)) else (none))) = some r := H
  have A5 := Aside0.mk A50
  clear A50
  replace H := Option.bind_eq_some_iff.mp H
  obtain ⟨⟨t192, t193⟩, A60, H⟩ := H
  replace H : (if 0 ≤ (Int.tmod (wrap64 (Int.tdiv (wrap64 (t190 * t192)) 3)) 6) then (if (Int.tmod (wrap64 (Int.tdiv (wrap64 (t190 * t192)) 3)) 6) < (y187.length : Int) then (some (rd y187 (Int.tmod (wrap64 (Int.tdiv (wrap64 (t190 * t192)) 3)) 6))) else (none)) else (none)) = some r := H
  have A6 := Aside0.mk A60
  clear A60
  obtain ⟨ji7, hji7⟩ : ∃ j_ : Int, (Int.tmod (wrap64 (Int.tdiv (wrap64 (t190 * t192)) 3)) 6) = j_ := ⟨_, rfl⟩
  replace H : (if 0 ≤ (ji7) then (if (ji7) < (y187.length : Int) then (some (rd y187 (ji7))) else (none)) else (none)) = some r := by first | (rw [hji7] at H; exact H) | (simp only [hji7] at H ⊢; exact H)
  (try rw [hji7] at A2)
  (try rw [hji7] at A3)
  (try rw [hji7] at A4)
  (try rw [hji7] at A5)
  (try rw [hji7] at A6)
  by_cases c8 : 0 ≤ (ji7)
  · rw [if_pos c8] at H
    have c8b0 : decide (0 ≤ (ji7)) = true := decide_eq_true c8
    clear c8
    by_cases c9 : (ji7) < (y187.length : Int)
    · rw [if_pos c9] at H
      have c9b0 : decide ((ji7) < (y187.length : Int)) = true := decide_eq_true c9
      clear c9
      obtain rfl := Option.some.inj H
      go_enter Try.func26, Try.ntmps26
      go_wp2_with (first | ((with_reducible refine gate_callee (f := 32) rfl ?_); refine goesL_ (some 5) rfl rfl Try.func32 (by kernel_rfl) rfl #[.slice A0 l0.length c0] rfl (by (try simp only [List.map_toArray, List.map_cons, List.map_nil]); first | done | rfl | (simp only [List.length_drop, List.length_take]; rfl)) ?_; (with_reducible refine (spec_l20Open.calls _ _ l0 t180 t181 w _ ?side1 ?side2 ?side3 A2.out).mono ?_); (case side1 => repeat (first | (with_reducible first | exact HB.out | apply below_alloc | apply pw_below_drewN | apply below_drew1) | exact HB.out)); (case side2 => exact HR0.out); (case side3 => exact HC0.out); rintro e w10 ⟨g182, rfl, hi, hb, hb2⟩; refine ⟨_, rfl, ?_⟩; have n0_ := Aside0.mk (hb); have n1_ := Aside0.mk (hi); clear HB; have HB := n0_; have HI182 := n1_; clear n0_ n1_; (try clear hb); (try clear hb2); (try clear hk); (try clear hi)) | ((with_reducible refine gate_callee (f := 42) rfl ?_); refine goesL_ (some 7) rfl rfl Try.func42 (by kernel_rfl) rfl #[.pointer (some ⟨g182, 0, none⟩)] rfl (by (try simp only [List.map_toArray, List.map_cons, List.map_nil]); first | done | rfl | (simp only [List.length_drop, List.length_take]; rfl)) ?_; (with_reducible refine (spec_l20Mid.calls k g182 t180 t181 t183 t184 w _ ?side1 ?side2 A3.out).mono ?_); (case side1 => repeat (first | (with_reducible first | exact HI182.out | apply IsS46.alloc | apply IsS46.drewN | apply IsS46.drew | apply IsS46.set_1) | exact HI182.out)); (case side2 => repeat (first | (with_reducible first | exact HB.out | apply below_alloc | apply pw_below_drewN | apply below_drew1 | refine below_set ?_ (IsS46.ge HI182.out)) | exact HB.out)); rintro e w11 ⟨rfl, hi, hb, hk⟩; refine ⟨_, rfl, ?_⟩; have n0_ := Aside0.mk (hb); have n1_ := Aside0.mk (hi); clear HB; clear HI182; have HB := n0_; have HI182 := n1_; clear n0_ n1_; (try clear hb); (try clear hb2); (try clear hk); (try clear hi)) | ((with_reducible refine gate_callee (f := 45) rfl ?_); refine goesL_ (some 9) rfl rfl Try.func45 (by kernel_rfl) rfl #[.pointer (some ⟨g182, 0, none⟩)] rfl (by (try simp only [List.map_toArray, List.map_cons, List.map_nil]); first | done | rfl | (simp only [List.length_drop, List.length_take]; rfl)) ?_; (with_reducible refine (spec_l20Some.calls k g182 t180 t184 t185 t186 w _ ?side1 ?side2 A4.out).mono ?_); (case side1 => repeat (first | (with_reducible first | exact HI182.out | apply IsS46.alloc | apply IsS46.drewN | apply IsS46.drew | apply IsS46.set_1) | exact HI182.out)); (case side2 => repeat (first | (with_reducible first | exact HB.out | apply below_alloc | apply pw_below_drewN | apply below_drew1 | refine below_set ?_ (IsS46.ge HI182.out)) | exact HB.out)); rintro e w12 ⟨rfl, hi, hb, hk⟩; refine ⟨_, rfl, ?_⟩; have n0_ := Aside0.mk (hb); have n1_ := Aside0.mk (hi); clear HB; clear HI182; have HB := n0_; have HI182 := n1_; clear n0_ n1_; (try clear hb); (try clear hb2); (try clear hk); (try clear hi)) | ((with_reducible refine gate_dst (N := 10) rfl ?_); refine Kd.R_lit (Kd.int .i64) _ 3 ?hg (N := 10) ?hd (xs := ([t183, t185, 220, 562, 276, 25] : List Int)) (inner := [.int .i64 t183, .int .i64 t185, .int .i64 220, .int .i64 562, .int .i64 276, .int .i64 25]) (ok := fun _ => True) (okp := fun _ => True) ?hr ?hp (fun _ hk => hk) trivial (Below.refl _ _) (Nat.le_refl _) (by simp) ?_; (case hd => rfl); (case hg => rfl); (case hr => first | (go_simp; done) | (go_simp; rfl)); (case hp => exact (Reps.one (show Kd.M (Kd.int .i64) _ _ _ t183 [.int .i64 t183] from rfl) (Reps.one (show Kd.M (Kd.int .i64) _ _ _ t185 [.int .i64 t185] from rfl) (Reps.one (show Kd.M (Kd.int .i64) _ _ _ 220 [.int .i64 220] from rfl) (Reps.one (show Kd.M (Kd.int .i64) _ _ _ 562 [.int .i64 562] from rfl) (Reps.one (show Kd.M (Kd.int .i64) _ _ _ 276 [.int .i64 276] from rfl) (Reps.one (show Kd.M (Kd.int .i64) _ _ _ 25 [.int .i64 25] from rfl) (Reps.none _ _)))))))); intro v188 w13 ho14 hb hg_ hnew_; clear hg_ hnew_; (first | rw [← Ny187.out] at ho14 | (simp only [Int.reduceToNat] at ho14; rw [← Ny187.out] at ho14)); have n0_ := Aside0.mk (Kd.R_lower ho14 (below_size (by repeat (first | (with_reducible first | exact HB.out | apply below_alloc | apply pw_below_drewN | apply below_drew1 | refine below_set ?_ (IsS46.ge HI182.out)) | exact HB.out)))); have n1_ := Aside0.mk (IsS46.below (by repeat (first | (with_reducible first | exact HI182.out | apply IsS46.alloc | apply IsS46.drewN | apply IsS46.drew | apply IsS46.set_1) | exact HI182.out)) hb); have n2_ := Aside0.mk (below_step (by repeat (first | (with_reducible first | exact HB.out | apply below_alloc | apply pw_below_drewN | apply below_drew1 | refine below_set ?_ (IsS46.ge HI182.out)) | exact HB.out)) hb); clear HI182; clear HB; have HO189 := n0_; have HI182 := n1_; have HB := n2_; clear n0_ n1_ n2_; clear hb ho14) | ((with_reducible refine gate_callee (f := 33) rfl ?_); refine goesL_ (some 12) rfl rfl Try.func33 (by kernel_rfl) rfl #[.pointer (some ⟨g182, 0, none⟩), .int .i64 9] rfl (by (try simp only [List.map_toArray, List.map_cons, List.map_nil]); first | done | rfl | (simp only [List.length_drop, List.length_take]; rfl)) ?_; (with_reducible refine (spec_l20Rd_pick.calls k g182 t180 t186 9 t190 t191 w _ ?side1 ?side2 A5.out).mono ?_); (case side1 => repeat (first | (with_reducible first | exact HI182.out | apply IsS46.alloc | apply IsS46.drewN | apply IsS46.drew | apply IsS46.set_1) | exact HI182.out)); (case side2 => repeat (first | (with_reducible first | exact HB.out | apply below_alloc | apply pw_below_drewN | apply below_drew1 | refine below_set ?_ (IsS46.ge HI182.out)) | exact HB.out)); rintro e w15 ⟨rfl, hi, hb, hk⟩; refine ⟨_, rfl, ?_⟩; have n0_ := Aside0.mk (Kd.R_mono (Kd.R_keep (IsS46.apart (show IsS46 w _ g182 t180 t186 from by repeat (first | (with_reducible first | exact HI182.out | apply IsS46.alloc | apply IsS46.drewN | apply IsS46.drew | apply IsS46.set_1) | exact HI182.out)) (by (with_reducible repeat (first | apply Kd.R_alloc | apply Kd.R_drewN | apply Kd.R_drew)); exact HO189.out) (by decide)) hk (fun _ h => h.2)) (fun _ h => h.1)); have n1_ := Aside0.mk (hb); have n2_ := Aside0.mk (hi); clear HO189; clear HB; clear HI182; have HO189 := n0_; have HB := n1_; have HI182 := n2_; clear n0_ n1_ n2_; (try clear hb); (try clear hb2); (try clear hk); (try clear hi)) | ((with_reducible refine gate_callee (f := 33) rfl ?_); refine goesL_ (some 14) rfl rfl Try.func33 (by kernel_rfl) rfl #[.pointer (some ⟨g182, 0, none⟩), .int .i64 3] rfl (by (try simp only [List.map_toArray, List.map_cons, List.map_nil]); first | done | rfl | (simp only [List.length_drop, List.length_take]; rfl)) ?_; (with_reducible refine (spec_l20Rd_pick.calls k g182 t180 t191 3 t192 t193 w _ ?side1 ?side2 A6.out).mono ?_); (case side1 => repeat (first | (with_reducible first | exact HI182.out | apply IsS46.alloc | apply IsS46.drewN | apply IsS46.drew | apply IsS46.set_1) | exact HI182.out)); (case side2 => repeat (first | (with_reducible first | exact HB.out | apply below_alloc | apply pw_below_drewN | apply below_drew1 | refine below_set ?_ (IsS46.ge HI182.out)) | exact HB.out)); rintro e w16 ⟨rfl, hi, hb, hk⟩; refine ⟨_, rfl, ?_⟩; have n0_ := Aside0.mk (Kd.R_mono (Kd.R_keep (IsS46.apart (show IsS46 w _ g182 t180 t191 from by repeat (first | (with_reducible first | exact HI182.out | apply IsS46.alloc | apply IsS46.drewN | apply IsS46.drew | apply IsS46.set_1) | exact HI182.out)) (by (with_reducible repeat (first | apply Kd.R_alloc | apply Kd.R_drewN | apply Kd.R_drew)); exact HO189.out) (by decide)) hk (fun _ h => h.2)) (fun _ h => h.1)); have n1_ := Aside0.mk (hb); have n2_ := Aside0.mk (hi); clear HO189; clear HB; clear HI182; have HO189 := n0_; have HB := n1_; have HI182 := n2_; clear n0_ n1_ n2_; (try clear hb); (try clear hb2); (try clear hk); (try clear hi); obtain ⟨Ao17, co17, eo17⟩ := Kd.R_slice HO189.out; subst eo17; have p194 : 0 ≤ ((ji7) : Int) := of_decide_eq_true (by first | (with_reducible assumption) | assumption); have q194 : (ji7) < (y187.length : Int) := of_decide_eq_true (by first | (with_reducible assumption) | assumption); obtain ⟨ad194, e194, hx194_0⟩ := Kd.at_int (Kd.R_reads' HO189.out).2.2 (ji7) p194 q194; cases e194; replace p194 := eq_true p194; replace q194 := eq_true q194))
      go_ret
      exact ⟨by first | rfl | (simp [errW_none, errW_some] <;> rfl) | (simp only [← hji7]; first | rfl | (simp [errW_none, errW_some] <;> rfl)) | (simp [*, errW_none, errW_some] <;> rfl), by repeat (first | (with_reducible first | exact HB.out | apply below_alloc | apply pw_below_drewN | apply below_drew1 | refine below_set ?_ (IsS46.ge HI182.out)) | exact HB.out)⟩
    · rw [if_neg c9] at H
      exact absurd H (by simp)
  · rw [if_neg c8] at H
    exact absurd H (by simp)

end Go.Proofs.Ytkpdhpgocblogaa.PFnWayFrom
