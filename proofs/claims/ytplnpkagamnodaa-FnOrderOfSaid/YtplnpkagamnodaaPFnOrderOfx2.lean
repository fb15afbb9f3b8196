-- PRINTED BY print.sh 35421559b90ae4d0a3588c463048766b98c2df88dd9212a6774a882060cdf62d: not written by this session
import Derived.Test.YtplnpkagamnodaaPFnOrderOfx0
import Derived.Test.YtplnpkagamnodaaPFnOrderOfx1
namespace Go.Proofs.Ytplnpkagamnodaa.PFnOrderOf
open Go.RowKit Go.Proofs.YtplnpkagamnodaaW.PrintWords Go.Proofs.YtplnpkagamnodaaW.PrintLast Go.Proofs.YtplnpkagamnodaaW.PrintMore
attribute [local go_sem] max2_int min2_int max_two min_two max_three min_three max_four min_four   -- for this text's walks alone
set_option linter.unusedVariables false
set_option linter.unusedSimpArgs false

/-! ### spec_l20Mid: function 63 -/
def spec_l20Mid.f (k : Nat) (s0_0 : List Int) (s0_1 : Int) : Option (Int × Int) := (spec_l20Rd_pick.f k s0_0 s0_1 20).bind fun bt125 => ((spec_l20Rd_pick.f k s0_0 bt125.2 100).bind fun bt127 => ((spec_l20Rd_pick.f k s0_0 bt127.2 41).bind fun bt129 => ((some (([wrap64 (1 + bt125.1), wrap64 (1 + bt127.1), wrap64 (12 * (wrap64 (1 + bt129.1))), 500] : List Int) : List Int)).bind fun y131 => ((spec_l20Rd_pick.f k s0_0 bt129.2 7).bind fun bt134 => (if 0 ≤ (wrap64 (Int.tdiv bt134.1 2)) then (if (wrap64 (Int.tdiv bt134.1 2)) < (y131.length : Int) then ((spec_l20Rd_pick.f k s0_0 bt134.2 30).bind fun bt137 => ((spec_l20Rd_pick.f k s0_0 bt137.2 40).bind fun bt139 => (some (wrap64 ((wrap64 ((rd y131 (wrap64 (Int.tdiv bt134.1 2))) + (wrap64 ((wrap64 (Int.tdiv bt137.1 29)) * 500)))) - (wrap64 ((wrap64 (Int.tdiv bt139.1 39)) * 1000))), bt139.2)))) else (none)) else (none))))))
theorem spec_l20Mid.mono : ∀ a0 a1 k, LeO (spec_l20Mid.f k a0 a1) (spec_l20Mid.f (k + 1) a0 a1) := by
  intro a0 a1 k
  unfold spec_l20Mid.f
  repeat' first
      | (with_reducible exact spec_l20Rd_pick.mono _ _ _ _)
      | (with_reducible exact LeO.refl _)
      | (with_reducible exact LeO.none _)
      | (with_reducible refine LeO.ite ?_ ?_)
      | (with_reducible refine LeO.bind ?_ (fun _ => ?_))
      | exact spec_l20Rd_pick.mono _ _ _ _
      | exact LeO.none _
      | refine LeO.ite ?_ ?_
      | refine LeO.bind ?_ (fun _ => ?_)
def spec_l20Mid.T1 : Bool × List (List Nat × List Nat) := (true, [([], []), ([0], [0]), ([1], [1]), ([], []), ([3, 1], [3]), ([4], [4]), ([], []), ([6, 4], [6]), ([7], [7]), ([8], [8]), ([2, 5, 9], [2, 5, 9]), ([], []), ([11, 7], [11]), ([12], [12]), ([10, 13], [10, 13]), ([14], [14]), ([], []), ([16, 12], [16]), ([17], [17]), ([18], [18]), ([15, 19], [15, 19]), ([], []), ([21, 17], [21]), ([22], [22]), ([23], [23]), ([20, 24], [20, 24]), ([25, 22, 0, 1, 2, 3, 4, 5, 6, 7, 8, 9, 10, 11, 12, 13, 14, 15, 16, 17, 18, 19, 20, 21, 22, 23, 24, 25], [25])])
def spec_l20Mid.B1 : List Nat := [0, 1, 3, 0, 11, 27, 0, 91, 219, 475, 1023, 0, 2267, 6363, 16383, 32767, 0, 71899, 202971, 465115, 1048575, 0, 2300123, 6494427, 14883035, 33554431, 67108863]
theorem spec_l20Mid.tab1 : rtab .any (opsOf Try.f63 1) = spec_l20Mid.T1 := by kernel_rfl
theorem spec_l20Mid.bits1 : waitsOk spec_l20Mid.T1.2 spec_l20Mid.B1 = true := by kernel_rfl
set_option maxHeartbeats 8000000 in
set_option maxRecDepth 100000 in
theorem spec_l20Mid.calls (k : Nat) (g : Nat) (s0_0 : List Int) (s0_1 : Int) (r1 : Int) (r2 : Int) (w0 w : World) (hI : IsS50 w0 w g s0_0 s0_1) (hB : Below w0.heap.size w0 w) (h : spec_l20Mid.f k s0_0 s0_1 = some (r1, r2)) :
    Calls Try.prog 63 #[.pointer (some ⟨g, 0, none⟩)] w fun e w' => e = .returned (.int .i64 r1) ∧ IsS50 w0 w' g s0_0 r2 ∧ Below w0.heap.size w0 w' ∧ KeepBut w w' g none := by
  have HI0 := Aside0.mk hI
  have HK := Aside0.mk (KeepBut.refl w g none)
  have HL := Aside0.mk hB.size
  clear hI
  have HW0 := Aside0.mk hB.size
  have HB := Aside0.mk hB
  clear hB
  have H : ((spec_l20Rd_pick.f k s0_0 s0_1 20).bind fun bt125 => ((spec_l20Rd_pick.f k s0_0 bt125.2 100).bind fun bt127 => ((spec_l20Rd_pick.f k s0_0 bt127.2 41).bind fun bt129 => ((some (([wrap64 (1 + bt125.1), wrap64 (1 + bt127.1), wrap64 (12 * (wrap64 (1 + bt129.1))), 500] : List Int) : List Int)).bind fun y131 => ((spec_l20Rd_pick.f k s0_0 bt129.2 7).bind fun bt134 => (if 0 ≤ (wrap64 (Int.tdiv bt134.1 2)) then (if (wrap64 (Int.tdiv bt134.1 2)) < (y131.length : Int) then ((spec_l20Rd_pick.f k s0_0 bt134.2 30).bind fun bt137 => ((spec_l20Rd_pick.f k s0_0 bt137.2 40).bind fun bt139 => (some (wrap64 ((wrap64 ((rd y131 (wrap64 (Int.tdiv bt134.1 2))) + (wrap64 ((wrap64 (Int.tdiv bt137.1 29)) * 500)))) - (wrap64 ((wrap64 (Int.tdiv bt139.1 39)) * 1000))), bt139.2)))) else (none)) else (none))))))) = some (r1, r2) := h
  clear h
  replace H := Option.bind_eq_some_iff.mp H
  obtain ⟨⟨t125, t126⟩, A20, H⟩ := H
  replace H : ((spec_l20Rd_pick.f k s0_0 t126 100).bind fun bt127 => ((spec_l20Rd_pick.f k s0_0 bt127.2 41).bind fun bt129 => ((some (([wrap64 (1 + t125), wrap64 (1 + bt127.1), wrap64 (12 * (wrap64 (1 + bt129.1))), 500] : List Int) : List Int)).bind fun y131 => ((spec_l20Rd_pick.f k s0_0 bt129.2 7).bind fun bt134 => (if 0 ≤ (wrap64 (Int.tdiv bt134.1 2)) then (if (wrap64 (Int.tdiv bt134.1 2)) < (y131.length : Int) then ((spec_l20Rd_pick.f k s0_0 bt134.2 30).bind fun bt137 => ((spec_l20Rd_pick.f k s0_0 bt137.2 40).bind fun bt139 => (some (wrap64 ((wrap64 ((rd y131 (wrap64 (Int.tdiv bt134.1 2))) + (wrap64 ((wrap64 (Int.tdiv bt137.1 29)) * 500)))) - (wrap64 ((wrap64 (Int.tdiv bt139.1 39)) * 1000))), bt139.2)))) else (none)) else (none)))))) = some (r1, r2) := H
  have A2 := Aside0.mk A20
  clear A20
  replace H := Option.bind_eq_some_iff.mp H
  obtain ⟨⟨t127, t128⟩, A30, H⟩ := H
  replace H : ((spec_l20Rd_pick.f k s0_0 t128 41).bind fun bt129 => ((some (([wrap64 (1 + t125), wrap64 (1 + t127), wrap64 (12 * (wrap64 (1 + bt129.1))), 500] : List Int) : List Int)).bind fun y131 => ((spec_l20Rd_pick.f k s0_0 bt129.2 7).bind fun bt134 => (if 0 ≤ (wrap64 (Int.tdiv bt134.1 2)) then (if (wrap64 (Int.tdiv bt134.1 2)) < (y131.length : Int) then ((spec_l20Rd_pick.f k s0_0 bt134.2 30).bind fun bt137 => ((spec_l20Rd_pick.f k s0_0 bt137.2 40).bind fun bt139 => (some (wrap64 ((wrap64 ((rd y131 (wrap64 (Int.tdiv bt134.1 2))) + (wrap64 ((wrap64 (Int.tdiv bt137.1 29)) * 500)))) - (wrap64 ((wrap64 (Int.tdiv bt139.1 39)) * 1000))), bt139.2)))) else (none)) else (none))))) = some (r1, r2) := H
  have A3 := Aside0.mk A30
  clear A30
  replace H := Option.bind_eq_some_iff.mp H
  obtain ⟨⟨t129, t130⟩, A40, H⟩ := H
  replace H : ((some (([wrap64 (1 + t125), wrap64 (1 + t127), wrap64 (12 * (wrap64 (1 + t129))), 500] : List Int) : List Int)).bind fun y131 => ((spec_l20Rd_pick.f k s0_0 t130 7).bind fun bt134 => (if 0 ≤ (wrap64 (Int.tdiv bt134.1 2)) then (if (wrap64 (Int.tdiv bt134.1 2)) < (y131.length : Int) then ((spec_l20Rd_pick.f k s0_0 bt134.2 30).bind fun bt137 => ((spec_l20Rd_pick.f k s0_0 bt137.2 40).bind fun bt139 => (some (wrap64 ((wrap64 ((rd y131 (wrap64 (Int.tdiv bt134.1 2))) + (wrap64 ((wrap64 (Int.tdiv bt137.1 29)) * 500)))) - (wrap64 ((wrap64 (Int.tdiv bt139.1 39)) * 1000))), bt139.2)))) else (none)) else (none)))) = some (r1, r2) := H
  have A4 := Aside0.mk A40
  clear A40
  obtain ⟨y131, hy131⟩ : ∃ y_ : List Int, y_ = (([wrap64 (1 + t125), wrap64 (1 + t127), wrap64 (12 * (wrap64 (1 + t129))), 500] : List Int)) := ⟨_, rfl⟩
  replace H : ((spec_l20Rd_pick.f k s0_0 t130 7).bind fun bt134 => (if 0 ≤ (wrap64 (Int.tdiv bt134.1 2)) then (if (wrap64 (Int.tdiv bt134.1 2)) < (y131.length : Int) then ((spec_l20Rd_pick.f k s0_0 bt134.2 30).bind fun bt137 => ((spec_l20Rd_pick.f k s0_0 bt137.2 40).bind fun bt139 => (some (wrap64 ((wrap64 ((rd y131 (wrap64 (Int.tdiv bt134.1 2))) + (wrap64 ((wrap64 (Int.tdiv bt137.1 29)) * 500)))) - (wrap64 ((wrap64 (Int.tdiv bt139.1 39)) * 1000))), bt139.2)))) else (none)) else (none))) = some (r1, r2) := by first | (rw [hy131]; with_reducible exact H) | (have H2_ := (Option.bind_some _ _).symm.trans H; rw [hy131]; with_reducible exact H2_) | (have H2_ := (Option.bind_some _ _).symm.trans H; with_reducible exact H2_) | with_reducible exact H | (rw [hy131]; exact H) | exact H
  have Ny131 := Aside0.mk hy131
  clear hy131
  replace H := Option.bind_eq_some_iff.mp H
  obtain ⟨⟨t134, t135⟩, A50, H⟩ := H
  replace H : (if 0 ≤ (wrap64 (Int.tdiv t134 2)) then (if (wrap64 (Int.tdiv t134 2)) < (y131.length : Int) then ((spec_l20Rd_pick.f k s0_0 t135 30).bind fun bt137 => ((spec_l20Rd_pick.f k s0_0 bt137.2 40).bind fun bt139 => (some (wrap64 ((wrap64 ((rd y131 (wrap64 (Int.tdiv t134 2))) + (wrap64 ((wrap64 (Int.tdiv bt137.1 29)) * 500)))) - (wrap64 ((wrap64 (Int.tdiv bt139.1 39)) * 1000))), bt139.2)))) else (none)) else (none)) = some (r1, r2) := H
  have A5 := Aside0.mk A50
  clear A50
  obtain ⟨ji6, hji6⟩ : ∃ j_ : Int, (wrap64 (Int.tdiv t134 2)) = j_ := ⟨_, rfl⟩
  replace H : (if 0 ≤ (ji6) then (if (ji6) < (y131.length : Int) then ((spec_l20Rd_pick.f k s0_0 t135 30).bind fun bt137 => ((spec_l20Rd_pick.f k s0_0 bt137.2 40).bind fun bt139 => (some (wrap64 ((wrap64 ((rd y131 (ji6)) + (wrap64 ((wrap64 (Int.tdiv bt137.1 29)) * 500)))) - (wrap64 ((wrap64 (Int.tdiv bt139.1 39)) * 1000))), bt139.2)))) else (none)) else (none)) = some (r1, r2) := by first | (rw [hji6] at H; exact H) | (simp only [hji6] at H ⊢; exact H)
  (try rw [hji6] at A2)
  (try rw [hji6] at A3)
  (try rw [hji6] at A4)
  (try rw [hji6] at A5)
  have hji6w : (IntKind.i64.wrap (Int.tdiv t134 2)) = ji6 := (i64_w _).trans hji6
  by_cases c7 : 0 ≤ (ji6)
  · rw [if_pos c7] at H
    have c7b0 : decide (0 ≤ (ji6)) = true := decide_eq_true c7
    clear c7
    by_cases c8 : (ji6) < (y131.length : Int)
    · rw [if_pos c8] at H
      have c8b0 : decide ((ji6) < (y131.length : Int)) = true := decide_eq_true c8
      clear c8
      replace H := Option.bind_eq_some_iff.mp H
      obtain ⟨⟨t137, t138⟩, A90, H⟩ := H
      replace H : ((spec_l20Rd_pick.f k s0_0 t138 40).bind fun bt139 => (some (wrap64 ((wrap64 ((rd y131 (ji6)) + (wrap64 ((wrap64 (Int.tdiv t137 29)) * 500)))) - (wrap64 ((wrap64 (Int.tdiv bt139.1 39)) * 1000))), bt139.2))) = some (r1, r2) := H
      have A9 := Aside0.mk A90
      clear A90
      replace H := Option.bind_eq_some_iff.mp H
      obtain ⟨⟨t139, t140⟩, A100, H⟩ := H
      replace H : (some (wrap64 ((wrap64 ((rd y131 (ji6)) + (wrap64 ((wrap64 (Int.tdiv t137 29)) * 500)))) - (wrap64 ((wrap64 (Int.tdiv t139 39)) * 1000))), t140)) = some (r1, r2) := H
      have A10 := Aside0.mk A100
      clear A100
      simp only [Option.some.injEq, Prod.mk.injEq] at H
      obtain ⟨rfl, rfl⟩ := H
      go_enter Try.func63, Try.ntmps63
      try go_wp2
      have pi136 : (0 ≤ ((ji6) : Int)) = True := eq_true (of_decide_eq_true (by first | (with_reducible assumption) | assumption))
      have qi136 : ((ji6) < (y131.length : Int)) = True := eq_true (of_decide_eq_true (by first | (with_reducible assumption) | assumption))
      have n0_ := Aside0.mk (IsS50.drew HI0.out)
      have n1_ := Aside0.mk (keep_drew HK.out)
      have n2_ := Aside0.mk (below_drew1 HB.out)
      clear HI0
      clear HK
      clear HB
      have HI0 := n0_
      have HK := n1_
      have HB := n2_
      clear n0_ n1_ n2_
      refine start_ (n := 27) (S := fun w' => True) (ds := []) #[false, false, false, false, false, false, false, false, false, false, false, false, false, false, false, false, false, false, false, false, false, false, false, false, false, false, false] (by kernel_rfl) rfl rfl trivial (fun hHeld => ?_); refine with_tabW spec_l20Mid.tab1 spec_l20Mid.bits1 (fun HT_ HW_ => ?_)
      generalize w.drew = w11 at HI0 HK HB hHeld ⊢
      refine pure_ (i := 0) (N := some 3) (v := ?_) (a' := ?_) #[true, false, false, false, false, false, false, false, false, false, false, false, false, false, false, false, false, false, false, false, false, false, false, false, false, false, false] rfl rfl (any_of HT_.out (by kernel_rfl)) (fun _ _ _ h => h) (Or.inl ⟨by rfl, ?_⟩) ?_ ?_
      rotate_left
      · intro w'
        go_simp
        with_reducible rfl
      rotate_left
      · simp only [Act.put, List.setIfInBounds_toArray, List.set_cons_zero, List.set_cons_succ, i64_w, i32_w]
        rfl
      refine pure_ (i := 3) (N := some 6) (v := ?_) (a' := ?_) #[true, false, false, true, false, false, false, false, false, false, false, false, false, false, false, false, false, false, false, false, false, false, false, false, false, false, false] rfl rfl (any_of HT_.out (by kernel_rfl)) (fun _ _ _ h => h) (Or.inl ⟨by rfl, ?_⟩) ?_ ?_
      rotate_left
      · intro w'
        go_simp
        with_reducible rfl
      rotate_left
      · simp only [Act.put, List.setIfInBounds_toArray, List.set_cons_zero, List.set_cons_succ, i64_w, i32_w]
        rfl
      refine pure_ (i := 6) (N := some 9) (v := ?_) (a' := ?_) #[true, false, false, true, false, false, true, false, false, false, false, false, false, false, false, false, false, false, false, false, false, false, false, false, false, false, false] rfl rfl (any_of HT_.out (by kernel_rfl)) (fun _ _ _ h => h) (Or.inl ⟨by rfl, ?_⟩) ?_ ?_
      rotate_left
      · intro w'
        go_simp
        with_reducible rfl
      rotate_left
      · simp only [Act.put, List.setIfInBounds_toArray, List.set_cons_zero, List.set_cons_succ, i64_w, i32_w]
        rfl
      refine pure_ (i := 11) (N := some 14) (v := ?_) (a' := ?_) #[true, false, false, true, false, false, true, false, false, false, false, true, false, false, false, false, false, false, false, false, false, false, false, false, false, false, false] rfl rfl (any_of HT_.out (by kernel_rfl)) (fun _ _ _ h => h) (Or.inl ⟨by rfl, ?_⟩) ?_ ?_
      rotate_left
      · intro w'
        go_simp
        with_reducible rfl
      rotate_left
      · simp only [Act.put, List.setIfInBounds_toArray, List.set_cons_zero, List.set_cons_succ, i64_w, i32_w]
        rfl
      refine pure_ (i := 16) (N := some 19) (v := ?_) (a' := ?_) #[true, false, false, true, false, false, true, false, false, false, false, true, false, false, false, false, true, false, false, false, false, false, false, false, false, false, false] rfl rfl (any_of HT_.out (by kernel_rfl)) (fun _ _ _ h => h) (Or.inl ⟨by rfl, ?_⟩) ?_ ?_
      rotate_left
      · intro w'
        go_simp
        with_reducible rfl
      rotate_left
      · simp only [Act.put, List.setIfInBounds_toArray, List.set_cons_zero, List.set_cons_succ, i64_w, i32_w]
        rfl
      refine pure_ (i := 21) (N := some 24) (v := ?_) (a' := ?_) #[true, false, false, true, false, false, true, false, false, false, false, true, false, false, false, false, true, false, false, false, false, true, false, false, false, false, false] rfl rfl (any_of HT_.out (by kernel_rfl)) (fun _ _ _ h => h) (Or.inl ⟨by rfl, ?_⟩) ?_ ?_
      rotate_left
      · intro w'
        go_simp
        with_reducible rfl
      rotate_left
      · simp only [Act.put, List.setIfInBounds_toArray, List.set_cons_zero, List.set_cons_succ, i64_w, i32_w]
        rfl
      refine inv_at [1, 2, 4, 5, 7, 8, 9, 10, 12, 13, 14, 15, 17, 18, 19, 20, 22, 23, 24, 25, 26] (fun a0_ b a w' => ∃ (v132 : Value) (adz_v132 : Addr) (m14_ : Value), a = putSel a0_ b [(1, 4, .int .i64 t125), (2, 5, .int .i64 (wrap64 (1 + t125))), (4, 7, .int .i64 t127), (5, 8, .int .i64 (wrap64 (1 + t127))), (7, 10, .int .i64 t129), (8, 11, .int .i64 (wrap64 (1 + t129))), (9, 12, .int .i64 (wrap64 (12 * (wrap64 (1 + t129))))), (10, 13, v132), (12, 15, .int .i64 t134), (13, 16, .int .i64 ji6), (14, 17, m14_), (15, 18, .int .i64 (rd y131 (ji6))), (17, 20, .int .i64 t137), (18, 21, .int .i64 (wrap64 (Int.tdiv t137 29))), (19, 22, .int .i64 (wrap64 ((wrap64 (Int.tdiv t137 29)) * 500))), (20, 23, .int .i64 (wrap64 ((rd y131 (ji6)) + (wrap64 ((wrap64 (Int.tdiv t137 29)) * 500))))), (22, 25, .int .i64 t139), (23, 26, .int .i64 (wrap64 (Int.tdiv t139 39))), (24, 27, .int .i64 (wrap64 ((wrap64 (Int.tdiv t139 39)) * 1000))), (25, 28, .int .i64 (wrap64 ((wrap64 ((rd y131 (ji6)) + (wrap64 ((wrap64 (Int.tdiv t137 29)) * 500)))) - (wrap64 ((wrap64 (Int.tdiv t139 39)) * 1000))))), (26, 2, .int .i64 (wrap64 ((wrap64 ((rd y131 (ji6)) + (wrap64 ((wrap64 (Int.tdiv t137 29)) * 500)))) - (wrap64 ((wrap64 (Int.tdiv t139 39)) * 1000)))))] ∧ (b 1 = false → IsS50 w0 w' g s0_0 s0_1) ∧ (KeepBut w w' g none) ∧ (Below w0.heap.size w0 w') ∧ (b 1 = true → b 4 = false → IsS50 w0 w' g s0_0 t126) ∧ (b 4 = true → b 7 = false → IsS50 w0 w' g s0_0 t128) ∧ (b 7 = true → b 12 = false → IsS50 w0 w' g s0_0 t130) ∧ (b 10 = true → Kd.R (Kd.int .i64) 3 w' w.heap.size (fun _ => True) v132 y131) ∧ (b 10 = true → ∃ c_, (v132 : Value) = .slice (some adz_v132) y131.length c_) ∧ (b 12 = true → b 17 = false → IsS50 w0 w' g s0_0 t135) ∧ (b 17 = true → b 22 = false → IsS50 w0 w' g s0_0 t138) ∧ (b 22 = true → IsS50 w0 w' g s0_0 t140) ∧ (b 14 = true → (m14_ : Value) = .pointer (some (adz_v132.add ((ji6)).toNat)))) HT_.out HW_.out (by kernel_rfl) (by kernel_rfl) ?_ ?_ ?_
      · exact ⟨.bool false, ⟨0, 0, none⟩, .bool false, by simp only [putSel, Bool.false_eq_true, if_false], fun _ => HI0.out, HK.out, HB.out, fun h_ => absurd h_ (by decide), fun h_ => absurd h_ (by decide), fun h_ => absurd h_ (by decide), fun h_ => absurd h_ (by decide), fun h_ => absurd h_ (by decide), fun h_ => absurd h_ (by decide), fun h_ => absurd h_ (by decide), fun h_ => absurd h_ (by decide), fun h_ => absurd h_ (by decide)⟩
      · skip
        clear HB HI0 HK
        refine steps_cons ?_ ?_
        · rintro b a w' ⟨v132, adz_v132, m14_, ha, Q_HI0, Q_HK, Q_HB, Q_HI0_e1, Q_HI0_e4, Q_HI0_e7, Q_HO133, Q_HA_HO133, Q_HI0_e12, Q_HI0_e17, Q_HI0_e22, Q_X14_⟩ hb_ hon hoff
          refine ⟨_, rfl, fun K hK => ?_⟩
          have e3 : a.tmps[3]? = some (.pointer (some ⟨g, 0, none⟩)) := by rw [ha]; exact (putSel_off rfl).trans rfl
          replace ha := Aside0.mk ha
          have HI0 := Aside0.mk (Q_HI0 hb_)
          have HK := Aside0.mk Q_HK
          have HB := Aside0.mk Q_HB
          refine goes_ Try.func75 (by kernel_rfl) rfl #[.pointer (some ⟨g, 0, none⟩), .int .i64 20] (by rfl) rfl rfl (by first | (simp only [List.map_toArray, List.map_cons, List.map_nil, Act.eval, Array.getD_eq_getD_getElem?, Option.getD_some, e3]; done) | (simp only [List.map_toArray, List.map_cons, List.map_nil, Act.eval, Array.getD_eq_getD_getElem?, Option.getD_some, e3]; rfl)) ?_
          with_reducible refine (spec_l20Rd_pick.calls k g s0_0 s0_1 20 t125 t126 w0 _ ?side1 ?side2 A2.out).mono ?_
          (case side1 => repeat (first | (with_reducible first | exact HI0.out | apply IsS50.alloc | apply IsS50.drewN | apply IsS50.drew | apply IsS50.set_1) | exact HI0.out))
          (case side2 => repeat (first | (with_reducible first | exact HB.out | apply below_alloc | apply pw_below_drewN | apply below_drew1 | refine below_set ?_ (IsS50.ge HI0.out)) | exact HB.out))
          rintro e w12 ⟨rfl, hi, hb, hk⟩
          refine ⟨_, rfl, ?_⟩
          have n0_ := Aside0.mk (KeepBut.trans (by repeat (first | (with_reducible first | exact HK.out | apply KeepBut.set_ | apply keep_drewN | apply keep_drew | apply keep_alloc) | exact HK.out)) hk (.inl rfl))
          have n1_ := Aside0.mk (hb)
          have n2_ := Aside0.mk (hi)
          clear HK
          clear HB
          clear HI0
          have HK := n0_
          have HB := n1_
          have HI0 := n2_
          clear n0_ n1_ n2_
          (try clear hb)
          (try clear hb2)
          (try clear hk)
          (try clear hi)
          refine hK.out _ _ ⟨v132, adz_v132, m14_, (by rw [ha.out]; exact putSel_upk 0 hb_ rfl rfl rfl), fun h0_ => absurd ((up_self b 1).symm.trans h0_) (by decide), (by repeat (first | (with_reducible first | exact HK.out | apply KeepBut.set_ | apply keep_drewN | apply keep_drew | apply keep_alloc) | exact HK.out)), (by repeat (first | (with_reducible first | exact HB.out | apply below_alloc | apply pw_below_drewN | apply below_drew1 | refine below_set ?_ (IsS50.ge HI0.out)) | exact HB.out)), fun _ _ => (by repeat (first | (with_reducible first | exact HI0.out | apply IsS50.alloc | apply IsS50.drewN | apply IsS50.drew | apply IsS50.set_1) | exact HI0.out)), fun h0_ _ => absurd ((hoff 4 (by kernel_rfl)).symm.trans h0_) (by decide), fun h0_ _ => absurd ((hoff 7 (by kernel_rfl)).symm.trans h0_) (by decide), fun h0_ => absurd ((hoff 10 (by kernel_rfl)).symm.trans h0_) (by decide), fun h0_ => absurd ((hoff 10 (by kernel_rfl)).symm.trans h0_) (by decide), fun h0_ _ => absurd ((hoff 12 (by kernel_rfl)).symm.trans h0_) (by decide), fun h0_ _ => absurd ((hoff 17 (by kernel_rfl)).symm.trans h0_) (by decide), fun h0_ => absurd ((hoff 22 (by kernel_rfl)).symm.trans h0_) (by decide), fun h0_ => absurd ((hoff 14 (by kernel_rfl)).symm.trans h0_) (by decide)⟩
        refine steps_cons ?_ ?_
        · rintro b a w' ⟨v132, adz_v132, m14_, ha, Q_HI0, Q_HK, Q_HB, Q_HI0_e1, Q_HI0_e4, Q_HI0_e7, Q_HO133, Q_HA_HO133, Q_HI0_e12, Q_HI0_e17, Q_HI0_e22, Q_X14_⟩ hb_ hon hoff
          refine ⟨_, rfl, fun K hK => ?_⟩
          have e4 : a.tmps[4]? = some (.int .i64 t125) := by rw [ha]; exact putSel_on (e := (1, 4, .int .i64 t125)) 0 rfl rfl (hon 1 (by kernel_rfl)) rfl
          replace ha := Aside0.mk ha
          have HK := Aside0.mk Q_HK
          have HB := Aside0.mk Q_HB
          refine value_ (w1 := w') (v := .int .i64 (wrap64 (1 + t125))) (by rfl) rfl ?_ ?_
          · go_simp
            (try simp only [i64_w])
            try rfl
          refine hK.out _ _ ⟨v132, adz_v132, m14_, (by rw [ha.out]; exact putSel_upk 1 hb_ rfl rfl rfl), fun h0_ => absurd ((hon 1 (by kernel_rfl)).symm.trans h0_) (by decide), Q_HK, Q_HB, Q_HI0_e1, Q_HI0_e4, Q_HI0_e7, fun h0_ => absurd ((hoff 10 (by kernel_rfl)).symm.trans h0_) (by decide), fun h0_ => absurd ((hoff 10 (by kernel_rfl)).symm.trans h0_) (by decide), Q_HI0_e12, Q_HI0_e17, Q_HI0_e22, fun h0_ => absurd ((hoff 14 (by kernel_rfl)).symm.trans h0_) (by decide)⟩
        refine steps_cons ?_ ?_
        · rintro b a w' ⟨v132, adz_v132, m14_, ha, Q_HI0, Q_HK, Q_HB, Q_HI0_e1, Q_HI0_e4, Q_HI0_e7, Q_HO133, Q_HA_HO133, Q_HI0_e12, Q_HI0_e17, Q_HI0_e22, Q_X14_⟩ hb_ hon hoff
          refine ⟨_, rfl, fun K hK => ?_⟩
          have e6 : a.tmps[6]? = some (.pointer (some ⟨g, 0, none⟩)) := by rw [ha]; exact (putSel_off rfl).trans rfl
          replace ha := Aside0.mk ha
          have HK := Aside0.mk Q_HK
          have HB := Aside0.mk Q_HB
          have HI0 := Aside0.mk (Q_HI0_e1 (hon 1 (by kernel_rfl)) hb_)
          refine goes_ Try.func75 (by kernel_rfl) rfl #[.pointer (some ⟨g, 0, none⟩), .int .i64 100] (by rfl) rfl rfl (by first | (simp only [List.map_toArray, List.map_cons, List.map_nil, Act.eval, Array.getD_eq_getD_getElem?, Option.getD_some, e6]; done) | (simp only [List.map_toArray, List.map_cons, List.map_nil, Act.eval, Array.getD_eq_getD_getElem?, Option.getD_some, e6]; rfl)) ?_
          with_reducible refine (spec_l20Rd_pick.calls k g s0_0 t126 100 t127 t128 w0 _ ?side1 ?side2 A3.out).mono ?_
          (case side1 => repeat (first | (with_reducible first | exact HI0.out | apply IsS50.alloc | apply IsS50.drewN | apply IsS50.drew | apply IsS50.set_1) | exact HI0.out))
          (case side2 => repeat (first | (with_reducible first | exact HB.out | apply below_alloc | apply pw_below_drewN | apply below_drew1 | refine below_set ?_ (IsS50.ge HI0.out)) | exact HB.out))
          rintro e w14 ⟨rfl, hi, hb, hk⟩
          refine ⟨_, rfl, ?_⟩
          have n0_ := Aside0.mk (KeepBut.trans (by repeat (first | (with_reducible first | exact HK.out | apply KeepBut.set_ | apply keep_drewN | apply keep_drew | apply keep_alloc) | exact HK.out)) hk (.inl rfl))
          have n1_ := Aside0.mk (hb)
          have n2_ := Aside0.mk (hi)
          clear HK
          clear HB
          clear HI0
          have HK := n0_
          have HB := n1_
          have HI0 := n2_
          clear n0_ n1_ n2_
          (try clear hb)
          (try clear hb2)
          (try clear hk)
          (try clear hi)
          refine hK.out _ _ ⟨v132, adz_v132, m14_, (by rw [ha.out]; exact putSel_upk 2 hb_ rfl rfl rfl), fun h0_ => absurd ((hon 1 (by kernel_rfl)).symm.trans h0_) (by decide), (by repeat (first | (with_reducible first | exact HK.out | apply KeepBut.set_ | apply keep_drewN | apply keep_drew | apply keep_alloc) | exact HK.out)), (by repeat (first | (with_reducible first | exact HB.out | apply below_alloc | apply pw_below_drewN | apply below_drew1 | refine below_set ?_ (IsS50.ge HI0.out)) | exact HB.out)), fun _ h1_ => absurd ((up_self b 4).symm.trans h1_) (by decide), fun _ _ => (by repeat (first | (with_reducible first | exact HI0.out | apply IsS50.alloc | apply IsS50.drewN | apply IsS50.drew | apply IsS50.set_1) | exact HI0.out)), fun h0_ _ => absurd ((hoff 7 (by kernel_rfl)).symm.trans h0_) (by decide), fun h0_ => absurd ((hoff 10 (by kernel_rfl)).symm.trans h0_) (by decide), fun h0_ => absurd ((hoff 10 (by kernel_rfl)).symm.trans h0_) (by decide), fun h0_ _ => absurd ((hoff 12 (by kernel_rfl)).symm.trans h0_) (by decide), fun h0_ _ => absurd ((hoff 17 (by kernel_rfl)).symm.trans h0_) (by decide), fun h0_ => absurd ((hoff 22 (by kernel_rfl)).symm.trans h0_) (by decide), fun h0_ => absurd ((hoff 14 (by kernel_rfl)).symm.trans h0_) (by decide)⟩
        refine steps_cons ?_ ?_
        · rintro b a w' ⟨v132, adz_v132, m14_, ha, Q_HI0, Q_HK, Q_HB, Q_HI0_e1, Q_HI0_e4, Q_HI0_e7, Q_HO133, Q_HA_HO133, Q_HI0_e12, Q_HI0_e17, Q_HI0_e22, Q_X14_⟩ hb_ hon hoff
          refine ⟨_, rfl, fun K hK => ?_⟩
          have e7 : a.tmps[7]? = some (.int .i64 t127) := by rw [ha]; exact putSel_on (e := (4, 7, .int .i64 t127)) 2 rfl rfl (hon 4 (by kernel_rfl)) rfl
          replace ha := Aside0.mk ha
          have HK := Aside0.mk Q_HK
          have HB := Aside0.mk Q_HB
          refine value_ (w1 := w') (v := .int .i64 (wrap64 (1 + t127))) (by rfl) rfl ?_ ?_
          · go_simp
            (try simp only [i64_w])
            try rfl
          refine hK.out _ _ ⟨v132, adz_v132, m14_, (by rw [ha.out]; exact putSel_upk 3 hb_ rfl rfl rfl), fun h0_ => absurd ((hon 1 (by kernel_rfl)).symm.trans h0_) (by decide), Q_HK, Q_HB, fun _ h1_ => absurd ((hon 4 (by kernel_rfl)).symm.trans h1_) (by decide), Q_HI0_e4, Q_HI0_e7, fun h0_ => absurd ((hoff 10 (by kernel_rfl)).symm.trans h0_) (by decide), fun h0_ => absurd ((hoff 10 (by kernel_rfl)).symm.trans h0_) (by decide), Q_HI0_e12, Q_HI0_e17, Q_HI0_e22, fun h0_ => absurd ((hoff 14 (by kernel_rfl)).symm.trans h0_) (by decide)⟩
        refine steps_cons ?_ ?_
        · rintro b a w' ⟨v132, adz_v132, m14_, ha, Q_HI0, Q_HK, Q_HB, Q_HI0_e1, Q_HI0_e4, Q_HI0_e7, Q_HO133, Q_HA_HO133, Q_HI0_e12, Q_HI0_e17, Q_HI0_e22, Q_X14_⟩ hb_ hon hoff
          refine ⟨_, rfl, fun K hK => ?_⟩
          have e9 : a.tmps[9]? = some (.pointer (some ⟨g, 0, none⟩)) := by rw [ha]; exact (putSel_off rfl).trans rfl
          replace ha := Aside0.mk ha
          have HK := Aside0.mk Q_HK
          have HB := Aside0.mk Q_HB
          have HI0 := Aside0.mk (Q_HI0_e4 (hon 4 (by kernel_rfl)) hb_)
          refine goes_ Try.func75 (by kernel_rfl) rfl #[.pointer (some ⟨g, 0, none⟩), .int .i64 41] (by rfl) rfl rfl (by first | (simp only [List.map_toArray, List.map_cons, List.map_nil, Act.eval, Array.getD_eq_getD_getElem?, Option.getD_some, e9]; done) | (simp only [List.map_toArray, List.map_cons, List.map_nil, Act.eval, Array.getD_eq_getD_getElem?, Option.getD_some, e9]; rfl)) ?_
          with_reducible refine (spec_l20Rd_pick.calls k g s0_0 t128 41 t129 t130 w0 _ ?side1 ?side2 A4.out).mono ?_
          (case side1 => repeat (first | (with_reducible first | exact HI0.out | apply IsS50.alloc | apply IsS50.drewN | apply IsS50.drew | apply IsS50.set_1) | exact HI0.out))
          (case side2 => repeat (first | (with_reducible first | exact HB.out | apply below_alloc | apply pw_below_drewN | apply below_drew1 | refine below_set ?_ (IsS50.ge HI0.out)) | exact HB.out))
          rintro e w15 ⟨rfl, hi, hb, hk⟩
          refine ⟨_, rfl, ?_⟩
          have n0_ := Aside0.mk (KeepBut.trans (by repeat (first | (with_reducible first | exact HK.out | apply KeepBut.set_ | apply keep_drewN | apply keep_drew | apply keep_alloc) | exact HK.out)) hk (.inl rfl))
          have n1_ := Aside0.mk (hb)
          have n2_ := Aside0.mk (hi)
          clear HK
          clear HB
          clear HI0
          have HK := n0_
          have HB := n1_
          have HI0 := n2_
          clear n0_ n1_ n2_
          (try clear hb)
          (try clear hb2)
          (try clear hk)
          (try clear hi)
          refine hK.out _ _ ⟨v132, adz_v132, m14_, (by rw [ha.out]; exact putSel_upk 4 hb_ rfl rfl rfl), fun h0_ => absurd ((hon 1 (by kernel_rfl)).symm.trans h0_) (by decide), (by repeat (first | (with_reducible first | exact HK.out | apply KeepBut.set_ | apply keep_drewN | apply keep_drew | apply keep_alloc) | exact HK.out)), (by repeat (first | (with_reducible first | exact HB.out | apply below_alloc | apply pw_below_drewN | apply below_drew1 | refine below_set ?_ (IsS50.ge HI0.out)) | exact HB.out)), fun _ h1_ => absurd ((hon 4 (by kernel_rfl)).symm.trans h1_) (by decide), fun _ h1_ => absurd ((up_self b 7).symm.trans h1_) (by decide), fun _ _ => (by repeat (first | (with_reducible first | exact HI0.out | apply IsS50.alloc | apply IsS50.drewN | apply IsS50.drew | apply IsS50.set_1) | exact HI0.out)), fun h0_ => absurd ((hoff 10 (by kernel_rfl)).symm.trans h0_) (by decide), fun h0_ => absurd ((hoff 10 (by kernel_rfl)).symm.trans h0_) (by decide), fun h0_ _ => absurd ((hoff 12 (by kernel_rfl)).symm.trans h0_) (by decide), fun h0_ _ => absurd ((hoff 17 (by kernel_rfl)).symm.trans h0_) (by decide), fun h0_ => absurd ((hoff 22 (by kernel_rfl)).symm.trans h0_) (by decide), fun h0_ => absurd ((hoff 14 (by kernel_rfl)).symm.trans h0_) (by decide)⟩
        refine steps_cons ?_ ?_
        · rintro b a w' ⟨v132, adz_v132, m14_, ha, Q_HI0, Q_HK, Q_HB, Q_HI0_e1, Q_HI0_e4, Q_HI0_e7, Q_HO133, Q_HA_HO133, Q_HI0_e12, Q_HI0_e17, Q_HI0_e22, Q_X14_⟩ hb_ hon hoff
          refine ⟨_, rfl, fun K hK => ?_⟩
          have e10 : a.tmps[10]? = some (.int .i64 t129) := by rw [ha]; exact putSel_on (e := (7, 10, .int .i64 t129)) 4 rfl rfl (hon 7 (by kernel_rfl)) rfl
          replace ha := Aside0.mk ha
          have HK := Aside0.mk Q_HK
          have HB := Aside0.mk Q_HB
          refine value_ (w1 := w') (v := .int .i64 (wrap64 (1 + t129))) (by rfl) rfl ?_ ?_
          · go_simp
            (try simp only [i64_w])
            try rfl
          refine hK.out _ _ ⟨v132, adz_v132, m14_, (by rw [ha.out]; exact putSel_upk 5 hb_ rfl rfl rfl), fun h0_ => absurd ((hon 1 (by kernel_rfl)).symm.trans h0_) (by decide), Q_HK, Q_HB, fun _ h1_ => absurd ((hon 4 (by kernel_rfl)).symm.trans h1_) (by decide), fun _ h1_ => absurd ((hon 7 (by kernel_rfl)).symm.trans h1_) (by decide), Q_HI0_e7, fun h0_ => absurd ((hoff 10 (by kernel_rfl)).symm.trans h0_) (by decide), fun h0_ => absurd ((hoff 10 (by kernel_rfl)).symm.trans h0_) (by decide), Q_HI0_e12, Q_HI0_e17, Q_HI0_e22, fun h0_ => absurd ((hoff 14 (by kernel_rfl)).symm.trans h0_) (by decide)⟩
        refine steps_cons ?_ ?_
        · rintro b a w' ⟨v132, adz_v132, m14_, ha, Q_HI0, Q_HK, Q_HB, Q_HI0_e1, Q_HI0_e4, Q_HI0_e7, Q_HO133, Q_HA_HO133, Q_HI0_e12, Q_HI0_e17, Q_HI0_e22, Q_X14_⟩ hb_ hon hoff
          refine ⟨_, rfl, fun K hK => ?_⟩
          have e11 : a.tmps[11]? = some (.int .i64 (wrap64 (1 + t129))) := by rw [ha]; exact putSel_on (e := (8, 11, .int .i64 (wrap64 (1 + t129)))) 5 rfl rfl (hon 8 (by kernel_rfl)) rfl
          replace ha := Aside0.mk ha
          have HK := Aside0.mk Q_HK
          have HB := Aside0.mk Q_HB
          refine value_ (w1 := w') (v := .int .i64 (wrap64 (12 * (wrap64 (1 + t129))))) (by rfl) rfl ?_ ?_
          · go_simp
            (try simp only [i64_w])
            try rfl
          refine hK.out _ _ ⟨v132, adz_v132, m14_, (by rw [ha.out]; exact putSel_upk 6 hb_ rfl rfl rfl), fun h0_ => absurd ((hon 1 (by kernel_rfl)).symm.trans h0_) (by decide), Q_HK, Q_HB, fun _ h1_ => absurd ((hon 4 (by kernel_rfl)).symm.trans h1_) (by decide), fun _ h1_ => absurd ((hon 7 (by kernel_rfl)).symm.trans h1_) (by decide), Q_HI0_e7, fun h0_ => absurd ((hoff 10 (by kernel_rfl)).symm.trans h0_) (by decide), fun h0_ => absurd ((hoff 10 (by kernel_rfl)).symm.trans h0_) (by decide), Q_HI0_e12, Q_HI0_e17, Q_HI0_e22, fun h0_ => absurd ((hoff 14 (by kernel_rfl)).symm.trans h0_) (by decide)⟩
        refine steps_cons ?_ ?_
        · rintro b a w' ⟨v132, adz_v132, m14_, ha, Q_HI0, Q_HK, Q_HB, Q_HI0_e1, Q_HI0_e4, Q_HI0_e7, Q_HO133, Q_HA_HO133, Q_HI0_e12, Q_HI0_e17, Q_HI0_e22, Q_X14_⟩ hb_ hon hoff
          refine ⟨_, rfl, fun K hK => ?_⟩
          have e5 : a.tmps[5]? = some (.int .i64 (wrap64 (1 + t125))) := by rw [ha]; exact putSel_on (e := (2, 5, .int .i64 (wrap64 (1 + t125)))) 1 rfl rfl (hon 2 (by kernel_rfl)) rfl
          have e8 : a.tmps[8]? = some (.int .i64 (wrap64 (1 + t127))) := by rw [ha]; exact putSel_on (e := (5, 8, .int .i64 (wrap64 (1 + t127)))) 3 rfl rfl (hon 5 (by kernel_rfl)) rfl
          have e12 : a.tmps[12]? = some (.int .i64 (wrap64 (12 * (wrap64 (1 + t129))))) := by rw [ha]; exact putSel_on (e := (9, 12, .int .i64 (wrap64 (12 * (wrap64 (1 + t129)))))) 6 rfl rfl (hon 9 (by kernel_rfl)) rfl
          replace ha := Aside0.mk ha
          have HK := Aside0.mk Q_HK
          have HB := Aside0.mk Q_HB
          refine Kd.R_lit_step (Kd.int .i64) _ 3 ?hg (N := 13) ?hd (xs := ([wrap64 (1 + t125), wrap64 (1 + t127), wrap64 (12 * (wrap64 (1 + t129))), 500] : List Int)) (inner := [.int .i64 (wrap64 (1 + t125)), .int .i64 (wrap64 (1 + t127)), .int .i64 (wrap64 (12 * (wrap64 (1 + t129)))), .int .i64 500]) (ok := fun _ => True) (okp := fun _ => True) ?hr ?hp (fun _ hk => hk) trivial (Below.refl _ _) (Nat.le_refl _) (by simp) ?_; (case hd => rfl); (case hg => rfl); (case hr => first | (go_simp; done) | (go_simp; rfl)); (case hp => exact (Reps.one (show Kd.M (Kd.int .i64) _ _ _ (wrap64 (1 + t125)) [.int .i64 (wrap64 (1 + t125))] from rfl) (Reps.one (show Kd.M (Kd.int .i64) _ _ _ (wrap64 (1 + t127)) [.int .i64 (wrap64 (1 + t127))] from rfl) (Reps.one (show Kd.M (Kd.int .i64) _ _ _ (wrap64 (12 * (wrap64 (1 + t129)))) [.int .i64 (wrap64 (12 * (wrap64 (1 + t129))))] from rfl) (Reps.one (show Kd.M (Kd.int .i64) _ _ _ 500 [.int .i64 500] from rfl) (Reps.none _ _))))))
          intro v132 w16 ho17 hb hg_ hnew_
          clear hg_ hnew_
          (first | rw [← Ny131.out] at ho17 | (simp only [Int.reduceToNat] at ho17; rw [← Ny131.out] at ho17))
          have n0_ := Aside0.mk (Kd.R_lower ho17 (keep_size (w := w) (g := g) (row := none) (by repeat (first | (with_reducible first | exact HK.out | apply KeepBut.set_ | apply keep_drewN | apply keep_drew | apply keep_alloc) | exact HK.out))))
          have n2_ := Aside0.mk (KeepBut.trans (by repeat (first | (with_reducible first | exact HK.out | apply KeepBut.set_ | apply keep_drewN | apply keep_drew | apply keep_alloc) | exact HK.out)) (KeepBut.of_below hb g none) (.inl rfl))
          have n3_ := Aside0.mk (below_step (by repeat (first | (with_reducible first | exact HB.out | apply below_alloc | apply pw_below_drewN | apply below_drew1) | exact HB.out)) hb)
          have z_HI0_e7 := fun (h0_ : b 7 = true) (h1_ : b 12 = false) => (show IsS50 w0 w16 g s0_0 t130 from by first | exact (IsS50.below (by repeat (first | (with_reducible first | exact (Q_HI0_e7 h0_ h1_) | apply IsS50.alloc | apply IsS50.drewN | apply IsS50.drew | apply IsS50.set_1) | exact (Q_HI0_e7 h0_ h1_))) hb))
          have z_HI0_e12 := fun (h0_ : b 12 = true) (h1_ : b 17 = false) => (show IsS50 w0 w16 g s0_0 t135 from by first | exact (IsS50.below (by repeat (first | (with_reducible first | exact (Q_HI0_e12 h0_ h1_) | apply IsS50.alloc | apply IsS50.drewN | apply IsS50.drew | apply IsS50.set_1) | exact (Q_HI0_e12 h0_ h1_))) hb))
          have z_HI0_e17 := fun (h0_ : b 17 = true) (h1_ : b 22 = false) => (show IsS50 w0 w16 g s0_0 t138 from by first | exact (IsS50.below (by repeat (first | (with_reducible first | exact (Q_HI0_e17 h0_ h1_) | apply IsS50.alloc | apply IsS50.drewN | apply IsS50.drew | apply IsS50.set_1) | exact (Q_HI0_e17 h0_ h1_))) hb))
          have z_HI0_e22 := fun (h0_ : b 22 = true) => (show IsS50 w0 w16 g s0_0 t140 from by first | exact (IsS50.below (by repeat (first | (with_reducible first | exact (Q_HI0_e22 h0_) | apply IsS50.alloc | apply IsS50.drewN | apply IsS50.drew | apply IsS50.set_1) | exact (Q_HI0_e22 h0_))) hb))
          clear HK
          clear HB
          have HO133 := n0_
          have HK := n2_
          have HB := n3_
          clear n0_ n2_ n3_
          clear hb ho17
          obtain ⟨Ao18, co18, eo18⟩ := Kd.R_slice HO133.out
          subst eo18
          obtain ⟨ado18, fo18, _⟩ := Kd.at_int (Kd.R_reads' HO133.out).2.2 0 (by decide) (by rw [Ny131.out]; simp)
          cases fo18
          refine hK.out _ _ ⟨.slice (some ado18) y131.length co18, ado18, m14_, (by rw [ha.out]; exact putSel_upk 7 hb_ rfl rfl rfl), fun h0_ => absurd ((hon 1 (by kernel_rfl)).symm.trans h0_) (by decide), (by repeat (first | (with_reducible first | exact HK.out | apply KeepBut.set_ | apply keep_drewN | apply keep_drew | apply keep_alloc) | exact HK.out)), (by repeat (first | (with_reducible first | exact HB.out | apply below_alloc | apply pw_below_drewN | apply below_drew1) | exact HB.out)), fun _ h1_ => absurd ((hon 4 (by kernel_rfl)).symm.trans h1_) (by decide), fun _ h1_ => absurd ((hon 7 (by kernel_rfl)).symm.trans h1_) (by decide), z_HI0_e7, fun _ => (by (with_reducible repeat (first | apply Kd.R_alloc | apply Kd.R_drewN | apply Kd.R_drew)); exact HO133.out), fun _ => ⟨_, rfl⟩, z_HI0_e12, z_HI0_e17, z_HI0_e22, fun h0_ => absurd ((hoff 14 (by kernel_rfl)).symm.trans h0_) (by decide)⟩
        refine steps_cons ?_ ?_
        · rintro b a w' ⟨v132, adz_v132, m14_, ha, Q_HI0, Q_HK, Q_HB, Q_HI0_e1, Q_HI0_e4, Q_HI0_e7, Q_HO133, Q_HA_HO133, Q_HI0_e12, Q_HI0_e17, Q_HI0_e22, Q_X14_⟩ hb_ hon hoff
          refine ⟨_, rfl, fun K hK => ?_⟩
          have e14 : a.tmps[14]? = some (.pointer (some ⟨g, 0, none⟩)) := by rw [ha]; exact (putSel_off rfl).trans rfl
          replace ha := Aside0.mk ha
          have HK := Aside0.mk Q_HK
          have HB := Aside0.mk Q_HB
          have HI0 := Aside0.mk (Q_HI0_e7 (hon 7 (by kernel_rfl)) hb_)
          refine goes_ Try.func75 (by kernel_rfl) rfl #[.pointer (some ⟨g, 0, none⟩), .int .i64 7] (by rfl) rfl rfl (by first | (simp only [List.map_toArray, List.map_cons, List.map_nil, Act.eval, Array.getD_eq_getD_getElem?, Option.getD_some, e14]; done) | (simp only [List.map_toArray, List.map_cons, List.map_nil, Act.eval, Array.getD_eq_getD_getElem?, Option.getD_some, e14]; rfl)) ?_
          with_reducible refine (spec_l20Rd_pick.calls k g s0_0 t130 7 t134 t135 w0 _ ?side1 ?side2 A5.out).mono ?_
          (case side1 => repeat (first | (with_reducible first | exact HI0.out | apply IsS50.alloc | apply IsS50.drewN | apply IsS50.drew | apply IsS50.set_1) | exact HI0.out))
          (case side2 => repeat (first | (with_reducible first | exact HB.out | apply below_alloc | apply pw_below_drewN | apply below_drew1 | refine below_set ?_ (IsS50.ge HI0.out)) | exact HB.out))
          rintro e w16 ⟨rfl, hi, hb, hk⟩
          refine ⟨_, rfl, ?_⟩
          have n0_ := Aside0.mk (KeepBut.trans (by repeat (first | (with_reducible first | exact HK.out | apply KeepBut.set_ | apply keep_drewN | apply keep_drew | apply keep_alloc) | exact HK.out)) hk (.inl rfl))
          have n1_ := Aside0.mk (hb)
          have n2_ := Aside0.mk (hi)
          have z_HO133 := fun (h0_ : b 10 = true) => (show Kd.R (Kd.int .i64) 3 w16 w.heap.size (fun _ => True) v132 y131 from by first | exact (Kd.R_mono (Kd.R_keep (IsS50.apart (show IsS50 w0 _ g s0_0 t130 from by repeat (first | (with_reducible first | exact HI0.out | apply IsS50.alloc | apply IsS50.drewN | apply IsS50.drew | apply IsS50.set_1) | exact HI0.out)) (by (with_reducible repeat (first | apply Kd.R_alloc | apply Kd.R_drewN | apply Kd.R_drew)); exact (Q_HO133 h0_)) (by decide)) hk (fun _ h => h.2)) (fun _ h => h.1)) | exact Kd.R_mono (Kd.R_mono (Kd.R_keep (IsS50.apart (show IsS50 w0 _ g s0_0 t130 from by repeat (first | (with_reducible first | exact HI0.out | apply IsS50.alloc | apply IsS50.drewN | apply IsS50.drew | apply IsS50.set_1) | exact HI0.out)) (by (with_reducible repeat (first | apply Kd.R_alloc | apply Kd.R_drewN | apply Kd.R_drew)); exact (Q_HO133 h0_)) (by decide)) hk (fun _ h => h.2)) (fun _ h => h.1)) (fun _ h_ => by first | trivial | exact h_ | exact h_.1))
          clear HK
          clear HB
          clear HI0
          have HK := n0_
          have HB := n1_
          have HI0 := n2_
          clear n0_ n1_ n2_
          (try clear hb)
          (try clear hb2)
          (try clear hk)
          (try clear hi)
          refine hK.out _ _ ⟨v132, adz_v132, m14_, (by rw [ha.out]; exact putSel_upk 8 hb_ rfl rfl rfl), fun h0_ => absurd ((hon 1 (by kernel_rfl)).symm.trans h0_) (by decide), (by repeat (first | (with_reducible first | exact HK.out | apply KeepBut.set_ | apply keep_drewN | apply keep_drew | apply keep_alloc) | exact HK.out)), (by repeat (first | (with_reducible first | exact HB.out | apply below_alloc | apply pw_below_drewN | apply below_drew1 | refine below_set ?_ (IsS50.ge HI0.out)) | exact HB.out)), fun _ h1_ => absurd ((hon 4 (by kernel_rfl)).symm.trans h1_) (by decide), fun _ h1_ => absurd ((hon 7 (by kernel_rfl)).symm.trans h1_) (by decide), fun _ h1_ => absurd ((up_self b 12).symm.trans h1_) (by decide), z_HO133, Q_HA_HO133, fun _ _ => (by repeat (first | (with_reducible first | exact HI0.out | apply IsS50.alloc | apply IsS50.drewN | apply IsS50.drew | apply IsS50.set_1) | exact HI0.out)), fun h0_ _ => absurd ((hoff 17 (by kernel_rfl)).symm.trans h0_) (by decide), fun h0_ => absurd ((hoff 22 (by kernel_rfl)).symm.trans h0_) (by decide), fun h0_ => absurd ((hoff 14 (by kernel_rfl)).symm.trans h0_) (by decide)⟩
        refine steps_cons ?_ ?_
        · rintro b a w' ⟨v132, adz_v132, m14_, ha, Q_HI0, Q_HK, Q_HB, Q_HI0_e1, Q_HI0_e4, Q_HI0_e7, Q_HO133, Q_HA_HO133, Q_HI0_e12, Q_HI0_e17, Q_HI0_e22, Q_X14_⟩ hb_ hon hoff
          refine ⟨_, rfl, fun K hK => ?_⟩
          have e15 : a.tmps[15]? = some (.int .i64 t134) := by rw [ha]; exact putSel_on (e := (12, 15, .int .i64 t134)) 8 rfl rfl (hon 12 (by kernel_rfl)) rfl
          replace ha := Aside0.mk ha
          have HK := Aside0.mk Q_HK
          have HB := Aside0.mk Q_HB
          refine value_ (w1 := w') (v := .int .i64 ji6) (by rfl) rfl ?_ ?_
          · go_simp
            (try simp only [i64_w])
            try rfl
          refine hK.out _ _ ⟨v132, adz_v132, m14_, (by rw [ha.out]; exact putSel_upk 9 hb_ rfl rfl rfl), fun h0_ => absurd ((hon 1 (by kernel_rfl)).symm.trans h0_) (by decide), Q_HK, Q_HB, fun _ h1_ => absurd ((hon 4 (by kernel_rfl)).symm.trans h1_) (by decide), fun _ h1_ => absurd ((hon 7 (by kernel_rfl)).symm.trans h1_) (by decide), fun _ h1_ => absurd ((hon 12 (by kernel_rfl)).symm.trans h1_) (by decide), Q_HO133, Q_HA_HO133, Q_HI0_e12, Q_HI0_e17, Q_HI0_e22, fun h0_ => absurd ((hoff 14 (by kernel_rfl)).symm.trans h0_) (by decide)⟩
        refine steps_cons ?_ ?_
        · rintro b a w' ⟨v132, adz_v132, m14_, ha, Q_HI0, Q_HK, Q_HB, Q_HI0_e1, Q_HI0_e4, Q_HI0_e7, Q_HO133, Q_HA_HO133, Q_HI0_e12, Q_HI0_e17, Q_HI0_e22, Q_X14_⟩ hb_ hon hoff
          refine ⟨_, rfl, fun K hK => ?_⟩
          have e13 : a.tmps[13]? = some (v132) := by rw [ha]; exact putSel_on (e := (10, 13, v132)) 7 rfl rfl (hon 10 (by kernel_rfl)) rfl
          have e16 : a.tmps[16]? = some (.int .i64 ji6) := by rw [ha]; exact putSel_on (e := (13, 16, .int .i64 ji6)) 9 rfl rfl (hon 13 (by kernel_rfl)) rfl
          replace ha := Aside0.mk ha
          have HK := Aside0.mk Q_HK
          have HB := Aside0.mk Q_HB
          have HO133 := Aside0.mk (Q_HO133 (hon 10 (by kernel_rfl)))
          have HA_HO133 := Aside0.mk (Q_HA_HO133 (hon 10 (by kernel_rfl)))
          obtain ⟨c_, hv_⟩ := HA_HO133.out
          rw [hv_] at e13
          refine value_ (w1 := w') (v := .pointer (some (adz_v132.add ((ji6)).toNat))) (by rfl) rfl ?_ ?_
          · go_simp
            (try simp only [i64_w])
            try rfl
          refine hK.out _ _ ⟨v132, adz_v132, (.pointer (some (adz_v132.add ((ji6)).toNat))), (by rw [ha.out]; exact putSel_upk 10 hb_ rfl rfl rfl), fun h0_ => absurd ((hon 1 (by kernel_rfl)).symm.trans h0_) (by decide), Q_HK, Q_HB, fun _ h1_ => absurd ((hon 4 (by kernel_rfl)).symm.trans h1_) (by decide), fun _ h1_ => absurd ((hon 7 (by kernel_rfl)).symm.trans h1_) (by decide), fun _ h1_ => absurd ((hon 12 (by kernel_rfl)).symm.trans h1_) (by decide), Q_HO133, Q_HA_HO133, Q_HI0_e12, Q_HI0_e17, Q_HI0_e22, fun _ => rfl⟩
        refine steps_cons ?_ ?_
        · rintro b a w' ⟨v132, adz_v132, m14_, ha, Q_HI0, Q_HK, Q_HB, Q_HI0_e1, Q_HI0_e4, Q_HI0_e7, Q_HO133, Q_HA_HO133, Q_HI0_e12, Q_HI0_e17, Q_HI0_e22, Q_X14_⟩ hb_ hon hoff
          refine ⟨_, rfl, fun K hK => ?_⟩
          have e17 : a.tmps[17]? = some (m14_) := by rw [ha]; exact putSel_on (e := (14, 17, m14_)) 10 rfl rfl (hon 14 (by kernel_rfl)) rfl
          rw [Q_X14_ (hon 14 (by kernel_rfl))] at e17
          replace ha := Aside0.mk ha
          have HK := Aside0.mk Q_HK
          have HB := Aside0.mk Q_HB
          have HO133 := Aside0.mk (Q_HO133 (hon 10 (by kernel_rfl)))
          have HA_HO133 := Aside0.mk (Q_HA_HO133 (hon 10 (by kernel_rfl)))
          obtain ⟨c_, hv_⟩ := HA_HO133.out
          have hF_ := HO133.out
          rw [hv_] at hF_
          obtain ⟨ad_, ea_, hx_⟩ := Kd.at_int (Kd.R_reads' hF_).2.2 (ji6) (of_eq_true pi136) (of_eq_true qi136)
          cases ea_
          refine value_ (w1 := w') (v := .int .i64 (rd y131 (ji6))) (by rfl) rfl ?_ ?_
          · go_simp
            (try simp only [i64_w])
            try rfl
          refine hK.out _ _ ⟨v132, adz_v132, m14_, (by rw [ha.out]; exact putSel_upk 11 hb_ rfl rfl rfl), fun h0_ => absurd ((hon 1 (by kernel_rfl)).symm.trans h0_) (by decide), Q_HK, Q_HB, fun _ h1_ => absurd ((hon 4 (by kernel_rfl)).symm.trans h1_) (by decide), fun _ h1_ => absurd ((hon 7 (by kernel_rfl)).symm.trans h1_) (by decide), fun _ h1_ => absurd ((hon 12 (by kernel_rfl)).symm.trans h1_) (by decide), Q_HO133, Q_HA_HO133, Q_HI0_e12, Q_HI0_e17, Q_HI0_e22, Q_X14_⟩
        refine steps_cons ?_ ?_
        · rintro b a w' ⟨v132, adz_v132, m14_, ha, Q_HI0, Q_HK, Q_HB, Q_HI0_e1, Q_HI0_e4, Q_HI0_e7, Q_HO133, Q_HA_HO133, Q_HI0_e12, Q_HI0_e17, Q_HI0_e22, Q_X14_⟩ hb_ hon hoff
          refine ⟨_, rfl, fun K hK => ?_⟩
          have e19 : a.tmps[19]? = some (.pointer (some ⟨g, 0, none⟩)) := by rw [ha]; exact (putSel_off rfl).trans rfl
          replace ha := Aside0.mk ha
          have HK := Aside0.mk Q_HK
          have HB := Aside0.mk Q_HB
          have HI0 := Aside0.mk (Q_HI0_e12 (hon 12 (by kernel_rfl)) hb_)
          refine goes_ Try.func75 (by kernel_rfl) rfl #[.pointer (some ⟨g, 0, none⟩), .int .i64 30] (by rfl) rfl rfl (by first | (simp only [List.map_toArray, List.map_cons, List.map_nil, Act.eval, Array.getD_eq_getD_getElem?, Option.getD_some, e19]; done) | (simp only [List.map_toArray, List.map_cons, List.map_nil, Act.eval, Array.getD_eq_getD_getElem?, Option.getD_some, e19]; rfl)) ?_
          with_reducible refine (spec_l20Rd_pick.calls k g s0_0 t135 30 t137 t138 w0 _ ?side1 ?side2 A9.out).mono ?_
          (case side1 => repeat (first | (with_reducible first | exact HI0.out | apply IsS50.alloc | apply IsS50.drewN | apply IsS50.drew | apply IsS50.set_1) | exact HI0.out))
          (case side2 => repeat (first | (with_reducible first | exact HB.out | apply below_alloc | apply pw_below_drewN | apply below_drew1 | refine below_set ?_ (IsS50.ge HI0.out)) | exact HB.out))
          rintro e w17 ⟨rfl, hi, hb, hk⟩
          refine ⟨_, rfl, ?_⟩
          have n0_ := Aside0.mk (KeepBut.trans (by repeat (first | (with_reducible first | exact HK.out | apply KeepBut.set_ | apply keep_drewN | apply keep_drew | apply keep_alloc) | exact HK.out)) hk (.inl rfl))
          have n1_ := Aside0.mk (hb)
          have n2_ := Aside0.mk (hi)
          have z_HO133 := fun (h0_ : b 10 = true) => (show Kd.R (Kd.int .i64) 3 w17 w.heap.size (fun _ => True) v132 y131 from by first | exact (Kd.R_mono (Kd.R_keep (IsS50.apart (show IsS50 w0 _ g s0_0 t135 from by repeat (first | (with_reducible first | exact HI0.out | apply IsS50.alloc | apply IsS50.drewN | apply IsS50.drew | apply IsS50.set_1) | exact HI0.out)) (by (with_reducible repeat (first | apply Kd.R_alloc | apply Kd.R_drewN | apply Kd.R_drew)); exact (Q_HO133 h0_)) (by decide)) hk (fun _ h => h.2)) (fun _ h => h.1)) | exact Kd.R_mono (Kd.R_mono (Kd.R_keep (IsS50.apart (show IsS50 w0 _ g s0_0 t135 from by repeat (first | (with_reducible first | exact HI0.out | apply IsS50.alloc | apply IsS50.drewN | apply IsS50.drew | apply IsS50.set_1) | exact HI0.out)) (by (with_reducible repeat (first | apply Kd.R_alloc | apply Kd.R_drewN | apply Kd.R_drew)); exact (Q_HO133 h0_)) (by decide)) hk (fun _ h => h.2)) (fun _ h => h.1)) (fun _ h_ => by first | trivial | exact h_ | exact h_.1))
          clear HK
          clear HB
          clear HI0
          have HK := n0_
          have HB := n1_
          have HI0 := n2_
          clear n0_ n1_ n2_
          (try clear hb)
          (try clear hb2)
          (try clear hk)
          (try clear hi)
          refine hK.out _ _ ⟨v132, adz_v132, m14_, (by rw [ha.out]; exact putSel_upk 12 hb_ rfl rfl rfl), fun h0_ => absurd ((hon 1 (by kernel_rfl)).symm.trans h0_) (by decide), (by repeat (first | (with_reducible first | exact HK.out | apply KeepBut.set_ | apply keep_drewN | apply keep_drew | apply keep_alloc) | exact HK.out)), (by repeat (first | (with_reducible first | exact HB.out | apply below_alloc | apply pw_below_drewN | apply below_drew1 | refine below_set ?_ (IsS50.ge HI0.out)) | exact HB.out)), fun _ h1_ => absurd ((hon 4 (by kernel_rfl)).symm.trans h1_) (by decide), fun _ h1_ => absurd ((hon 7 (by kernel_rfl)).symm.trans h1_) (by decide), fun _ h1_ => absurd ((hon 12 (by kernel_rfl)).symm.trans h1_) (by decide), z_HO133, Q_HA_HO133, fun _ h1_ => absurd ((up_self b 17).symm.trans h1_) (by decide), fun _ _ => (by repeat (first | (with_reducible first | exact HI0.out | apply IsS50.alloc | apply IsS50.drewN | apply IsS50.drew | apply IsS50.set_1) | exact HI0.out)), fun h0_ => absurd ((hoff 22 (by kernel_rfl)).symm.trans h0_) (by decide), Q_X14_⟩
        refine steps_cons ?_ ?_
        · rintro b a w' ⟨v132, adz_v132, m14_, ha, Q_HI0, Q_HK, Q_HB, Q_HI0_e1, Q_HI0_e4, Q_HI0_e7, Q_HO133, Q_HA_HO133, Q_HI0_e12, Q_HI0_e17, Q_HI0_e22, Q_X14_⟩ hb_ hon hoff
          refine ⟨_, rfl, fun K hK => ?_⟩
          have e20 : a.tmps[20]? = some (.int .i64 t137) := by rw [ha]; exact putSel_on (e := (17, 20, .int .i64 t137)) 12 rfl rfl (hon 17 (by kernel_rfl)) rfl
          replace ha := Aside0.mk ha
          have HK := Aside0.mk Q_HK
          have HB := Aside0.mk Q_HB
          refine value_ (w1 := w') (v := .int .i64 (wrap64 (Int.tdiv t137 29))) (by rfl) rfl ?_ ?_
          · go_simp
            (try simp only [i64_w])
            try rfl
          refine hK.out _ _ ⟨v132, adz_v132, m14_, (by rw [ha.out]; exact putSel_upk 13 hb_ rfl rfl rfl), fun h0_ => absurd ((hon 1 (by kernel_rfl)).symm.trans h0_) (by decide), Q_HK, Q_HB, fun _ h1_ => absurd ((hon 4 (by kernel_rfl)).symm.trans h1_) (by decide), fun _ h1_ => absurd ((hon 7 (by kernel_rfl)).symm.trans h1_) (by decide), fun _ h1_ => absurd ((hon 12 (by kernel_rfl)).symm.trans h1_) (by decide), Q_HO133, Q_HA_HO133, fun _ h1_ => absurd ((hon 17 (by kernel_rfl)).symm.trans h1_) (by decide), Q_HI0_e17, Q_HI0_e22, Q_X14_⟩
        refine steps_cons ?_ ?_
        · rintro b a w' ⟨v132, adz_v132, m14_, ha, Q_HI0, Q_HK, Q_HB, Q_HI0_e1, Q_HI0_e4, Q_HI0_e7, Q_HO133, Q_HA_HO133, Q_HI0_e12, Q_HI0_e17, Q_HI0_e22, Q_X14_⟩ hb_ hon hoff
          refine ⟨_, rfl, fun K hK => ?_⟩
          have e21 : a.tmps[21]? = some (.int .i64 (wrap64 (Int.tdiv t137 29))) := by rw [ha]; exact putSel_on (e := (18, 21, .int .i64 (wrap64 (Int.tdiv t137 29)))) 13 rfl rfl (hon 18 (by kernel_rfl)) rfl
          replace ha := Aside0.mk ha
          have HK := Aside0.mk Q_HK
          have HB := Aside0.mk Q_HB
          refine value_ (w1 := w') (v := .int .i64 (wrap64 ((wrap64 (Int.tdiv t137 29)) * 500))) (by rfl) rfl ?_ ?_
          · go_simp
            (try simp only [i64_w])
            try rfl
          refine hK.out _ _ ⟨v132, adz_v132, m14_, (by rw [ha.out]; exact putSel_upk 14 hb_ rfl rfl rfl), fun h0_ => absurd ((hon 1 (by kernel_rfl)).symm.trans h0_) (by decide), Q_HK, Q_HB, fun _ h1_ => absurd ((hon 4 (by kernel_rfl)).symm.trans h1_) (by decide), fun _ h1_ => absurd ((hon 7 (by kernel_rfl)).symm.trans h1_) (by decide), fun _ h1_ => absurd ((hon 12 (by kernel_rfl)).symm.trans h1_) (by decide), Q_HO133, Q_HA_HO133, fun _ h1_ => absurd ((hon 17 (by kernel_rfl)).symm.trans h1_) (by decide), Q_HI0_e17, Q_HI0_e22, Q_X14_⟩
        refine steps_cons ?_ ?_
        · rintro b a w' ⟨v132, adz_v132, m14_, ha, Q_HI0, Q_HK, Q_HB, Q_HI0_e1, Q_HI0_e4, Q_HI0_e7, Q_HO133, Q_HA_HO133, Q_HI0_e12, Q_HI0_e17, Q_HI0_e22, Q_X14_⟩ hb_ hon hoff
          refine ⟨_, rfl, fun K hK => ?_⟩
          have e18 : a.tmps[18]? = some (.int .i64 (rd y131 (ji6))) := by rw [ha]; exact putSel_on (e := (15, 18, .int .i64 (rd y131 (ji6)))) 11 rfl rfl (hon 15 (by kernel_rfl)) rfl
          have e22 : a.tmps[22]? = some (.int .i64 (wrap64 ((wrap64 (Int.tdiv t137 29)) * 500))) := by rw [ha]; exact putSel_on (e := (19, 22, .int .i64 (wrap64 ((wrap64 (Int.tdiv t137 29)) * 500)))) 14 rfl rfl (hon 19 (by kernel_rfl)) rfl
          replace ha := Aside0.mk ha
          have HK := Aside0.mk Q_HK
          have HB := Aside0.mk Q_HB
          have HO133 := Aside0.mk (Q_HO133 (hon 10 (by kernel_rfl)))
          have HA_HO133 := Aside0.mk (Q_HA_HO133 (hon 10 (by kernel_rfl)))
          refine value_ (w1 := w') (v := .int .i64 (wrap64 ((rd y131 (ji6)) + (wrap64 ((wrap64 (Int.tdiv t137 29)) * 500))))) (by rfl) rfl ?_ ?_
          · go_simp
            (try simp only [i64_w])
            try rfl
          refine hK.out _ _ ⟨v132, adz_v132, m14_, (by rw [ha.out]; exact putSel_upk 15 hb_ rfl rfl rfl), fun h0_ => absurd ((hon 1 (by kernel_rfl)).symm.trans h0_) (by decide), Q_HK, Q_HB, fun _ h1_ => absurd ((hon 4 (by kernel_rfl)).symm.trans h1_) (by decide), fun _ h1_ => absurd ((hon 7 (by kernel_rfl)).symm.trans h1_) (by decide), fun _ h1_ => absurd ((hon 12 (by kernel_rfl)).symm.trans h1_) (by decide), Q_HO133, Q_HA_HO133, fun _ h1_ => absurd ((hon 17 (by kernel_rfl)).symm.trans h1_) (by decide), Q_HI0_e17, Q_HI0_e22, Q_X14_⟩
        refine steps_cons ?_ ?_
        · rintro b a w' ⟨v132, adz_v132, m14_, ha, Q_HI0, Q_HK, Q_HB, Q_HI0_e1, Q_HI0_e4, Q_HI0_e7, Q_HO133, Q_HA_HO133, Q_HI0_e12, Q_HI0_e17, Q_HI0_e22, Q_X14_⟩ hb_ hon hoff
          refine ⟨_, rfl, fun K hK => ?_⟩
          have e24 : a.tmps[24]? = some (.pointer (some ⟨g, 0, none⟩)) := by rw [ha]; exact (putSel_off rfl).trans rfl
          replace ha := Aside0.mk ha
          have HK := Aside0.mk Q_HK
          have HB := Aside0.mk Q_HB
          have HI0 := Aside0.mk (Q_HI0_e17 (hon 17 (by kernel_rfl)) hb_)
          refine goes_ Try.func75 (by kernel_rfl) rfl #[.pointer (some ⟨g, 0, none⟩), .int .i64 40] (by rfl) rfl rfl (by first | (simp only [List.map_toArray, List.map_cons, List.map_nil, Act.eval, Array.getD_eq_getD_getElem?, Option.getD_some, e24]; done) | (simp only [List.map_toArray, List.map_cons, List.map_nil, Act.eval, Array.getD_eq_getD_getElem?, Option.getD_some, e24]; rfl)) ?_
          with_reducible refine (spec_l20Rd_pick.calls k g s0_0 t138 40 t139 t140 w0 _ ?side1 ?side2 A10.out).mono ?_
          (case side1 => repeat (first | (with_reducible first | exact HI0.out | apply IsS50.alloc | apply IsS50.drewN | apply IsS50.drew | apply IsS50.set_1) | exact HI0.out))
          (case side2 => repeat (first | (with_reducible first | exact HB.out | apply below_alloc | apply pw_below_drewN | apply below_drew1 | refine below_set ?_ (IsS50.ge HI0.out)) | exact HB.out))
          rintro e w18 ⟨rfl, hi, hb, hk⟩
          refine ⟨_, rfl, ?_⟩
          have n0_ := Aside0.mk (KeepBut.trans (by repeat (first | (with_reducible first | exact HK.out | apply KeepBut.set_ | apply keep_drewN | apply keep_drew | apply keep_alloc) | exact HK.out)) hk (.inl rfl))
          have n1_ := Aside0.mk (hb)
          have n2_ := Aside0.mk (hi)
          have z_HO133 := fun (h0_ : b 10 = true) => (show Kd.R (Kd.int .i64) 3 w18 w.heap.size (fun _ => True) v132 y131 from by first | exact (Kd.R_mono (Kd.R_keep (IsS50.apart (show IsS50 w0 _ g s0_0 t138 from by repeat (first | (with_reducible first | exact HI0.out | apply IsS50.alloc | apply IsS50.drewN | apply IsS50.drew | apply IsS50.set_1) | exact HI0.out)) (by (with_reducible repeat (first | apply Kd.R_alloc | apply Kd.R_drewN | apply Kd.R_drew)); exact (Q_HO133 h0_)) (by decide)) hk (fun _ h => h.2)) (fun _ h => h.1)) | exact Kd.R_mono (Kd.R_mono (Kd.R_keep (IsS50.apart (show IsS50 w0 _ g s0_0 t138 from by repeat (first | (with_reducible first | exact HI0.out | apply IsS50.alloc | apply IsS50.drewN | apply IsS50.drew | apply IsS50.set_1) | exact HI0.out)) (by (with_reducible repeat (first | apply Kd.R_alloc | apply Kd.R_drewN | apply Kd.R_drew)); exact (Q_HO133 h0_)) (by decide)) hk (fun _ h => h.2)) (fun _ h => h.1)) (fun _ h_ => by first | trivial | exact h_ | exact h_.1))
          clear HK
          clear HB
          clear HI0
          have HK := n0_
          have HB := n1_
          have HI0 := n2_
          clear n0_ n1_ n2_
          (try clear hb)
          (try clear hb2)
          (try clear hk)
          (try clear hi)
          refine hK.out _ _ ⟨v132, adz_v132, m14_, (by rw [ha.out]; exact putSel_upk 16 hb_ rfl rfl rfl), fun h0_ => absurd ((hon 1 (by kernel_rfl)).symm.trans h0_) (by decide), (by repeat (first | (with_reducible first | exact HK.out | apply KeepBut.set_ | apply keep_drewN | apply keep_drew | apply keep_alloc) | exact HK.out)), (by repeat (first | (with_reducible first | exact HB.out | apply below_alloc | apply pw_below_drewN | apply below_drew1 | refine below_set ?_ (IsS50.ge HI0.out)) | exact HB.out)), fun _ h1_ => absurd ((hon 4 (by kernel_rfl)).symm.trans h1_) (by decide), fun _ h1_ => absurd ((hon 7 (by kernel_rfl)).symm.trans h1_) (by decide), fun _ h1_ => absurd ((hon 12 (by kernel_rfl)).symm.trans h1_) (by decide), z_HO133, Q_HA_HO133, fun _ h1_ => absurd ((hon 17 (by kernel_rfl)).symm.trans h1_) (by decide), fun _ h1_ => absurd ((up_self b 22).symm.trans h1_) (by decide), fun _ => (by repeat (first | (with_reducible first | exact HI0.out | apply IsS50.alloc | apply IsS50.drewN | apply IsS50.drew | apply IsS50.set_1) | exact HI0.out)), Q_X14_⟩
        refine steps_cons ?_ ?_
        · rintro b a w' ⟨v132, adz_v132, m14_, ha, Q_HI0, Q_HK, Q_HB, Q_HI0_e1, Q_HI0_e4, Q_HI0_e7, Q_HO133, Q_HA_HO133, Q_HI0_e12, Q_HI0_e17, Q_HI0_e22, Q_X14_⟩ hb_ hon hoff
          refine ⟨_, rfl, fun K hK => ?_⟩
          have e25 : a.tmps[25]? = some (.int .i64 t139) := by rw [ha]; exact putSel_on (e := (22, 25, .int .i64 t139)) 16 rfl rfl (hon 22 (by kernel_rfl)) rfl
          replace ha := Aside0.mk ha
          have HK := Aside0.mk Q_HK
          have HB := Aside0.mk Q_HB
          have HI0 := Aside0.mk (Q_HI0_e22 (hon 22 (by kernel_rfl)))
          refine value_ (w1 := w') (v := .int .i64 (wrap64 (Int.tdiv t139 39))) (by rfl) rfl ?_ ?_
          · go_simp
            (try simp only [i64_w])
            try rfl
          refine hK.out _ _ ⟨v132, adz_v132, m14_, (by rw [ha.out]; exact putSel_upk 17 hb_ rfl rfl rfl), fun h0_ => absurd ((hon 1 (by kernel_rfl)).symm.trans h0_) (by decide), Q_HK, Q_HB, fun _ h1_ => absurd ((hon 4 (by kernel_rfl)).symm.trans h1_) (by decide), fun _ h1_ => absurd ((hon 7 (by kernel_rfl)).symm.trans h1_) (by decide), fun _ h1_ => absurd ((hon 12 (by kernel_rfl)).symm.trans h1_) (by decide), Q_HO133, Q_HA_HO133, fun _ h1_ => absurd ((hon 17 (by kernel_rfl)).symm.trans h1_) (by decide), fun _ h1_ => absurd ((hon 22 (by kernel_rfl)).symm.trans h1_) (by decide), Q_HI0_e22, Q_X14_⟩
        refine steps_cons ?_ ?_
        · rintro b a w' ⟨v132, adz_v132, m14_, ha, Q_HI0, Q_HK, Q_HB, Q_HI0_e1, Q_HI0_e4, Q_HI0_e7, Q_HO133, Q_HA_HO133, Q_HI0_e12, Q_HI0_e17, Q_HI0_e22, Q_X14_⟩ hb_ hon hoff
          refine ⟨_, rfl, fun K hK => ?_⟩
          have e26 : a.tmps[26]? = some (.int .i64 (wrap64 (Int.tdiv t139 39))) := by rw [ha]; exact putSel_on (e := (23, 26, .int .i64 (wrap64 (Int.tdiv t139 39)))) 17 rfl rfl (hon 23 (by kernel_rfl)) rfl
          replace ha := Aside0.mk ha
          have HK := Aside0.mk Q_HK
          have HB := Aside0.mk Q_HB
          have HI0 := Aside0.mk (Q_HI0_e22 (hon 22 (by kernel_rfl)))
          refine value_ (w1 := w') (v := .int .i64 (wrap64 ((wrap64 (Int.tdiv t139 39)) * 1000))) (by rfl) rfl ?_ ?_
          · go_simp
            (try simp only [i64_w])
            try rfl
          refine hK.out _ _ ⟨v132, adz_v132, m14_, (by rw [ha.out]; exact putSel_upk 18 hb_ rfl rfl rfl), fun h0_ => absurd ((hon 1 (by kernel_rfl)).symm.trans h0_) (by decide), Q_HK, Q_HB, fun _ h1_ => absurd ((hon 4 (by kernel_rfl)).symm.trans h1_) (by decide), fun _ h1_ => absurd ((hon 7 (by kernel_rfl)).symm.trans h1_) (by decide), fun _ h1_ => absurd ((hon 12 (by kernel_rfl)).symm.trans h1_) (by decide), Q_HO133, Q_HA_HO133, fun _ h1_ => absurd ((hon 17 (by kernel_rfl)).symm.trans h1_) (by decide), fun _ h1_ => absurd ((hon 22 (by kernel_rfl)).symm.trans h1_) (by decide), Q_HI0_e22, Q_X14_⟩
        refine steps_cons ?_ ?_
        · rintro b a w' ⟨v132, adz_v132, m14_, ha, Q_HI0, Q_HK, Q_HB, Q_HI0_e1, Q_HI0_e4, Q_HI0_e7, Q_HO133, Q_HA_HO133, Q_HI0_e12, Q_HI0_e17, Q_HI0_e22, Q_X14_⟩ hb_ hon hoff
          refine ⟨_, rfl, fun K hK => ?_⟩
          have e23 : a.tmps[23]? = some (.int .i64 (wrap64 ((rd y131 (ji6)) + (wrap64 ((wrap64 (Int.tdiv t137 29)) * 500))))) := by rw [ha]; exact putSel_on (e := (20, 23, .int .i64 (wrap64 ((rd y131 (ji6)) + (wrap64 ((wrap64 (Int.tdiv t137 29)) * 500)))))) 15 rfl rfl (hon 20 (by kernel_rfl)) rfl
          have e27 : a.tmps[27]? = some (.int .i64 (wrap64 ((wrap64 (Int.tdiv t139 39)) * 1000))) := by rw [ha]; exact putSel_on (e := (24, 27, .int .i64 (wrap64 ((wrap64 (Int.tdiv t139 39)) * 1000)))) 18 rfl rfl (hon 24 (by kernel_rfl)) rfl
          replace ha := Aside0.mk ha
          have HK := Aside0.mk Q_HK
          have HB := Aside0.mk Q_HB
          have HO133 := Aside0.mk (Q_HO133 (hon 10 (by kernel_rfl)))
          have HA_HO133 := Aside0.mk (Q_HA_HO133 (hon 10 (by kernel_rfl)))
          have HI0 := Aside0.mk (Q_HI0_e22 (hon 22 (by kernel_rfl)))
          refine value_ (w1 := w') (v := .int .i64 (wrap64 ((wrap64 ((rd y131 (ji6)) + (wrap64 ((wrap64 (Int.tdiv t137 29)) * 500)))) - (wrap64 ((wrap64 (Int.tdiv t139 39)) * 1000))))) (by rfl) rfl ?_ ?_
          · go_simp
            (try simp only [i64_w])
            try rfl
          refine hK.out _ _ ⟨v132, adz_v132, m14_, (by rw [ha.out]; exact putSel_upk 19 hb_ rfl rfl rfl), fun h0_ => absurd ((hon 1 (by kernel_rfl)).symm.trans h0_) (by decide), Q_HK, Q_HB, fun _ h1_ => absurd ((hon 4 (by kernel_rfl)).symm.trans h1_) (by decide), fun _ h1_ => absurd ((hon 7 (by kernel_rfl)).symm.trans h1_) (by decide), fun _ h1_ => absurd ((hon 12 (by kernel_rfl)).symm.trans h1_) (by decide), Q_HO133, Q_HA_HO133, fun _ h1_ => absurd ((hon 17 (by kernel_rfl)).symm.trans h1_) (by decide), fun _ h1_ => absurd ((hon 22 (by kernel_rfl)).symm.trans h1_) (by decide), Q_HI0_e22, Q_X14_⟩
        refine steps_cons ?_ ?_
        · rintro b a w' ⟨v132, adz_v132, m14_, ha, Q_HI0, Q_HK, Q_HB, Q_HI0_e1, Q_HI0_e4, Q_HI0_e7, Q_HO133, Q_HA_HO133, Q_HI0_e12, Q_HI0_e17, Q_HI0_e22, Q_X14_⟩ hb_ hon hoff
          refine ⟨_, rfl, fun K hK => ?_⟩
          have e28 : a.tmps[28]? = some (.int .i64 (wrap64 ((wrap64 ((rd y131 (ji6)) + (wrap64 ((wrap64 (Int.tdiv t137 29)) * 500)))) - (wrap64 ((wrap64 (Int.tdiv t139 39)) * 1000))))) := by rw [ha]; exact putSel_on (e := (25, 28, .int .i64 (wrap64 ((wrap64 ((rd y131 (ji6)) + (wrap64 ((wrap64 (Int.tdiv t137 29)) * 500)))) - (wrap64 ((wrap64 (Int.tdiv t139 39)) * 1000)))))) 19 rfl rfl (hon 25 (by kernel_rfl)) rfl
          replace ha := Aside0.mk ha
          have HK := Aside0.mk Q_HK
          have HB := Aside0.mk Q_HB
          have HO133 := Aside0.mk (Q_HO133 (hon 10 (by kernel_rfl)))
          have HA_HO133 := Aside0.mk (Q_HA_HO133 (hon 10 (by kernel_rfl)))
          have HI0 := Aside0.mk (Q_HI0_e22 (hon 22 (by kernel_rfl)))
          refine value_ (w1 := w') (v := .int .i64 (wrap64 ((wrap64 ((rd y131 (ji6)) + (wrap64 ((wrap64 (Int.tdiv t137 29)) * 500)))) - (wrap64 ((wrap64 (Int.tdiv t139 39)) * 1000))))) (by rfl) rfl ?_ ?_
          · go_simp
            (try simp only [i64_w])
            try rfl
          refine hK.out _ _ ⟨v132, adz_v132, m14_, (by rw [ha.out]; exact putSel_upk 20 hb_ rfl rfl rfl), fun h0_ => absurd ((hon 1 (by kernel_rfl)).symm.trans h0_) (by decide), Q_HK, Q_HB, fun _ h1_ => absurd ((hon 4 (by kernel_rfl)).symm.trans h1_) (by decide), fun _ h1_ => absurd ((hon 7 (by kernel_rfl)).symm.trans h1_) (by decide), fun _ h1_ => absurd ((hon 12 (by kernel_rfl)).symm.trans h1_) (by decide), Q_HO133, Q_HA_HO133, fun _ h1_ => absurd ((hon 17 (by kernel_rfl)).symm.trans h1_) (by decide), fun _ h1_ => absurd ((hon 22 (by kernel_rfl)).symm.trans h1_) (by decide), Q_HI0_e22, Q_X14_⟩
        exact steps_nil
      rintro b a w21 hall ⟨v132, adz_v132, m14_, ha, Q_HI0, Q_HK, Q_HB, Q_HI0_e1, Q_HI0_e4, Q_HI0_e7, Q_HO133, Q_HA_HO133, Q_HI0_e12, Q_HI0_e17, Q_HI0_e22, Q_X14_⟩
      clear HB HI0 HK
      have hb1_ := hall 1 (by kernel_rfl)
      have hb2_ := hall 2 (by kernel_rfl)
      have hb4_ := hall 4 (by kernel_rfl)
      have hb5_ := hall 5 (by kernel_rfl)
      have hb7_ := hall 7 (by kernel_rfl)
      have hb8_ := hall 8 (by kernel_rfl)
      have hb9_ := hall 9 (by kernel_rfl)
      have hb10_ := hall 10 (by kernel_rfl)
      have hb12_ := hall 12 (by kernel_rfl)
      have hb13_ := hall 13 (by kernel_rfl)
      have hb14_ := hall 14 (by kernel_rfl)
      have hb15_ := hall 15 (by kernel_rfl)
      have hb17_ := hall 17 (by kernel_rfl)
      have hb18_ := hall 18 (by kernel_rfl)
      have hb19_ := hall 19 (by kernel_rfl)
      have hb20_ := hall 20 (by kernel_rfl)
      have hb22_ := hall 22 (by kernel_rfl)
      have hb23_ := hall 23 (by kernel_rfl)
      have hb24_ := hall 24 (by kernel_rfl)
      have hb25_ := hall 25 (by kernel_rfl)
      have hb26_ := hall 26 (by kernel_rfl)
      subst ha
      obtain rfl := Q_X14_ hb14_
      simp only [putSel, hb1_, hb2_, hb4_, hb5_, hb7_, hb8_, hb9_, hb10_, hb12_, hb13_, hb14_, hb15_, hb17_, hb18_, hb19_, hb20_, hb22_, hb23_, hb24_, hb25_, hb26_, if_true, Act.put, List.setIfInBounds_toArray, List.set_cons_zero, List.set_cons_succ]
      clear Q_HI0
      have HK := Aside0.mk Q_HK
      clear Q_HK
      have HB := Aside0.mk Q_HB
      clear Q_HB
      clear Q_HI0_e1
      clear Q_HI0_e4
      clear Q_HI0_e7
      have HO133 := Aside0.mk (Q_HO133 hb10_)
      clear Q_HO133
      have HA_HO133 := Aside0.mk (Q_HA_HO133 hb10_)
      clear Q_HA_HO133
      clear Q_HI0_e12
      clear Q_HI0_e17
      have HI0 := Aside0.mk (Q_HI0_e22 hb22_)
      clear Q_HI0_e22
      clear hall hb1_ hb2_ hb4_ hb5_ hb7_ hb8_ hb9_ hb10_ hb12_ hb13_ hb14_ hb15_ hb17_ hb18_ hb19_ hb20_ hb22_ hb23_ hb24_ hb25_ hb26_
      obtain ⟨co22, eo22⟩ := HA_HO133.out
      clear HA_HO133
      subst eo22
      try go_wp2
      go_ret
      exact ⟨by first | rfl | (simp [errW_none, errW_some] <;> rfl) | (simp only [← hji6]; first | rfl | (simp [errW_none, errW_some] <;> rfl)) | (simp [*, errW_none, errW_some] <;> rfl), by repeat (first | (with_reducible first | exact HI0.out | apply IsS50.alloc | apply IsS50.drewN | apply IsS50.drew | apply IsS50.set_1) | exact HI0.out), by repeat (first | (with_reducible first | exact HB.out | apply below_alloc | apply pw_below_drewN | apply below_drew1 | refine below_set ?_ (IsS50.ge HI0.out)) | exact HB.out), by repeat (first | (with_reducible first | exact HK.out | apply KeepBut.set_ | apply keep_drewN | apply keep_drew | apply keep_alloc) | exact HK.out)⟩
    · rw [if_neg c8] at H
      exact absurd H (by simp)
  · rw [if_neg c7] at H
    exact absurd H (by simp)

/-! ### spec_l20Open: function 64 -/
def spec_l20Open.f (l0 : List Int) : Option (List Int × Int) := if (l0.length : Int) > 2000 then (if 2000 ≤ (l0.length : Int) then (some (l0.take 2000, 0)) else (none)) else (some (l0, 0))
set_option maxHeartbeats 8000000 in
set_option maxRecDepth 100000 in
theorem spec_l20Open.calls (A0 : Option Addr) (c0 : Nat) (l0 : List Int) (r1 : List Int) (r2 : Int) (w0 w : World) (hB : Below w0.heap.size w0 w) (hr0 : Kd.C (Kd.int .u8) w0 A0 l0.length l0) (hc0 : l0.length ≤ c0) (h : spec_l20Open.f l0 = some (r1, r2)) :
    Calls Try.prog 64 #[.slice A0 l0.length c0] w fun e w' => ∃ g_ : Nat, e = .returned (.pointer (some ⟨g_, 0, none⟩)) ∧ IsS50 w0 w' g_ r1 r2 ∧ Below w0.heap.size w0 w' ∧ Below w.heap.size w w' := by
  have hu50 := Try.underlying50
  have HR0 := Aside0.mk hr0
  have HC0 := Aside0.mk hc0
  clear hr0 hc0
  have HBW := Aside0.mk (Below.refl w.heap.size w)
  have HW0 := Aside0.mk hB.size
  have HB := Aside0.mk hB
  clear hB
  have H : (if (l0.length : Int) > 2000 then (if 2000 ≤ (l0.length : Int) then (some (l0.take 2000, 0)) else (none)) else (some (l0, 0))) = some (r1, r2) := h
  clear h
  by_cases c2 : (l0.length : Int) > 2000
  · rw [if_pos c2] at H
    have c2b0 : decide (2000 < (l0.length : Int)) = true := decide_eq_true c2
    have c2b1 : decide (2000 < l0.length) = true := decide_eq_true (by omega)
    clear c2
    by_cases c3 : 2000 ≤ (l0.length : Int)
    · rw [if_pos c3] at H
      have c3b0 := eq_true c3
      have c3b1 : decide (2000 ≤ (l0.length : Int)) = true := decide_eq_true c3
      clear c3
      simp only [Option.some.injEq, Prod.mk.injEq] at H
      obtain ⟨rfl, rfl⟩ := H
      obtain ⟨i04, hi04, _, hsz4, _⟩ := info_parts info5
      obtain ⟨hcut4, hA4, hC4⟩ := print_take_of (P := Try.prog) (Value.int .u8) 0 22 5 .i64 Try.underlying22 hi04 hsz4 A0 c0 l0 2000 (by omega) (of_decide_eq_true (by first | (with_reducible assumption) | assumption)) HC0.out
      have HR141 := Aside0.mk (Kd.C_of_reads (h1 := fun _ => rfl) (hA4 _ (Kd.reads_of_C HR0.out)))
      have HC141 := Aside0.mk hC4
      clear hA4 hC4 hi04 hsz4
      go_enter Try.func64, Try.ntmps64
      go_wp2_with (first | ((with_reducible refine gate_dst (N := 10) rfl ?_); refine box_event ?hg (N := 10) ?hd (cs := #[.slice A0 (l0.take 2000).length c0, .int .i64 0]) (t := 50) ?hr ?_; (case hd => rfl); (case hg => rfl); (case hr => first | (go_simp; done) | (go_simp; rfl)); intro gb142 hg w5 hbox hb; have n0_ := Aside0.mk (below_step HBW.out hb); have n1_ := Aside0.mk (below_step (by repeat (first | (with_reducible first | exact HB.out | apply below_alloc | apply pw_below_drewN | apply below_drew1) | exact HB.out)) hb); have n2_ := Aside0.mk (hbox); have n3_ := Aside0.mk ((by rw [hg]; exact (below_size (by repeat (first | (with_reducible first | exact HBW.out | apply below_alloc | apply pw_below_drewN | apply below_drew1) | exact HBW.out))) : w.heap.size ≤ gb142)); have n4_ := Aside0.mk ((Nat.le_trans HW0.out (by rw [hg]; exact (below_size (by repeat (first | (with_reducible first | exact HBW.out | apply below_alloc | apply pw_below_drewN | apply below_drew1) | exact HBW.out))) : w.heap.size ≤ gb142) : w0.heap.size ≤ gb142)); clear HBW; clear HB; have HBW := n0_; have HB := n1_; have BK142 := n2_; have GW142 := n3_; have GE142 := n4_; clear n0_ n1_ n2_ n3_ n4_; clear hb hbox hg))
      go_ret
      exact ⟨_, rfl, (show IsS50 w0 _ gb142 (l0.take 2000) 0 from ⟨_, _, by (with_reducible repeat (first | refine blk_drewN ?_ _ | refine blk_drew ?_ | refine blk_alloc ?_ _)); exact BK142.out, GE142.out, HR141.out⟩), by repeat (first | (with_reducible first | exact HB.out | apply below_alloc | apply pw_below_drewN | apply below_drew1 | refine below_set ?_ GE142.out) | exact HB.out), by repeat (first | (with_reducible first | exact HBW.out | apply below_alloc | apply pw_below_drewN | apply below_drew1 | refine below_set ?_ GW142.out) | exact HBW.out)⟩
    · rw [if_neg c3] at H
      exact absurd H (by simp)
  · rw [if_neg c2] at H
    have c2b0 : decide (2000 < (l0.length : Int)) = false := decide_eq_false c2
    have c2b1 : decide (2000 < l0.length) = false := decide_eq_false (by omega)
    clear c2
    simp only [Option.some.injEq, Prod.mk.injEq] at H
    obtain ⟨rfl, rfl⟩ := H
    go_enter Try.func64, Try.ntmps64
    go_wp2_with (first | ((with_reducible refine gate_dst (N := 10) rfl ?_); refine box_event ?hg (N := 10) ?hd (cs := #[.slice A0 l0.length c0, .int .i64 0]) (t := 50) ?hr ?_; (case hd => rfl); (case hg => rfl); (case hr => first | (go_simp; done) | (go_simp; rfl)); intro gb143 hg w6 hbox hb; have n0_ := Aside0.mk (below_step HBW.out hb); have n1_ := Aside0.mk (below_step (by repeat (first | (with_reducible first | exact HB.out | apply below_alloc | apply pw_below_drewN | apply below_drew1) | exact HB.out)) hb); have n2_ := Aside0.mk (hbox); have n3_ := Aside0.mk ((by rw [hg]; exact (below_size (by repeat (first | (with_reducible first | exact HBW.out | apply below_alloc | apply pw_below_drewN | apply below_drew1) | exact HBW.out))) : w.heap.size ≤ gb143)); have n4_ := Aside0.mk ((Nat.le_trans HW0.out (by rw [hg]; exact (below_size (by repeat (first | (with_reducible first | exact HBW.out | apply below_alloc | apply pw_below_drewN | apply below_drew1) | exact HBW.out))) : w.heap.size ≤ gb143) : w0.heap.size ≤ gb143)); clear HBW; clear HB; have HBW := n0_; have HB := n1_; have BK143 := n2_; have GW143 := n3_; have GE143 := n4_; clear n0_ n1_ n2_ n3_ n4_; clear hb hbox hg))
    go_ret
    exact ⟨_, rfl, (show IsS50 w0 _ gb143 l0 0 from ⟨_, _, by (with_reducible repeat (first | refine blk_drewN ?_ _ | refine blk_drew ?_ | refine blk_alloc ?_ _)); exact BK143.out, GE143.out, HR0.out⟩), by repeat (first | (with_reducible first | exact HB.out | apply below_alloc | apply pw_below_drewN | apply below_drew1 | refine below_set ?_ GE143.out) | exact HB.out), by repeat (first | (with_reducible first | exact HBW.out | apply below_alloc | apply pw_below_drewN | apply below_drew1 | refine below_set ?_ GW143.out) | exact HBW.out)⟩

/-! ### spec_l20Some: function 71 -/
def spec_l20Some.f (k : Nat) (s0_0 : List Int) (s0_1 : Int) : Option (Int × Int) := (spec_l20Rd_pick.f k s0_0 s0_1 12).bind fun bt144 => ((spec_l20Rd_pick.f k s0_0 bt144.2 60).bind fun bt146 => ((spec_l20Rd_pick.f k s0_0 bt146.2 100).bind fun bt148 => ((spec_l20Rd_pick.f k s0_0 bt148.2 100).bind fun bt150 => ((spec_l20Rd_pick.f k s0_0 bt150.2 60).bind fun bt152 => ((some (([wrap64 (1 + bt144.1), wrap64 (1 + bt146.1), wrap64 (1 + (wrap64 (bt148.1 * bt150.1))), wrap64 (12 * (wrap64 (1 + bt152.1))), 9973, 8192, 9240] : List Int) : List Int)).bind fun y154 => ((spec_l20Rd_pick.f k s0_0 bt152.2 13).bind fun bt157 => (if 0 ≤ (wrap64 (Int.tdiv bt157.1 2)) then (if (wrap64 (Int.tdiv bt157.1 2)) < (y154.length : Int) then ((spec_l20Rd_pick.f k s0_0 bt157.2 40).bind fun bt160 => ((spec_l20Rd_pick.f k s0_0 bt160.2 50).bind fun bt162 => (some (wrap64 ((wrap64 ((rd y154 (wrap64 (Int.tdiv bt157.1 2))) + (wrap64 ((wrap64 (Int.tdiv bt160.1 39)) * 10000)))) - (wrap64 ((wrap64 (Int.tdiv bt162.1 49)) * 20000))), bt162.2)))) else (none)) else (none))))))))
theorem spec_l20Some.mono : ∀ a0 a1 k, LeO (spec_l20Some.f k a0 a1) (spec_l20Some.f (k + 1) a0 a1) := by
  intro a0 a1 k
  unfold spec_l20Some.f
  repeat' first
      | (with_reducible exact spec_l20Rd_pick.mono _ _ _ _)
      | (with_reducible exact LeO.refl _)
      | (with_reducible exact LeO.none _)
      | (with_reducible refine LeO.ite ?_ ?_)
      | (with_reducible refine LeO.bind ?_ (fun _ => ?_))
      | exact spec_l20Rd_pick.mono _ _ _ _
      | exact LeO.none _
      | refine LeO.ite ?_ ?_
      | refine LeO.bind ?_ (fun _ => ?_)
set_option maxHeartbeats 8000000 in
set_option maxRecDepth 100000 in
theorem spec_l20Some.calls (k : Nat) (g : Nat) (s0_0 : List Int) (s0_1 : Int) (r1 : Int) (r2 : Int) (w0 w : World) (hI : IsS50 w0 w g s0_0 s0_1) (hB : Below w0.heap.size w0 w) (h : spec_l20Some.f k s0_0 s0_1 = some (r1, r2)) :
    Calls Try.prog 71 #[.pointer (some ⟨g, 0, none⟩)] w fun e w' => e = .returned (.int .i64 r1) ∧ IsS50 w0 w' g s0_0 r2 ∧ Below w0.heap.size w0 w' ∧ KeepBut w w' g none := by
  have HI0 := Aside0.mk hI
  have HK := Aside0.mk (KeepBut.refl w g none)
  have HL := Aside0.mk hB.size
  clear hI
  have HW0 := Aside0.mk hB.size
  have HB := Aside0.mk hB
  clear hB
  have H : ((spec_l20Rd_pick.f k s0_0 s0_1 12).bind fun bt144 => ((spec_l20Rd_pick.f k s0_0 bt144.2 60).bind fun bt146 => ((spec_l20Rd_pick.f k s0_0 bt146.2 100).bind fun bt148 => ((spec_l20Rd_pick.f k s0_0 bt148.2 100).bind fun bt150 => ((spec_l20Rd_pick.f k s0_0 bt150.2 60).bind fun bt152 => ((some (([wrap64 (1 + bt144.1), wrap64 (1 + bt146.1), wrap64 (1 + (wrap64 (bt148.1 * bt150.1))), wrap64 (12 * (wrap64 (1 + bt152.1))), 9973, 8192, 9240] : List Int) : List Int)).bind fun y154 => ((spec_l20Rd_pick.f k s0_0 bt152.2 13).bind fun bt157 => (if 0 ≤ (wrap64 (Int.tdiv bt157.1 2)) then (if (wrap64 (Int.tdiv bt157.1 2)) < (y154.length : Int) then ((spec_l20Rd_pick.f k s0_0 bt157.2 40).bind fun bt160 => ((spec_l20Rd_pick.f k s0_0 bt160.2 50).bind fun bt162 => (some (wrap64 ((wrap64 ((rd y154 (wrap64 (Int.tdiv bt157.1 2))) + (wrap64 ((wrap64 (Int.tdiv bt160.1 39)) * 10000)))) - (wrap64 ((wrap64 (Int.tdiv bt162.1 49)) * 20000))), bt162.2)))) else (none)) else (none))))))))) = some (r1, r2) := h
  clear h
  replace H := Option.bind_eq_some_iff.mp H
  obtain ⟨⟨t144, t145⟩, A20, H⟩ := H
  replace H : ((spec_l20Rd_pick.f k s0_0 t145 60).bind fun bt146 => ((spec_l20Rd_pick.f k s0_0 bt146.2 100).bind fun bt148 => ((spec_l20Rd_pick.f k s0_0 bt148.2 100).bind fun bt150 => ((spec_l20Rd_pick.f k s0_0 bt150.2 60).bind fun bt152 => ((some (([wrap64 (1 + t144), wrap64 (1 + bt146.1), wrap64 (1 + (wrap64 (bt148.1 * bt150.1))), wrap64 (12 * (wrap64 (1 + bt152.1))), 9973, 8192, 9240] : List Int) : List Int)).bind fun y154 => ((spec_l20Rd_pick.f k s0_0 bt152.2 13).bind fun bt157 => (if 0 ≤ (wrap64 (Int.tdiv bt157.1 2)) then (if (wrap64 (Int.tdiv bt157.1 2)) < (y154.length : Int) then ((spec_l20Rd_pick.f k s0_0 bt157.2 40).bind fun bt160 => ((spec_l20Rd_pick.f k s0_0 bt160.2 50).bind fun bt162 => (some (wrap64 ((wrap64 ((rd y154 (wrap64 (Int.tdiv bt157.1 2))) + (wrap64 ((wrap64 (Int.tdiv bt160.1 39)) * 10000)))) - (wrap64 ((wrap64 (Int.tdiv bt162.1 49)) * 20000))), bt162.2)))) else (none)) else (none)))))))) = some (r1, r2) := H
  have A2 := Aside0.mk A20
  clear A20
  replace H := Option.bind_eq_some_iff.mp H
  obtain ⟨⟨t146, t147⟩, A30, H⟩ := H
  replace H : ((spec_l20Rd_pick.f k s0_0 t147 100).bind fun bt148 => ((spec_l20Rd_pick.f k s0_0 bt148.2 100).bind fun bt150 => ((spec_l20Rd_pick.f k s0_0 bt150.2 60).bind fun bt152 => ((some (([wrap64 (1 + t144), wrap64 (1 + t146), wrap64 (1 + (wrap64 (bt148.1 * bt150.1))), wrap64 (12 * (wrap64 (1 + bt152.1))), 9973, 8192, 9240] : List Int) : List Int)).bind fun y154 => ((spec_l20Rd_pick.f k s0_0 bt152.2 13).bind fun bt157 => (if 0 ≤ (wrap64 (Int.tdiv bt157.1 2)) then (if (wrap64 (Int.tdiv bt157.1 2)) < (y154.length : Int) then ((spec_l20Rd_pick.f k s0_0 bt157.2 40).bind fun bt160 => ((spec_l20Rd_pick.f k s0_0 bt160.2 50).bind fun bt162 => (some (wrap64 ((wrap64 ((rd y154 (wrap64 (Int.tdiv bt157.1 2))) + (wrap64 ((wrap64 (Int.tdiv bt160.1 39)) * 10000)))) - (wrap64 ((wrap64 (Int.tdiv bt162.1 49)) * 20000))), bt162.2)))) else (none)) else (none))))))) = some (r1, r2) := H
  have A3 := Aside0.mk A30
  clear A30
  replace H := Option.bind_eq_some_iff.mp H
  obtain ⟨⟨t148, t149⟩, A40, H⟩ := H
  replace H : ((spec_l20Rd_pick.f k s0_0 t149 100).bind fun bt150 => ((spec_l20Rd_pick.f k s0_0 bt150.2 60).bind fun bt152 => ((some (([wrap64 (1 + t144), wrap64 (1 + t146), wrap64 (1 + (wrap64 (t148 * bt150.1))), wrap64 (12 * (wrap64 (1 + bt152.1))), 9973, 8192, 9240] : List Int) : List Int)).bind fun y154 => ((spec_l20Rd_pick.f k s0_0 bt152.2 13).bind fun bt157 => (if 0 ≤ (wrap64 (Int.tdiv bt157.1 2)) then (if (wrap64 (Int.tdiv bt157.1 2)) < (y154.length : Int) then ((spec_l20Rd_pick.f k s0_0 bt157.2 40).bind fun bt160 => ((spec_l20Rd_pick.f k s0_0 bt160.2 50).bind fun bt162 => (some (wrap64 ((wrap64 ((rd y154 (wrap64 (Int.tdiv bt157.1 2))) + (wrap64 ((wrap64 (Int.tdiv bt160.1 39)) * 10000)))) - (wrap64 ((wrap64 (Int.tdiv bt162.1 49)) * 20000))), bt162.2)))) else (none)) else (none)))))) = some (r1, r2) := H
  have A4 := Aside0.mk A40
  clear A40
  replace H := Option.bind_eq_some_iff.mp H
  obtain ⟨⟨t150, t151⟩, A50, H⟩ := H
  replace H : ((spec_l20Rd_pick.f k s0_0 t151 60).bind fun bt152 => ((some (([wrap64 (1 + t144), wrap64 (1 + t146), wrap64 (1 + (wrap64 (t148 * t150))), wrap64 (12 * (wrap64 (1 + bt152.1))), 9973, 8192, 9240] : List Int) : List Int)).bind fun y154 => ((spec_l20Rd_pick.f k s0_0 bt152.2 13).bind fun bt157 => (if 0 ≤ (wrap64 (Int.tdiv bt157.1 2)) then (if (wrap64 (Int.tdiv bt157.1 2)) < (y154.length : Int) then ((spec_l20Rd_pick.f k s0_0 bt157.2 40).bind fun bt160 => ((spec_l20Rd_pick.f k s0_0 bt160.2 50).bind fun bt162 => (some (wrap64 ((wrap64 ((rd y154 (wrap64 (Int.tdiv bt157.1 2))) + (wrap64 ((wrap64 (Int.tdiv bt160.1 39)) * 10000)))) - (wrap64 ((wrap64 (Int.tdiv bt162.1 49)) * 20000))), bt162.2)))) else (none)) else (none))))) = some (r1, r2) := H
  have A5 := Aside0.mk A50
  clear A50
  replace H := Option.bind_eq_some_iff.mp H
  obtain ⟨⟨t152, t153⟩, A60, H⟩ := H
  replace H : ((some (([wrap64 (1 + t144), wrap64 (1 + t146), wrap64 (1 + (wrap64 (t148 * t150))), wrap64 (12 * (wrap64 (1 + t152))), 9973, 8192, 9240] : List Int) : List Int)).bind fun y154 => ((spec_l20Rd_pick.f k s0_0 t153 13).bind fun bt157 => (if 0 ≤ (wrap64 (Int.tdiv bt157.1 2)) then (if (wrap64 (Int.tdiv bt157.1 2)) < (y154.length : Int) then ((spec_l20Rd_pick.f k s0_0 bt157.2 40).bind fun bt160 => ((spec_l20Rd_pick.f k s0_0 bt160.2 50).bind fun bt162 => (some (wrap64 ((wrap64 ((rd y154 (wrap64 (Int.tdiv bt157.1 2))) + (wrap64 ((wrap64 (Int.tdiv bt160.1 39)) * 10000)))) - (wrap64 ((wrap64 (Int.tdiv bt162.1 49)) * 20000))), bt162.2)))) else (none)) else (none)))) = some (r1, r2) := H
  have A6 := Aside0.mk A60
  clear A60
  obtain ⟨y154, hy154⟩ : ∃ y_ : List Int, y_ = (([wrap64 (1 + t144), wrap64 (1 + t146), wrap64 (1 + (wrap64 (t148 * t150))), wrap64 (12 * (wrap64 (1 + t152))), 9973, 8192, 9240] : List Int)) := ⟨_, rfl⟩
  replace H : ((spec_l20Rd_pick.f k s0_0 t153 13).bind fun bt157 => (if 0 ≤ (wrap64 (Int.tdiv bt157.1 2)) then (if (wrap64 (Int.tdiv bt157.1 2)) < (y154.length : Int) then ((spec_l20Rd_pick.f k s0_0 bt157.2 40).bind fun bt160 => ((spec_l20Rd_pick.f k s0_0 bt160.2 50).bind fun bt162 => (some (wrap64 ((wrap64 ((rd y154 (wrap64 (Int.tdiv bt157.1 2))) + (wrap64 ((wrap64 (Int.tdiv bt160.1 39)) * 10000)))) - (wrap64 ((wrap64 (Int.tdiv bt162.1 49)) * 20000))), bt162.2)))) else (none)) else (none))) = some (r1, r2) := by first | (rw [hy154]; with_reducible exact H) | (have H2_ := (Option.bind_some _ _).symm.trans H; rw [hy154]; with_reducible exact H2_) | (have H2_ := (Option.bind_some _ _).symm.trans H; with_reducible exact H2_) | with_reducible exact H | (rw [hy154]; exact H) | exact H
  have Ny154 := Aside0.mk hy154
  clear hy154
  replace H := Option.bind_eq_some_iff.mp H
  obtain ⟨⟨t157, t158⟩, A70, H⟩ := H
  replace H : (if 0 ≤ (wrap64 (Int.tdiv t157 2)) then (if (wrap64 (Int.tdiv t157 2)) < (y154.length : Int) then ((spec_l20Rd_pick.f k s0_0 t158 40).bind fun bt160 => ((spec_l20Rd_pick.f k s0_0 bt160.2 50).bind fun bt162 => (some (wrap64 ((wrap64 ((rd y154 (wrap64 (Int.tdiv t157 2))) + (wrap64 ((wrap64 (Int.tdiv bt160.1 39)) * 10000)))) - (wrap64 ((wrap64 (Int.tdiv bt162.1 49)) * 20000))), bt162.2)))) else (none)) else (none)) = some (r1, r2) := H
  have A7 := Aside0.mk A70
  clear A70
  obtain ⟨ji8, hji8⟩ : ∃ j_ : Int, (wrap64 (Int.tdiv t157 2)) = j_ := ⟨_, rfl⟩
  replace H : (if 0 ≤ (ji8) then (if (ji8) < (y154.length : Int) then ((spec_l20Rd_pick.f k s0_0 t158 40).bind fun bt160 => ((spec_l20Rd_pick.f k s0_0 bt160.2 50).bind fun bt162 => (some (wrap64 ((wrap64 ((rd y154 (ji8)) + (wrap64 ((wrap64 (Int.tdiv bt160.1 39)) * 10000)))) - (wrap64 ((wrap64 (Int.tdiv bt162.1 49)) * 20000))), bt162.2)))) else (none)) else (none)) = some (r1, r2) := by first | (rw [hji8] at H; exact H) | (simp only [hji8] at H ⊢; exact H)
  (try rw [hji8] at A2)
  (try rw [hji8] at A3)
  (try rw [hji8] at A4)
  (try rw [hji8] at A5)
  (try rw [hji8] at A6)
  (try rw [hji8] at A7)
  have hji8w : (IntKind.i64.wrap (Int.tdiv t157 2)) = ji8 := (i64_w _).trans hji8
  by_cases c9 : 0 ≤ (ji8)
  · rw [if_pos c9] at H
    have c9b0 : decide (0 ≤ (ji8)) = true := decide_eq_true c9
    clear c9
    by_cases c10 : (ji8) < (y154.length : Int)
    · rw [if_pos c10] at H
      have c10b0 : decide ((ji8) < (y154.length : Int)) = true := decide_eq_true c10
      clear c10
      replace H := Option.bind_eq_some_iff.mp H
      obtain ⟨⟨t160, t161⟩, A110, H⟩ := H
      replace H : ((spec_l20Rd_pick.f k s0_0 t161 50).bind fun bt162 => (some (wrap64 ((wrap64 ((rd y154 (ji8)) + (wrap64 ((wrap64 (Int.tdiv t160 39)) * 10000)))) - (wrap64 ((wrap64 (Int.tdiv bt162.1 49)) * 20000))), bt162.2))) = some (r1, r2) := H
      have A11 := Aside0.mk A110
      clear A110
      replace H := Option.bind_eq_some_iff.mp H
      obtain ⟨⟨t162, t163⟩, A120, H⟩ := H
      replace H : (some (wrap64 ((wrap64 ((rd y154 (ji8)) + (wrap64 ((wrap64 (Int.tdiv t160 39)) * 10000)))) - (wrap64 ((wrap64 (Int.tdiv t162 49)) * 20000))), t163)) = some (r1, r2) := H
      have A12 := Aside0.mk A120
      clear A120
      simp only [Option.some.injEq, Prod.mk.injEq] at H
      obtain ⟨rfl, rfl⟩ := H
      go_enter Try.func71, Try.ntmps71
      go_wp2_with (first | ((with_reducible refine gate_callee (f := 75) rfl ?_); refine goesL_ (some 5) rfl rfl Try.func75 (by kernel_rfl) rfl #[.pointer (some ⟨g, 0, none⟩), .int .i64 12] rfl (by (try simp only [List.map_toArray, List.map_cons, List.map_nil]); first | done | rfl | (simp only [List.length_drop, List.length_take]; rfl)) ?_; (with_reducible refine (spec_l20Rd_pick.calls k g s0_0 s0_1 12 t144 t145 w0 _ ?side1 ?side2 A2.out).mono ?_); (case side1 => repeat (first | (with_reducible first | exact HI0.out | apply IsS50.alloc | apply IsS50.drewN | apply IsS50.drew | apply IsS50.set_1) | exact HI0.out)); (case side2 => repeat (first | (with_reducible first | exact HB.out | apply below_alloc | apply pw_below_drewN | apply below_drew1 | refine below_set ?_ (IsS50.ge HI0.out)) | exact HB.out)); rintro e w13 ⟨rfl, hi, hb, hk⟩; refine ⟨_, rfl, ?_⟩; have n0_ := Aside0.mk (KeepBut.trans (by repeat (first | (with_reducible first | exact HK.out | apply KeepBut.set_ | apply keep_drewN | apply keep_drew | apply keep_alloc) | exact HK.out)) hk (.inl rfl)); have n1_ := Aside0.mk (hb); have n2_ := Aside0.mk (hi); clear HK; clear HB; clear HI0; have HK := n0_; have HB := n1_; have HI0 := n2_; clear n0_ n1_ n2_; (try clear hb); (try clear hb2); (try clear hk); (try clear hi)) | ((with_reducible refine gate_callee (f := 75) rfl ?_); refine goesL_ (some 8) rfl rfl Try.func75 (by kernel_rfl) rfl #[.pointer (some ⟨g, 0, none⟩), .int .i64 60] rfl (by (try simp only [List.map_toArray, List.map_cons, List.map_nil]); first | done | rfl | (simp only [List.length_drop, List.length_take]; rfl)) ?_; (with_reducible refine (spec_l20Rd_pick.calls k g s0_0 t145 60 t146 t147 w0 _ ?side1 ?side2 A3.out).mono ?_); (case side1 => repeat (first | (with_reducible first | exact HI0.out | apply IsS50.alloc | apply IsS50.drewN | apply IsS50.drew | apply IsS50.set_1) | exact HI0.out)); (case side2 => repeat (first | (with_reducible first | exact HB.out | apply below_alloc | apply pw_below_drewN | apply below_drew1 | refine below_set ?_ (IsS50.ge HI0.out)) | exact HB.out)); rintro e w14 ⟨rfl, hi, hb, hk⟩; refine ⟨_, rfl, ?_⟩; have n0_ := Aside0.mk (KeepBut.trans (by repeat (first | (with_reducible first | exact HK.out | apply KeepBut.set_ | apply keep_drewN | apply keep_drew | apply keep_alloc) | exact HK.out)) hk (.inl rfl)); have n1_ := Aside0.mk (hb); have n2_ := Aside0.mk (hi); clear HK; clear HB; clear HI0; have HK := n0_; have HB := n1_; have HI0 := n2_; clear n0_ n1_ n2_; (try clear hb); (try clear hb2); (try clear hk); (try clear hi)) | ((with_reducible refine gate_callee (f := 75) rfl ?_); refine goesL_ (some 11) rfl rfl Try.func75 (by kernel_rfl) rfl #[.pointer (some ⟨g, 0, none⟩), .int .i64 100] rfl (by (try simp only [List.map_toArray, List.map_cons, List.map_nil]); first | done | rfl | (simp only [List.length_drop, List.length_take]; rfl)) ?_; (with_reducible refine (spec_l20Rd_pick.calls k g s0_0 t147 100 t148 t149 w0 _ ?side1 ?side2 A4.out).mono ?_); (case side1 => repeat (first | (with_reducible first | exact HI0.out | apply IsS50.alloc | apply IsS50.drewN | apply IsS50.drew | apply IsS50.set_1) | exact HI0.out)); (case side2 => repeat (first | (with_reducible first | exact HB.out | apply below_alloc | apply pw_below_drewN | apply below_drew1 | refine below_set ?_ (IsS50.ge HI0.out)) | exact HB.out)); rintro e w15 ⟨rfl, hi, hb, hk⟩; refine ⟨_, rfl, ?_⟩; have n0_ := Aside0.mk (KeepBut.trans (by repeat (first | (with_reducible first | exact HK.out | apply KeepBut.set_ | apply keep_drewN | apply keep_drew | apply keep_alloc) | exact HK.out)) hk (.inl rfl)); have n1_ := Aside0.mk (hb); have n2_ := Aside0.mk (hi); clear HK; clear HB; clear HI0; have HK := n0_; have HB := n1_; have HI0 := n2_; clear n0_ n1_ n2_; (try clear hb); (try clear hb2); (try clear hk); (try clear hi)) | ((with_reducible refine gate_callee (f := 75) rfl ?_); refine goesL_ (some 13) rfl rfl Try.func75 (by kernel_rfl) rfl #[.pointer (some ⟨g, 0, none⟩), .int .i64 100] rfl (by (try simp only [List.map_toArray, List.map_cons, List.map_nil]); first | done | rfl | (simp only [List.length_drop, List.length_take]; rfl)) ?_; (with_reducible refine (spec_l20Rd_pick.calls k g s0_0 t149 100 t150 t151 w0 _ ?side1 ?side2 A5.out).mono ?_); (case side1 => repeat (first | (with_reducible first | exact HI0.out | apply IsS50.alloc | apply IsS50.drewN | apply IsS50.drew | apply IsS50.set_1) | exact HI0.out)); (case side2 => repeat (first | (with_reducible first | exact HB.out | apply below_alloc | apply pw_below_drewN | apply below_drew1 | refine below_set ?_ (IsS50.ge HI0.out)) | exact HB.out)); rintro e w16 ⟨rfl, hi, hb, hk⟩; refine ⟨_, rfl, ?_⟩; have n0_ := Aside0.mk (KeepBut.trans (by repeat (first | (with_reducible first | exact HK.out | apply KeepBut.set_ | apply keep_drewN | apply keep_drew | apply keep_alloc) | exact HK.out)) hk (.inl rfl)); have n1_ := Aside0.mk (hb); have n2_ := Aside0.mk (hi); clear HK; clear HB; clear HI0; have HK := n0_; have HB := n1_; have HI0 := n2_; clear n0_ n1_ n2_; (try clear hb); (try clear hb2); (try clear hk); (try clear hi)) | ((with_reducible refine gate_callee (f := 75) rfl ?_); refine goesL_ (some 17) rfl rfl Try.func75 (by kernel_rfl) rfl #[.pointer (some ⟨g, 0, none⟩), .int .i64 60] rfl (by (try simp only [List.map_toArray, List.map_cons, List.map_nil]); first | done | rfl | (simp only [List.length_drop, List.length_take]; rfl)) ?_; (with_reducible refine (spec_l20Rd_pick.calls k g s0_0 t151 60 t152 t153 w0 _ ?side1 ?side2 A6.out).mono ?_); (case side1 => repeat (first | (with_reducible first | exact HI0.out | apply IsS50.alloc | apply IsS50.drewN | apply IsS50.drew | apply IsS50.set_1) | exact HI0.out)); (case side2 => repeat (first | (with_reducible first | exact HB.out | apply below_alloc | apply pw_below_drewN | apply below_drew1 | refine below_set ?_ (IsS50.ge HI0.out)) | exact HB.out)); rintro e w17 ⟨rfl, hi, hb, hk⟩; refine ⟨_, rfl, ?_⟩; have n0_ := Aside0.mk (KeepBut.trans (by repeat (first | (with_reducible first | exact HK.out | apply KeepBut.set_ | apply keep_drewN | apply keep_drew | apply keep_alloc) | exact HK.out)) hk (.inl rfl)); have n1_ := Aside0.mk (hb); have n2_ := Aside0.mk (hi); clear HK; clear HB; clear HI0; have HK := n0_; have HB := n1_; have HI0 := n2_; clear n0_ n1_ n2_; (try clear hb); (try clear hb2); (try clear hk); (try clear hi)) | ((with_reducible refine gate_dst (N := 20) rfl ?_); refine Kd.R_lit (Kd.int .i64) _ 3 ?hg (N := 20) ?hd (xs := ([wrap64 (1 + t144), wrap64 (1 + t146), wrap64 (1 + (wrap64 (t148 * t150))), wrap64 (12 * (wrap64 (1 + t152))), 9973, 8192, 9240] : List Int)) (inner := [.int .i64 (wrap64 (1 + t144)), .int .i64 (wrap64 (1 + t146)), .int .i64 (wrap64 (1 + (wrap64 (t148 * t150)))), .int .i64 (wrap64 (12 * (wrap64 (1 + t152)))), .int .i64 9973, .int .i64 8192, .int .i64 9240]) (ok := fun _ => True) (okp := fun _ => True) ?hr ?hp (fun _ hk => hk) trivial (Below.refl _ _) (Nat.le_refl _) (by simp) ?_; (case hd => rfl); (case hg => rfl); (case hr => first | (go_simp; done) | (go_simp; rfl)); (case hp => exact (Reps.one (show Kd.M (Kd.int .i64) _ _ _ (wrap64 (1 + t144)) [.int .i64 (wrap64 (1 + t144))] from rfl) (Reps.one (show Kd.M (Kd.int .i64) _ _ _ (wrap64 (1 + t146)) [.int .i64 (wrap64 (1 + t146))] from rfl) (Reps.one (show Kd.M (Kd.int .i64) _ _ _ (wrap64 (1 + (wrap64 (t148 * t150)))) [.int .i64 (wrap64 (1 + (wrap64 (t148 * t150))))] from rfl) (Reps.one (show Kd.M (Kd.int .i64) _ _ _ (wrap64 (12 * (wrap64 (1 + t152)))) [.int .i64 (wrap64 (12 * (wrap64 (1 + t152))))] from rfl) (Reps.one (show Kd.M (Kd.int .i64) _ _ _ 9973 [.int .i64 9973] from rfl) (Reps.one (show Kd.M (Kd.int .i64) _ _ _ 8192 [.int .i64 8192] from rfl) (Reps.one (show Kd.M (Kd.int .i64) _ _ _ 9240 [.int .i64 9240] from rfl) (Reps.none _ _))))))))); intro v155 w18 ho19 hb hg_ hnew_; clear hg_ hnew_; (first | rw [← Ny154.out] at ho19 | (simp only [Int.reduceToNat] at ho19; rw [← Ny154.out] at ho19)); have n0_ := Aside0.mk (Kd.R_lower ho19 (keep_size (w := w) (g := g) (row := none) (by repeat (first | (with_reducible first | exact HK.out | apply KeepBut.set_ | apply keep_drewN | apply keep_drew | apply keep_alloc) | exact HK.out)))); have n1_ := Aside0.mk (IsS50.below (by repeat (first | (with_reducible first | exact HI0.out | apply IsS50.alloc | apply IsS50.drewN | apply IsS50.drew | apply IsS50.set_1) | exact HI0.out)) hb); have n2_ := Aside0.mk (KeepBut.trans (by repeat (first | (with_reducible first | exact HK.out | apply KeepBut.set_ | apply keep_drewN | apply keep_drew | apply keep_alloc) | exact HK.out)) (KeepBut.of_below hb g none) (.inl rfl)); have n3_ := Aside0.mk (below_step (by repeat (first | (with_reducible first | exact HB.out | apply below_alloc | apply pw_below_drewN | apply below_drew1 | refine below_set ?_ (IsS50.ge HI0.out)) | exact HB.out)) hb); clear HI0; clear HK; clear HB; have HO156 := n0_; have HI0 := n1_; have HK := n2_; have HB := n3_; clear n0_ n1_ n2_ n3_; clear hb ho19) | ((with_reducible refine gate_callee (f := 75) rfl ?_); refine goesL_ (some 22) rfl rfl Try.func75 (by kernel_rfl) rfl #[.pointer (some ⟨g, 0, none⟩), .int .i64 13] rfl (by (try simp only [List.map_toArray, List.map_cons, List.map_nil]); first | done | rfl | (simp only [List.length_drop, List.length_take]; rfl)) ?_; (with_reducible refine (spec_l20Rd_pick.calls k g s0_0 t153 13 t157 t158 w0 _ ?side1 ?side2 A7.out).mono ?_); (case side1 => repeat (first | (with_reducible first | exact HI0.out | apply IsS50.alloc | apply IsS50.drewN | apply IsS50.drew | apply IsS50.set_1) | exact HI0.out)); (case side2 => repeat (first | (with_reducible first | exact HB.out | apply below_alloc | apply pw_below_drewN | apply below_drew1 | refine below_set ?_ (IsS50.ge HI0.out)) | exact HB.out)); rintro e w20 ⟨rfl, hi, hb, hk⟩; refine ⟨_, rfl, ?_⟩; have n0_ := Aside0.mk (Kd.R_mono (Kd.R_keep (IsS50.apart (show IsS50 w0 _ g s0_0 t153 from by repeat (first | (with_reducible first | exact HI0.out | apply IsS50.alloc | apply IsS50.drewN | apply IsS50.drew | apply IsS50.set_1) | exact HI0.out)) (by (with_reducible repeat (first | apply Kd.R_alloc | apply Kd.R_drewN | apply Kd.R_drew)); exact HO156.out) (by decide)) hk (fun _ h => h.2)) (fun _ h => h.1)); have n1_ := Aside0.mk (KeepBut.trans (by repeat (first | (with_reducible first | exact HK.out | apply KeepBut.set_ | apply keep_drewN | apply keep_drew | apply keep_alloc) | exact HK.out)) hk (.inl rfl)); have n2_ := Aside0.mk (hb); have n3_ := Aside0.mk (hi); clear HO156; clear HK; clear HB; clear HI0; have HO156 := n0_; have HK := n1_; have HB := n2_; have HI0 := n3_; clear n0_ n1_ n2_ n3_; (try clear hb); (try clear hb2); (try clear hk); (try clear hi); obtain ⟨Ao21, co21, eo21⟩ := Kd.R_slice HO156.out; subst eo21; have p159 : 0 ≤ ((ji8) : Int) := of_decide_eq_true (by first | (with_reducible assumption) | assumption); have q159 : (ji8) < (y154.length : Int) := of_decide_eq_true (by first | (with_reducible assumption) | assumption); obtain ⟨ad159, e159, hx159_0⟩ := Kd.at_int (Kd.R_reads' HO156.out).2.2 (ji8) p159 q159; cases e159; replace p159 := eq_true p159; replace q159 := eq_true q159) | ((with_reducible refine gate_callee (f := 75) rfl ?_); refine goesL_ (some 28) rfl rfl Try.func75 (by kernel_rfl) rfl #[.pointer (some ⟨g, 0, none⟩), .int .i64 40] rfl (by (try simp only [List.map_toArray, List.map_cons, List.map_nil]); first | done | rfl | (simp only [List.length_drop, List.length_take]; rfl)) ?_; (with_reducible refine (spec_l20Rd_pick.calls k g s0_0 t158 40 t160 t161 w0 _ ?side1 ?side2 A11.out).mono ?_); (case side1 => repeat (first | (with_reducible first | exact HI0.out | apply IsS50.alloc | apply IsS50.drewN | apply IsS50.drew | apply IsS50.set_1) | exact HI0.out)); (case side2 => repeat (first | (with_reducible first | exact HB.out | apply below_alloc | apply pw_below_drewN | apply below_drew1 | refine below_set ?_ (IsS50.ge HI0.out)) | exact HB.out)); rintro e w22 ⟨rfl, hi, hb, hk⟩; refine ⟨_, rfl, ?_⟩; have n0_ := Aside0.mk (Kd.R_mono (Kd.R_keep (IsS50.apart (show IsS50 w0 _ g s0_0 t158 from by repeat (first | (with_reducible first | exact HI0.out | apply IsS50.alloc | apply IsS50.drewN | apply IsS50.drew | apply IsS50.set_1) | exact HI0.out)) (by (with_reducible repeat (first | apply Kd.R_alloc | apply Kd.R_drewN | apply Kd.R_drew)); exact HO156.out) (by decide)) hk (fun _ h => h.2)) (fun _ h => h.1)); have n1_ := Aside0.mk (KeepBut.trans (by repeat (first | (with_reducible first | exact HK.out | apply KeepBut.set_ | apply keep_drewN | apply keep_drew | apply keep_alloc) | exact HK.out)) hk (.inl rfl)); have n2_ := Aside0.mk (hb); have n3_ := Aside0.mk (hi); clear HO156; clear HK; clear HB; clear HI0; have HO156 := n0_; have HK := n1_; have HB := n2_; have HI0 := n3_; clear n0_ n1_ n2_ n3_; (try clear hb); (try clear hb2); (try clear hk); (try clear hi)) | ((with_reducible refine gate_callee (f := 75) rfl ?_); refine goesL_ (some 33) rfl rfl Try.func75 (by kernel_rfl) rfl #[.pointer (some ⟨g, 0, none⟩), .int .i64 50] rfl (by (try simp only [List.map_toArray, List.map_cons, List.map_nil]); first | done | rfl | (simp only [List.length_drop, List.length_take]; rfl)) ?_; (with_reducible refine (spec_l20Rd_pick.calls k g s0_0 t161 50 t162 t163 w0 _ ?side1 ?side2 A12.out).mono ?_); (case side1 => repeat (first | (with_reducible first | exact HI0.out | apply IsS50.alloc | apply IsS50.drewN | apply IsS50.drew | apply IsS50.set_1) | exact HI0.out)); (case side2 => repeat (first | (with_reducible first | exact HB.out | apply below_alloc | apply pw_below_drewN | apply below_drew1 | refine below_set ?_ (IsS50.ge HI0.out)) | exact HB.out)); rintro e w23 ⟨rfl, hi, hb, hk⟩; refine ⟨_, rfl, ?_⟩; have n0_ := Aside0.mk (Kd.R_mono (Kd.R_keep (IsS50.apart (show IsS50 w0 _ g s0_0 t161 from by repeat (first | (with_reducible first | exact HI0.out | apply IsS50.alloc | apply IsS50.drewN | apply IsS50.drew | apply IsS50.set_1) | exact HI0.out)) (by (with_reducible repeat (first | apply Kd.R_alloc | apply Kd.R_drewN | apply Kd.R_drew)); exact HO156.out) (by decide)) hk (fun _ h => h.2)) (fun _ h => h.1)); have n1_ := Aside0.mk (KeepBut.trans (by repeat (first | (with_reducible first | exact HK.out | apply KeepBut.set_ | apply keep_drewN | apply keep_drew | apply keep_alloc) | exact HK.out)) hk (.inl rfl)); have n2_ := Aside0.mk (hb); have n3_ := Aside0.mk (hi); clear HO156; clear HK; clear HB; clear HI0; have HO156 := n0_; have HK := n1_; have HB := n2_; have HI0 := n3_; clear n0_ n1_ n2_ n3_; (try clear hb); (try clear hb2); (try clear hk); (try clear hi)))
      go_ret
      exact ⟨by first | rfl | (simp [errW_none, errW_some] <;> rfl) | (simp only [← hji8]; first | rfl | (simp [errW_none, errW_some] <;> rfl)) | (simp [*, errW_none, errW_some] <;> rfl), by repeat (first | (with_reducible first | exact HI0.out | apply IsS50.alloc | apply IsS50.drewN | apply IsS50.drew | apply IsS50.set_1) | exact HI0.out), by repeat (first | (with_reducible first | exact HB.out | apply below_alloc | apply pw_below_drewN | apply below_drew1 | refine below_set ?_ (IsS50.ge HI0.out)) | exact HB.out), by repeat (first | (with_reducible first | exact HK.out | apply KeepBut.set_ | apply keep_drewN | apply keep_drew | apply keep_alloc) | exact HK.out)⟩
    · rw [if_neg c10] at H
      exact absurd H (by simp)
  · rw [if_neg c9] at H
    exact absurd H (by simp)

/-! ### spec_DrawOrderOf: function 44 -/
def spec_DrawOrderOf.f (k : Nat) (l0 : List Int) : Option (Int × Int) := (spec_l20Open.f l0).bind fun bt164 => ((spec_l20Some.f k bt164.1 bt164.2).bind fun bt167 => ((spec_l20Mid.f k bt164.1 bt167.2).bind fun bt169 => (some (bt167.1, bt169.1))))
theorem spec_DrawOrderOf.mono : ∀ a0 k, LeO (spec_DrawOrderOf.f k a0) (spec_DrawOrderOf.f (k + 1) a0) := by
  intro a0 k
  unfold spec_DrawOrderOf.f
  repeat' first
      | (with_reducible exact spec_l20Mid.mono _ _ _)
      | (with_reducible exact spec_l20Some.mono _ _ _)
      | (with_reducible exact LeO.refl _)
      | (with_reducible exact LeO.none _)
      | (with_reducible refine LeO.ite ?_ ?_)
      | (with_reducible refine LeO.bind ?_ (fun _ => ?_))
      | exact spec_l20Mid.mono _ _ _
      | exact spec_l20Some.mono _ _ _
      | exact LeO.none _
      | refine LeO.ite ?_ ?_
      | refine LeO.bind ?_ (fun _ => ?_)
set_option maxHeartbeats 8000000 in
set_option maxRecDepth 100000 in
theorem spec_DrawOrderOf.calls (k : Nat) (A0 : Option Addr) (c0 : Nat) (l0 : List Int) (r1 : Int) (r2 : Int) (w : World) (hr0 : Kd.C (Kd.int .u8) w A0 l0.length l0) (hc0 : l0.length ≤ c0) (h : spec_DrawOrderOf.f k l0 = some (r1, r2)) :
    Calls Try.prog 44 #[.slice A0 l0.length c0] w fun e w' => e = .returned (.tuple #[.int .i64 r1, .int .i64 r2]) ∧ Below w.heap.size w w' := by
  have HR0 := Aside0.mk hr0
  have HC0 := Aside0.mk hc0
  clear hr0 hc0
  have HB := Aside0.mk (Below.refl w.heap.size w)
  have H : ((spec_l20Open.f l0).bind fun bt164 => ((spec_l20Some.f k bt164.1 bt164.2).bind fun bt167 => ((spec_l20Mid.f k bt164.1 bt167.2).bind fun bt169 => (some (bt167.1, bt169.1))))) = some (r1, r2) := h
  clear h
  replace H := Option.bind_eq_some_iff.mp H
  obtain ⟨⟨t164, t165⟩, A20, H⟩ := H
  replace H : ((spec_l20Some.f k t164 t165).bind fun bt167 => ((spec_l20Mid.f k t164 bt167.2).bind fun bt169 => (some (bt167.1, bt169.1)))) = some (r1, r2) := H
  have A2 := Aside0.mk A20
  clear A20
  replace H := Option.bind_eq_some_iff.mp H
  obtain ⟨⟨t167, t168⟩, A30, H⟩ := H
  replace H : ((spec_l20Mid.f k t164 t168).bind fun bt169 => (some (t167, bt169.1))) = some (r1, r2) := H
  have A3 := Aside0.mk A30
  clear A30
  replace H := Option.bind_eq_some_iff.mp H
  obtain ⟨⟨t169, t170⟩, A40, H⟩ := H
  replace H : (some (t167, t169)) = some (r1, r2) := H
  have A4 := Aside0.mk A40
  clear A40
  simp only [Option.some.injEq, Prod.mk.injEq] at H
  obtain ⟨rfl, rfl⟩ := H
  go_enter Try.func44, Try.ntmps44
  go_wp2_with (first | ((with_reducible refine gate_callee (f := 64) rfl ?_); refine goesL_ (some 6) rfl rfl Try.func64 (by kernel_rfl) rfl #[.slice A0 l0.length c0] rfl (by (try simp only [List.map_toArray, List.map_cons, List.map_nil]); first | done | rfl | (simp only [List.length_drop, List.length_take]; rfl)) ?_; (with_reducible refine (spec_l20Open.calls _ _ l0 t164 t165 w _ ?side1 ?side2 ?side3 A2.out).mono ?_); (case side1 => repeat (first | (with_reducible first | exact HB.out | apply below_alloc | apply pw_below_drewN | apply below_drew1) | exact HB.out)); (case side2 => exact HR0.out); (case side3 => exact HC0.out); rintro e w5 ⟨g166, rfl, hi, hb, hb2⟩; refine ⟨_, rfl, ?_⟩; have n0_ := Aside0.mk (hb); have n1_ := Aside0.mk (hi); clear HB; have HB := n0_; have HI166 := n1_; clear n0_ n1_; (try clear hb); (try clear hb2); (try clear hk); (try clear hi)) | ((with_reducible refine gate_callee (f := 71) rfl ?_); refine goesL_ (some 8) rfl rfl Try.func71 (by kernel_rfl) rfl #[.pointer (some ⟨g166, 0, none⟩)] rfl (by (try simp only [List.map_toArray, List.map_cons, List.map_nil]); first | done | rfl | (simp only [List.length_drop, List.length_take]; rfl)) ?_; (with_reducible refine (spec_l20Some.calls k g166 t164 t165 t167 t168 w _ ?side1 ?side2 A3.out).mono ?_); (case side1 => repeat (first | (with_reducible first | exact HI166.out | apply IsS50.alloc | apply IsS50.drewN | apply IsS50.drew | apply IsS50.set_1) | exact HI166.out)); (case side2 => repeat (first | (with_reducible first | exact HB.out | apply below_alloc | apply pw_below_drewN | apply below_drew1 | refine below_set ?_ (IsS50.ge HI166.out)) | exact HB.out)); rintro e w6 ⟨rfl, hi, hb, hk⟩; refine ⟨_, rfl, ?_⟩; have n0_ := Aside0.mk (hb); have n1_ := Aside0.mk (hi); clear HB; clear HI166; have HB := n0_; have HI166 := n1_; clear n0_ n1_; (try clear hb); (try clear hb2); (try clear hk); (try clear hi)) | ((with_reducible refine gate_callee (f := 63) rfl ?_); refine goesL_ (some 10) rfl rfl Try.func63 (by kernel_rfl) rfl #[.pointer (some ⟨g166, 0, none⟩)] rfl (by (try simp only [List.map_toArray, List.map_cons, List.map_nil]); first | done | rfl | (simp only [List.length_drop, List.length_take]; rfl)) ?_; (with_reducible refine (spec_l20Mid.calls k g166 t164 t168 t169 t170 w _ ?side1 ?side2 A4.out).mono ?_); (case side1 => repeat (first | (with_reducible first | exact HI166.out | apply IsS50.alloc | apply IsS50.drewN | apply IsS50.drew | apply IsS50.set_1) | exact HI166.out)); (case side2 => repeat (first | (with_reducible first | exact HB.out | apply below_alloc | apply pw_below_drewN | apply below_drew1 | refine below_set ?_ (IsS50.ge HI166.out)) | exact HB.out)); rintro e w7 ⟨rfl, hi, hb, hk⟩; refine ⟨_, rfl, ?_⟩; have n0_ := Aside0.mk (hb); have n1_ := Aside0.mk (hi); clear HB; clear HI166; have HB := n0_; have HI166 := n1_; clear n0_ n1_; (try clear hb); (try clear hb2); (try clear hk); (try clear hi)))
  go_ret2
  exact ⟨by first | rfl | (simp [errW_none, errW_some] <;> rfl) | (simp [*, errW_none, errW_some] <;> rfl), by repeat (first | (with_reducible first | exact HB.out | apply below_alloc | apply pw_below_drewN | apply below_drew1 | refine below_set ?_ (IsS50.ge HI166.out)) | exact HB.out)⟩

/-! ### impl_gcd: function 65 -/
def impl_gcd.l0 : Nat → Int → Int → Option (Int)
  | 0, _, _ => none
  | k + 1, x0, x1 => if x1 = 0 then (some x0) else (impl_gcd.l0 k x1 (Int.tmod x0 x1))
def impl_gcd.f (k : Nat) (a0 : Int) (a1 : Int) : Option (Int) := impl_gcd.l0 k a0 a1
theorem impl_gcd.mono_l : ∀ k, (∀ y0 y1, LeO (impl_gcd.l0 k y0 y1) (impl_gcd.l0 (k + 1) y0 y1))
  | 0 => fun _ _ r h => by simp [impl_gcd.l0] at h
  | k + 1 => by
    have ih0 := impl_gcd.mono_l k
    · intro y0 y1
      unfold impl_gcd.l0
      repeat' first
      | (with_reducible exact ih0 _ _)
      | (with_reducible exact LeO.refl _)
      | (with_reducible exact LeO.none _)
      | (with_reducible refine LeO.ite ?_ ?_)
      | (with_reducible refine LeO.bind ?_ (fun _ => ?_))
      | exact ih0 _ _
      | exact LeO.none _
      | refine LeO.ite ?_ ?_
      | refine LeO.bind ?_ (fun _ => ?_)
theorem impl_gcd.mono : ∀ a0 a1 k, LeO (impl_gcd.f k a0 a1) (impl_gcd.f (k + 1) a0 a1) := by
  intro a0 a1 k
  have ih0 := impl_gcd.mono_l k
  unfold impl_gcd.f
  repeat' first
      | (with_reducible exact ih0 _ _)
      | (with_reducible exact LeO.refl _)
      | (with_reducible exact LeO.none _)
      | (with_reducible refine LeO.ite ?_ ?_)
      | (with_reducible refine LeO.bind ?_ (fun _ => ?_))
      | exact ih0 _ _
      | exact LeO.none _
      | refine LeO.ite ?_ ?_
      | refine LeO.bind ?_ (fun _ => ?_)
set_option maxHeartbeats 8000000 in
set_option maxRecDepth 100000 in
theorem impl_gcd.calls (k : Nat) (a0 : Int) (a1 : Int) (r : Int) (w : World) (h : impl_gcd.f k a0 a1 = some r) :
    Calls Try.prog 65 #[.int .i64 a0, .int .i64 a1] w fun e w' => e = .returned (.int .i64 r) ∧ Drawn0 w w' := by
  have H : (impl_gcd.l0 k a0 a1) = some r := h
  clear h
  have H' := Aside0.mk H
  clear H
  go_enter Try.func65, Try.ntmps65
  go_wp2
  repeat (go_quiet (fail); try go_wp2)
  go_loopg [0, 1] k (fun kq v0 v1 w' => ∃ (x0_1 : Int) (x1_1 : Int), v0 = .int .i64 x0_1 ∧ v1 = .int .i64 x1_1 ∧ Aside0 (impl_gcd.l0 kq x0_1 x1_1 = some r) ∧ Aside0 (kq ≤ k) ∧ Drawn0 w w')
  case atStart => exact ⟨(a0), (a1), (by first | rfl | (simp; done) | (simp [*]; done)), (by first | rfl | (simp; done) | (simp [*]; done)), H', ⟨Nat.le_refl _⟩, by repeat (first | exact Drawn0.refl _ | apply Drawn0.step)⟩
  case round =>
    clear H'
    try clear p2
    obtain ⟨x0_1, x1_1, rfl, rfl, HA, HK1, ⟨m1, rfl⟩⟩ := hrel
    cases gk with
    | zero => exact absurd HA.out (by simp [impl_gcd.l0])
    | succ k1 =>
      have H := HA.out
      clear HA
      simp only [impl_gcd.l0] at H
      by_cases c3 : x1_1 = 0
      · rw [if_pos c3] at H
        have c3b0 : (x1_1 == 0) = true := beq_iff_eq.mpr c3
        have c3b1 : (x1_1 != 0) = false := bne_eq_false_iff_eq.mpr c3
        clear c3
        obtain rfl := Option.some.inj H
        go_wp2
        repeat (go_quiet (fail); try go_wp2)
        go_ret
        exact ⟨by first | rfl | (simp; done) | (simp [*]; done), by repeat (first | exact Drawn0.refl _ | apply Drawn0.step)⟩
      · rw [if_neg c3] at H
        have c3b0 : (x1_1 == 0) = false := beq_eq_false_iff_ne.mpr c3
        have c3b1 : (x1_1 != 0) = true := bne_iff_ne.mpr c3
        have H' := Aside0.mk H
        clear H
        go_wp2
        repeat (go_quiet (fail); try go_wp2)
        go_roundg k1
        case measure => have := HK1.out; omega
        case rel => exact ⟨(x1_1), (Int.tmod x0_1 x1_1), (by first | rfl | (simp; done) | (simp [*]; done)), (by first | rfl | (simp; done) | (simp [*]; done)), H', ⟨by have := HK1.out; omega⟩, by repeat (first | exact Drawn0.refl _ | apply Drawn0.step)⟩

end Go.Proofs.Ytplnpkagamnodaa.PFnOrderOf
