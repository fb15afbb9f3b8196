/- The functions over closures: what they answer, told of rows of what the closures answer. No conditions. -/
import Derived.Test.YtdhcgobkkgchpaaVLitNamed
import Derived.Test.YtdhcgobkkgchpaaVLitTimes
import Derived.Test.YtdhcgobkkgchpaaVRowBy
namespace Go.Proofs.Ytdhcgobkkgchpaa.Walk
open Go.RowKit Go.Proofs.YtdhcgobkkgchpaaW.PrintWords Go.Proofs.YtdhcgobkkgchpaaW.PrintLast Go.Proofs.YtdhcgobkkgchpaaW.PrintMore Go.Proofs.Ytdhcgobkkgchpaa.CBase
set_option linter.unusedVariables false
set_option linter.unusedSimpArgs false

theorem boxed_new (W : World) (v : Value) (t : TypeId) : (W.alloc (.cells #[v] t)).cell? ⟨W.heap.size, 0, none⟩ = some v := by
 simp only [World.cell?]
 rw [show (W.alloc (.cells #[v] t)).heap = W.heap.push (.cells #[v] t) from rfl]
 simp
theorem boxed_two (W : World) (u v : Value) (s t : TypeId) : ((W.alloc (.cells #[u] s)).alloc (.cells #[v] t)).cell? ⟨W.heap.size + 1, 0, none⟩ = some v := by
 have h := boxed_new (W.alloc (.cells #[u] s)) v t
 rwa [show (W.alloc (.cells #[u] s)).heap.size = W.heap.size + 1 from by rw [show (W.alloc (.cells #[u] s)).heap = W.heap.push (.cells #[u] s) from rfl]; simp] at h
theorem boxed_old {W : World} {p : Addr} {v : Value} (o : Obj) (h : W.cell? p = some v) : (W.alloc o).cell? p = some v :=
 ((below_alloc (Below.refl W.heap.size W) o).cell (World.block_lt_of_cell? W _ h)).trans h
theorem cell_below {W W' : World} {p : Addr} {v : Value} (hb : Below W.heap.size W W') (h : W.cell? p = some v) : W'.cell? p = some v :=
 (hb.cell (World.block_lt_of_cell? W _ h)).trans h
theorem drawn_below {W W' : World} (h : Drawn0 W W') : Below W.heap.size W W' := by
 obtain ⟨m, rfl⟩ := h
 exact pw_below_drewN (Below.refl _ _) _
set_option maxHeartbeats 8000000 in
set_option maxRecDepth 100000 in
theorem UnitaryTimes_calls (k ks0 ks1 : Nat) (A0 : Option Addr) (c0 : Nat) (l0 : List Int) (A1 : Option Addr) (c1 : Nat) (l1 : List Int) (w : World) (hr0 : Kd.C (Kd.int .i64) w A0 l0.length l0) (hc0 : l0.length ≤ c0) (hr1 : Kd.C (Kd.int .i64) w A1 l1.length l1) (hc1 : l1.length ≤ c1) (b0 b1 : Bool) (hs0 : impl_small.f ks0 l0 = some b0) (hs1 : impl_small.f ks1 l1 = some b1) (r1 : List Int)
  (h : ((b0 && b1) = false ∧ r1 = []) ∨ ((b0 && b1) = true ∧ rowF (fun k i => impl_UnitaryTimesLit.f k i l0 l1) k = some r1)) :
  Calls Try.prog 25 #[.slice A0 l0.length c0, .slice A1 l1.length c1] w fun e w' => ∃ v0_ : Value, e = .returned (.tuple #[v0_, .bool (b0 && b1)]) ∧ Kd.R (Kd.int .i64) 3 w' w.heap.size (fun _ => True) v0_ r1 ∧ Below w.heap.size w w' := by
 have HR := Aside0.mk hr0
 have HR1 := Aside0.mk hr1
 clear hr0 hr1
 have HH := Aside0.mk h
 clear h
 have HS := Aside0.mk hs0
 have HS1 := Aside0.mk hs1
 clear hs0 hs1
 cases b0 with
 | false =>
  rcases HH with ⟨⟨hb1, hb2⟩ | ⟨hb1, hrow⟩⟩
  ·subst hb2
   clear hb1
   go_enter Try.func25, Try.ntmps25
   go_wp2_with (first | (go_at_call 63; (refine (impl_small.calls ks0 A0 c0 l0 false _ (Kd.C_alloc (Kd.C_alloc HR.out _) _) hc0 HS.out).mono ?_); rintro e w1 ⟨rfl, hb⟩; replace hb := drawn_below hb; have HB := Aside0.mk (below_step (below_alloc (below_alloc (Below.refl w.heap.size w) _) _) hb); clear hb))
   go_ret2
   exact ⟨_, rfl, Kd.R_nil _ _ _ _ _, HB.out⟩
  ·exact absurd hb1 (by simp)
 | true =>
  cases b1 with
  | false =>
   rcases HH with ⟨⟨hb1, hb2⟩ | ⟨hb1, hrow⟩⟩
   ·subst hb2
    clear hb1
    go_enter Try.func25, Try.ntmps25
    go_wp2_with (first | (go_at_call 63; (refine (impl_small.calls ks0 A0 c0 l0 true _ (Kd.C_alloc (Kd.C_alloc HR.out _) _) hc0 HS.out).mono ?_); rintro e w1 ⟨rfl, hb⟩; replace hb := drawn_below hb; have HB := Aside0.mk (below_step (below_alloc (below_alloc (Below.refl w.heap.size w) _) _) hb); have hq1 := (cell_below hb (boxed_two w (.slice A0 l0.length c0) (.slice A1 l1.length c1) 23 23)); clear hb) | (go_at_call 63; (refine (impl_small.calls ks1 A1 c1 l1 false _ (Kd.C_below HR1.out HB.out) hc1 HS1.out).mono ?_); rintro e w1 ⟨rfl, hb⟩; replace hb := drawn_below hb; have HB2 := Aside0.mk (below_step HB.out hb); clear hb))
    go_ret2
    exact ⟨_, rfl, Kd.R_nil _ _ _ _ _, HB2.out⟩
   ·exact absurd hb1 (by simp)
  | true =>
   rcases HH with ⟨⟨hb1, hb2⟩ | ⟨hb1, hrow⟩⟩
   ·exact absurd hb1 (by simp)
   ·clear hb1
    have HROW := Aside0.mk hrow
    clear hrow
    go_enter Try.func25, Try.ntmps25
    go_wp2_with (first | (go_at_call 63; (refine (impl_small.calls ks0 A0 c0 l0 true _ (Kd.C_alloc (Kd.C_alloc HR.out _) _) hc0 HS.out).mono ?_); rintro e w1 ⟨rfl, hb⟩; replace hb := drawn_below hb; have HB := Aside0.mk (below_step (below_alloc (below_alloc (Below.refl w.heap.size w) _) _) hb); have hq1 := (cell_below hb (boxed_two w (.slice A0 l0.length c0) (.slice A1 l1.length c1) 23 23)); have HP1 := Aside0.mk (cell_below hb (boxed_old _ (boxed_new w (.slice A0 l0.length c0) 23))); clear hb) | (go_at_call 63; (refine (impl_small.calls ks1 A1 c1 l1 true _ (Kd.C_below HR1.out HB.out) hc1 HS1.out).mono ?_); rintro e w1 ⟨rfl, hb⟩; replace hb := drawn_below hb; have HB2 := Aside0.mk (below_step HB.out hb); have HQ1 := Aside0.mk (cell_below hb HP1.out); have HQ2 := Aside0.mk (cell_below hb hq1); have HC0 := Aside0.mk (Kd.C_below HR.out HB2.out); have HC1 := Aside0.mk (Kd.C_below HR1.out HB2.out); clear hb hq1) | (go_at_call 53; (refine (rowBy_calls (f := 64) Try.func64 (by kernel_rfl) rfl _ (fun k i => impl_UnitaryTimesLit.f k i l0 l1) k r1 _ ?_ HROW.out).mono ?_); (· intro k i r W hW hg; exact impl_UnitaryTimesLit.calls k i A0 c0 l0 A1 c1 l1 r W (Kd.C_below HC0.out hW) hc0 (Kd.C_below HC1.out hW) hc1 _ _ (cell_below hW HQ1.out) (cell_below hW HQ2.out) hg); rintro e w2 ⟨v, rfl, ho, hb⟩; have HO := Aside0.mk (Kd.R_lower ho (below_size HB2.out)); have HB3 := Aside0.mk (below_step HB2.out hb); clear ho hb))
    go_ret2
    exact ⟨_, rfl, HO.out, HB3.out⟩
set_option maxHeartbeats 8000000 in
set_option maxRecDepth 100000 in
theorem NamedRow_calls (k : Nat) (a0 : Int) (r1 : List Int) (w : World) (h : ((a0 < 0 ∨ 8 ≤ a0) ∧ r1 = []) ∨ ((0 ≤ a0 ∧ a0 < 8) ∧ rowF (fun k i => impl_NamedRowLit.f k i a0) k = some r1)) :
  Calls Try.prog 20 #[.int .i64 a0] w fun e w' => ∃ v0_ : Value, e = .returned v0_ ∧ Kd.R (Kd.int .i64) 3 w' w.heap.size (fun _ => True) v0_ r1 ∧ Below w.heap.size w w' := by
 have HH := Aside0.mk h
 clear h
 rcases HH with ⟨⟨hb1 | hb1, hb2⟩ | ⟨⟨h0, h8⟩, hrow⟩⟩
 ·subst hb2
  have d0 : decide (a0 < 0) = true := decide_eq_true hb1
  have HB := Aside0.mk (below_alloc (Below.refl w.heap.size w) (.cells #[.int .i64 a0] 3))
  clear hb1
  go_enter Try.func20, Try.ntmps20
  go_wp2
  go_ret
  exact ⟨_, rfl, Kd.R_nil _ _ _ _ _, HB.out⟩
 ·subst hb2
  have d0 : decide (a0 < 0) = false := decide_eq_false (by omega)
  have d8 : decide (8 ≤ a0) = true := decide_eq_true hb1
  have HB := Aside0.mk (below_alloc (Below.refl w.heap.size w) (.cells #[.int .i64 a0] 3))
  clear hb1
  go_enter Try.func20, Try.ntmps20
  go_wp2
  go_ret
  exact ⟨_, rfl, Kd.R_nil _ _ _ _ _, HB.out⟩
 ·have d0 : decide (a0 < 0) = false := decide_eq_false (by omega)
  have d8 : decide (8 ≤ a0) = false := decide_eq_false (by omega)
  have HROW := Aside0.mk hrow
  clear hrow h0 h8
  have HB := Aside0.mk (below_alloc (Below.refl w.heap.size w) (.cells #[.int .i64 a0] 3))
  have HP1 := Aside0.mk (boxed_new w (.int .i64 a0) 3)
  go_enter Try.func20, Try.ntmps20
  go_wp2_with (first | (go_at_call 53; (refine (rowBy_calls (f := 54) Try.func54 (by kernel_rfl) rfl _ (fun k i => impl_NamedRowLit.f k i a0) k r1 _ ?_ HROW.out).mono ?_); (· intro k i r W hW hg; exact impl_NamedRowLit.calls k i a0 r W _ (cell_below hW HP1.out) hg); rintro e w2 ⟨v, rfl, ho, hb⟩; have HO := Aside0.mk (Kd.R_lower ho (below_size HB.out)); have HB2 := Aside0.mk (below_step HB.out hb); clear ho hb))
  go_ret
  exact ⟨_, rfl, HO.out, HB2.out⟩


end Go.Proofs.Ytdhcgobkkgchpaa.Walk
