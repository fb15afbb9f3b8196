/- The functions that call functions over closures. No conditions. -/
import Derived.Test.YtdhcgobkkgchpaaWrap
namespace Go.Proofs.Ytdhcgobkkgchpaa.Walk
open Go.RowKit Go.Proofs.YtdhcgobkkgchpaaW.PrintWords Go.Proofs.YtdhcgobkkgchpaaW.PrintLast Go.Proofs.YtdhcgobkkgchpaaW.PrintMore Go.Proofs.Ytdhcgobkkgchpaa.CBase
set_option linter.unusedVariables false
set_option linter.unusedSimpArgs false
set_option maxHeartbeats 8000000 in
set_option maxRecDepth 100000 in
theorem one52 (k : Nat) (i r : Int) (W : World) (h : (some 1 : Option Int) = some r) : Calls Try.prog 52 #[.int .i64 i] W fun e w' => e = .returned (.int .i64 r) ∧ Below W.heap.size W w' := by
  obtain rfl := Option.some.inj h
  have HB := Aside0.mk (Below.refl W.heap.size W)
  go_enter Try.func52, Try.ntmps52
  go_wp2
  go_ret
  exact ⟨rfl, HB.out⟩
set_option maxHeartbeats 8000000 in
set_option maxRecDepth 100000 in
theorem one78 (k : Nat) (i r : Int) (W : World) (h : (some 1 : Option Int) = some r) : Calls Try.prog 78 #[.int .i64 i] W fun e w' => e = .returned (.int .i64 r) ∧ Below W.heap.size W w' := by
  obtain rfl := Option.some.inj h
  have HB := Aside0.mk (Below.refl W.heap.size W)
  go_enter Try.func78, Try.ntmps78
  go_wp2
  go_ret
  exact ⟨rfl, HB.out⟩
set_option maxHeartbeats 8000000 in
set_option maxRecDepth 100000 in
theorem RoundedSums_calls (k ks : Nat) (A0 : Option Addr) (c0 : Nat) (l0 : List Int) (w : World) (hr0 : Kd.C (Kd.int .i64) w A0 l0.length l0) (hc0 : l0.length ≤ c0) (b : Bool) (hs : impl_small.f ks l0 = some b) (r1 : List Int)
    (h : (b = false ∧ r1 = []) ∨ (b = true ∧ rowF (fun k i => impl_roundedLit.f (fun _ _ => some 1) k i l0) k = some r1)) :
    Calls Try.prog 17 #[.slice A0 l0.length c0] w fun e w' => ∃ v0_ : Value, e = .returned (.tuple #[v0_, .bool b]) ∧ Kd.R (Kd.int .i64) 3 w' w.heap.size (fun _ => True) v0_ r1 ∧ Below w.heap.size w w' := by
  have HR := Aside0.mk hr0
  have HH := Aside0.mk h
  have HS := Aside0.mk hs
  clear hr0 h hs
  go_enter Try.func17, Try.ntmps17
  go_wp2_with (first | (go_at_call 51; (refine (rounded_calls (f := 52) Try.func52 (by kernel_rfl) rfl (fun _ _ => some 1) (fun k i r W hg => one52 k i r W hg) k ks ks A0 c0 l0 _ HR.out hc0 b HS.out r1 HH.out).mono ?_); rintro e w1 ⟨v, rfl, ho, hb⟩; have HO := Aside0.mk ho; have HB := Aside0.mk hb; clear ho hb))
  go_ret2
  exact ⟨_, rfl, HO.out, HB.out⟩
set_option maxHeartbeats 8000000 in
set_option maxRecDepth 100000 in
theorem FromRounded_calls (k ks : Nat) (A0 : Option Addr) (c0 : Nat) (l0 : List Int) (w : World) (hr0 : Kd.C (Kd.int .i64) w A0 l0.length l0) (hc0 : l0.length ≤ c0) (b : Bool) (hs : impl_small.f ks l0 = some b) (r1 : List Int)
    (h : (b = false ∧ r1 = []) ∨ (b = true ∧ rowF (fun k i => impl_roundedLit.f impl_sign.f k i l0) k = some r1)) :
    Calls Try.prog 21 #[.slice A0 l0.length c0] w fun e w' => ∃ v0_ : Value, e = .returned (.tuple #[v0_, .bool b]) ∧ Kd.R (Kd.int .i64) 3 w' w.heap.size (fun _ => True) v0_ r1 ∧ Below w.heap.size w w' := by
  have HR := Aside0.mk hr0
  have HH := Aside0.mk h
  have HS := Aside0.mk hs
  clear hr0 h hs
  go_enter Try.func21, Try.ntmps21
  go_wp2_with (first | (go_at_call 51; (refine (rounded_calls (f := 58) Try.func58 (by kernel_rfl) rfl impl_sign.f (fun k i r W hg => impl_sign.calls k i r W hg) k ks ks A0 c0 l0 _ HR.out hc0 b HS.out r1 HH.out).mono ?_); rintro e w1 ⟨v, rfl, ho, hb⟩; have HO := Aside0.mk ho; have HB := Aside0.mk hb; clear ho hb))
  go_ret2
  exact ⟨_, rfl, HO.out, HB.out⟩
set_option maxHeartbeats 8000000 in
set_option maxRecDepth 100000 in
theorem OverMultiples_calls (k ks : Nat) (A0 : Option Addr) (c0 : Nat) (l0 : List Int) (w : World) (hr0 : Kd.C (Kd.int .i64) w A0 l0.length l0) (hc0 : l0.length ≤ c0) (b : Bool) (hs : impl_small.f ks l0 = some b) (r1 : List Int)
    (h : (b = false ∧ r1 = []) ∨ (b = true ∧ rowF (fun k i => impl_overMultiplesLit.f (fun _ _ => some 1) k i l0) k = some r1)) :
    Calls Try.prog 40 #[.slice A0 l0.length c0] w fun e w' => ∃ v0_ : Value, e = .returned (.tuple #[v0_, .bool b]) ∧ Kd.R (Kd.int .i64) 3 w' w.heap.size (fun _ => True) v0_ r1 ∧ Below w.heap.size w w' := by
  have HR := Aside0.mk hr0
  have HH := Aside0.mk h
  have HS := Aside0.mk hs
  clear hr0 h hs
  go_enter Try.func40, Try.ntmps40
  go_wp2_with (first | (go_at_call 71; (refine (overMultiples_calls (f := 78) Try.func78 (by kernel_rfl) rfl (fun _ _ => some 1) (fun k i r W hg => one78 k i r W hg) k ks ks A0 c0 l0 _ HR.out hc0 b HS.out r1 HH.out).mono ?_); rintro e w1 ⟨v, rfl, ho, hb⟩; have HO := Aside0.mk ho; have HB := Aside0.mk hb; clear ho hb))
  go_ret2
  exact ⟨_, rfl, HO.out, HB.out⟩
set_option maxHeartbeats 8000000 in
set_option maxRecDepth 100000 in
theorem FromMultiples_calls (k ks : Nat) (A0 : Option Addr) (c0 : Nat) (l0 : List Int) (w : World) (hr0 : Kd.C (Kd.int .i64) w A0 l0.length l0) (hc0 : l0.length ≤ c0) (b : Bool) (hs : impl_small.f ks l0 = some b) (r1 : List Int)
    (h : (b = false ∧ r1 = []) ∨ (b = true ∧ rowF (fun k i => impl_overMultiplesLit.f impl_sign.f k i l0) k = some r1)) :
    Calls Try.prog 34 #[.slice A0 l0.length c0] w fun e w' => ∃ v0_ : Value, e = .returned (.tuple #[v0_, .bool b]) ∧ Kd.R (Kd.int .i64) 3 w' w.heap.size (fun _ => True) v0_ r1 ∧ Below w.heap.size w w' := by
  have HR := Aside0.mk hr0
  have HH := Aside0.mk h
  have HS := Aside0.mk hs
  clear hr0 h hs
  go_enter Try.func34, Try.ntmps34
  go_wp2_with (first | (go_at_call 71; (refine (overMultiples_calls (f := 58) Try.func58 (by kernel_rfl) rfl impl_sign.f (fun k i r W hg => impl_sign.calls k i r W hg) k ks ks A0 c0 l0 _ HR.out hc0 b HS.out r1 HH.out).mono ?_); rintro e w1 ⟨v, rfl, ho, hb⟩; have HO := Aside0.mk ho; have HB := Aside0.mk hb; clear ho hb))
  go_ret2
  exact ⟨_, rfl, HO.out, HB.out⟩
set_option maxHeartbeats 8000000 in
set_option maxRecDepth 100000 in
theorem SumsOf_calls (k ks0 ks1 kn : Nat) (A0 : Option Addr) (c0 : Nat) (l0 : List Int) (w : World) (hr0 : Kd.C (Kd.int .i64) w A0 l0.length l0) (hc0 : l0.length ≤ c0) (row : List Int) (hrow : rowF (fun k i => impl_NamedRowLit.f k i 1) kn = some row) (b0 b1 : Bool) (hs0 : impl_small.f ks0 l0 = some b0) (hs1 : impl_small.f ks1 row = some b1) (r1 : List Int)
    (h : ((b0 && b1) = false ∧ r1 = []) ∨ ((b0 && b1) = true ∧ rowF (fun k i => impl_TimesOfLit.f k i l0 row) k = some r1)) :
    Calls Try.prog 46 #[.slice A0 l0.length c0] w fun e w' => ∃ v0_ : Value, e = .returned (.tuple #[v0_, .bool (b0 && b1)]) ∧ Kd.R (Kd.int .i64) 3 w' w.heap.size (fun _ => True) v0_ r1 ∧ Below w.heap.size w w' := by
  have HR := Aside0.mk hr0
  have HH := Aside0.mk h
  have HS0 := Aside0.mk hs0
  have HS1 := Aside0.mk hs1
  have HROW := Aside0.mk hrow
  clear hr0 h hs0 hs1 hrow
  go_enter Try.func46, Try.ntmps46
  go_wp2_with (first | (go_at_call 20; (refine (NamedRow_calls kn 1 row _ (Or.inr ⟨by decide, HROW.out⟩)).mono ?_); rintro e w1 ⟨v, rfl, ho, hb⟩; have HO := Aside0.mk ho; have HB := Aside0.mk hb; clear ho hb; obtain ⟨Ao, co, eo⟩ := Kd.R_slice HO.out; subst eo) | (go_at_call 79; (refine (TimesOf_calls k ks0 ks1 A0 c0 l0 Ao co row _ (Kd.C_below HR.out HB.out) hc0 (Kd.R_reads' HO.out).2.2 (Kd.R_reads' HO.out).2.1 b0 b1 HS0.out HS1.out r1 HH.out).mono ?_); rintro e w2 ⟨v, rfl, ho, hb⟩; have HO2 := Aside0.mk (Kd.R_lower ho (below_size HB.out)); have HB2 := Aside0.mk (below_step HB.out hb); clear ho hb))
  go_ret2
  exact ⟨_, rfl, HO2.out, HB2.out⟩
set_option maxHeartbeats 8000000 in
set_option maxRecDepth 100000 in
theorem FromSums_calls (k ks0 ks1 kn : Nat) (A0 : Option Addr) (c0 : Nat) (l0 : List Int) (w : World) (hr0 : Kd.C (Kd.int .i64) w A0 l0.length l0) (hc0 : l0.length ≤ c0) (row : List Int) (hrow : rowF (fun k i => impl_NamedRowLit.f k i 6) kn = some row) (b0 b1 : Bool) (hs0 : impl_small.f ks0 l0 = some b0) (hs1 : impl_small.f ks1 row = some b1) (r1 : List Int)
    (h : ((b0 && b1) = false ∧ r1 = []) ∨ ((b0 && b1) = true ∧ rowF (fun k i => impl_TimesOfLit.f k i l0 row) k = some r1)) :
    Calls Try.prog 44 #[.slice A0 l0.length c0] w fun e w' => ∃ v0_ : Value, e = .returned (.tuple #[v0_, .bool (b0 && b1)]) ∧ Kd.R (Kd.int .i64) 3 w' w.heap.size (fun _ => True) v0_ r1 ∧ Below w.heap.size w w' := by
  have HR := Aside0.mk hr0
  have HH := Aside0.mk h
  have HS0 := Aside0.mk hs0
  have HS1 := Aside0.mk hs1
  have HROW := Aside0.mk hrow
  clear hr0 h hs0 hs1 hrow
  go_enter Try.func44, Try.ntmps44
  go_wp2_with (first | (go_at_call 20; (refine (NamedRow_calls kn 6 row _ (Or.inr ⟨by decide, HROW.out⟩)).mono ?_); rintro e w1 ⟨v, rfl, ho, hb⟩; have HO := Aside0.mk ho; have HB := Aside0.mk hb; clear ho hb; obtain ⟨Ao, co, eo⟩ := Kd.R_slice HO.out; subst eo) | (go_at_call 79; (refine (TimesOf_calls k ks0 ks1 A0 c0 l0 Ao co row _ (Kd.C_below HR.out HB.out) hc0 (Kd.R_reads' HO.out).2.2 (Kd.R_reads' HO.out).2.1 b0 b1 HS0.out HS1.out r1 HH.out).mono ?_); rintro e w2 ⟨v, rfl, ho, hb⟩; have HO2 := Aside0.mk (Kd.R_lower ho (below_size HB.out)); have HB2 := Aside0.mk (below_step HB.out hb); clear ho hb))
  go_ret2
  exact ⟨_, rfl, HO2.out, HB2.out⟩

end Go.Proofs.Ytdhcgobkkgchpaa.Walk
