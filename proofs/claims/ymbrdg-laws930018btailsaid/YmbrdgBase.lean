/-
  THE CONTRACTS of the calendar's own functions over this seat's translation: what each call computes, in the words of the plain calendar.
-/
import Derived.Test.YmbrdgProg
import Derived.Test.YmbrdgCal
import Derived.WalkKit
import Derived.WalkSpells
import Derived.WalkLawsBesides
import Derived.BigQuiet
import Derived.Deep.QuietTactic
namespace Go.Proofs.Ymbrdg
open Go.RowKit
theorem ret_int {k : IntKind} {a b : Int} (h : a = b) : Ending.returned (.int k a) = .returned (.int k b) := by rw [h]
theorem ret_bool {a b : Bool} (h : a = b) : Ending.returned (.bool a) = .returned (.bool b) := by rw [h]
theorem beq_dec (a b : Int) : (a == b) = decide (a = b) := by by_cases h : a = b <;> simp [h]
set_option maxHeartbeats 400000 in
theorem leap_any (y : Int) (w : World) :
    Calls Ydgm.prog 36 #[.int .i64 y] w fun e w' => e = .returned (.bool (Cal.lpB y)) ∧ w' = w := by
  go_enter Ydgm.func36, Ydgm.ntmps36
  go_wp2
  all_goals (go_ret; exact ⟨ret_bool (by simp [Cal.lpB_t, beq_dec, *]), rfl⟩)
set_option maxHeartbeats 400000 in
theorem dim_any (y m : Int) (w : World) :
    Calls Ydgm.prog 34 #[.int .i64 y, .int .i64 m] w fun e w' => e = .returned (.int .i64 (Cal.dim y m)) ∧ w' = w := by
  by_cases h1 : m < 1
  · go_enter Ydgm.func34, Ydgm.ntmps34
    go_wp2
    go_ret; exact ⟨ret_int (Cal.dim_out y m (by omega)).symm, rfl⟩
  by_cases h2 : 12 < m
  · go_enter Ydgm.func34, Ydgm.ntmps34
    go_wp2
    go_ret; exact ⟨ret_int (Cal.dim_out y m (by omega)).symm, rfl⟩
  rcases Cal.month_cases m (by omega) (by omega) with rfl | rfl | rfl | rfl | rfl | rfl | rfl | rfl | rfl | rfl | rfl | rfl
  case inr.inl =>
    cases hl : Cal.lpB y
    all_goals
      go_enter Ydgm.func34, Ydgm.ntmps34
      go_wp2_with (go_at_call 36; refine (leap_any _ _).mono ?_; rintro e w' ⟨rfl, rfl⟩)
      go_ret
    · exact ⟨ret_int (by rw [(Cal.dim_tab y).2.1, Cal.lp_false hl]; rfl), rfl⟩
    · exact ⟨ret_int (by rw [(Cal.dim_tab y).2.1, Cal.lp_true hl]; rfl), rfl⟩
  all_goals
    go_enter Ydgm.func34, Ydgm.ntmps34
    go_wp2
    go_ret; exact ⟨ret_int (by simp [Cal.dim]), rfl⟩
set_option maxHeartbeats 400000 in
theorem dby_any (y : Int) (w : World) (h1 : 0 ≤ y) (h2 : y ≤ 10000) :
    Calls Ydgm.prog 35 #[.int .i64 y] w fun e w' => e = .returned (.int .i64 (Cal.dby y)) ∧ w' = w := by
  go_enter Ydgm.func35, Ydgm.ntmps35
  go_wp2
  go_ret
  exact ⟨ret_int (by unfold Cal.dby; rfl), rfl⟩
/-- A date as the program hands it on. -/
abbrev D (y m d : Int) : Value := .agg #[.int .i64 y, .int .i64 m, .int .i64 d]
set_option maxHeartbeats 400000 in
theorem valid_any (y m d : Int) (w : World) :
    Calls Ydgm.prog 32 #[.agg #[.int .i64 y, .int .i64 m, .int .i64 d]] w fun e w' => e = .returned (.bool (Cal.vldB y m d)) ∧ ∃ n, w' = (w.alloc (.cells #[.int .i64 y, .int .i64 m, .int .i64 d] 23)).drewN n := by
  by_cases h1 : y < 0
  · go_enter Ydgm.func32, Ydgm.ntmps32
    go_wp2
    go_ret
    exact ⟨ret_bool (by unfold Cal.vldB; rw [eq_comm, decide_eq_false_iff_not]; omega), 0, rfl⟩
  by_cases h2 : 9999 < y
  · go_enter Ydgm.func32, Ydgm.ntmps32
    go_wp2
    go_ret
    exact ⟨ret_bool (by unfold Cal.vldB; rw [eq_comm, decide_eq_false_iff_not]; omega), 0, rfl⟩
  by_cases h3 : 1 ≤ d
  · go_enter Ydgm.func32, Ydgm.ntmps32
    go_wp2
    go_quiet ((go_at_call 34; exact Calls.quiet_of_same (dim_any _ _ _)))
    go_wp2
    go_ret
    refine ⟨ret_bool ?_, nq, rfl⟩
    unfold Cal.vldB
    by_cases h4 : d ≤ Cal.dim y m
    · simp [h3, h4]; omega
    · simp [h4]
  · have hd : decide (1 ≤ d) = false := by simpa using h3
    go_enter Ydgm.func32, Ydgm.ntmps32
    go_wp2
    go_quiet ((go_at_call 34; exact Calls.quiet_of_same (dim_any _ _ _)))
    go_wp2
    go_ret
    exact ⟨ret_bool (by unfold Cal.vldB; rw [eq_comm, decide_eq_false_iff_not]; omega), nq, rfl⟩
end Go.Proofs.Ymbrdg
