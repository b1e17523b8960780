/-
  THE J LAWS' WALKS: Valid against a table over the day.
-/
import Derived.Test.YmbrdiKept
import Derived.Test.YmbrdiFrom
import Derived.OpenShut
namespace Go.Proofs.Ymbrdi
open Go.RowKit
set_option linter.unusedVariables false
theorem vldB_f {y m d : Int} (h : ¬ (0 ≤ y ∧ y ≤ 9999 ∧ 1 ≤ d ∧ d ≤ Cal.dim y m)) : false = Cal.vldB y m d := by unfold Cal.vldB; rw [eq_comm, decide_eq_false_iff_not]; exact h
theorem vldB_t {y m d : Int} (h : 0 ≤ y ∧ y ≤ 9999 ∧ 1 ≤ d ∧ d ≤ Cal.dim y m) : true = Cal.vldB y m d := (Cal.vld_mk h).symm
theorem feb29 {y : Int} (h1 : 0 ≤ y) (h2 : y ≤ 9999) : (y % 16 = 0 ∧ Cal.vldB y 2 29 = true) ∨ (¬ y % 16 = 0 ∧ ¬ y % 4 = 0 ∧ Cal.vldB y 2 29 = false) ∨ (¬ y % 16 = 0 ∧ y % 4 = 0 ∧ y % 25 = 0 ∧ Cal.vldB y 2 29 = false) ∨ (¬ y % 16 = 0 ∧ y % 4 = 0 ∧ ¬ y % 25 = 0 ∧ Cal.vldB y 2 29 = true) := by
  have e : Cal.vldB y 2 29 = decide (Cal.lp y = 1) := by
    unfold Cal.vldB; rw [(Cal.dim_tab y).2.1, Bool.eq_iff_iff]; simp only [decide_eq_true_iff]
    have := Cal.lp_01 y; omega
  rw [e]
  rcases Cal.lp_cases y with ⟨_, h, k, l⟩ | ⟨_, h, k⟩ <;> simp only [h] <;> simp <;> omega
set_option maxHeartbeats 4000000 in
theorem jnames_any (y m d : Int) (w : World) :
    Calls Ydim.prog 16 #[.int .i64 y, .int .i64 m, .int .i64 d] w fun e w' => e = .returned (.bool (Cal.vldB y m d)) ∧ w' = w := by
  by_cases c0 : y < 0
  · go_enter Ydim.func16, Ydim.ntmps16
    go_wp2
    go_ret; exact ⟨ret_bool (vldB_f (by omega)), rfl⟩
  by_cases c1 : 9999 < y
  · go_enter Ydim.func16, Ydim.ntmps16
    go_wp2
    go_ret; exact ⟨ret_bool (vldB_f (by omega)), rfl⟩
  by_cases c2 : m < 1
  · go_enter Ydim.func16, Ydim.ntmps16
    go_wp2
    go_ret; exact ⟨ret_bool (vldB_f (by have := Cal.dim_out y m (by omega); omega)), rfl⟩
  by_cases c3 : 12 < m
  · go_enter Ydim.func16, Ydim.ntmps16
    go_wp2
    go_ret; exact ⟨ret_bool (vldB_f (by have := Cal.dim_out y m (by omega); omega)), rfl⟩
  by_cases c4 : d < 1
  · go_enter Ydim.func16, Ydim.ntmps16
    go_wp2
    go_ret; exact ⟨ret_bool (vldB_f (by omega)), rfl⟩
  have hi := Cal.dim_in y m (by omega) (by omega)
  by_cases c5 : d ≤ 28
  · go_enter Ydim.func16, Ydim.ntmps16
    go_wp2
    go_ret; exact ⟨ret_bool (vldB_t (by omega)), rfl⟩
  by_cases c6 : 31 < d
  · have n1 : (d == 29) = false := by rw [beq_dec]; simp; omega
    have n2 : (d == 30) = false := by rw [beq_dec]; simp; omega
    have n3 : (d == 31) = false := by rw [beq_dec]; simp; omega
    go_enter Ydim.func16, Ydim.ntmps16
    go_wp2
    go_ret; exact ⟨ret_bool (vldB_f (by omega)), rfl⟩
  have y1 : 0 ≤ y := by omega
  have y2 : y ≤ 9999 := by omega
  obtain ⟨a1, a2, a3, a4, a5, a6, a7, a8, a9, a10, a11, a12⟩ := Cal.dim_tab y
  have hl := Cal.lp_01 y
  have hd : d = 29 ∨ d = 30 ∨ d = 31 := by omega
  clear c0 c1 c4 c5 c6 hi
  rcases hd with rfl | rfl | rfl
  all_goals
    rcases Cal.month_cases m (by omega) (by omega) with rfl | rfl | rfl | rfl | rfl | rfl | rfl | rfl | rfl | rfl | rfl | rfl
  case inl.inr.inl =>
    clear a1 a2 a3 a4 a5 a6 a7 a8 a9 a10 a11 a12 c2 c3
    rcases feb29 y1 y2 with ⟨t1, hv⟩ | ⟨t1, t2, hv⟩ | ⟨t1, t2, t3, hv⟩ | ⟨t1, t2, t3, hv⟩
    case inr.inr.inr =>
      have t4 : (y % 25 != 0) = true := by simpa using t3
      go_enter Ydim.func16, Ydim.ntmps16
      go_wp2
      go_ret; exact ⟨ret_bool hv.symm, rfl⟩
    all_goals
      go_enter Ydim.func16, Ydim.ntmps16
      go_wp2
      go_ret; first | exact ⟨ret_bool hv.symm, rfl⟩ | exact ⟨ret_bool (by rw [hv]; simp [t1]), rfl⟩
  all_goals
    go_enter Ydim.func16, Ydim.ntmps16
    go_wp2
    go_ret
    refine ⟨ret_bool ?_, rfl⟩
    first | exact vldB_t (by omega) | exact vldB_f (by omega)
end Go.Proofs.Ymbrdi
