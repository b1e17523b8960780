/-
  THE G LAWS' WALKS: Compare.
-/
import Derived.Test.YmbrdhBase
import Derived.OpenShut
namespace Go.Proofs.Ymbrdh
open Go.RowKit
namespace Cal
/-- The order of dates as -1, 0, 1. -/
def cmp (y m d y' m' d' : Int) : Int :=
  if y < y' then -1 else if y' < y then 1 else if m < m' then -1 else if m' < m then 1 else if d < d' then -1 else if d' < d then 1 else 0
end Cal
theorem cmp_y1 {y m d y' m' d' : Int} (h : y < y') : Cal.cmp y m d y' m' d' = -1 := by unfold Cal.cmp; rw [if_pos h]
theorem cmp_y2 {y m d y' m' d' : Int} (h : y' < y) : Cal.cmp y m d y' m' d' = 1 := by unfold Cal.cmp; rw [if_neg (by omega), if_pos h]
theorem cmp_m1 {y m d m' d' : Int} (h : m < m') : Cal.cmp y m d y m' d' = -1 := by unfold Cal.cmp; simp [h]
theorem cmp_m2 {y m d m' d' : Int} (h : m' < m) : Cal.cmp y m d y m' d' = 1 := by unfold Cal.cmp; simp [h]; omega
theorem cmp_d1 {y m d d' : Int} (h : d < d') : Cal.cmp y m d y m d' = -1 := by unfold Cal.cmp; simp [h]
theorem cmp_d2 {y m d d' : Int} (h : d' < d) : Cal.cmp y m d y m d' = 1 := by unfold Cal.cmp; simp [h]; omega
theorem cmp_self (y m d : Int) : Cal.cmp y m d y m d = 0 := by unfold Cal.cmp; simp
set_option maxHeartbeats 1000000 in
theorem compare_any (y m d y' m' d' : Int) (w : World) :
    Calls Ydhm.prog 21 #[.agg #[.int .i64 y, .int .i64 m, .int .i64 d], .agg #[.int .i64 y', .int .i64 m', .int .i64 d']] w fun e w' => e = .returned (.int .i64 (Cal.cmp y m d y' m' d')) ∧ w' = (w.alloc (.cells #[.int .i64 y, .int .i64 m, .int .i64 d] 25)).alloc (.cells #[.int .i64 y', .int .i64 m', .int .i64 d'] 25) := by
  by_cases h1 : y < y'
  · go_enter Ydhm.func21, Ydhm.ntmps21
    go_wp2
    go_ret; exact ⟨ret_int (cmp_y1 h1).symm, rfl⟩
  by_cases h2 : y' < y
  · go_enter Ydhm.func21, Ydhm.ntmps21
    go_wp2
    go_ret; exact ⟨ret_int (cmp_y2 h2).symm, rfl⟩
  obtain rfl : y = y' := by omega
  by_cases h3 : m < m'
  · go_enter Ydhm.func21, Ydhm.ntmps21
    go_wp2
    go_ret; exact ⟨ret_int (cmp_m1 h3).symm, rfl⟩
  by_cases h4 : m' < m
  · go_enter Ydhm.func21, Ydhm.ntmps21
    go_wp2
    go_ret; exact ⟨ret_int (cmp_m2 h4).symm, rfl⟩
  obtain rfl : m = m' := by omega
  by_cases h5 : d < d'
  · go_enter Ydhm.func21, Ydhm.ntmps21
    go_wp2
    go_ret; exact ⟨ret_int (cmp_d1 h5).symm, rfl⟩
  by_cases h6 : d' < d
  · go_enter Ydhm.func21, Ydhm.ntmps21
    go_wp2
    go_ret; exact ⟨ret_int (cmp_d2 h6).symm, rfl⟩
  obtain rfl : d = d' := by omega
  go_enter Ydhm.func21, Ydhm.ntmps21
  go_wp2
  go_ret; exact ⟨ret_int (cmp_self y m d).symm, rfl⟩
theorem cmp_cases (y m d y' m' d' : Int) : (Cal.cmp y m d y' m' d' = -1 ∧ (y < y' ∨ (y = y' ∧ (m < m' ∨ (m = m' ∧ d < d'))))) ∨ (Cal.cmp y m d y' m' d' = 0 ∧ y = y' ∧ m = m' ∧ d = d') ∨ (Cal.cmp y m d y' m' d' = 1 ∧ (y' < y ∨ (y' = y ∧ (m' < m ∨ (m' = m ∧ d' < d))))) := by
  unfold Cal.cmp
  repeat (first | omega | split)
theorem cmp_of_lt {y m d y' m' d' : Int} (h : y < y' ∨ (y = y' ∧ (m < m' ∨ (m = m' ∧ d < d')))) : Cal.cmp y m d y' m' d' = -1 := by
  rcases cmp_cases y m d y' m' d' with ⟨h', _⟩ | ⟨_, _⟩ | ⟨_, _⟩
  · exact h'
  · omega
  · omega
theorem cmp_of_gt {y m d y' m' d' : Int} (h : y' < y ∨ (y' = y ∧ (m' < m ∨ (m' = m ∧ d' < d)))) : Cal.cmp y m d y' m' d' = 1 := by
  rcases cmp_cases y m d y' m' d' with ⟨_, _⟩ | ⟨_, _⟩ | ⟨h', _⟩
  · omega
  · omega
  · exact h'
theorem cmp_neg (y m d y' m' d' : Int) : Cal.cmp y' m' d' y m d = - Cal.cmp y m d y' m' d' := by
  rcases cmp_cases y m d y' m' d' with ⟨h, k⟩ | ⟨h, rfl, rfl, rfl⟩ | ⟨h, k⟩
  · rw [h, cmp_of_gt k]; rfl
  · rw [cmp_self]; rfl
  · rw [h, cmp_of_lt k]
theorem cmp_up {y m d y2 m2 d2 y3 m3 d3 : Int} (h1 : Cal.cmp y m d y2 m2 d2 = -1) (h2 : Cal.cmp y2 m2 d2 y3 m3 d3 ≤ 0) : Cal.cmp y m d y3 m3 d3 = -1 := by
  refine cmp_of_lt ?_
  rcases cmp_cases y m d y2 m2 d2 with ⟨_, k⟩ | ⟨_, _⟩ | ⟨_, _⟩
  · rcases cmp_cases y2 m2 d2 y3 m3 d3 with ⟨_, l⟩ | ⟨_, l⟩ | ⟨_, _⟩ <;> omega
  · omega
  · omega
theorem cmp_dn {y m d y2 m2 d2 y3 m3 d3 : Int} (h1 : Cal.cmp y m d y2 m2 d2 = 1) (h2 : 0 ≤ Cal.cmp y2 m2 d2 y3 m3 d3) : Cal.cmp y m d y3 m3 d3 = 1 := by
  refine cmp_of_gt ?_
  rcases cmp_cases y m d y2 m2 d2 with ⟨_, _⟩ | ⟨_, _⟩ | ⟨_, k⟩
  · omega
  · omega
  · rcases cmp_cases y2 m2 d2 y3 m3 d3 with ⟨_, _⟩ | ⟨_, l⟩ | ⟨_, l⟩ <;> omega
theorem cmp_3 (y m d y' m' d' : Int) : Cal.cmp y m d y' m' d' = -1 ∨ Cal.cmp y m d y' m' d' = 0 ∨ Cal.cmp y m d y' m' d' = 1 := by
  rcases cmp_cases y m d y' m' d' with ⟨h, _⟩ | ⟨h, _⟩ | ⟨h, _⟩ <;> omega
theorem cmp_ne {y m d y' m' d' : Int} (h : ¬ (y = y' ∧ m = m' ∧ d = d')) : Cal.cmp y m d y' m' d' = -1 ∨ Cal.cmp y m d y' m' d' = 1 := by
  rcases cmp_cases y m d y' m' d' with ⟨h, _⟩ | ⟨h, _⟩ | ⟨h, _⟩ <;> omega

end Go.Proofs.Ymbrdh
