/-
  THE LAWS' OWN TABLES OF MONTHS are the plain calendar's.
-/
import Derived.Test.YmbrdgBase
namespace Go.Proofs.Ymbrdg
open Go.RowKit
theorem dim2_t {y : Int} (h : Cal.lpB y = true) : Cal.dim y 2 = 29 := by rw [(Cal.dim_tab y).2.1, Cal.lp_true h]; rfl
theorem dim2_f {y : Int} (h : Cal.lpB y = false) : Cal.dim y 2 = 28 := by rw [(Cal.dim_tab y).2.1, Cal.lp_false h]; rfl
theorem dim2_ways (y : Int) : (y.tmod 400 = 0 ∧ Cal.dim y 2 = 29) ∨ (¬ y.tmod 400 = 0 ∧ ¬ y.tmod 4 = 0 ∧ Cal.dim y 2 = 28) ∨ (¬ y.tmod 400 = 0 ∧ y.tmod 4 = 0 ∧ y.tmod 100 = 0 ∧ Cal.dim y 2 = 28) ∨ (¬ y.tmod 400 = 0 ∧ y.tmod 4 = 0 ∧ ¬ y.tmod 100 = 0 ∧ Cal.dim y 2 = 29) := by
  simp only [Cal.tmod_zero]
  rw [(Cal.dim_tab y).2.1]
  rcases Cal.lp_cases y with ⟨_, h, k, l⟩ | ⟨_, h, k⟩ <;> omega
set_option maxHeartbeats 1000000 in
theorem clen_any (y m : Int) (w : World) :
    Calls Ydgm.prog 24 #[.int .i64 y, .int .i64 m] w fun e w' => e = .returned (.int .i64 (Cal.dim y m)) ∧ w' = w := by
  by_cases h1 : m < 1 ∨ 12 < m
  · have hd := Cal.dim_out y m h1
    have n1 : (m == 1) = false := by rw [beq_dec]; simp; omega
    have n2 : (m == 2) = false := by rw [beq_dec]; simp; omega
    have n3 : (m == 3) = false := by rw [beq_dec]; simp; omega
    have n4 : (m == 4) = false := by rw [beq_dec]; simp; omega
    have n5 : (m == 5) = false := by rw [beq_dec]; simp; omega
    have n6 : (m == 6) = false := by rw [beq_dec]; simp; omega
    have n7 : (m == 7) = false := by rw [beq_dec]; simp; omega
    have n8 : (m == 8) = false := by rw [beq_dec]; simp; omega
    have n9 : (m == 9) = false := by rw [beq_dec]; simp; omega
    have n10 : (m == 10) = false := by rw [beq_dec]; simp; omega
    have n11 : (m == 11) = false := by rw [beq_dec]; simp; omega
    have n12 : (m == 12) = false := by rw [beq_dec]; simp; omega
    clear h1
    go_enter Ydgm.func24, Ydgm.ntmps24
    go_wp2
    go_ret; exact ⟨ret_int hd.symm, rfl⟩
  rcases Cal.month_cases m (by omega) (by omega) with rfl | rfl | rfl | rfl | rfl | rfl | rfl | rfl | rfl | rfl | rfl | rfl
  case inr.inl =>
    rcases dim2_ways y with ⟨t1, hd⟩ | ⟨t1, t2, hd⟩ | ⟨t1, t2, t3, hd⟩ | ⟨t1, t2, t3, hd⟩
    case inr.inr.inr =>
      have t4 : (y.tmod 100 != 0) = true := by simpa using t3
      go_enter Ydgm.func24, Ydgm.ntmps24
      go_wp2
      go_ret; exact ⟨ret_int hd.symm, rfl⟩
    all_goals
      go_enter Ydgm.func24, Ydgm.ntmps24
      go_wp2
      go_ret; exact ⟨ret_int hd.symm, rfl⟩
  all_goals
    go_enter Ydgm.func24, Ydgm.ntmps24
    go_wp2
    go_ret; exact ⟨ret_int (by simp [Cal.dim]), rfl⟩
end Go.Proofs.Ymbrdg
