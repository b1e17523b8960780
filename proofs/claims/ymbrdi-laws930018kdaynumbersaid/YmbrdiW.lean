/-
  THE I LAWS' WALKS: the weekday.
-/
import Derived.Test.YmbrdiBase
import Derived.Test.YmbrdiMar
import Derived.OpenShut
namespace Go.Proofs.Ymbrdi
open Go.RowKit
theorem tmod7 (n : Int) : -6 ≤ n.tmod 7 ∧ n.tmod 7 ≤ 6 ∧ (n - n.tmod 7) % 7 = 0 := by
  have h := Int.mul_tdiv_add_tmod n 7
  have a := Int.tmod_lt_of_pos n (show (0 : Int) < 7 by decide)
  have b : -7 < n.tmod 7 := by
    have := Int.tmod_lt_of_pos (-n) (show (0 : Int) < 7 by decide)
    rw [Int.neg_tmod] at this; omega
  omega
theorem wday_of_t (n : Int) : Cal.wday n = (n.tmod 7 + 7 + 3) % 7 + 1 := by
  have h := tmod7 n
  unfold Cal.wday; omega
set_option maxHeartbeats 400000 in
theorem week_any (n : Int) (w : World) :
    Calls Ydim.prog 14 #[.int .i64 n] w fun e w' => e = .returned (.int .i64 (Cal.wday n)) ∧ w' = w := by
  obtain ⟨t1, t2, t3⟩ := tmod7 n
  have E := wday_of_t n
  have HE : Hid (Cal.wday n = (n.tmod 7 + 7 + 3) % 7 + 1) := E
  clear E t3
  by_cases hneg : n.tmod 7 < 0
  · go_enter Ydim.func14, Ydim.ntmps14
    go_wp2
    go_ret; exact ⟨ret_int (by rw [HE.out]; try omega), rfl⟩
  · go_enter Ydim.func14, Ydim.ntmps14
    go_wp2
    go_ret; exact ⟨ret_int (by rw [HE.out]; omega), rfl⟩
set_option maxHeartbeats 2000000 in
theorem iExact_any (n : Int) (w : World) :
    Calls Ydim.prog 3 #[.int .i64 n] w fun e w' => e = .returned (.bool true) ∧ w' = w := by
  obtain ⟨t1, t2, t3⟩ := tmod7 n
  have E := wday_of_t n
  have ht : n.tmod 7 = -6 ∨ n.tmod 7 = -5 ∨ n.tmod 7 = -4 ∨ n.tmod 7 = -3 ∨ n.tmod 7 = -2 ∨ n.tmod 7 = -1 ∨ n.tmod 7 = 0 ∨ n.tmod 7 = 1 ∨ n.tmod 7 = 2 ∨ n.tmod 7 = 3 ∨ n.tmod 7 = 4 ∨ n.tmod 7 = 5 ∨ n.tmod 7 = 6 := by omega
  clear t1 t2 t3
  rcases ht with ht | ht | ht | ht | ht | ht | ht | ht | ht | ht | ht | ht | ht
  all_goals
    rw [ht] at E
    simp at E
    go_enter Ydim.func3, Ydim.ntmps3
    go_wp2_with (go_at_call 14; refine (week_any _ _).mono ?_; rintro e w' ⟨rfl, rfl⟩)
    go_ret; exact ⟨rfl, rfl⟩
theorem wday_step (n : Int) : (Cal.wday n = 7 ∧ Cal.wday (n + 1) = 1) ∨ (Cal.wday n ≤ 6 ∧ Cal.wday (n + 1) = Cal.wday n + 1) := by unfold Cal.wday; omega
theorem iStep_max (w : World) :
    Calls Ydim.prog 4 #[.int .i64 9223372036854775807] w fun e w' => e = .returned (.bool true) ∧ w' = w := by
  go_enter Ydim.func4, Ydim.ntmps4
  go_wp2
  go_ret; exact ⟨rfl, rfl⟩
set_option maxHeartbeats 2000000 in
theorem iStep_any (n : Int) (w : World) (h1 : -9223372036854775808 ≤ n) (h2 : n < 9223372036854775807) :
    Calls Ydim.prog 4 #[.int .i64 n] w fun e w' => e = .returned (.bool true) ∧ w' = w := by
  obtain ⟨b1, b2⟩ := Cal.wday_bd n
  have z : Cal.wday 0 = 4 := rfl
  rcases wday_step n with ⟨e1, e2⟩ | ⟨e1, e2⟩
  · go_enter Ydim.func4, Ydim.ntmps4
    go_wp2_with (go_at_call 14; refine (week_any _ _).mono ?_; rintro e w' ⟨rfl, rfl⟩)
    go_ret; exact ⟨rfl, rfl⟩
  · go_enter Ydim.func4, Ydim.ntmps4
    go_wp2_with (go_at_call 14; refine (week_any _ _).mono ?_; rintro e w' ⟨rfl, rfl⟩)
    go_ret; exact ⟨rfl, rfl⟩
theorem iStep_all (n : Int) (w : World) (hn : (Lit.int .i64 n).wf = true) :
    Calls Ydim.prog 4 #[.int .i64 n] w fun e w' => e = .returned (.bool true) ∧ w' = w := by
  obtain ⟨b1, b2⟩ := bounds_i64 hn
  by_cases h : n = 9223372036854775807
  · rw [h]; exact iStep_max w
  · exact iStep_any n w b1 (by omega)
end Go.Proofs.Ymbrdi
