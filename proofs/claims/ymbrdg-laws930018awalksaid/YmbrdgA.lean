/-
  THE A LAWS' WALKS: the laws' own calendar.
-/
import Derived.Test.YmbrdgAdd
import Derived.Test.YmbrdgLen
import Derived.Test.YmbrdgMar
import Derived.OpenShut
namespace Go.Proofs.Ymbrdg
open Go.RowKit
set_option linter.unusedVariables false
/-- The laws' own count: by years that begin in March. -/
def Cal.an (y m d : Int) : Int := Cal.num y m d + 865566
theorem an_first : Cal.an 0 1 1 = 146038 := rfl
theorem an_last : Cal.an 9999 12 31 = 3798462 := rfl
theorem an_bd {y m d : Int} (h : Cal.vldB y m d = true) : 146038 ≤ Cal.an y m d ∧ Cal.an y m d ≤ 3798462 := by
  have := Cal.num_bd h; unfold Cal.an; omega
set_option maxHeartbeats 1000000 in
theorem alen_any (y m : Int) (w : World) (h1 : 1 ≤ m) (h2 : m ≤ 12) :
    Calls Ydgm.prog 19 #[.int .i64 y, .int .i64 m] w fun e w' => e = .returned (.int .i64 (Cal.dim y m)) ∧ w' = w := by
  rcases Cal.month_cases m (by omega) (by omega) with rfl | rfl | rfl | rfl | rfl | rfl | rfl | rfl | rfl | rfl | rfl | rfl
  case inr.inl =>
    rcases dim2_ways y with ⟨t1, hd⟩ | ⟨t1, t2, hd⟩ | ⟨t1, t2, t3, hd⟩ | ⟨t1, t2, t3, hd⟩
    case inr.inr.inr =>
      have t4 : (y.tmod 100 != 0) = true := by simpa using t3
      go_enter Ydgm.func19, Ydgm.ntmps19
      go_wp2
      go_ret; exact ⟨ret_int hd.symm, rfl⟩
    all_goals
      go_enter Ydgm.func19, Ydgm.ntmps19
      go_wp2
      go_ret; exact ⟨ret_int hd.symm, rfl⟩
  all_goals
    go_enter Ydgm.func19, Ydgm.ntmps19
    go_wp2
    go_ret; exact ⟨ret_int (by simp [Cal.dim]), rfl⟩
theorem vB_f {y m d : Int} (h : ¬ (0 ≤ y ∧ y ≤ 9999 ∧ 1 ≤ d ∧ d ≤ Cal.dim y m)) : false = Cal.vldB y m d := by unfold Cal.vldB; rw [eq_comm, decide_eq_false_iff_not]; exact h
set_option maxHeartbeats 1000000 in
theorem avalid_any (y m d : Int) (w : World) :
    Calls Ydgm.prog 17 #[.agg #[.int .i64 y, .int .i64 m, .int .i64 d]] w fun e w' => e = .returned (.bool (Cal.vldB y m d)) ∧ ∃ n, w' = (w.alloc (.cells #[.int .i64 y, .int .i64 m, .int .i64 d] 23)).drewN n := by
  by_cases c0 : y < 0
  · go_enter Ydgm.func17, Ydgm.ntmps17
    go_wp2
    go_ret
    exact ⟨ret_bool (vB_f (by omega)), 0, rfl⟩
  by_cases c1 : 9999 < y
  · go_enter Ydgm.func17, Ydgm.ntmps17
    go_wp2
    go_ret
    exact ⟨ret_bool (vB_f (by omega)), 0, rfl⟩
  by_cases c2 : m < 1
  · go_enter Ydgm.func17, Ydgm.ntmps17
    go_wp2
    go_ret
    exact ⟨ret_bool (vB_f (by have := Cal.dim_out y m (by omega); omega)), 0, rfl⟩
  by_cases c3 : 12 < m
  · go_enter Ydgm.func17, Ydgm.ntmps17
    go_wp2
    go_ret
    exact ⟨ret_bool (vB_f (by have := Cal.dim_out y m (by omega); omega)), 0, rfl⟩
  have m1 : 1 ≤ m := by omega
  have m2 : m ≤ 12 := by omega
  by_cases h3 : 1 ≤ d
  · go_enter Ydgm.func17, Ydgm.ntmps17
    go_wp2
    go_quiet ((go_at_call 19; exact Calls.quiet_of_same (alen_any _ _ _ m1 m2)))
    go_wp2
    go_ret
    refine ⟨ret_bool ?_, nq, rfl⟩
    unfold Cal.vldB
    by_cases h4 : d ≤ Cal.dim y m
    · simp [h3, h4]; omega
    · simp [h4]
  · have hd : decide (1 ≤ d) = false := by simpa using h3
    go_enter Ydgm.func17, Ydgm.ntmps17
    go_wp2
    go_quiet ((go_at_call 19; exact Calls.quiet_of_same (alen_any _ _ _ m1 m2)))
    go_wp2
    go_ret
    exact ⟨ret_bool (vB_f (by omega)), nq, rfl⟩
set_option maxHeartbeats 1000000 in
theorem anum_any (y m d : Int) (w : World) (hv : Cal.vldB y m d = true) :
    Calls Ydgm.prog 18 #[.agg #[.int .i64 y, .int .i64 m, .int .i64 d]] w fun e w' => e = .returned (.int .i64 (Cal.an y m d)) ∧ w' = w.alloc (.cells #[.int .i64 y, .int .i64 m, .int .i64 d] 23) := by
  obtain ⟨hm1, hm2⟩ := Cal.vld_m hv
  obtain ⟨hy1, hy2, hd1, _⟩ := Cal.vld_of hv
  have hd2 := Cal.vld_d hv
  by_cases h : m ≤ 2
  · have E : Hid (365 * (y + 399) + (y + 399) / 4 - (y + 399) / 100 + (y + 399) / 400 + (153 * (m + 9) + 2) / 5 + d = Cal.an y m d) := Cal.mar_lo y m d hy1 hm1 h
    go_enter Ydgm.func18, Ydgm.ntmps18
    go_wp2
    go_ret
    exact ⟨ret_int (by have := E.out; omega), rfl⟩
  · have E : Hid (365 * (y + 400) + (y + 400) / 4 - (y + 400) / 100 + (y + 400) / 400 + (153 * (m - 3) + 2) / 5 + d = Cal.an y m d) := Cal.mar_hi y m d hy1 (by omega) hm2
    go_enter Ydgm.func18, Ydgm.ntmps18
    go_wp2
    go_ret
    exact ⟨ret_int (by have := E.out; omega), rfl⟩
set_option maxHeartbeats 1000000 in
theorem adate_core (a b c y m d : Int) (w : World) (a0 : 0 ≤ a) (a1 : a ≤ 65535) (b0 : 0 ≤ b) (b1 : b ≤ 255) (c0 : 0 ≤ c) (c1 : c ≤ 255)
    (ey : a * 1237 % 10000 = y) (em : 1 + b % 12 = m) (t : Int) (et : c % Cal.dim y m = t) (ed : 1 + t = d) (m1 : 1 ≤ m) (m2 : m ≤ 12) (t1 : 0 ≤ t) (t2 : t ≤ 30) :
    Calls Ydgm.prog 15 #[.int .u16 a, .int .u8 b, .int .u8 c] w fun e w' => e = .returned (.agg #[.int .i64 y, .int .i64 m, .int .i64 d]) ∧ w' = w.alloc (.cells #[.int .i64 y, .int .i64 m, .int .i64 d] 23) := by
  obtain ⟨l1, l2⟩ := Cal.dim_in y m m1 m2
  go_enter Ydgm.func15, Ydgm.ntmps15
  go_wp2_with (go_at_call 19; refine (alen_any _ _ _ m1 m2).mono ?_; rintro e w' ⟨rfl, rfl⟩)
  exact bodyPost_ret (v := .agg #[.int .i64 y, .int .i64 m, .int .i64 d]) (by simp [results, Ydgm.results15, go_sem]) rfl ⟨rfl, rfl⟩
/-- The laws' own date is a valid one. -/
theorem adate_any (a b c : Int) (a0 : 0 ≤ a) (a1 : a ≤ 65535) (b0 : 0 ≤ b) (b1 : b ≤ 255) (c0 : 0 ≤ c) (c1 : c ≤ 255) :
    ∃ y m d, Cal.vldB y m d = true ∧ ∀ w, Calls Ydgm.prog 15 #[.int .u16 a, .int .u8 b, .int .u8 c] w fun e w' => e = .returned (.agg #[.int .i64 y, .int .i64 m, .int .i64 d]) ∧ w' = w.alloc (.cells #[.int .i64 y, .int .i64 m, .int .i64 d] 23) := by
  have k := Cal.dim_in (a * 1237 % 10000) (1 + b % 12) (by omega) (by omega)
  have k1 := Int.emod_nonneg c (b := Cal.dim (a * 1237 % 10000) (1 + b % 12)) (by omega)
  have k2 := Int.emod_lt_of_pos c (b := Cal.dim (a * 1237 % 10000) (1 + b % 12)) (by omega)
  exact ⟨_, _, _, Cal.vld_mk (by omega), fun w => adate_core a b c (a * 1237 % 10000) (1 + b % 12) (1 + c % Cal.dim (a * 1237 % 10000) (1 + b % 12)) w a0 a1 b0 b1 c0 c1 rfl rfl _ rfl rfl (by omega) (by omega) k1 (by omega)⟩
end Go.Proofs.Ymbrdg
