/-
  THE PLAIN CALENDAR: the next day; every day number in range has its date. No Go in sight.
-/
import Derived.Test.YmbrdgCal
namespace Go.Proofs.Ymbrdg.Cal

theorem vld_m {y m d : Int} (h : vldB y m d = true) : 1 ≤ m ∧ m ≤ 12 := by
  obtain ⟨_, _, h3, h4⟩ := vld_of h
  exact month_of y m d h3 h4
theorem vld_d {y m d : Int} (h : vldB y m d = true) : d ≤ 31 := by
  obtain ⟨_, _, _, h4⟩ := vld_of h
  have := dim_lo y m; omega
/-- The next day within the month. -/
theorem next_d {y m d : Int} (h : vldB y m d = true) (k : d < dim y m) : vldB y m (d + 1) = true ∧ num y m (d + 1) = num y m d + 1 := by
  obtain ⟨h1, h2, h3, h4⟩ := vld_of h
  exact ⟨vld_mk (by omega), by unfold num; omega⟩
/-- The first day of the next month. -/
theorem next_m {y m d : Int} (h : vldB y m d = true) (k : d = dim y m) (l : m < 12) : vldB y (m + 1) 1 = true ∧ num y (m + 1) 1 = num y m d + 1 := by
  obtain ⟨h1, h2, h3, h4⟩ := vld_of h
  obtain ⟨m1, m2⟩ := month_of y m d h3 h4
  have a := dim_in y (m + 1) (by omega) (by omega)
  have b := cum_succ y m m1 m2
  exact ⟨vld_mk (by omega), by unfold num; rw [b]; omega⟩
/-- The first day of the next year. -/
theorem next_y {y m d : Int} (h : vldB y m d = true) (k : d = dim y m) (l : m = 12) : num (y + 1) 1 1 = num y m d + 1 ∧ (y < 9999 → vldB (y + 1) 1 1 = true) := by
  obtain ⟨h1, h2, h3, h4⟩ := vld_of h
  subst l
  have a := dby_succ y h1
  have b := cum_tab y
  have c := (dim_tab y).2.2.2.2.2.2.2.2.2.2.2
  have e := (dim_tab (y + 1)).1
  have f := (cum_tab (y + 1)).1
  refine ⟨?_, fun hy => vld_mk (by omega)⟩
  unfold num; rw [a, f, b.2.2.2.2.2.2.2.2.2.2.2.1]; omega
theorem first_day : vldB 0 1 1 = true ∧ num 0 1 1 = -719528 := by
  refine ⟨vld_mk (by have := (dim_tab 0).1; omega), rfl⟩
theorem last_day : vldB 9999 12 31 = true ∧ num 9999 12 31 = 2932896 := by
  refine ⟨vld_mk (by have := (dim_tab 9999).2.2.2.2.2.2.2.2.2.2.2; omega), rfl⟩
theorem date_nat (k : Nat) (h : k ≤ 3652424) : ∃ y m d : Int, vldB y m d = true ∧ num y m d = -719528 + k := by
  induction k with
  | zero => exact ⟨0, 1, 1, first_day.1, first_day.2⟩
  | succ k ih =>
    obtain ⟨y, m, d, hv, hn⟩ := ih (by omega)
    obtain ⟨h1, h2, h3, h4⟩ := vld_of hv
    obtain ⟨m1, m2⟩ := month_of y m d h3 h4
    by_cases a : d < dim y m
    · exact ⟨y, m, d + 1, (next_d hv a).1, by rw [(next_d hv a).2, hn]; omega⟩
    · by_cases b : m < 12
      · exact ⟨y, m + 1, 1, (next_m hv (by omega) b).1, by rw [(next_m hv (by omega) b).2, hn]; omega⟩
      · have n := next_y hv (by omega) (by omega)
        by_cases c : y < 9999
        · exact ⟨y + 1, 1, 1, n.2 c, by rw [n.1, hn]; omega⟩
        · have e : y = 9999 := by omega
          have f := n.1
          rw [hn, e] at f
          have g : num (9999 + 1) 1 1 = 2932897 := rfl
          omega
/-- Every day number in range has its date. -/
theorem date_of (n : Int) (h1 : -719528 ≤ n) (h2 : n ≤ 2932896) : ∃ y m d : Int, vldB y m d = true ∧ num y m d = n := by
  obtain ⟨y, m, d, hv, hn⟩ := date_nat (n + 719528).toNat (by omega)
  exact ⟨y, m, d, hv, by rw [hn]; omega⟩
end Go.Proofs.Ymbrdg.Cal
