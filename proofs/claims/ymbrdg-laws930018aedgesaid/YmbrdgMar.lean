/-
  THE PLAIN CALENDAR, MORE: other reckonings of the day number and of the weekday agree with it. No Go in sight.
-/
import Derived.Test.YmbrdgCal
namespace Go.Proofs.Ymbrdg.Cal

/-- By years that begin in March: January and February. -/
theorem mar_lo (y m d : Int) (_h : 0 ≤ y) (h1 : 1 ≤ m) (h2 : m ≤ 2) :
    365 * (y + 399) + (y + 399) / 4 - (y + 399) / 100 + (y + 399) / 400 + (153 * (m + 9) + 2) / 5 + d = num y m d + 865566 := by
  obtain rfl | rfl : m = 1 ∨ m = 2 := by omega
  all_goals
    simp only [num, dby, cum, Int.le_refl, if_true, show ¬ (2 : Int) ≤ 1 by omega, if_false]
    omega
theorem cum_mar (y m : Int) (h1 : 3 ≤ m) (h2 : m ≤ 12) : cum y m = (153 * (m - 3) + 2) / 5 + 59 + lp y := by
  rcases month_cases m (by omega) h2 with rfl | rfl | rfl | rfl | rfl | rfl | rfl | rfl | rfl | rfl | rfl | rfl
  all_goals first | omega | (simp [cum]; done) | (simp [cum]; omega)
theorem dby_mar (y : Int) (_h : 0 ≤ y) : 365 * (y + 400) + (y + 400) / 4 - (y + 400) / 100 + (y + 400) / 400 = dby y + lp y + 146096 := by
  unfold dby
  rcases lp_cases y with ⟨_, h, _⟩ | ⟨_, h, _⟩ <;> omega
/-- By years that begin in March: the other months. -/
theorem mar_hi (y m d : Int) (h : 0 ≤ y) (h1 : 3 ≤ m) (h2 : m ≤ 12) :
    365 * (y + 400) + (y + 400) / 4 - (y + 400) / 100 + (y + 400) / 400 + (153 * (m - 3) + 2) / 5 + d = num y m d + 865566 := by
  unfold num
  rw [cum_mar y m h1 h2, dby_mar y h]
  omega

/-- The weekday, Monday 1 to Sunday 7. -/
def wday (n : Int) : Int := (n + 3) % 7 + 1
theorem wday_bd (n : Int) : 1 ≤ wday n ∧ wday n ≤ 7 := by unfold wday; omega
/-- Sakamoto's table. -/
def sak (m : Int) : Int :=
  if m = 1 then 0 else if m = 2 then 3 else if m = 3 then 2 else if m = 4 then 5 else if m = 5 then 0 else if m = 6 then 3
  else if m = 7 then 5 else if m = 8 then 1 else if m = 9 then 4 else if m = 10 then 6 else if m = 11 then 2 else 4
theorem sak_lo (y m d : Int) (h : 0 ≤ y) (h1 : 1 ≤ m) (h2 : m ≤ 2) :
    (y + 399 + (y + 399) / 4 - (y + 399) / 100 + (y + 399) / 400 + sak m + d) % 7 = wday (num y m d) % 7 := by
  have e := mar_lo y m d h h1 h2
  have s : (153 * (m + 9) + 2) / 5 = if m = 1 then 306 else 337 := by
    obtain rfl | rfl : m = 1 ∨ m = 2 := by omega
    all_goals decide
  obtain rfl | rfl : m = 1 ∨ m = 2 := by omega
  all_goals (simp only [sak, wday]; simp at s ⊢; omega)
theorem sak_hi (y m d : Int) (h : 0 ≤ y) (h1 : 3 ≤ m) (h2 : m ≤ 12) :
    (y + 400 + (y + 400) / 4 - (y + 400) / 100 + (y + 400) / 400 + sak m + d) % 7 = wday (num y m d) % 7 := by
  have e := mar_hi y m d h h1 h2
  unfold wday
  rcases month_cases m (by omega) h2 with rfl | rfl | rfl | rfl | rfl | rfl | rfl | rfl | rfl | rfl | rfl | rfl
  all_goals first | omega | (simp [sak] at e ⊢; omega)
end Go.Proofs.Ymbrdg.Cal
