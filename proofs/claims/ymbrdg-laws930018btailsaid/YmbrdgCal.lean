/-
  THE PLAIN CALENDAR: no Go in sight. Leap years, month lengths, days before a month, days before a year, the day number.
-/
namespace Go.Proofs.Ymbrdg.Cal

/-- A leap year. -/
def lpB (y : Int) : Bool := decide (y % 4 = 0 ∧ (y % 100 ≠ 0 ∨ y % 400 = 0))
/-- 1 in a leap year, else 0. -/
def lp (y : Int) : Int := if y % 4 = 0 ∧ (y % 100 ≠ 0 ∨ y % 400 = 0) then 1 else 0
/-- Days of a month; 0 if it is none. -/
def dim (y m : Int) : Int :=
  if m < 1 ∨ 12 < m then 0 else if m = 2 then 28 + lp y else if m = 4 ∨ m = 6 ∨ m = 9 ∨ m = 11 then 30 else 31
/-- Days of the year before month m (1 to 13). -/
def cum (y m : Int) : Int :=
  if m ≤ 1 then 0 else if m = 2 then 31 else if m = 3 then 59 + lp y else if m = 4 then 90 + lp y else if m = 5 then 120 + lp y
  else if m = 6 then 151 + lp y else if m = 7 then 181 + lp y else if m = 8 then 212 + lp y else if m = 9 then 243 + lp y
  else if m = 10 then 273 + lp y else if m = 11 then 304 + lp y else if m = 12 then 334 + lp y else 365 + lp y
/-- Days before a year, from the year 0 on. -/
def dby (y : Int) : Int := 365 * y + (y + 3) / 4 - (y + 99) / 100 + (y + 399) / 400
/-- The day number. -/
def num (y m d : Int) : Int := -719528 + dby y + cum y m + d - 1
/-- A day of the years 0 to 9999. -/
def vld (y m d : Int) : Prop := 0 ≤ y ∧ y ≤ 9999 ∧ 1 ≤ d ∧ d ≤ dim y m
def vldB (y m d : Int) : Bool := decide (0 ≤ y ∧ y ≤ 9999 ∧ 1 ≤ d ∧ d ≤ dim y m)

theorem lp_cases (y : Int) : (lpB y = true ∧ lp y = 1 ∧ y % 4 = 0 ∧ (y % 100 ≠ 0 ∨ y % 400 = 0)) ∨ (lpB y = false ∧ lp y = 0 ∧ ¬ (y % 4 = 0 ∧ (y % 100 ≠ 0 ∨ y % 400 = 0))) := by
  unfold lpB lp
  by_cases h : y % 4 = 0 ∧ (y % 100 ≠ 0 ∨ y % 400 = 0)
  · left; simp [h]
  · right; simp only [h, decide_false, if_false, true_and]; trivial

theorem lp_01 (y : Int) : 0 ≤ lp y ∧ lp y ≤ 1 := by
  rcases lp_cases y with ⟨_, h, _⟩ | ⟨_, h, _⟩ <;> omega
theorem lp_true {y : Int} (h : lpB y = true) : lp y = 1 := by
  rcases lp_cases y with ⟨_, h', _⟩ | ⟨h', _, _⟩
  · exact h'
  · rw [h] at h'; cases h'
theorem lp_false {y : Int} (h : lpB y = false) : lp y = 0 := by
  rcases lp_cases y with ⟨h', _⟩ | ⟨_, h', _⟩
  · rw [h] at h'; cases h'
  · exact h'

theorem vld_iff (y m d : Int) : vldB y m d = true ↔ vld y m d := by unfold vldB vld; simp
theorem vld_of {y m d : Int} (h : vldB y m d = true) : 0 ≤ y ∧ y ≤ 9999 ∧ 1 ≤ d ∧ d ≤ dim y m := (vld_iff y m d).1 h
theorem vld_mk {y m d : Int} (h : 0 ≤ y ∧ y ≤ 9999 ∧ 1 ≤ d ∧ d ≤ dim y m) : vldB y m d = true := (vld_iff y m d).2 h
theorem vld_not {y m d : Int} (h : vldB y m d = false) : ¬ (0 ≤ y ∧ y ≤ 9999 ∧ 1 ≤ d ∧ d ≤ dim y m) := by
  intro k; rw [vld_mk k] at h; cases h

theorem dim_out (y m : Int) (h : m < 1 ∨ 12 < m) : dim y m = 0 := by unfold dim; rw [if_pos h]
theorem dim_lo (y m : Int) : 0 ≤ dim y m ∧ dim y m ≤ 31 := by
  have := lp_01 y
  unfold dim; split; · omega
  split; · omega
  split <;> omega
theorem dim_in (y m : Int) (h1 : 1 ≤ m) (h2 : m ≤ 12) : 28 ≤ dim y m ∧ dim y m ≤ 31 := by
  have := lp_01 y
  unfold dim; split; · omega
  split; · omega
  split <;> omega
theorem month_of (y m d : Int) (h1 : 1 ≤ d) (h2 : d ≤ dim y m) : 1 ≤ m ∧ m ≤ 12 := by
  by_cases h : m < 1 ∨ 12 < m
  · rw [dim_out y m h] at h2; omega
  · omega

theorem month_cases (m : Int) (h1 : 1 ≤ m) (h2 : m ≤ 12) : m = 1 ∨ m = 2 ∨ m = 3 ∨ m = 4 ∨ m = 5 ∨ m = 6 ∨ m = 7 ∨ m = 8 ∨ m = 9 ∨ m = 10 ∨ m = 11 ∨ m = 12 := by omega

theorem dim_tab (y : Int) : dim y 1 = 31 ∧ dim y 2 = 28 + lp y ∧ dim y 3 = 31 ∧ dim y 4 = 30 ∧ dim y 5 = 31 ∧ dim y 6 = 30 ∧ dim y 7 = 31 ∧ dim y 8 = 31 ∧ dim y 9 = 30 ∧ dim y 10 = 31 ∧ dim y 11 = 30 ∧ dim y 12 = 31 := by
  simp [dim]
theorem cum_tab (y : Int) : cum y 1 = 0 ∧ cum y 2 = 31 ∧ cum y 3 = 59 + lp y ∧ cum y 4 = 90 + lp y ∧ cum y 5 = 120 + lp y ∧ cum y 6 = 151 + lp y ∧ cum y 7 = 181 + lp y ∧ cum y 8 = 212 + lp y ∧ cum y 9 = 243 + lp y ∧ cum y 10 = 273 + lp y ∧ cum y 11 = 304 + lp y ∧ cum y 12 = 334 + lp y ∧ cum y 13 = 365 + lp y := by
  simp [cum]

theorem cum_succ (y m : Int) (h1 : 1 ≤ m) (h2 : m ≤ 12) : cum y (m + 1) = cum y m + dim y m := by
  have l := lp_01 y
  obtain ⟨a1, a2, a3, a4, a5, a6, a7, a8, a9, a10, a11, a12⟩ := dim_tab y
  obtain ⟨b1, b2, b3, b4, b5, b6, b7, b8, b9, b10, b11, b12, b13⟩ := cum_tab y
  rcases month_cases m h1 h2 with rfl | rfl | rfl | rfl | rfl | rfl | rfl | rfl | rfl | rfl | rfl | rfl
  all_goals (simp only [show (1 : Int) + 1 = 2 from rfl, show (2 : Int) + 1 = 3 from rfl, show (3 : Int) + 1 = 4 from rfl, show (4 : Int) + 1 = 5 from rfl, show (5 : Int) + 1 = 6 from rfl, show (6 : Int) + 1 = 7 from rfl, show (7 : Int) + 1 = 8 from rfl, show (8 : Int) + 1 = 9 from rfl, show (9 : Int) + 1 = 10 from rfl, show (10 : Int) + 1 = 11 from rfl, show (11 : Int) + 1 = 12 from rfl, show (12 : Int) + 1 = 13 from rfl]; omega)

theorem cum_bd (y m : Int) (_h1 : 1 ≤ m) (_h2 : m ≤ 12) : 0 ≤ cum y m ∧ cum y m ≤ 335 := by
  have := lp_01 y
  unfold cum
  repeat (first | omega | split)
theorem cum_13 (y : Int) : cum y 13 = 365 + lp y := rfl
theorem cum_step (y m : Int) (h1 : 1 ≤ m) (j : Nat) (h2 : m + j ≤ 13) : cum y m ≤ cum y (m + j) := by
  induction j with
  | zero => simp
  | succ j ih =>
    have a := ih (by omega)
    have b := cum_succ y (m + j) (by omega) (by omega)
    have c := dim_lo y (m + j)
    rw [show m + ((j + 1 : Nat) : Int) = m + j + 1 by omega]
    omega
/-- From a month to a later one: at least the month itself lies between. -/
theorem cum_lt (y m k : Int) (h1 : 1 ≤ m) (h : m < k) (h2 : k ≤ 13) : cum y m + dim y m ≤ cum y k := by
  have a := cum_step y (m + 1) (by omega) (k - (m + 1)).toNat (by omega)
  rw [show m + 1 + (((k - (m + 1)).toNat : Nat) : Int) = k by omega, cum_succ y m h1 (by omega)] at a
  exact a
theorem cum_last (y m d : Int) (h1 : 1 ≤ m) (h2 : m ≤ 12) (h : d ≤ dim y m) : cum y m + d ≤ 365 + lp y := by
  have := cum_lt y m 13 h1 (by omega) (by omega)
  rw [cum_13] at this; omega

theorem dby_succ (y : Int) (_h : 0 ≤ y) : dby (y + 1) = dby y + 365 + lp y := by
  unfold dby
  rcases lp_cases y with ⟨_, h, _⟩ | ⟨_, h, _⟩ <;> omega
theorem dby_mono (a b : Int) (_h0 : 0 ≤ a) (_h : a ≤ b) : dby a ≤ dby b := by unfold dby; omega
theorem dby_lt (a b : Int) (h0 : 0 ≤ a) (h : a < b) : dby a + 365 + lp a ≤ dby b := by
  have h1 := dby_mono (a + 1) b (by omega) (by omega)
  rw [dby_succ a h0] at h1; omega
theorem dby_bd (a : Int) (_h0 : 0 ≤ a) (_h : a ≤ 10000) : 0 ≤ dby a ∧ dby a ≤ 3652425 := by unfold dby; omega
theorem dby_max : dby 10000 = 3652425 := by decide
theorem dby_zero : dby 0 = 0 := by decide
theorem dby_guess (z : Int) (_h : 0 ≤ z) : dby (z / 146097 * 400 + z % 146097 / 366) ≤ z := by unfold dby; omega
theorem dby_guess_bd (z : Int) (_h : 0 ≤ z) (_h' : z ≤ 3652424) : 0 ≤ z / 146097 * 400 + z % 146097 / 366 ∧ z / 146097 * 400 + z % 146097 / 366 ≤ 9999 := by omega

theorem num_bd {y m d : Int} (h : vldB y m d = true) : -719528 ≤ num y m d ∧ num y m d ≤ 2932896 := by
  obtain ⟨h1, h2, h3, h4⟩ := vld_of h
  obtain ⟨m1, m2⟩ := month_of y m d h3 h4
  have a := cum_last y m d m1 m2 h4
  have b := cum_bd y m m1 m2
  have c := dby_bd y h1 (by omega)
  have e := dby_lt y 10000 h1 (by omega)
  rw [dby_max] at e
  unfold num; omega
/-- The order of day numbers is that of the dates. -/
theorem num_lt {y m d y' m' d' : Int} (h : vldB y m d = true) (h' : vldB y' m' d' = true) (hl : y < y' ∨ (y = y' ∧ (m < m' ∨ (m = m' ∧ d < d')))) : num y m d < num y' m' d' := by
  obtain ⟨h1, h2, h3, h4⟩ := vld_of h
  obtain ⟨m1, m2⟩ := month_of y m d h3 h4
  obtain ⟨k1, k2, k3, k4⟩ := vld_of h'
  obtain ⟨n1, n2⟩ := month_of y' m' d' k3 k4
  unfold num
  rcases hl with hl | ⟨rfl, hl | ⟨rfl, hl⟩⟩
  · have a := cum_last y m d m1 m2 h4
    have b := cum_bd y' m' n1 n2
    have c := dby_lt y y' h1 hl
    omega
  · have a := cum_lt y m m' m1 hl (by omega)
    omega
  · omega
theorem num_inj {y m d y' m' d' : Int} (h : vldB y m d = true) (h' : vldB y' m' d' = true) (e : num y m d = num y' m' d') : y = y' ∧ m = m' ∧ d = d' := by
  have a : ¬ (y < y' ∨ (y = y' ∧ (m < m' ∨ (m = m' ∧ d < d')))) := fun k => by have := num_lt h h' k; omega
  have b : ¬ (y' < y ∨ (y' = y ∧ (m' < m ∨ (m' = m ∧ d' < d)))) := fun k => by have := num_lt h' h k; omega
  omega

/-! The remainders that Go takes (toward zero): as a test against 0 they are the plain ones. -/
theorem tmod_zero (a b : Int) : a.tmod b = 0 ↔ a % b = 0 := by
  rw [← Int.dvd_iff_emod_eq_zero]
  exact ⟨fun h => Int.dvd_of_tmod_eq_zero h, fun h => Int.tmod_eq_zero_of_dvd h⟩
theorem lpB_t (y : Int) : lpB y = (decide (y.tmod 4 = 0) && (decide (y.tmod 100 ≠ 0) || decide (y.tmod 400 = 0))) := by
  unfold lpB
  rw [Bool.eq_iff_iff]
  simp [tmod_zero]

end Go.Proofs.Ymbrdg.Cal
