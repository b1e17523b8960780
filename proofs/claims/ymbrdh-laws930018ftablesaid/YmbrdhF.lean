/-
  THE F LAWS' WALKS: DaysInMonth against the table of months.
-/
import Derived.Test.YmbrdhBase
import Derived.OpenShut
namespace Go.Proofs.Ymbrdh
open Go.RowKit
theorem fleap_plain (y : Int) : Cal.lpB y = if y.tmod 25 = 0 then decide (y.tmod 16 = 0) else decide (y.tmod 4 = 0) := by
  simp only [Cal.tmod_zero]
  unfold Cal.lpB
  split <;> (rw [Bool.eq_iff_iff]; simp only [decide_eq_true_iff]; omega)
set_option maxHeartbeats 400000 in
theorem fleap_any (y : Int) (w : World) :
    Calls Ydhm.prog 18 #[.int .i64 y] w fun e w' => e = .returned (.bool (Cal.lpB y)) ∧ w' = w := by
  go_enter Ydhm.func18, Ydhm.ntmps18
  go_wp2
  all_goals (go_ret; exact ⟨ret_bool (by rw [fleap_plain]; simp_all [beq_dec]), rfl⟩)
theorem dim_two_t {y : Int} (h : Cal.lpB y = true) : Cal.dim y 2 = 29 := by rw [(Cal.dim_tab y).2.1, Cal.lp_true h]; rfl
theorem dim_two_f {y : Int} (h : Cal.lpB y = false) : Cal.dim y 2 = 28 := by rw [(Cal.dim_tab y).2.1, Cal.lp_false h]; rfl
set_option maxHeartbeats 1000000 in
theorem fTable_any (y m : Int) (w : World) :
    Calls Ydhm.prog 6 #[.int .i64 y, .int .i64 m] w fun e w' => e = .returned (.bool true) ∧ w' = w := by
  by_cases h1 : m < 1 ∨ 12 < m
  · have hd := Cal.dim_out y m h1
    have n1 : (m == 1) = false := by rw [beq_dec]; simp; omega
    have n2 : (m == 2) = false := by rw [beq_dec]; simp; omega
    have n3 : (m == 3) = false := by rw [beq_dec]; simp; omega
    have n4 : (m == 4) = false := by rw [beq_dec]; simp; omega
    have n5 : (m == 5) = false := by rw [beq_dec]; simp; omega
    have n6 : (m == 6) = false := by rw [beq_dec]; simp; omega
    have n7 : (m == 7) = false := by rw [beq_dec]; simp; omega
    have n8 : (m == 8) = false := by rw [beq_dec]; simp; omega
    have n9 : (m == 9) = false := by rw [beq_dec]; simp; omega
    have n10 : (m == 10) = false := by rw [beq_dec]; simp; omega
    have n11 : (m == 11) = false := by rw [beq_dec]; simp; omega
    have n12 : (m == 12) = false := by rw [beq_dec]; simp; omega
    clear h1
    go_enter Ydhm.func6, Ydhm.ntmps6
    go_wp2_with (go_at_call 19; refine (dim_any _ _ _).mono ?_; rintro e w' ⟨rfl, rfl⟩)
    go_ret; exact ⟨rfl, rfl⟩
  obtain ⟨a1, a2, a3, a4, a5, a6, a7, a8, a9, a10, a11, a12⟩ := Cal.dim_tab y
  rcases Cal.month_cases m (by omega) (by omega) with rfl | rfl | rfl | rfl | rfl | rfl | rfl | rfl | rfl | rfl | rfl | rfl
  case inr.inl =>
    clear a2
    cases hl : Cal.lpB y
    · have hd := dim_two_f hl
      go_enter Ydhm.func6, Ydhm.ntmps6
      go_wp2_with (first | (go_at_call 19; refine (dim_any _ _ _).mono ?_; rintro e w' ⟨rfl, rfl⟩) | (go_at_call 18; refine (fleap_any _ _).mono ?_; rintro e w' ⟨rfl, rfl⟩))
      go_ret; exact ⟨rfl, rfl⟩
    · have hd := dim_two_t hl
      go_enter Ydhm.func6, Ydhm.ntmps6
      go_wp2_with (first | (go_at_call 19; refine (dim_any _ _ _).mono ?_; rintro e w' ⟨rfl, rfl⟩) | (go_at_call 18; refine (fleap_any _ _).mono ?_; rintro e w' ⟨rfl, rfl⟩))
      go_ret; exact ⟨rfl, rfl⟩
  all_goals
    go_enter Ydhm.func6, Ydhm.ntmps6
    go_wp2_with (go_at_call 19; refine (dim_any _ _ _).mono ?_; rintro e w' ⟨rfl, rfl⟩)
    go_ret; exact ⟨rfl, rfl⟩

set_option maxHeartbeats 2000000 in
theorem fAlt_true (y x : Int) (w : World) (hx0 : 0 ≤ x) (hx1 : x ≤ 255) :
    Calls Ydhm.prog 7 #[.int .i64 y, .bool true, .int .u8 x] w fun e w' => e = .returned (.bool true) ∧ w' = w := by
  obtain ⟨a1, a2, a3, a4, a5, a6, a7, a8, a9, a10, a11, a12⟩ := Cal.dim_tab (wrap64 (y * 100))
  have a0 := Cal.dim_out (wrap64 (y * 100)) 0 (by omega)
  have a13 := Cal.dim_out (wrap64 (y * 100)) 13 (by omega)
  have hm : x % 14 = 0 ∨ x % 14 = 1 ∨ x % 14 = 2 ∨ x % 14 = 3 ∨ x % 14 = 4 ∨ x % 14 = 5 ∨ x % 14 = 6 ∨ x % 14 = 7 ∨ x % 14 = 8 ∨ x % 14 = 9 ∨ x % 14 = 10 ∨ x % 14 = 11 ∨ x % 14 = 12 ∨ x % 14 = 13 := by omega
  rcases hm with hm | hm | hm | hm | hm | hm | hm | hm | hm | hm | hm | hm | hm | hm
  case inr.inr.inl =>
    clear a2
    cases hl : Cal.lpB (wrap64 (y * 100))
    · have hd := dim_two_f hl
      go_enter Ydhm.func7, Ydhm.ntmps7
      go_wp2_with (first | (go_at_call 19; refine (dim_any _ _ _).mono ?_; rintro e w' ⟨rfl, rfl⟩) | (go_at_call 18; refine (fleap_any _ _).mono ?_; rintro e w' ⟨rfl, rfl⟩))
      go_ret; exact ⟨rfl, rfl⟩
    · have hd := dim_two_t hl
      go_enter Ydhm.func7, Ydhm.ntmps7
      go_wp2_with (first | (go_at_call 19; refine (dim_any _ _ _).mono ?_; rintro e w' ⟨rfl, rfl⟩) | (go_at_call 18; refine (fleap_any _ _).mono ?_; rintro e w' ⟨rfl, rfl⟩))
      go_ret; exact ⟨rfl, rfl⟩
  all_goals
    go_enter Ydhm.func7, Ydhm.ntmps7
    go_wp2_with (first | (go_at_call 19; refine (dim_any _ _ _).mono ?_; rintro e w' ⟨rfl, rfl⟩) | (go_at_call 18; refine (fleap_any _ _).mono ?_; rintro e w' ⟨rfl, rfl⟩))
    go_ret; exact ⟨rfl, rfl⟩

set_option maxHeartbeats 2000000 in
theorem fAlt_false (y x : Int) (w : World) (hx0 : 0 ≤ x) (hx1 : x ≤ 255) :
    Calls Ydhm.prog 7 #[.int .i64 y, .bool false, .int .u8 x] w fun e w' => e = .returned (.bool true) ∧ w' = w := by
  obtain ⟨a1, a2, a3, a4, a5, a6, a7, a8, a9, a10, a11, a12⟩ := Cal.dim_tab (y)
  have a0 := Cal.dim_out (y) 0 (by omega)
  have a13 := Cal.dim_out (y) 13 (by omega)
  have hm : x % 14 = 0 ∨ x % 14 = 1 ∨ x % 14 = 2 ∨ x % 14 = 3 ∨ x % 14 = 4 ∨ x % 14 = 5 ∨ x % 14 = 6 ∨ x % 14 = 7 ∨ x % 14 = 8 ∨ x % 14 = 9 ∨ x % 14 = 10 ∨ x % 14 = 11 ∨ x % 14 = 12 ∨ x % 14 = 13 := by omega
  rcases hm with hm | hm | hm | hm | hm | hm | hm | hm | hm | hm | hm | hm | hm | hm
  case inr.inr.inl =>
    clear a2
    cases hl : Cal.lpB (y)
    · have hd := dim_two_f hl
      go_enter Ydhm.func7, Ydhm.ntmps7
      go_wp2_with (first | (go_at_call 19; refine (dim_any _ _ _).mono ?_; rintro e w' ⟨rfl, rfl⟩) | (go_at_call 18; refine (fleap_any _ _).mono ?_; rintro e w' ⟨rfl, rfl⟩))
      go_ret; exact ⟨rfl, rfl⟩
    · have hd := dim_two_t hl
      go_enter Ydhm.func7, Ydhm.ntmps7
      go_wp2_with (first | (go_at_call 19; refine (dim_any _ _ _).mono ?_; rintro e w' ⟨rfl, rfl⟩) | (go_at_call 18; refine (fleap_any _ _).mono ?_; rintro e w' ⟨rfl, rfl⟩))
      go_ret; exact ⟨rfl, rfl⟩
  all_goals
    go_enter Ydhm.func7, Ydhm.ntmps7
    go_wp2_with (first | (go_at_call 19; refine (dim_any _ _ _).mono ?_; rintro e w' ⟨rfl, rfl⟩) | (go_at_call 18; refine (fleap_any _ _).mono ?_; rintro e w' ⟨rfl, rfl⟩))
    go_ret; exact ⟨rfl, rfl⟩

theorem fAlt_any (y x : Int) (c : Bool) (w : World) (hx0 : 0 ≤ x) (hx1 : x ≤ 255) :
    Calls Ydhm.prog 7 #[.int .i64 y, .bool c, .int .u8 x] w fun e w' => e = .returned (.bool true) ∧ w' = w := by
  cases c
  · exact fAlt_false y x w hx0 hx1
  · exact fAlt_true y x w hx0 hx1

set_option maxHeartbeats 2000000 in
theorem fYear_true (y : Int) (w : World) :
    Calls Ydhm.prog 8 #[.int .i64 y, .bool true] w fun e w' => e = .returned (.bool true) ∧ w' = w := by
  go_enter Ydhm.func8, Ydhm.ntmps8
  go_wp2
  go_loop [6, 7] (fun t k => ∃ m : Int, 1 ≤ m ∧ m ≤ 13 ∧ k = .int .i64 m ∧ t = .int .i64 (Cal.cum (wrap64 (y * 100)) m)) (fun _ k => (13 - intOf k).toNat)
  case atStart => exact ⟨1, by omega, by omega, rfl, rfl⟩
  case round =>
    obtain ⟨m, hm1, hm2, rfl, rfl⟩ := hrel
    by_cases hlt : m ≤ 12
    · have hb := Cal.dim_in (wrap64 (y * 100)) m hm1 hlt
      have hc := Cal.cum_bd (wrap64 (y * 100)) m hm1 hlt
      have cs := Cal.cum_succ (wrap64 (y * 100)) m hm1 hlt
      have CS : Hid (Cal.cum (wrap64 (y * 100)) (m + 1) = Cal.cum (wrap64 (y * 100)) m + Cal.dim (wrap64 (y * 100)) m) := cs
      clear cs
      obtain ⟨b1, b2⟩ := hb
      obtain ⟨c1, c2⟩ := hc
      go_wp2_with (first | (go_at_call 19; refine (dim_any _ _ _).mono ?_; rintro e w' ⟨rfl, rfl⟩) | (go_at_call 18; refine (fleap_any _ _).mono ?_; rintro e w' ⟨rfl, rfl⟩))
      go_round
      case rel => exact ⟨m + 1, by omega, by omega, rfl, by rw [CS.out]⟩
      case measure => simp [intOf]; omega
    · obtain rfl : m = 13 := by omega
      cases hl : Cal.lpB (wrap64 (y * 100))
      · have h13 : Cal.cum (wrap64 (y * 100)) 13 = 365 := by rw [Cal.cum_13, Cal.lp_false hl]; rfl
        go_wp2_with (first | (go_at_call 19; refine (dim_any _ _ _).mono ?_; rintro e w' ⟨rfl, rfl⟩) | (go_at_call 18; refine (fleap_any _ _).mono ?_; rintro e w' ⟨rfl, rfl⟩))
        go_ret; exact ⟨rfl, rfl⟩
      · have h13 : Cal.cum (wrap64 (y * 100)) 13 = 366 := by rw [Cal.cum_13, Cal.lp_true hl]; rfl
        go_wp2_with (first | (go_at_call 19; refine (dim_any _ _ _).mono ?_; rintro e w' ⟨rfl, rfl⟩) | (go_at_call 18; refine (fleap_any _ _).mono ?_; rintro e w' ⟨rfl, rfl⟩))
        go_ret; exact ⟨rfl, rfl⟩

set_option maxHeartbeats 2000000 in
theorem fYear_false (y : Int) (w : World) :
    Calls Ydhm.prog 8 #[.int .i64 y, .bool false] w fun e w' => e = .returned (.bool true) ∧ w' = w := by
  go_enter Ydhm.func8, Ydhm.ntmps8
  go_wp2
  go_loop [6, 7] (fun t k => ∃ m : Int, 1 ≤ m ∧ m ≤ 13 ∧ k = .int .i64 m ∧ t = .int .i64 (Cal.cum (y) m)) (fun _ k => (13 - intOf k).toNat)
  case atStart => exact ⟨1, by omega, by omega, rfl, rfl⟩
  case round =>
    obtain ⟨m, hm1, hm2, rfl, rfl⟩ := hrel
    by_cases hlt : m ≤ 12
    · have hb := Cal.dim_in (y) m hm1 hlt
      have hc := Cal.cum_bd (y) m hm1 hlt
      have cs := Cal.cum_succ (y) m hm1 hlt
      have CS : Hid (Cal.cum (y) (m + 1) = Cal.cum (y) m + Cal.dim (y) m) := cs
      clear cs
      obtain ⟨b1, b2⟩ := hb
      obtain ⟨c1, c2⟩ := hc
      go_wp2_with (first | (go_at_call 19; refine (dim_any _ _ _).mono ?_; rintro e w' ⟨rfl, rfl⟩) | (go_at_call 18; refine (fleap_any _ _).mono ?_; rintro e w' ⟨rfl, rfl⟩))
      go_round
      case rel => exact ⟨m + 1, by omega, by omega, rfl, by rw [CS.out]⟩
      case measure => simp [intOf]; omega
    · obtain rfl : m = 13 := by omega
      cases hl : Cal.lpB (y)
      · have h13 : Cal.cum (y) 13 = 365 := by rw [Cal.cum_13, Cal.lp_false hl]; rfl
        go_wp2_with (first | (go_at_call 19; refine (dim_any _ _ _).mono ?_; rintro e w' ⟨rfl, rfl⟩) | (go_at_call 18; refine (fleap_any _ _).mono ?_; rintro e w' ⟨rfl, rfl⟩))
        go_ret; exact ⟨rfl, rfl⟩
      · have h13 : Cal.cum (y) 13 = 366 := by rw [Cal.cum_13, Cal.lp_true hl]; rfl
        go_wp2_with (first | (go_at_call 19; refine (dim_any _ _ _).mono ?_; rintro e w' ⟨rfl, rfl⟩) | (go_at_call 18; refine (fleap_any _ _).mono ?_; rintro e w' ⟨rfl, rfl⟩))
        go_ret; exact ⟨rfl, rfl⟩

theorem fYear_any (y : Int) (c : Bool) (w : World) :
    Calls Ydhm.prog 8 #[.int .i64 y, .bool c] w fun e w' => e = .returned (.bool true) ∧ w' = w := by
  cases c
  · exact fYear_false y w
  · exact fYear_true y w
end Go.Proofs.Ymbrdh
