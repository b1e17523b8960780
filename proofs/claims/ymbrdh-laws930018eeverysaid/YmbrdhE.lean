/-
  THE E LAWS' WALKS: FromDays against an own reckoning.
-/
import Derived.Test.YmbrdhFrom
import Derived.Test.YmbrdhAid
import Derived.OpenShut
namespace Go.Proofs.Ymbrdh
open Go.RowKit
theorem eleap_plain (y : Int) : Cal.lpB y = if y.tmod 400 = 0 then true else if y.tmod 100 = 0 then false else decide (y.tmod 4 = 0) := by
  simp only [Cal.tmod_zero]
  unfold Cal.lpB
  split
  · simp; omega
  split
  · simp; omega
  · rw [Bool.eq_iff_iff]; simp only [decide_eq_true_iff]; omega
set_option maxHeartbeats 400000 in
theorem eleap_any (y : Int) (w : World) :
    Calls Ydhm.prog 25 #[.int .i64 y] w fun e w' => e = .returned (.bool (Cal.lpB y)) ∧ w' = w := by
  go_enter Ydhm.func25, Ydhm.ntmps25
  go_wp2
  all_goals (go_ret; exact ⟨ret_bool (by rw [eleap_plain]; simp_all [beq_dec]), rfl⟩)
set_option maxHeartbeats 400000 in
theorem elen_any (y m : Int) (w : World) (h1 : 1 ≤ m) (h2 : m ≤ 12) :
    Calls Ydhm.prog 15 #[.int .i64 y, .int .i64 m] w fun e w' => e = .returned (.int .i64 (Cal.dim y m)) ∧ w' = w := by
  rcases Cal.month_cases m (by omega) (by omega) with rfl | rfl | rfl | rfl | rfl | rfl | rfl | rfl | rfl | rfl | rfl | rfl
  case inr.inl =>
    cases hl : Cal.lpB y
    all_goals
      go_enter Ydhm.func15, Ydhm.ntmps15
      go_wp2_with (go_at_call 25; refine (eleap_any _ _).mono ?_; rintro e w' ⟨rfl, rfl⟩)
      go_ret
    · exact ⟨ret_int (by rw [(Cal.dim_tab y).2.1, Cal.lp_false hl]; rfl), rfl⟩
    · exact ⟨ret_int (by rw [(Cal.dim_tab y).2.1, Cal.lp_true hl]; rfl), rfl⟩
  all_goals
    go_enter Ydhm.func15, Ydhm.ntmps15
    go_wp2
    go_ret; exact ⟨ret_int (by simp [Cal.dim]), rfl⟩
theorem dby_e {y : Int} (_h : 0 < y) : -719528 + 365 * y + (1 + (y - 1) / 4 - (y - 1) / 100 + (y - 1) / 400) = -719528 + Cal.dby y := by unfold Cal.dby; omega
set_option maxHeartbeats 1000000 in
theorem enumber_any (y m d : Int) (w : World) (h : Cal.vldB y m d = true) :
    Calls Ydhm.prog 17 #[.int .i64 y, .int .i64 m, .int .i64 d] w fun e w' => e = .returned (.int .i64 (Cal.num y m d)) ∧ w' = w := by
  obtain ⟨hy1, hy2, hd1, hd2⟩ := Cal.vld_of h
  obtain ⟨hm1, hm2⟩ := Cal.month_of y m d hd1 hd2
  have hd3 := Cal.vld_d h
  have DE : Hid (0 < y → -719528 + 365 * y + (1 + (y - 1) / 4 - (y - 1) / 100 + (y - 1) / 400) = -719528 + Cal.dby y) := dby_e
  obtain ⟨b1, b2⟩ := Cal.dby_bd y hy1 (by omega)
  clear hd2 h
  by_cases hy0 : 0 < y
  all_goals
    go_enter Ydhm.func17, Ydhm.ntmps17
    go_wp2
    go_loop [7, 9] (fun t k => ∃ j : Int, 1 ≤ j ∧ j ≤ m ∧ k = .int .i64 j ∧ t = .int .i64 (-719528 + Cal.dby y + Cal.cum y j)) (fun _ k => (m - intOf k).toNat)
    case atStart =>
      refine ⟨1, by omega, by omega, rfl, ?_⟩
      first
        | (rw [← DE.out hy0]; simp [Cal.cum]; done)
        | (have e : y = 0 := by omega
           subst e; rfl)
    case round =>
      obtain ⟨j, hj1, hj2, rfl, rfl⟩ := hrel
      obtain ⟨c1, c2⟩ := Cal.cum_bd y j hj1 (by omega)
      obtain ⟨k1, k2⟩ := Cal.dim_lo y j
      by_cases hlt : j < m
      · have CS : Hid (Cal.cum y (j + 1) = Cal.cum y j + Cal.dim y j) := Cal.cum_succ y j hj1 (by omega)
        go_wp2_with (go_at_call 15; refine (elen_any _ _ _ (by omega) (by omega)).mono ?_; rintro e w' ⟨rfl, rfl⟩)
        go_round
        case rel => exact ⟨j + 1, by omega, by omega, rfl, by rw [CS.out]; go_num⟩
        case measure => simp [intOf]; omega
      · go_wp2
        go_ret
        exact ⟨ret_int (by rw [show j = m by omega]; unfold Cal.num; omega), rfl⟩

set_option maxHeartbeats 1000000 in
theorem eEvery_out (n : Int) (w : World) (h : n < -719528 ∨ 2932896 < n) :
    Calls Ydhm.prog 4 #[.int .i64 n] w fun e w' => e = .returned (.bool true) ∧ Grown w w' := by
  have h' := h
  rcases h with h | h
  all_goals
    go_enter Ydhm.func4, Ydhm.ntmps4
    go_wp2_with (go_at_call 16; refine (from_no _ _ h').mono ?_; rintro e w' ⟨rfl, rfl⟩)
    go_ret
    exact ⟨rfl, by repeat (first | exact Grown.refl _ | apply Grown.drew | apply Grown.alloc)⟩
set_option maxHeartbeats 1000000 in
theorem eEvery_in (n y m d : Int) (w : World) (hv : Cal.vldB y m d = true) (hn : Cal.num y m d = n) :
    Calls Ydhm.prog 4 #[.int .i64 n] w fun e w' => e = .returned (.bool true) ∧ Grown w w' := by
  obtain ⟨hy1, hy2, hd1, hd2⟩ := Cal.vld_of hv
  obtain ⟨hm1, hm2⟩ := Cal.month_of y m d hd1 hd2
  obtain ⟨b1, b2⟩ := Cal.num_bd hv
  rw [hn] at b1 b2
  go_enter Ydhm.func4, Ydhm.ntmps4
  go_wp2_with (go_at_call 16; refine (from_at _ y m d _ hv hn).mono ?_; rintro e w' ⟨rfl, rfl⟩)
  go_quiet ((go_at_call 15; exact Calls.quiet_of_same (elen_any _ _ _ hm1 hm2)))
  go_wp2_with (go_at_call 17; refine (enumber_any _ _ _ _ hv).mono ?_; rintro e w' ⟨rfl, rfl⟩)
  go_ret
  exact ⟨rfl, by repeat (first | exact Grown.refl _ | apply grown_drewN | apply Grown.drew | apply Grown.alloc)⟩
theorem eEvery_any (n : Int) (w : World) :
    Calls Ydhm.prog 4 #[.int .i64 n] w fun e w' => e = .returned (.bool true) ∧ Grown w w' := by
  by_cases h : n < -719528 ∨ 2932896 < n
  · exact eEvery_out n w h
  · obtain ⟨y, m, d, hv, hn⟩ := Cal.date_of n (by omega) (by omega)
    exact eEvery_in n y m d w hv hn
theorem tmod_bd (n k : Int) (h : 0 < k) : -k < n.tmod k ∧ n.tmod k < k := by
  have a := Int.tmod_lt_of_pos n h
  have b := Int.tmod_lt_of_pos (-n) h
  rw [Int.neg_tmod] at b; omega
end Go.Proofs.Ymbrdh
