/-
  THE CONTRACT of FromDays.
-/
import Derived.Test.YmbrdgBase
import Derived.Test.YmbrdgEx
namespace Go.Proofs.Ymbrdg
open Go.RowKit
set_option maxHeartbeats 400000 in
theorem from_no (n : Int) (w : World) (h : n < -719528 ∨ 2932896 < n) :
    Calls Ydgm.prog 31 #[.int .i64 n] w fun e w' => e = .returned (.tuple #[.agg #[.int .i64 0, .int .i64 0, .int .i64 0], .bool false]) ∧ w' = w.alloc (.cells #[.int .i64 0, .int .i64 0, .int .i64 0] 23) := by
  rcases h with h | h
  · go_enter Ydgm.func31, Ydgm.ntmps31
    go_wp2
    exact bodyPost_ret (v := .tuple #[.agg #[.int .i64 0, .int .i64 0, .int .i64 0], .bool false]) (by simp [results, Ydgm.results31, go_sem]) rfl ⟨rfl, rfl⟩
  · have h' : ¬ n < -719528 := by omega
    go_enter Ydgm.func31, Ydgm.ntmps31
    go_wp2
    exact bodyPost_ret (v := .tuple #[.agg #[.int .i64 0, .int .i64 0, .int .i64 0], .bool false]) (by simp [results, Ydgm.results31, go_sem]) rfl ⟨rfl, rfl⟩
theorem num_of (n y k : Int) : Cal.num y k (n + 719528 - Cal.dby y - Cal.cum y k + 1) = n := by unfold Cal.num; omega
theorem vld_from (n y k : Int) (a : 0 ≤ y) (b : y ≤ 9999) (c : 0 ≤ n + 719528 - Cal.dby y - Cal.cum y k) (d : n + 719528 - Cal.dby y - Cal.cum y k < Cal.dim y k) : Cal.vldB y k (n + 719528 - Cal.dby y - Cal.cum y k + 1) = true :=
  Cal.vld_mk (by omega)
set_option maxHeartbeats 1000000 in
theorem from_yes (n : Int) (w : World) (h1 : -719528 ≤ n) (h2 : n ≤ 2932896) :
    Calls Ydgm.prog 31 #[.int .i64 n] w fun e w' => ∃ y m d : Int, e = .returned (.tuple #[.agg #[.int .i64 y, .int .i64 m, .int .i64 d], .bool true]) ∧ Cal.vldB y m d = true ∧ Cal.num y m d = n ∧ w' = w.alloc (.cells #[.int .i64 y, .int .i64 m, .int .i64 d] 23) := by
  have g0 := Cal.dby_guess (n + 719528) (by omega)
  go_enter Ydgm.func31, Ydgm.ntmps31
  go_wp2
  go_loop [5] (fun t => ∃ y : Int, 0 ≤ y ∧ y ≤ 9999 ∧ Cal.dby y ≤ n + 719528 ∧ t = .int .i64 y) (fun t => (9999 - intOf t).toNat)
  case atStart => exact ⟨_, by omega, by omega, g0, rfl⟩
  case round =>
    obtain ⟨y, hy1, hy2, hy3, rfl⟩ := hrel
    by_cases hc : y < 9999 ∧ Cal.dby (y + 1) ≤ n + 719528
    · obtain ⟨hlt, hd⟩ := hc
      go_wp2_with (go_at_call 35; refine (dby_any _ _ (by omega) (by omega)).mono ?_; rintro e w' ⟨rfl, rfl⟩)
      go_round
      case rel => exact ⟨y + 1, by omega, by omega, hd, rfl⟩
      case measure => simp [intOf]; omega
    · have hz : n + 719528 < Cal.dby (y + 1) := by
        by_cases e : y = 9999
        · have := Cal.dby_max; rw [e]; show _ < Cal.dby 10000; omega
        · omega
      have hb := Cal.dby_bd y hy1 (by omega)
      have hs := Cal.dby_succ y hy1
      have hl := Cal.lp_01 y
      clear hc g0
      by_cases hlt : y < 9999
      all_goals
        go_wp2_with (go_at_call 35; refine (dby_any _ _ (by omega) (by omega)).mono ?_; rintro e w' ⟨rfl, rfl⟩)
        go_loop [6, 7] (fun r k => ∃ m : Int, 1 ≤ m ∧ m ≤ 12 ∧ k = .int .i64 m ∧ 0 ≤ n + 719528 - Cal.dby y - Cal.cum y m ∧ r = .int .i64 (n + 719528 - Cal.dby y - Cal.cum y m)) (fun _ k => (12 - intOf k).toNat)
        case atStart => exact ⟨1, by omega, by omega, rfl, by simp [Cal.cum]; omega, by simp [Cal.cum]⟩
        case round =>
          obtain ⟨m, hm1, hm2, rfl, hr, rfl⟩ := hrel
          have cb := Cal.cum_bd y m hm1 hm2
          have db := Cal.dim_lo y m
          have cs := Cal.cum_succ y m hm1 hm2
          by_cases hc : m < 12 ∧ Cal.dim y m ≤ n + 719528 - Cal.dby y - Cal.cum y m
          · obtain ⟨hm, hd⟩ := hc
            go_wp2_with (go_at_call 34; refine (dim_any _ _ _).mono ?_; rintro e w' ⟨rfl, rfl⟩)
            go_round
            case rel => exact ⟨m + 1, by omega, by omega, rfl, by rw [cs]; omega, by rw [cs]; go_num⟩
            case measure => simp [intOf]; omega
          · have hv : n + 719528 - Cal.dby y - Cal.cum y m < Cal.dim y m := by
              by_cases e : m = 12
              · subst e; have := Cal.cum_succ y 12 (by omega) (by omega); have h13 : Cal.cum y (12 + 1) = 365 + Cal.lp y := rfl; omega
              · omega
            clear hc
            by_cases hm : m < 12
            all_goals
              go_wp2_with (go_at_call 34; refine (dim_any _ _ _).mono ?_; rintro e w' ⟨rfl, rfl⟩)
              exact bodyPost_ret (v := .tuple #[.agg #[.int .i64 y, .int .i64 m, .int .i64 (n + 719528 - Cal.dby y - Cal.cum y m + 1)], .bool true]) (by simp [results, Ydgm.results31, go_sem]) rfl ⟨y, m, _, rfl, vld_from n y m hy1 hy2 hr hv, num_of n y m, rfl⟩
/-- FromDays at the number of a known date. -/
theorem from_at (n y m d : Int) (w : World) (hv : Cal.vldB y m d = true) (hn : Cal.num y m d = n) :
    Calls Ydgm.prog 31 #[.int .i64 n] w fun e w' => e = .returned (.tuple #[.agg #[.int .i64 y, .int .i64 m, .int .i64 d], .bool true]) ∧ w' = w.alloc (.cells #[.int .i64 y, .int .i64 m, .int .i64 d] 23) := by
  have b := Cal.num_bd hv
  refine (from_yes n w (by omega) (by omega)).mono ?_
  rintro e w' ⟨y', m', d', rfl, hv', hn', rfl⟩
  obtain ⟨rfl, rfl, rfl⟩ := Cal.num_inj hv' hv (by omega)
  exact ⟨rfl, rfl⟩
end Go.Proofs.Ymbrdg
