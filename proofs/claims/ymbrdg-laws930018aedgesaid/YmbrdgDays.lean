/-
  THE CONTRACTS of DayOfYear, ToDays.
-/
import Derived.Test.YmbrdgBase
namespace Go.Proofs.Ymbrdg
open Go.RowKit
/-- The block in which a date handed over by value lies. -/
abbrev DB (y m d : Int) : Obj := .cells #[.int .i64 y, .int .i64 m, .int .i64 d] 23
theorem ret_ib {k : IntKind} {a b : Int} {c : Bool} (h : a = b) : Ending.returned (.tuple #[.int k a, .bool c]) = .returned (.tuple #[.int k b, .bool c]) := by rw [h]
/-- The position in the year, 0 if there is no such day. -/
def Cal.doy (y m d : Int) : Int := if Cal.vldB y m d then Cal.cum y m + d else 0
theorem doy_t {y m d : Int} (h : Cal.vldB y m d = true) : Cal.doy y m d = Cal.cum y m + d := by unfold Cal.doy; simp [h]
theorem doy_f {y m d : Int} (h : Cal.vldB y m d = false) : Cal.doy y m d = 0 := by unfold Cal.doy; simp [h]
set_option maxHeartbeats 1000000 in
theorem doy_no (y m d : Int) (w : World) (h : Cal.vldB y m d = false) :
    Calls Ydgm.prog 27 #[.agg #[.int .i64 y, .int .i64 m, .int .i64 d]] w fun e w' => e = .returned (.int .i64 0) ∧ ∃ n, w' = ((w.alloc (DB y m d)).alloc (DB y m d)).drewN n := by
  go_enter Ydgm.func27, Ydgm.ntmps27
  go_wp2_with (go_at_call 32; refine (valid_any _ _ _ _).mono ?_; rintro e w' ⟨rfl, n, rfl⟩)
  go_ret
  exact ⟨rfl, n, rfl⟩
set_option maxHeartbeats 1000000 in
theorem doy_yes (y m d : Int) (w : World) (h : Cal.vldB y m d = true) :
    Calls Ydgm.prog 27 #[.agg #[.int .i64 y, .int .i64 m, .int .i64 d]] w fun e w' => e = .returned (.int .i64 (Cal.cum y m + d)) ∧ ∃ n, w' = ((w.alloc (DB y m d)).alloc (DB y m d)).drewN n := by
  obtain ⟨hy1, hy2, hd1, hd2⟩ := Cal.vld_of h
  obtain ⟨hm1, hm2⟩ := Cal.month_of y m d hd1 hd2
  have hd3 : d ≤ 31 := by have := (Cal.dim_in y m hm1 hm2).2; omega
  clear hd2
  go_enter Ydgm.func27, Ydgm.ntmps27
  go_wp2_with (go_at_call 32; refine (valid_any _ _ _ _).mono ?_; rintro e w' ⟨rfl, n, rfl⟩)
  go_loop [3, 4] (fun t k => ∃ j : Int, 1 ≤ j ∧ j ≤ m ∧ k = .int .i64 j ∧ t = .int .i64 (d + Cal.cum y j)) (fun _ k => (m - intOf k).toNat)
  case atStart => exact ⟨1, by omega, by omega, rfl, by simp [Cal.cum]⟩
  case round =>
    obtain ⟨j, hj1, hj2, rfl, rfl⟩ := hrel
    obtain ⟨c1, c2⟩ := Cal.cum_bd y j hj1 (by omega)
    obtain ⟨b1, b2⟩ := Cal.dim_lo y j
    by_cases hlt : j < m
    · have CS : Hid (Cal.cum y (j + 1) = Cal.cum y j + Cal.dim y j) := Cal.cum_succ y j hj1 (by omega)
      go_wp2_with (go_at_call 34; refine (dim_any _ _ _).mono ?_; rintro e w' ⟨rfl, rfl⟩)
      go_round
      case rel => exact ⟨j + 1, by omega, by omega, rfl, by rw [CS.out]; go_num⟩
      case measure => simp [intOf]; omega
    · go_wp2
      go_ret
      exact ⟨ret_int (by rw [show j = m by omega]; omega), n, rfl⟩
set_option maxHeartbeats 1000000 in
theorem todays_no (y m d : Int) (w : World) (h : Cal.vldB y m d = false) :
    Calls Ydgm.prog 30 #[.agg #[.int .i64 y, .int .i64 m, .int .i64 d]] w fun e w' => e = .returned (.tuple #[.int .i64 0, .bool false]) ∧ ∃ n, w' = (((w.alloc (DB y m d)).alloc (DB y m d)).alloc (DB y m d)).drewN n := by
  go_enter Ydgm.func30, Ydgm.ntmps30
  go_wp2_with (go_at_call 27; refine (doy_no _ _ _ _ h).mono ?_; rintro e w' ⟨rfl, n, rfl⟩)
  go_ret2
  exact ⟨rfl, n, rfl⟩
set_option maxHeartbeats 1000000 in
theorem todays_yes (y m d : Int) (w : World) (h : Cal.vldB y m d = true) :
    Calls Ydgm.prog 30 #[.agg #[.int .i64 y, .int .i64 m, .int .i64 d]] w fun e w' => e = .returned (.tuple #[.int .i64 (Cal.num y m d), .bool true]) ∧ ∃ n, w' = (((w.alloc (DB y m d)).alloc (DB y m d)).alloc (DB y m d)).drewN n := by
  obtain ⟨hy1, hy2, hd1, hd2⟩ := Cal.vld_of h
  obtain ⟨hm1, hm2⟩ := Cal.month_of y m d hd1 hd2
  have hd3 : d ≤ 31 := by have := (Cal.dim_in y m hm1 hm2).2; omega
  obtain ⟨c1, c2⟩ := Cal.cum_bd y m hm1 hm2
  obtain ⟨b1, b2⟩ := Cal.dby_bd y hy1 (by omega)
  clear hd2
  go_enter Ydgm.func30, Ydgm.ntmps30
  go_wp2_with (first | (go_at_call 27; refine (doy_yes _ _ _ _ h).mono ?_; rintro e w' ⟨rfl, n, rfl⟩) | (go_at_call 35; refine (dby_any _ _ hy1 (by omega)).mono ?_; rintro e w' ⟨rfl, rfl⟩))
  go_ret2
  exact ⟨ret_ib (by unfold Cal.num; omega), n, rfl⟩
end Go.Proofs.Ymbrdg
