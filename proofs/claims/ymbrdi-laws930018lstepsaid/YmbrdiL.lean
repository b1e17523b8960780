/-
  THE L LAWS' WALKS: ToDays against the March-based count; ToDays undoes FromDays.
-/
import Derived.Test.YmbrdiKept
import Derived.Test.YmbrdiFrom
import Derived.Test.YmbrdiDays
import Derived.Test.YmbrdiLen
import Derived.Test.YmbrdiMar
import Derived.OpenShut
namespace Go.Proofs.Ymbrdi
open Go.RowKit
set_option linter.unusedVariables false
set_option maxHeartbeats 1000000 in
theorem civil_any (y m d : Int) (w : World) (hv : Cal.vldB y m d = true) :
    Calls Ydim.prog 22 #[.int .i64 y, .int .i64 m, .int .i64 d] w fun e w' => e = .returned (.int .i64 (Cal.num y m d)) ∧ w' = w := by
  obtain ⟨hm1, hm2⟩ := Cal.vld_m hv
  obtain ⟨hy1, hy2, hd1, _⟩ := Cal.vld_of hv
  have hd2 := Cal.vld_d hv
  by_cases h : m ≤ 2
  · have E : Hid (365 * (y + 399) + (y + 399) / 4 - (y + 399) / 100 + (y + 399) / 400 + (153 * (m + 9) + 2) / 5 + d = Cal.num y m d + 865566) := Cal.mar_lo y m d hy1 hm1 h
    go_enter Ydim.func22, Ydim.ntmps22
    go_wp2
    go_ret
    exact ⟨ret_int (by have := E.out; omega), rfl⟩
  · have E : Hid (365 * (y + 400) + (y + 400) / 4 - (y + 400) / 100 + (y + 400) / 400 + (153 * (m - 3) + 2) / 5 + d = Cal.num y m d + 865566) := Cal.mar_hi y m d hy1 (by omega) hm2
    go_enter Ydim.func22, Ydim.ntmps22
    go_wp2
    go_ret
    exact ⟨ret_int (by have := E.out; omega), rfl⟩
set_option maxHeartbeats 1000000 in
theorem lExact_no (y m d : Int) (w : World) (hv : Cal.vldB y m d = false) :
    Calls Ydim.prog 11 #[.int .i64 y, .int .i64 m, .int .i64 d] w fun e w' => e = .returned (.bool true) ∧ Kept w w' := by
  have h' := Cal.vld_not hv
  by_cases c0 : y < 0
  · clear h'
    have k0 : decide (0 ≤ y) = false := by simp; omega
    go_enter Ydim.func11, Ydim.ntmps11
    go_wp2_with (first | (go_at_call 20; refine (todays_no _ _ _ _ hv).mono ?_; rintro e w' ⟨rfl, n, rfl⟩) | (go_at_call 21; refine (llen_any _ _ _).mono ?_; rintro e w' ⟨rfl, rfl⟩))
    go_ret
    exact ⟨rfl, by repeat (first | with_reducible exact kept_refl _ | with_reducible apply kept_alloc | with_reducible apply kept_drewN | with_reducible apply kept_drew | (with_reducible refine kept_setCell ?_ (by simp) _))⟩
  by_cases c1 : 9999 < y
  · clear h'
    have k1 : decide (y ≤ 9999) = false := by simp; omega
    go_enter Ydim.func11, Ydim.ntmps11
    go_wp2_with (first | (go_at_call 20; refine (todays_no _ _ _ _ hv).mono ?_; rintro e w' ⟨rfl, n, rfl⟩) | (go_at_call 21; refine (llen_any _ _ _).mono ?_; rintro e w' ⟨rfl, rfl⟩))
    go_ret
    exact ⟨rfl, by repeat (first | with_reducible exact kept_refl _ | with_reducible apply kept_alloc | with_reducible apply kept_drewN | with_reducible apply kept_drew | (with_reducible refine kept_setCell ?_ (by simp) _))⟩
  by_cases c2 : d < 1
  · clear h'
    have k2 : decide (1 ≤ d) = false := by simp; omega
    go_enter Ydim.func11, Ydim.ntmps11
    go_wp2_with (first | (go_at_call 20; refine (todays_no _ _ _ _ hv).mono ?_; rintro e w' ⟨rfl, n, rfl⟩) | (go_at_call 21; refine (llen_any _ _ _).mono ?_; rintro e w' ⟨rfl, rfl⟩))
    go_ret
    exact ⟨rfl, by repeat (first | with_reducible exact kept_refl _ | with_reducible apply kept_alloc | with_reducible apply kept_drewN | with_reducible apply kept_drew | (with_reducible refine kept_setCell ?_ (by simp) _))⟩
  · have c3 : Cal.dim y m < d := by omega
    clear h'
    have k3 : decide (d ≤ Cal.dim y m) = false := by simp; omega
    go_enter Ydim.func11, Ydim.ntmps11
    go_wp2_with (first | (go_at_call 20; refine (todays_no _ _ _ _ hv).mono ?_; rintro e w' ⟨rfl, n, rfl⟩) | (go_at_call 21; refine (llen_any _ _ _).mono ?_; rintro e w' ⟨rfl, rfl⟩))
    go_ret
    exact ⟨rfl, by repeat (first | with_reducible exact kept_refl _ | with_reducible apply kept_alloc | with_reducible apply kept_drewN | with_reducible apply kept_drew | (with_reducible refine kept_setCell ?_ (by simp) _))⟩

set_option maxHeartbeats 1000000 in
theorem lExact_yes (y m d : Int) (w : World) (hv : Cal.vldB y m d = true) :
    Calls Ydim.prog 11 #[.int .i64 y, .int .i64 m, .int .i64 d] w fun e w' => e = .returned (.bool true) ∧ Kept w w' := by
  obtain ⟨hm1, hm2⟩ := Cal.vld_m hv
  obtain ⟨hy1, hy2, hd1, hd2⟩ := Cal.vld_of hv
  go_enter Ydim.func11, Ydim.ntmps11
  go_wp2_with (first | (go_at_call 20; refine (todays_yes _ _ _ _ hv).mono ?_; rintro e w' ⟨rfl, n, rfl⟩) | (go_at_call 21; refine (llen_any _ _ _).mono ?_; rintro e w' ⟨rfl, rfl⟩) | (go_at_call 22; refine (civil_any _ _ _ _ hv).mono ?_; rintro e w' ⟨rfl, rfl⟩))
  go_ret
  exact ⟨rfl, by repeat (first | with_reducible exact kept_refl _ | with_reducible apply kept_alloc | with_reducible apply kept_drewN | with_reducible apply kept_drew | (with_reducible refine kept_setCell ?_ (by simp) _))⟩
theorem lExact_any (y m d : Int) (w : World) :
    Calls Ydim.prog 11 #[.int .i64 y, .int .i64 m, .int .i64 d] w fun e w' => e = .returned (.bool true) ∧ Kept w w' := by
  cases hv : Cal.vldB y m d
  · exact lExact_no y m d w hv
  · exact lExact_yes y m d w hv
theorem zero_no : Cal.vldB 0 0 0 = false := by decide

set_option maxHeartbeats 1000000 in
theorem lRound_near_out (n c k : Int) (w : World) (hc0 : 0 ≤ c) (hc1 : c ≤ 255) (b1 : -9223372036854775808 ≤ n) (b2 : n ≤ 9223372036854775807) (n1 : -5000000 < n) (n2 : n < 5000000) (ec : c % 26 = k) (k1 : 0 ≤ k) (k2 : k ≤ 25) (ho : n + (k - 5) * 146097 < -719528 ∨ 2932896 < n + (k - 5) * 146097) :
    Calls Ydim.prog 13 #[.int .i64 n, .int .u8 c] w fun e w' => e = .returned (.bool true) ∧ Kept w w' := by
  have z := zero_no
  have ho' : Hid (n + (k - 5) * 146097 < -719528 ∨ 2932896 < n + (k - 5) * 146097) := ho
  rcases ho with ho | ho
  all_goals
    go_enter Ydim.func13, Ydim.ntmps13
    go_wp2_with (first | (go_at_call 17; refine (from_no _ _ ho'.out).mono ?_; rintro e w' ⟨rfl, rfl⟩) | (go_at_call 20; refine (todays_no _ _ _ _ z).mono ?_; rintro e w' ⟨rfl, q, rfl⟩))
    go_ret
    exact ⟨rfl, by repeat (first | with_reducible exact kept_refl _ | with_reducible apply kept_alloc | with_reducible apply kept_drewN | with_reducible apply kept_drew | (with_reducible refine kept_setCell ?_ (by simp) _))⟩

set_option maxHeartbeats 1000000 in
theorem lRound_far_lo (n c : Int) (w : World) (hc0 : 0 ≤ c) (hc1 : c ≤ 255) (b1 : -9223372036854775808 ≤ n) (b2 : n ≤ 9223372036854775807) (n1 : n ≤ -5000000) :
    Calls Ydim.prog 13 #[.int .i64 n, .int .u8 c] w fun e w' => e = .returned (.bool true) ∧ Kept w w' := by
  have z := zero_no
  go_enter Ydim.func13, Ydim.ntmps13
  go_wp2_with (first | (go_at_call 17; refine (from_no _ _ (by omega)).mono ?_; rintro e w' ⟨rfl, rfl⟩) | (go_at_call 20; refine (todays_no _ _ _ _ z).mono ?_; rintro e w' ⟨rfl, q, rfl⟩))
  go_ret
  exact ⟨rfl, by repeat (first | with_reducible exact kept_refl _ | with_reducible apply kept_alloc | with_reducible apply kept_drewN | with_reducible apply kept_drew | (with_reducible refine kept_setCell ?_ (by simp) _))⟩
set_option maxHeartbeats 1000000 in
theorem lRound_far_hi (n c : Int) (w : World) (hc0 : 0 ≤ c) (hc1 : c ≤ 255) (b1 : -9223372036854775808 ≤ n) (b2 : n ≤ 9223372036854775807) (n1 : 5000000 ≤ n) :
    Calls Ydim.prog 13 #[.int .i64 n, .int .u8 c] w fun e w' => e = .returned (.bool true) ∧ Kept w w' := by
  have z := zero_no
  go_enter Ydim.func13, Ydim.ntmps13
  go_wp2_with (first | (go_at_call 17; refine (from_no _ _ (by omega)).mono ?_; rintro e w' ⟨rfl, rfl⟩) | (go_at_call 20; refine (todays_no _ _ _ _ z).mono ?_; rintro e w' ⟨rfl, q, rfl⟩))
  go_ret
  exact ⟨rfl, by repeat (first | with_reducible exact kept_refl _ | with_reducible apply kept_alloc | with_reducible apply kept_drewN | with_reducible apply kept_drew | (with_reducible refine kept_setCell ?_ (by simp) _))⟩

set_option maxHeartbeats 1000000 in
theorem lRound_near_in (n c k N y m d : Int) (w : World) (hc0 : 0 ≤ c) (hc1 : c ≤ 255) (n1 : -5000000 < n) (n2 : n < 5000000) (ec : c % 26 = k) (k1 : 0 ≤ k) (k2 : k ≤ 25) (eN : n + (k - 5) * 146097 = N) (hv : Cal.vldB y m d = true) (hn : Cal.num y m d = N) (N1 : -719528 ≤ N) (N2 : N ≤ 2932896) :
    Calls Ydim.prog 13 #[.int .i64 n, .int .u8 c] w fun e w' => e = .returned (.bool true) ∧ Kept w w' := by
  go_enter Ydim.func13, Ydim.ntmps13
  go_wp2_with (first | (go_at_call 17; refine (from_at _ y m d _ hv hn).mono ?_; rintro e w' ⟨rfl, rfl⟩) | (go_at_call 20; refine (todays_yes _ _ _ _ hv).mono ?_; rintro e w' ⟨rfl, q, rfl⟩))
  go_ret
  exact ⟨rfl, by repeat (first | with_reducible exact kept_refl _ | with_reducible apply kept_alloc | with_reducible apply kept_drewN | with_reducible apply kept_drew | (with_reducible refine kept_setCell ?_ (by simp) _))⟩
theorem lRound_any (n c : Int) (w : World) (hc0 : 0 ≤ c) (hc1 : c ≤ 255) (b1 : -9223372036854775808 ≤ n) (b2 : n ≤ 9223372036854775807) :
    Calls Ydim.prog 13 #[.int .i64 n, .int .u8 c] w fun e w' => e = .returned (.bool true) ∧ Kept w w' := by
  by_cases h1 : n ≤ -5000000
  · exact lRound_far_lo n c w hc0 hc1 b1 b2 h1
  by_cases h2 : 5000000 ≤ n
  · exact lRound_far_hi n c w hc0 hc1 b1 b2 h2
  by_cases ho : n + (c % 26 - 5) * 146097 < -719528 ∨ 2932896 < n + (c % 26 - 5) * 146097
  · exact lRound_near_out n c _ w hc0 hc1 b1 b2 (by omega) (by omega) rfl (by omega) (by omega) ho
  · obtain ⟨y, m, d, hv, hn⟩ := Cal.date_of (n + (c % 26 - 5) * 146097) (by omega) (by omega)
    exact lRound_near_in n c _ _ y m d w hc0 hc1 (by omega) (by omega) rfl (by omega) (by omega) rfl hv hn (by omega) (by omega)
end Go.Proofs.Ymbrdi
