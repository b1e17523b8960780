/-
  THE H LAWS' WALKS, MORE: the three laws.
-/
import Derived.Test.YmbrdhH2
namespace Go.Proofs.Ymbrdh
open Go.RowKit
set_option linter.unusedVariables false
set_option maxHeartbeats 1000000 in
/-- Both reckonings answer the same: they agree. -/
theorem agree_with (y m d n Y M L : Int) (ok : Bool) (w : World)
    (HA : Hid (∀ w, Calls Ydhm.prog 24 #[.agg #[.int .i64 y, .int .i64 m, .int .i64 d], .int .i64 n] w fun e w' => e = .returned (.tuple #[.agg #[.int .i64 Y, .int .i64 M, .int .i64 L], .bool ok]) ∧ Kept w w'))
    (HW : Hid (∀ w, Calls Ydhm.prog 28 #[.int .i64 y, .int .i64 m, .int .i64 d, .int .i64 n] w fun e w' => e = .returned (.tuple #[.int .i64 Y, .int .i64 M, .int .i64 L, .bool ok]) ∧ w' = w)) :
    Calls Ydhm.prog 22 #[.int .i64 y, .int .i64 m, .int .i64 d, .int .i64 n] w fun e w' => e = .returned (.bool true) ∧ Kept w w' := by
  go_enter Ydhm.func22, Ydhm.ntmps22
  go_wp2_with fail
  refine (HA.out _).mono ?_
  rintro e w1 ⟨rfl, hk⟩
  go_wp2_with fail
  refine (HW.out _).mono ?_
  rintro e w2 ⟨rfl, rfl⟩
  go_wp2
  all_goals
    go_ret
    exact ⟨by simp, kept_alloc hk _ _⟩
theorem agree_any (y m d n : Int) (w : World) (n1 : -9223372036854775808 ≤ n) (n2 : n ≤ 9223372036854775807) :
    Calls Ydhm.prog 22 #[.int .i64 y, .int .i64 m, .int .i64 d, .int .i64 n] w fun e w' => e = .returned (.bool true) ∧ Kept w w' := by
  cases h : Cal.vldB y m d
  · exact agree_with y m d n 0 0 0 false w (fun w => addm_no y m d n w h) (fun w => hwant_no y m d n w h)
  · obtain ⟨t, r1, r2⟩ := tdiv12 n
    obtain ⟨hm1, hm2⟩ := Cal.vld_m h
    obtain ⟨hy1, hy2, _, _⟩ := Cal.vld_of h
    by_cases o : n < -(y * 12 + m - 1) ∨ 119999 - (y * 12 + m - 1) < n
    · refine agree_with y m d n 0 0 0 false w (fun w => addm_out y m d n w h o) (fun w => ?_)
      by_cases c1 : m + n.tmod 12 < 1
      · exact hwant_out_lo y m d n _ _ w h rfl rfl (by omega) (by omega) r1 r2 c1 (by omega)
      by_cases c2 : 12 < m + n.tmod 12
      · exact hwant_out_hi y m d n _ _ w h rfl rfl (by omega) (by omega) r1 r2 c2 (by omega)
      · exact hwant_out_mid y m d n _ _ w h rfl rfl (by omega) (by omega) r1 r2 (by omega) (by omega) (by omega)
    · have e := fun w => addm_yes y m d n ((y * 12 + m - 1 + n) / 12) ((y * 12 + m - 1 + n) % 12 + 1) w h (by omega) (by omega) (by omega) (by omega) (by omega)
      refine agree_with y m d n _ _ _ true w e (fun w => ?_)
      by_cases c1 : m + n.tmod 12 < 1
      · exact hwant_yes_lo y m d n _ _ _ _ w h rfl rfl (by omega) (by omega) r1 r2 c1 (by omega) (by omega) (by omega) (by omega)
      by_cases c2 : 12 < m + n.tmod 12
      · exact hwant_yes_hi y m d n _ _ _ _ w h rfl rfl (by omega) (by omega) r1 r2 c2 (by omega) (by omega) (by omega) (by omega)
      · exact hwant_yes_mid y m d n _ _ _ _ w h rfl rfl (by omega) (by omega) r1 r2 (by omega) (by omega) (by omega) (by omega) (by omega) (by omega)
set_option maxHeartbeats 1000000 in
theorem hExact_any (y m d n : Int) (w : World) (n1 : -9223372036854775808 ≤ n) (n2 : n ≤ 9223372036854775807) :
    Calls Ydhm.prog 12 #[.int .i64 y, .int .i64 m, .int .i64 d, .int .i64 n] w fun e w' => e = .returned (.bool true) ∧ Kept w w' := by
  go_enter Ydhm.func12, Ydhm.ntmps12
  go_wp2_with fail
  refine (agree_any _ _ _ _ _ n1 n2).mono ?_
  rintro e w1 ⟨rfl, hk⟩
  go_wp2
  go_ret
  exact ⟨rfl, hk⟩
set_option maxHeartbeats 1000000 in
theorem hValid_false (a b c n y m t : Int) (w : World) (n1 : -9223372036854775808 ≤ n) (n2 : n ≤ 9223372036854775807) (ha0 : 0 ≤ a) (ha1 : a ≤ 65535) (hb0 : 0 ≤ b) (hb1 : b ≤ 255) (hc0 : 0 ≤ c) (hc1 : c ≤ 255)
    (ey : a % 10000 = y) (em : b % 12 = m - 1) (y1 : 0 ≤ y) (y2 : y ≤ 9999) (m1 : 1 ≤ m) (m2 : m ≤ 12) (l1 : 28 ≤ Cal.dim y m) (l2 : Cal.dim y m ≤ 31) (et : c % Cal.dim y m = t) (t1 : 0 ≤ t) (t2 : t ≤ 30) :
    Calls Ydhm.prog 13 #[.bool false, .int .u16 a, .int .u8 b, .int .u8 c, .int .i64 n] w fun e w' => e = .returned (.bool true) ∧ Kept w w' := by
  go_enter Ydhm.func13, Ydhm.ntmps13
  go_wp2_with (first | (go_at_call 23; refine (hlen_any _ _ _).mono ?_; rintro e w' ⟨rfl, rfl⟩) | (go_at_call 22; refine (agree_any _ _ _ _ _ n1 n2).mono ?_; rintro e w1 ⟨rfl, hk⟩))
  go_ret
  exact ⟨rfl, hk⟩
set_option maxHeartbeats 1000000 in
theorem hValid_true (a b c n y m t : Int) (w : World) (n1 : -9223372036854775808 ≤ n) (n2 : n ≤ 9223372036854775807) (ha0 : 0 ≤ a) (ha1 : a ≤ 65535) (hb0 : 0 ≤ b) (hb1 : b ≤ 255) (hc0 : 0 ≤ c) (hc1 : c ≤ 255)
    (ey : a % 10000 = 9999 - y) (em : b % 12 = 12 - m) (y1 : 0 ≤ y) (y2 : y ≤ 9999) (m1 : 1 ≤ m) (m2 : m ≤ 12) (l1 : 28 ≤ Cal.dim (9999 - (9999 - y)) (13 - (12 - m + 1))) (l2 : Cal.dim (9999 - (9999 - y)) (13 - (12 - m + 1)) ≤ 31) (et : c % Cal.dim (9999 - (9999 - y)) (13 - (12 - m + 1)) = t) (t1 : 0 ≤ t) (t2 : t ≤ 30) :
    Calls Ydhm.prog 13 #[.bool true, .int .u16 a, .int .u8 b, .int .u8 c, .int .i64 n] w fun e w' => e = .returned (.bool true) ∧ Kept w w' := by
  go_enter Ydhm.func13, Ydhm.ntmps13
  go_wp2_with (first | (go_at_call 23; refine (hlen_any _ _ _).mono ?_; rintro e w' ⟨rfl, rfl⟩) | (go_at_call 22; refine (agree_any _ _ _ _ _ n1 n2).mono ?_; rintro e w1 ⟨rfl, hk⟩))
  go_ret
  exact ⟨rfl, hk⟩
end Go.Proofs.Ymbrdh
