/-
  THE H LAWS' WALKS, MORE: HValid whole; there and back.
-/
import Derived.Test.YmbrdhH3
namespace Go.Proofs.Ymbrdh
open Go.RowKit
set_option linter.unusedVariables false
theorem hValid_any (f : Bool) (a b c n : Int) (w : World) (n1 : -9223372036854775808 ≤ n) (n2 : n ≤ 9223372036854775807) (ha0 : 0 ≤ a) (ha1 : a ≤ 65535) (hb0 : 0 ≤ b) (hb1 : b ≤ 255) (hc0 : 0 ≤ c) (hc1 : c ≤ 255) :
    Calls Ydhm.prog 13 #[.bool f, .int .u16 a, .int .u8 b, .int .u8 c, .int .i64 n] w fun e w' => e = .returned (.bool true) ∧ Kept w w' := by
  cases f
  · have k := Cal.dim_in (a % 10000) (b % 12 + 1) (by omega) (by omega)
    have k1 := Int.emod_nonneg c (b := Cal.dim (a % 10000) (b % 12 + 1)) (by omega)
    have k2 := Int.emod_lt_of_pos c (b := Cal.dim (a % 10000) (b % 12 + 1)) (by omega)
    exact hValid_false a b c n _ (b % 12 + 1) _ w n1 n2 ha0 ha1 hb0 hb1 hc0 hc1 rfl (by omega) (by omega) (by omega) (by omega) (by omega) k.1 k.2 rfl k1 (by omega)
  · have k := Cal.dim_in (9999 - (9999 - (9999 - a % 10000))) (13 - (12 - (12 - b % 12) + 1)) (by omega) (by omega)
    have k1 := Int.emod_nonneg c (b := Cal.dim (9999 - (9999 - (9999 - a % 10000))) (13 - (12 - (12 - b % 12) + 1))) (by omega)
    have k2 := Int.emod_lt_of_pos c (b := Cal.dim (9999 - (9999 - (9999 - a % 10000))) (13 - (12 - (12 - b % 12) + 1))) (by omega)
    exact hValid_true a b c n (9999 - a % 10000) (12 - b % 12) _ w n1 n2 ha0 ha1 hb0 hb1 hc0 hc1 (by omega) (by omega) (by omega) (by omega) (by omega) (by omega) k.1 k.2 rfl k1 (by omega)
theorem lo_lo {d l L : Int} (h : d ≤ L) : Cal.lo (Cal.lo d l) L = Cal.lo d l := by unfold Cal.lo; split <;> rw [if_neg (by omega)]

set_option maxHeartbeats 2000000 in
/-- There and back, the numbers already brought into range. -/
theorem back_gt (a b c a2 b2 y m y2 m2 t d : Int) (w : World) (ha0 : 0 ≤ a) (ha1 : a ≤ 65535) (hb0 : 0 ≤ b) (hb1 : b ≤ 255) (hc0 : 0 ≤ c) (hc1 : c ≤ 255) (ha20 : 0 ≤ a2) (ha21 : a2 ≤ 65535) (hb20 : 0 ≤ b2) (hb21 : b2 ≤ 255)
    (ey : a % 10000 = y) (em : b % 12 = m - 1) (ey2 : a2 % 10000 = y2) (em2 : b2 % 12 = m2 - 1) (et : c % Cal.dim y m = t) (ed : Cal.dim y m - t = d) (t1 : 0 ≤ t) (t2 : t ≤ 30)
    (hv : Cal.vldB y m d = true) (m21 : 1 ≤ m2) (m22 : m2 ≤ 12) (y21 : 0 ≤ y2) (y22 : y2 ≤ 9999) (hl : Cal.dim y2 m2 < d) (hv2 : Cal.vldB y2 m2 (Cal.dim y2 m2) = true) (eL : Cal.lo d (Cal.dim y2 m2) = (Cal.dim y2 m2)) (eB : Cal.lo (Cal.dim y2 m2) (Cal.dim y m) = (Cal.dim y2 m2)) :
    Calls Ydhm.prog 14 #[.int .u16 a, .int .u8 b, .int .u8 c, .int .u16 a2, .int .u8 b2] w fun e w' => e = .returned (.bool true) ∧ Kept w w' := by
  obtain ⟨hm1, hm2⟩ := Cal.vld_m hv
  obtain ⟨hy1, hy2, hd1, _⟩ := Cal.vld_of hv
  have hd2 := Cal.vld_d hv
  have l := Cal.dim_in y m hm1 hm2
  obtain ⟨l1, l2⟩ := l
  go_enter Ydhm.func14, Ydhm.ntmps14
  go_wp2_with fail
  refine (hlen_any _ _ _).mono ?_
  rintro e w' ⟨rfl, rfl⟩
  go_wp2_with fail
  refine (addm_yes _ _ _ _ y2 m2 _ hv y21 y22 m21 m22 (by omega)).mono ?_
  rintro e w1 ⟨rfl, hk⟩
  go_wp2_with fail
  refine (hlen_any _ _ _).mono ?_
  rintro e w2 ⟨rfl, rfl⟩
  go_wp2_with fail
  refine (addm_yes _ _ _ _ y m _ hv2 hy1 hy2 hm1 hm2 (by omega)).mono ?_
  rintro e w3 ⟨rfl, hk2⟩
  go_wp2
  go_ret
  exact ⟨rfl, kept_alloc (kept_trans (kept_alloc hk _ _) hk2) _ _⟩

set_option maxHeartbeats 2000000 in
/-- There and back, the numbers already brought into range. -/
theorem back_le (a b c a2 b2 y m y2 m2 t d : Int) (w : World) (ha0 : 0 ≤ a) (ha1 : a ≤ 65535) (hb0 : 0 ≤ b) (hb1 : b ≤ 255) (hc0 : 0 ≤ c) (hc1 : c ≤ 255) (ha20 : 0 ≤ a2) (ha21 : a2 ≤ 65535) (hb20 : 0 ≤ b2) (hb21 : b2 ≤ 255)
    (ey : a % 10000 = y) (em : b % 12 = m - 1) (ey2 : a2 % 10000 = y2) (em2 : b2 % 12 = m2 - 1) (et : c % Cal.dim y m = t) (ed : Cal.dim y m - t = d) (t1 : 0 ≤ t) (t2 : t ≤ 30)
    (hv : Cal.vldB y m d = true) (m21 : 1 ≤ m2) (m22 : m2 ≤ 12) (y21 : 0 ≤ y2) (y22 : y2 ≤ 9999) (hl : ¬ Cal.dim y2 m2 < d) (hv2 : Cal.vldB y2 m2 d = true) (eL : Cal.lo d (Cal.dim y2 m2) = d) (eB : Cal.lo d (Cal.dim y m) = d) :
    Calls Ydhm.prog 14 #[.int .u16 a, .int .u8 b, .int .u8 c, .int .u16 a2, .int .u8 b2] w fun e w' => e = .returned (.bool true) ∧ Kept w w' := by
  obtain ⟨hm1, hm2⟩ := Cal.vld_m hv
  obtain ⟨hy1, hy2, hd1, _⟩ := Cal.vld_of hv
  have hd2 := Cal.vld_d hv
  have l := Cal.dim_in y m hm1 hm2
  obtain ⟨l1, l2⟩ := l
  go_enter Ydhm.func14, Ydhm.ntmps14
  go_wp2_with fail
  refine (hlen_any _ _ _).mono ?_
  rintro e w' ⟨rfl, rfl⟩
  go_wp2_with fail
  refine (addm_yes _ _ _ _ y2 m2 _ hv y21 y22 m21 m22 (by omega)).mono ?_
  rintro e w1 ⟨rfl, hk⟩
  go_wp2_with fail
  refine (hlen_any _ _ _).mono ?_
  rintro e w2 ⟨rfl, rfl⟩
  go_wp2_with fail
  refine (addm_yes _ _ _ _ y m _ hv2 hy1 hy2 hm1 hm2 (by omega)).mono ?_
  rintro e w3 ⟨rfl, hk2⟩
  go_wp2
  go_ret
  exact ⟨rfl, kept_alloc (kept_trans (kept_alloc hk _ _) hk2) _ _⟩

theorem back_any (a b c a2 b2 : Int) (w : World) (ha0 : 0 ≤ a) (ha1 : a ≤ 65535) (hb0 : 0 ≤ b) (hb1 : b ≤ 255) (hc0 : 0 ≤ c) (hc1 : c ≤ 255) (ha20 : 0 ≤ a2) (ha21 : a2 ≤ 65535) (hb20 : 0 ≤ b2) (hb21 : b2 ≤ 255) :
    Calls Ydhm.prog 14 #[.int .u16 a, .int .u8 b, .int .u8 c, .int .u16 a2, .int .u8 b2] w fun e w' => e = .returned (.bool true) ∧ Kept w w' := by
  have k := Cal.dim_in (a % 10000) (b % 12 + 1) (by omega) (by omega)
  have k1 := Int.emod_nonneg c (b := Cal.dim (a % 10000) (b % 12 + 1)) (by omega)
  have k2 := Int.emod_lt_of_pos c (b := Cal.dim (a % 10000) (b % 12 + 1)) (by omega)
  have l := Cal.dim_in (a2 % 10000) (b2 % 12 + 1) (by omega) (by omega)
  by_cases hl : Cal.dim (a2 % 10000) (b2 % 12 + 1) < Cal.dim (a % 10000) (b % 12 + 1) - c % Cal.dim (a % 10000) (b % 12 + 1)
  · exact back_gt a b c a2 b2 _ (b % 12 + 1) _ (b2 % 12 + 1) _ _ w ha0 ha1 hb0 hb1 hc0 hc1 ha20 ha21 hb20 hb21 rfl (by omega) rfl (by omega) rfl rfl k1 (by omega) (Cal.vld_mk (by omega)) (by omega) (by omega) (by omega) (by omega) hl (Cal.vld_mk (by omega)) (lo_gt hl) (lo_le (by omega))
  · exact back_le a b c a2 b2 _ (b % 12 + 1) _ (b2 % 12 + 1) _ _ w ha0 ha1 hb0 hb1 hc0 hc1 ha20 ha21 hb20 hb21 rfl (by omega) rfl (by omega) rfl rfl k1 (by omega) (Cal.vld_mk (by omega)) (by omega) (by omega) (by omega) (by omega) hl (Cal.vld_mk (by omega)) (lo_le hl) (lo_le (by omega))
end Go.Proofs.Ymbrdh
