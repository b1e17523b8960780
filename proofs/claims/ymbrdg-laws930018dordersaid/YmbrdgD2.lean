/-
  THE D LAWS' WALKS, MORE: LawS930018DOrder.
-/
import Derived.Test.YmbrdgD
namespace Go.Proofs.Ymbrdg
open Go.RowKit
set_option linter.unusedVariables false

set_option maxHeartbeats 4000000 in
theorem dOrder_a (a b c b2 c2 : Int) (w : World) (a0 : 0 ≤ a) (a1 : a ≤ 65535) (b0 : 0 ≤ b) (b1 : b ≤ 255) (c0 : 0 ≤ c) (c1 : c ≤ 255) (b20 : 0 ≤ b2) (b21 : b2 ≤ 255) (c20 : 0 ≤ c2) (c21 : c2 ≤ 255) (y m d m2 d2 : Int)
    (ey : a % 10000 = y) (em : b % 12 = m - 1) (em2 : b2 % 12 = m2 - 1) (ed : c % Cal.dim y m = d - 1) (ed2 : c2 % Cal.dim y m2 = d2 - 1) (hv : Cal.vldB y m d = true) (hv2 : Cal.vldB y m2 d2 = true) (h : m < m2) :
    Calls Ydgm.prog 14 #[.int .u16 a, .int .u8 b, .int .u8 c, .int .u8 b2, .int .u8 c2] w fun e w' => e = .returned (.bool true) ∧ Kept w w' := by
  obtain ⟨hm1, hm2⟩ := Cal.vld_m hv
  obtain ⟨hy1, hy2, hd1, hdd⟩ := Cal.vld_of hv
  have hd2 := Cal.vld_d hv
  obtain ⟨hm21, hm22⟩ := Cal.vld_m hv2
  obtain ⟨_, _, hd21, hd22⟩ := Cal.vld_of hv2
  have hd23 := Cal.vld_d hv2
  obtain ⟨l1, l2⟩ := Cal.dim_in y m hm1 hm2
  obtain ⟨l21, l22⟩ := Cal.dim_in y m2 hm21 hm22
  obtain ⟨b3, b4⟩ := Cal.cum_bd y m hm1 hm2
  obtain ⟨b5, b6⟩ := Cal.cum_bd y m2 hm21 hm22
  have cs : Cal.cum y (m + 1) - Cal.cum y m = Cal.dim y m := by rw [Cal.cum_succ y m hm1 hm2]; omega
  have cs2 : Cal.cum y (m2 + 1) - Cal.cum y m2 = Cal.dim y m2 := by rw [Cal.cum_succ y m2 hm21 hm22]; omega
  have p := doy_t hv
  have p2 := doy_t hv2
  have c13 := Cal.cum_13 y
  have lp1 := Cal.lp_01 y
  have last := Cal.cum_last y m d hm1 hm2 hdd
  have last2 := Cal.cum_last y m2 d2 hm21 hm22 hd22
  have r := Cal.cum_lt y m m2 hm1 h (by omega)
  have n0 : Cal.cum y m + d < Cal.cum y m2 + d2 := by omega
  have n1 : (Cal.cum y m + d == Cal.cum y m2 + d2) = false := by rw [beq_dec]; simp; omega
  have n2 : (m == m2) = false := by rw [beq_dec]; simp; omega
  obtain ⟨lp2, lp3⟩ := lp1
  go_enter Ydgm.func14, Ydgm.ntmps14
  go_wp2_with fail
  refine (before_any _ _ _ hy1 hy2 (by omega) (by omega)).mono ?_
  rintro e w1 ⟨rfl, k1⟩
  go_wp2_with fail
  refine (before_any _ _ _ hy1 hy2 (by omega) (by omega)).mono ?_
  rintro e w2 ⟨rfl, k2⟩
  go_wp2_with fail
  refine (before_any _ _ _ hy1 hy2 (by omega) (by omega)).mono ?_
  rintro e w3 ⟨rfl, k3⟩
  go_wp2_with fail
  refine (before_any _ _ _ hy1 hy2 (by omega) (by omega)).mono ?_
  rintro e w4 ⟨rfl, k4⟩
  go_wp2_with fail
  refine (doy_any _ _ _ _).mono ?_
  rintro e w5 ⟨rfl, k5⟩
  go_wp2_with fail
  refine (doy_any _ _ _ _).mono ?_
  rintro e w6 ⟨rfl, k6⟩
  go_wp2_with fail
  refine (before_any _ _ _ hy1 hy2 (by omega) (by omega)).mono ?_
  rintro e w7 ⟨rfl, k7⟩
  go_wp2
  go_ret
  exact ⟨rfl, kept_trans (kept_trans (kept_trans (kept_trans (kept_trans (kept_trans k1 k2) k3) k4) k5) k6) k7⟩

set_option maxHeartbeats 4000000 in
theorem dOrder_b (a b c b2 c2 : Int) (w : World) (a0 : 0 ≤ a) (a1 : a ≤ 65535) (b0 : 0 ≤ b) (b1 : b ≤ 255) (c0 : 0 ≤ c) (c1 : c ≤ 255) (b20 : 0 ≤ b2) (b21 : b2 ≤ 255) (c20 : 0 ≤ c2) (c21 : c2 ≤ 255) (y m d m2 d2 : Int)
    (ey : a % 10000 = y) (em : b % 12 = m - 1) (em2 : b2 % 12 = m2 - 1) (ed : c % Cal.dim y m = d - 1) (ed2 : c2 % Cal.dim y m2 = d2 - 1) (hv : Cal.vldB y m d = true) (hv2 : Cal.vldB y m2 d2 = true) (h : m2 < m) :
    Calls Ydgm.prog 14 #[.int .u16 a, .int .u8 b, .int .u8 c, .int .u8 b2, .int .u8 c2] w fun e w' => e = .returned (.bool true) ∧ Kept w w' := by
  obtain ⟨hm1, hm2⟩ := Cal.vld_m hv
  obtain ⟨hy1, hy2, hd1, hdd⟩ := Cal.vld_of hv
  have hd2 := Cal.vld_d hv
  obtain ⟨hm21, hm22⟩ := Cal.vld_m hv2
  obtain ⟨_, _, hd21, hd22⟩ := Cal.vld_of hv2
  have hd23 := Cal.vld_d hv2
  obtain ⟨l1, l2⟩ := Cal.dim_in y m hm1 hm2
  obtain ⟨l21, l22⟩ := Cal.dim_in y m2 hm21 hm22
  obtain ⟨b3, b4⟩ := Cal.cum_bd y m hm1 hm2
  obtain ⟨b5, b6⟩ := Cal.cum_bd y m2 hm21 hm22
  have cs : Cal.cum y (m + 1) - Cal.cum y m = Cal.dim y m := by rw [Cal.cum_succ y m hm1 hm2]; omega
  have cs2 : Cal.cum y (m2 + 1) - Cal.cum y m2 = Cal.dim y m2 := by rw [Cal.cum_succ y m2 hm21 hm22]; omega
  have p := doy_t hv
  have p2 := doy_t hv2
  have c13 := Cal.cum_13 y
  have lp1 := Cal.lp_01 y
  have last := Cal.cum_last y m d hm1 hm2 hdd
  have last2 := Cal.cum_last y m2 d2 hm21 hm22 hd22
  have r := Cal.cum_lt y m2 m hm21 h (by omega)
  have n0 : ¬ Cal.cum y m + d < Cal.cum y m2 + d2 := by omega
  have n1 : (Cal.cum y m + d == Cal.cum y m2 + d2) = false := by rw [beq_dec]; simp; omega
  have n2 : (m == m2) = false := by rw [beq_dec]; simp; omega
  obtain ⟨lp2, lp3⟩ := lp1
  go_enter Ydgm.func14, Ydgm.ntmps14
  go_wp2_with fail
  refine (before_any _ _ _ hy1 hy2 (by omega) (by omega)).mono ?_
  rintro e w1 ⟨rfl, k1⟩
  go_wp2_with fail
  refine (before_any _ _ _ hy1 hy2 (by omega) (by omega)).mono ?_
  rintro e w2 ⟨rfl, k2⟩
  go_wp2_with fail
  refine (before_any _ _ _ hy1 hy2 (by omega) (by omega)).mono ?_
  rintro e w3 ⟨rfl, k3⟩
  go_wp2_with fail
  refine (before_any _ _ _ hy1 hy2 (by omega) (by omega)).mono ?_
  rintro e w4 ⟨rfl, k4⟩
  go_wp2_with fail
  refine (doy_any _ _ _ _).mono ?_
  rintro e w5 ⟨rfl, k5⟩
  go_wp2_with fail
  refine (doy_any _ _ _ _).mono ?_
  rintro e w6 ⟨rfl, k6⟩
  go_wp2_with fail
  refine (before_any _ _ _ hy1 hy2 (by omega) (by omega)).mono ?_
  rintro e w7 ⟨rfl, k7⟩
  go_wp2
  go_ret
  exact ⟨rfl, kept_trans (kept_trans (kept_trans (kept_trans (kept_trans (kept_trans k1 k2) k3) k4) k5) k6) k7⟩

set_option maxHeartbeats 4000000 in
theorem dOrder_c (a b c b2 c2 : Int) (w : World) (a0 : 0 ≤ a) (a1 : a ≤ 65535) (b0 : 0 ≤ b) (b1 : b ≤ 255) (c0 : 0 ≤ c) (c1 : c ≤ 255) (b20 : 0 ≤ b2) (b21 : b2 ≤ 255) (c20 : 0 ≤ c2) (c21 : c2 ≤ 255) (y m d d2 : Int)
    (ey : a % 10000 = y) (em : b % 12 = m - 1) (em2 : b2 % 12 = m - 1) (ed : c % Cal.dim y m = d - 1) (ed2 : c2 % Cal.dim y m = d2 - 1) (hv : Cal.vldB y m d = true) (hv2 : Cal.vldB y m d2 = true) (h : d < d2) :
    Calls Ydgm.prog 14 #[.int .u16 a, .int .u8 b, .int .u8 c, .int .u8 b2, .int .u8 c2] w fun e w' => e = .returned (.bool true) ∧ Kept w w' := by
  obtain ⟨hm1, hm2⟩ := Cal.vld_m hv
  obtain ⟨hy1, hy2, hd1, hdd⟩ := Cal.vld_of hv
  have hd2 := Cal.vld_d hv
  obtain ⟨hm21, hm22⟩ := Cal.vld_m hv2
  obtain ⟨_, _, hd21, hd22⟩ := Cal.vld_of hv2
  have hd23 := Cal.vld_d hv2
  obtain ⟨l1, l2⟩ := Cal.dim_in y m hm1 hm2
  obtain ⟨l21, l22⟩ := Cal.dim_in y m hm21 hm22
  obtain ⟨b3, b4⟩ := Cal.cum_bd y m hm1 hm2
  obtain ⟨b5, b6⟩ := Cal.cum_bd y m hm21 hm22
  have cs : Cal.cum y (m + 1) - Cal.cum y m = Cal.dim y m := by rw [Cal.cum_succ y m hm1 hm2]; omega
  have cs2 : Cal.cum y (m + 1) - Cal.cum y m = Cal.dim y m := by rw [Cal.cum_succ y m hm21 hm22]; omega
  have p := doy_t hv
  have p2 := doy_t hv2
  have c13 := Cal.cum_13 y
  have lp1 := Cal.lp_01 y
  have last := Cal.cum_last y m d hm1 hm2 hdd
  have last2 := Cal.cum_last y m d2 hm21 hm22 hd22
  have n0 : Cal.cum y m + d < Cal.cum y m + d2 := by omega
  have n1 : (Cal.cum y m + d == Cal.cum y m + d2) = false := by rw [beq_dec]; simp; omega
  have n2 : (d == d2) = false := by rw [beq_dec]; simp; omega
  obtain ⟨lp2, lp3⟩ := lp1
  go_enter Ydgm.func14, Ydgm.ntmps14
  go_wp2_with fail
  refine (before_any _ _ _ hy1 hy2 (by omega) (by omega)).mono ?_
  rintro e w1 ⟨rfl, k1⟩
  go_wp2_with fail
  refine (before_any _ _ _ hy1 hy2 (by omega) (by omega)).mono ?_
  rintro e w2 ⟨rfl, k2⟩
  go_wp2_with fail
  refine (before_any _ _ _ hy1 hy2 (by omega) (by omega)).mono ?_
  rintro e w3 ⟨rfl, k3⟩
  go_wp2_with fail
  refine (before_any _ _ _ hy1 hy2 (by omega) (by omega)).mono ?_
  rintro e w4 ⟨rfl, k4⟩
  go_wp2_with fail
  refine (doy_any _ _ _ _).mono ?_
  rintro e w5 ⟨rfl, k5⟩
  go_wp2_with fail
  refine (doy_any _ _ _ _).mono ?_
  rintro e w6 ⟨rfl, k6⟩
  go_wp2_with fail
  refine (before_any _ _ _ hy1 hy2 (by omega) (by omega)).mono ?_
  rintro e w7 ⟨rfl, k7⟩
  go_wp2
  go_ret
  exact ⟨rfl, kept_trans (kept_trans (kept_trans (kept_trans (kept_trans (kept_trans k1 k2) k3) k4) k5) k6) k7⟩

set_option maxHeartbeats 4000000 in
theorem dOrder_d (a b c b2 c2 : Int) (w : World) (a0 : 0 ≤ a) (a1 : a ≤ 65535) (b0 : 0 ≤ b) (b1 : b ≤ 255) (c0 : 0 ≤ c) (c1 : c ≤ 255) (b20 : 0 ≤ b2) (b21 : b2 ≤ 255) (c20 : 0 ≤ c2) (c21 : c2 ≤ 255) (y m d d2 : Int)
    (ey : a % 10000 = y) (em : b % 12 = m - 1) (em2 : b2 % 12 = m - 1) (ed : c % Cal.dim y m = d - 1) (ed2 : c2 % Cal.dim y m = d2 - 1) (hv : Cal.vldB y m d = true) (hv2 : Cal.vldB y m d2 = true) (h : d2 < d) :
    Calls Ydgm.prog 14 #[.int .u16 a, .int .u8 b, .int .u8 c, .int .u8 b2, .int .u8 c2] w fun e w' => e = .returned (.bool true) ∧ Kept w w' := by
  obtain ⟨hm1, hm2⟩ := Cal.vld_m hv
  obtain ⟨hy1, hy2, hd1, hdd⟩ := Cal.vld_of hv
  have hd2 := Cal.vld_d hv
  obtain ⟨hm21, hm22⟩ := Cal.vld_m hv2
  obtain ⟨_, _, hd21, hd22⟩ := Cal.vld_of hv2
  have hd23 := Cal.vld_d hv2
  obtain ⟨l1, l2⟩ := Cal.dim_in y m hm1 hm2
  obtain ⟨l21, l22⟩ := Cal.dim_in y m hm21 hm22
  obtain ⟨b3, b4⟩ := Cal.cum_bd y m hm1 hm2
  obtain ⟨b5, b6⟩ := Cal.cum_bd y m hm21 hm22
  have cs : Cal.cum y (m + 1) - Cal.cum y m = Cal.dim y m := by rw [Cal.cum_succ y m hm1 hm2]; omega
  have cs2 : Cal.cum y (m + 1) - Cal.cum y m = Cal.dim y m := by rw [Cal.cum_succ y m hm21 hm22]; omega
  have p := doy_t hv
  have p2 := doy_t hv2
  have c13 := Cal.cum_13 y
  have lp1 := Cal.lp_01 y
  have last := Cal.cum_last y m d hm1 hm2 hdd
  have last2 := Cal.cum_last y m d2 hm21 hm22 hd22
  have n0 : ¬ Cal.cum y m + d < Cal.cum y m + d2 := by omega
  have n1 : (Cal.cum y m + d == Cal.cum y m + d2) = false := by rw [beq_dec]; simp; omega
  have n2 : (d == d2) = false := by rw [beq_dec]; simp; omega
  obtain ⟨lp2, lp3⟩ := lp1
  go_enter Ydgm.func14, Ydgm.ntmps14
  go_wp2_with fail
  refine (before_any _ _ _ hy1 hy2 (by omega) (by omega)).mono ?_
  rintro e w1 ⟨rfl, k1⟩
  go_wp2_with fail
  refine (before_any _ _ _ hy1 hy2 (by omega) (by omega)).mono ?_
  rintro e w2 ⟨rfl, k2⟩
  go_wp2_with fail
  refine (before_any _ _ _ hy1 hy2 (by omega) (by omega)).mono ?_
  rintro e w3 ⟨rfl, k3⟩
  go_wp2_with fail
  refine (before_any _ _ _ hy1 hy2 (by omega) (by omega)).mono ?_
  rintro e w4 ⟨rfl, k4⟩
  go_wp2_with fail
  refine (doy_any _ _ _ _).mono ?_
  rintro e w5 ⟨rfl, k5⟩
  go_wp2_with fail
  refine (doy_any _ _ _ _).mono ?_
  rintro e w6 ⟨rfl, k6⟩
  go_wp2_with fail
  refine (before_any _ _ _ hy1 hy2 (by omega) (by omega)).mono ?_
  rintro e w7 ⟨rfl, k7⟩
  go_wp2
  go_ret
  exact ⟨rfl, kept_trans (kept_trans (kept_trans (kept_trans (kept_trans (kept_trans k1 k2) k3) k4) k5) k6) k7⟩

set_option maxHeartbeats 4000000 in
theorem dOrder_e (a b c b2 c2 : Int) (w : World) (a0 : 0 ≤ a) (a1 : a ≤ 65535) (b0 : 0 ≤ b) (b1 : b ≤ 255) (c0 : 0 ≤ c) (c1 : c ≤ 255) (b20 : 0 ≤ b2) (b21 : b2 ≤ 255) (c20 : 0 ≤ c2) (c21 : c2 ≤ 255) (y m d : Int)
    (ey : a % 10000 = y) (em : b % 12 = m - 1) (em2 : b2 % 12 = m - 1) (ed : c % Cal.dim y m = d - 1) (ed2 : c2 % Cal.dim y m = d - 1) (hv : Cal.vldB y m d = true) (hv2 : Cal.vldB y m d = true)  :
    Calls Ydgm.prog 14 #[.int .u16 a, .int .u8 b, .int .u8 c, .int .u8 b2, .int .u8 c2] w fun e w' => e = .returned (.bool true) ∧ Kept w w' := by
  obtain ⟨hm1, hm2⟩ := Cal.vld_m hv
  obtain ⟨hy1, hy2, hd1, hdd⟩ := Cal.vld_of hv
  have hd2 := Cal.vld_d hv
  obtain ⟨hm21, hm22⟩ := Cal.vld_m hv2
  obtain ⟨_, _, hd21, hd22⟩ := Cal.vld_of hv2
  have hd23 := Cal.vld_d hv2
  obtain ⟨l1, l2⟩ := Cal.dim_in y m hm1 hm2
  obtain ⟨l21, l22⟩ := Cal.dim_in y m hm21 hm22
  obtain ⟨b3, b4⟩ := Cal.cum_bd y m hm1 hm2
  obtain ⟨b5, b6⟩ := Cal.cum_bd y m hm21 hm22
  have cs : Cal.cum y (m + 1) - Cal.cum y m = Cal.dim y m := by rw [Cal.cum_succ y m hm1 hm2]; omega
  have cs2 : Cal.cum y (m + 1) - Cal.cum y m = Cal.dim y m := by rw [Cal.cum_succ y m hm21 hm22]; omega
  have p := doy_t hv
  have p2 := doy_t hv2
  have c13 := Cal.cum_13 y
  have lp1 := Cal.lp_01 y
  have last := Cal.cum_last y m d hm1 hm2 hdd
  have last2 := Cal.cum_last y m d hm21 hm22 hd22

  obtain ⟨lp2, lp3⟩ := lp1
  go_enter Ydgm.func14, Ydgm.ntmps14
  go_wp2_with fail
  refine (before_any _ _ _ hy1 hy2 (by omega) (by omega)).mono ?_
  rintro e w1 ⟨rfl, k1⟩
  go_wp2_with fail
  refine (before_any _ _ _ hy1 hy2 (by omega) (by omega)).mono ?_
  rintro e w2 ⟨rfl, k2⟩
  go_wp2_with fail
  refine (before_any _ _ _ hy1 hy2 (by omega) (by omega)).mono ?_
  rintro e w3 ⟨rfl, k3⟩
  go_wp2_with fail
  refine (before_any _ _ _ hy1 hy2 (by omega) (by omega)).mono ?_
  rintro e w4 ⟨rfl, k4⟩
  go_wp2_with fail
  refine (doy_any _ _ _ _).mono ?_
  rintro e w5 ⟨rfl, k5⟩
  go_wp2_with fail
  refine (doy_any _ _ _ _).mono ?_
  rintro e w6 ⟨rfl, k6⟩
  go_wp2_with fail
  refine (before_any _ _ _ hy1 hy2 (by omega) (by omega)).mono ?_
  rintro e w7 ⟨rfl, k7⟩
  go_wp2
  go_ret
  exact ⟨rfl, kept_trans (kept_trans (kept_trans (kept_trans (kept_trans (kept_trans k1 k2) k3) k4) k5) k6) k7⟩

theorem dOrder_any (a b c b2 c2 : Int) (w : World) (a0 : 0 ≤ a) (a1 : a ≤ 65535) (b0 : 0 ≤ b) (b1 : b ≤ 255) (c0 : 0 ≤ c) (c1 : c ≤ 255) (b20 : 0 ≤ b2) (b21 : b2 ≤ 255) (c20 : 0 ≤ c2) (c21 : c2 ≤ 255) :
    Calls Ydgm.prog 14 #[.int .u16 a, .int .u8 b, .int .u8 c, .int .u8 b2, .int .u8 c2] w fun e w' => e = .returned (.bool true) ∧ Kept w w' := by
  obtain ⟨y, ey⟩ : ∃ y, a % 10000 = y := ⟨_, rfl⟩
  obtain ⟨m, em⟩ : ∃ m, b % 12 = m - 1 := ⟨b % 12 + 1, by omega⟩
  obtain ⟨m2, em2⟩ : ∃ m, b2 % 12 = m - 1 := ⟨b2 % 12 + 1, by omega⟩
  have k := Cal.dim_in y m (by omega) (by omega)
  have k1 := Int.emod_nonneg c (b := Cal.dim y m) (by omega)
  have k2 := Int.emod_lt_of_pos c (b := Cal.dim y m) (by omega)
  have l := Cal.dim_in y m2 (by omega) (by omega)
  have l1 := Int.emod_nonneg c2 (b := Cal.dim y m2) (by omega)
  have l2 := Int.emod_lt_of_pos c2 (b := Cal.dim y m2) (by omega)
  obtain ⟨d, ed⟩ : ∃ d, c % Cal.dim y m = d - 1 := ⟨c % Cal.dim y m + 1, by omega⟩
  obtain ⟨d2, ed2⟩ : ∃ d, c2 % Cal.dim y m2 = d - 1 := ⟨c2 % Cal.dim y m2 + 1, by omega⟩
  have hv : Cal.vldB y m d = true := Cal.vld_mk (by omega)
  have hv2 : Cal.vldB y m2 d2 = true := Cal.vld_mk (by omega)
  by_cases h1 : m < m2
  · exact dOrder_a a b c b2 c2 w a0 a1 b0 b1 c0 c1 b20 b21 c20 c21 y m d m2 d2 ey em em2 ed ed2 hv hv2 h1
  by_cases h2 : m2 < m
  · exact dOrder_b a b c b2 c2 w a0 a1 b0 b1 c0 c1 b20 b21 c20 c21 y m d m2 d2 ey em em2 ed ed2 hv hv2 h2
  obtain rfl : m = m2 := by omega
  by_cases h3 : d < d2
  · exact dOrder_c a b c b2 c2 w a0 a1 b0 b1 c0 c1 b20 b21 c20 c21 y m d d2 ey em em2 ed ed2 hv hv2 h3
  by_cases h4 : d2 < d
  · exact dOrder_d a b c b2 c2 w a0 a1 b0 b1 c0 c1 b20 b21 c20 c21 y m d d2 ey em em2 ed ed2 hv hv2 h4
  obtain rfl : d = d2 := by omega
  exact dOrder_e a b c b2 c2 w a0 a1 b0 b1 c0 c1 b20 b21 c20 c21 y m d ey em em2 ed ed2 hv hv2
end Go.Proofs.Ymbrdg
