/-
  THE E LAWS' WALKS, MORE: LawS930018EDate, LawS930018ENext.
-/
import Derived.Test.YmbrdhE
namespace Go.Proofs.Ymbrdh
open Go.RowKit
set_option maxHeartbeats 1000000 in
/-- EDate with the numbers already brought into range. -/
theorem eDate_core (a b c y m d : Int) (w : World) (ha0 : 0 ≤ a) (ha1 : a ≤ 65535) (hb0 : 0 ≤ b) (hb1 : b ≤ 255) (hc0 : 0 ≤ c) (hc1 : c ≤ 255)
    (ey : (a + 1896) % 10000 = y) (em : b % 12 = m - 1) (ed : c % Cal.dim y m = d - 1) (hv : Cal.vldB y m d = true) :
    Calls Ydhm.prog 3 #[.int .u16 a, .int .u8 b, .int .u8 c] w fun e w' => e = .returned (.bool true) ∧ Grown w w' := by
  obtain ⟨hm1, hm2⟩ := Cal.vld_m hv
  obtain ⟨hy1, hy2, hd1, _⟩ := Cal.vld_of hv
  have hd2 := Cal.vld_d hv
  obtain ⟨l1, l2⟩ := Cal.dim_in y m hm1 hm2
  obtain ⟨n1, n2⟩ := Cal.num_bd hv
  go_enter Ydhm.func3, Ydhm.ntmps3
  go_wp2_with (first | (go_at_call 15; refine (elen_any _ _ _ hm1 hm2).mono ?_; rintro e w' ⟨rfl, rfl⟩) | (go_at_call 17; refine (enumber_any _ _ _ _ hv).mono ?_; rintro e w' ⟨rfl, rfl⟩) | (go_at_call 16; refine (from_at _ y m d _ hv rfl).mono ?_; rintro e w' ⟨rfl, rfl⟩))
  go_ret
  exact ⟨rfl, by repeat (first | exact Grown.refl _ | apply grown_drewN | apply Grown.drew | apply Grown.alloc)⟩
theorem eDate_any (a b c : Int) (w : World) (ha0 : 0 ≤ a) (ha1 : a ≤ 65535) (hb0 : 0 ≤ b) (hb1 : b ≤ 255) (hc0 : 0 ≤ c) (hc1 : c ≤ 255) :
    Calls Ydhm.prog 3 #[.int .u16 a, .int .u8 b, .int .u8 c] w fun e w' => e = .returned (.bool true) ∧ Grown w w' := by
  have k := Cal.dim_in ((a + 1896) % 10000) (b % 12 + 1) (by omega) (by omega)
  have k1 := Int.emod_nonneg c (b := Cal.dim ((a + 1896) % 10000) (b % 12 + 1)) (by omega)
  have k2 := Int.emod_lt_of_pos c (b := Cal.dim ((a + 1896) % 10000) (b % 12 + 1)) (by omega)
  exact eDate_core a b c ((a + 1896) % 10000) (b % 12 + 1) (c % Cal.dim ((a + 1896) % 10000) (b % 12 + 1) + 1) w ha0 ha1 hb0 hb1 hc0 hc1 rfl (by omega) (by omega) (Cal.vld_mk (by omega))

set_option maxHeartbeats 4000000 in
theorem eNext_hi (n t r y m d : Int) (w : World) (ht : n.tmod 3652424 = t) (t1 : -3652424 < t) (t2 : t < 3652424) (c : 2932895 < t) (hr : t - 3652424 = r) (hv : Cal.vldB y m d = true) (hn : Cal.num y m d = r) :
    Calls Ydhm.prog 5 #[.int .i64 n] w fun e w' => e = .returned (.bool true) ∧ Grown w w' := by
  obtain ⟨hm1, hm2⟩ := Cal.vld_m hv
  obtain ⟨hy1, hy2, hd1, hdd⟩ := Cal.vld_of hv
  have hd2 := Cal.vld_d hv
  have r1 : -719528 ≤ r := by omega
  have r2 : r ≤ 2932895 := by omega
  by_cases k : d < Cal.dim y m
  · obtain ⟨hv2, hn2⟩ := Cal.next_d hv k
    rw [hn] at hn2
    go_enter Ydhm.func5, Ydhm.ntmps5
    go_wp2_with fail
    refine (from_at _ y m d _ hv hn).mono ?_
    rintro e w' ⟨rfl, rfl⟩
    go_wp2_with fail
    refine (from_at _ y m (d + 1) _ hv2 hn2).mono ?_
    rintro e w' ⟨rfl, rfl⟩
    go_wp2_with fail
    go_quiet ((go_at_call 15; exact Calls.quiet_of_same (elen_any _ _ _ hm1 hm2)))
    go_wp2
    go_ret
    exact ⟨rfl, by repeat (first | exact Grown.refl _ | apply grown_drewN | apply Grown.drew | apply Grown.alloc)⟩
  by_cases l : m < 12
  · obtain ⟨hv2, hn2⟩ := Cal.next_m hv (by omega) l
    rw [hn] at hn2
    go_enter Ydhm.func5, Ydhm.ntmps5
    go_wp2_with fail
    refine (from_at _ y m d _ hv hn).mono ?_
    rintro e w' ⟨rfl, rfl⟩
    go_wp2_with fail
    refine (from_at _ y (m + 1) 1 _ hv2 hn2).mono ?_
    rintro e w' ⟨rfl, rfl⟩
    go_wp2_with fail
    go_quiet ((go_at_call 15; exact Calls.quiet_of_same (elen_any _ _ _ hm1 hm2)))
    go_wp2
    go_ret
    exact ⟨rfl, by repeat (first | exact Grown.refl _ | apply grown_drewN | apply Grown.drew | apply Grown.alloc)⟩
  · obtain ⟨hn2, hv2'⟩ := Cal.next_y hv (by omega) (by omega)
    rw [hn] at hn2
    have hv2 : Cal.vldB (y + 1) 1 1 = true := by
      refine hv2' ?_
      by_cases e : y = 9999
      · subst e
        have : Cal.num (9999 + 1) 1 1 = 2932897 := rfl
        omega
      · omega
    clear hv2'
    obtain rfl : m = 12 := by omega
    go_enter Ydhm.func5, Ydhm.ntmps5
    go_wp2_with fail
    refine (from_at _ y 12 d _ hv hn).mono ?_
    rintro e w' ⟨rfl, rfl⟩
    go_wp2_with fail
    refine (from_at _ (y + 1) 1 1 _ hv2 hn2).mono ?_
    rintro e w' ⟨rfl, rfl⟩
    go_wp2_with fail
    go_quiet ((go_at_call 15; exact Calls.quiet_of_same (elen_any _ _ _ hm1 hm2)))
    go_wp2
    go_ret
    exact ⟨rfl, by repeat (first | exact Grown.refl _ | apply grown_drewN | apply Grown.drew | apply Grown.alloc)⟩

set_option maxHeartbeats 4000000 in
theorem eNext_lo (n t r y m d : Int) (w : World) (ht : n.tmod 3652424 = t) (t1 : -3652424 < t) (t2 : t < 3652424) (c : t < -719528) (hr : t + 3652424 = r) (hv : Cal.vldB y m d = true) (hn : Cal.num y m d = r) :
    Calls Ydhm.prog 5 #[.int .i64 n] w fun e w' => e = .returned (.bool true) ∧ Grown w w' := by
  obtain ⟨hm1, hm2⟩ := Cal.vld_m hv
  obtain ⟨hy1, hy2, hd1, hdd⟩ := Cal.vld_of hv
  have hd2 := Cal.vld_d hv
  have r1 : -719528 ≤ r := by omega
  have r2 : r ≤ 2932895 := by omega
  by_cases k : d < Cal.dim y m
  · obtain ⟨hv2, hn2⟩ := Cal.next_d hv k
    rw [hn] at hn2
    go_enter Ydhm.func5, Ydhm.ntmps5
    go_wp2_with fail
    refine (from_at _ y m d _ hv hn).mono ?_
    rintro e w' ⟨rfl, rfl⟩
    go_wp2_with fail
    refine (from_at _ y m (d + 1) _ hv2 hn2).mono ?_
    rintro e w' ⟨rfl, rfl⟩
    go_wp2_with fail
    go_quiet ((go_at_call 15; exact Calls.quiet_of_same (elen_any _ _ _ hm1 hm2)))
    go_wp2
    go_ret
    exact ⟨rfl, by repeat (first | exact Grown.refl _ | apply grown_drewN | apply Grown.drew | apply Grown.alloc)⟩
  by_cases l : m < 12
  · obtain ⟨hv2, hn2⟩ := Cal.next_m hv (by omega) l
    rw [hn] at hn2
    go_enter Ydhm.func5, Ydhm.ntmps5
    go_wp2_with fail
    refine (from_at _ y m d _ hv hn).mono ?_
    rintro e w' ⟨rfl, rfl⟩
    go_wp2_with fail
    refine (from_at _ y (m + 1) 1 _ hv2 hn2).mono ?_
    rintro e w' ⟨rfl, rfl⟩
    go_wp2_with fail
    go_quiet ((go_at_call 15; exact Calls.quiet_of_same (elen_any _ _ _ hm1 hm2)))
    go_wp2
    go_ret
    exact ⟨rfl, by repeat (first | exact Grown.refl _ | apply grown_drewN | apply Grown.drew | apply Grown.alloc)⟩
  · obtain ⟨hn2, hv2'⟩ := Cal.next_y hv (by omega) (by omega)
    rw [hn] at hn2
    have hv2 : Cal.vldB (y + 1) 1 1 = true := by
      refine hv2' ?_
      by_cases e : y = 9999
      · subst e
        have : Cal.num (9999 + 1) 1 1 = 2932897 := rfl
        omega
      · omega
    clear hv2'
    obtain rfl : m = 12 := by omega
    go_enter Ydhm.func5, Ydhm.ntmps5
    go_wp2_with fail
    refine (from_at _ y 12 d _ hv hn).mono ?_
    rintro e w' ⟨rfl, rfl⟩
    go_wp2_with fail
    refine (from_at _ (y + 1) 1 1 _ hv2 hn2).mono ?_
    rintro e w' ⟨rfl, rfl⟩
    go_wp2_with fail
    go_quiet ((go_at_call 15; exact Calls.quiet_of_same (elen_any _ _ _ hm1 hm2)))
    go_wp2
    go_ret
    exact ⟨rfl, by repeat (first | exact Grown.refl _ | apply grown_drewN | apply Grown.drew | apply Grown.alloc)⟩

set_option maxHeartbeats 4000000 in
theorem eNext_mid (n t y m d : Int) (w : World) (ht : n.tmod 3652424 = t) (t1 : -3652424 < t) (t2 : t < 3652424) (c1 : -719528 ≤ t) (c2 : t ≤ 2932895)  (hv : Cal.vldB y m d = true) (hn : Cal.num y m d = t) :
    Calls Ydhm.prog 5 #[.int .i64 n] w fun e w' => e = .returned (.bool true) ∧ Grown w w' := by
  obtain ⟨hm1, hm2⟩ := Cal.vld_m hv
  obtain ⟨hy1, hy2, hd1, hdd⟩ := Cal.vld_of hv
  have hd2 := Cal.vld_d hv
  have r1 : -719528 ≤ t := by omega
  have r2 : t ≤ 2932895 := by omega
  by_cases k : d < Cal.dim y m
  · obtain ⟨hv2, hn2⟩ := Cal.next_d hv k
    rw [hn] at hn2
    go_enter Ydhm.func5, Ydhm.ntmps5
    go_wp2_with fail
    refine (from_at _ y m d _ hv hn).mono ?_
    rintro e w' ⟨rfl, rfl⟩
    go_wp2_with fail
    refine (from_at _ y m (d + 1) _ hv2 hn2).mono ?_
    rintro e w' ⟨rfl, rfl⟩
    go_wp2_with fail
    go_quiet ((go_at_call 15; exact Calls.quiet_of_same (elen_any _ _ _ hm1 hm2)))
    go_wp2
    go_ret
    exact ⟨rfl, by repeat (first | exact Grown.refl _ | apply grown_drewN | apply Grown.drew | apply Grown.alloc)⟩
  by_cases l : m < 12
  · obtain ⟨hv2, hn2⟩ := Cal.next_m hv (by omega) l
    rw [hn] at hn2
    go_enter Ydhm.func5, Ydhm.ntmps5
    go_wp2_with fail
    refine (from_at _ y m d _ hv hn).mono ?_
    rintro e w' ⟨rfl, rfl⟩
    go_wp2_with fail
    refine (from_at _ y (m + 1) 1 _ hv2 hn2).mono ?_
    rintro e w' ⟨rfl, rfl⟩
    go_wp2_with fail
    go_quiet ((go_at_call 15; exact Calls.quiet_of_same (elen_any _ _ _ hm1 hm2)))
    go_wp2
    go_ret
    exact ⟨rfl, by repeat (first | exact Grown.refl _ | apply grown_drewN | apply Grown.drew | apply Grown.alloc)⟩
  · obtain ⟨hn2, hv2'⟩ := Cal.next_y hv (by omega) (by omega)
    rw [hn] at hn2
    have hv2 : Cal.vldB (y + 1) 1 1 = true := by
      refine hv2' ?_
      by_cases e : y = 9999
      · subst e
        have : Cal.num (9999 + 1) 1 1 = 2932897 := rfl
        omega
      · omega
    clear hv2'
    obtain rfl : m = 12 := by omega
    go_enter Ydhm.func5, Ydhm.ntmps5
    go_wp2_with fail
    refine (from_at _ y 12 d _ hv hn).mono ?_
    rintro e w' ⟨rfl, rfl⟩
    go_wp2_with fail
    refine (from_at _ (y + 1) 1 1 _ hv2 hn2).mono ?_
    rintro e w' ⟨rfl, rfl⟩
    go_wp2_with fail
    go_quiet ((go_at_call 15; exact Calls.quiet_of_same (elen_any _ _ _ hm1 hm2)))
    go_wp2
    go_ret
    exact ⟨rfl, by repeat (first | exact Grown.refl _ | apply grown_drewN | apply Grown.drew | apply Grown.alloc)⟩

theorem eNext_any (n : Int) (w : World) :
    Calls Ydhm.prog 5 #[.int .i64 n] w fun e w' => e = .returned (.bool true) ∧ Grown w w' := by
  obtain ⟨t1, t2⟩ := tmod_bd n 3652424 (by decide)
  by_cases c : 2932895 < n.tmod 3652424
  · obtain ⟨y, m, d, hv, hn⟩ := Cal.date_of (n.tmod 3652424 - 3652424) (by omega) (by omega)
    exact eNext_hi n _ _ y m d w rfl t1 t2 c rfl hv hn
  by_cases c2 : n.tmod 3652424 < -719528
  · obtain ⟨y, m, d, hv, hn⟩ := Cal.date_of (n.tmod 3652424 + 3652424) (by omega) (by omega)
    exact eNext_lo n _ _ y m d w rfl t1 t2 c2 rfl hv hn
  · obtain ⟨y, m, d, hv, hn⟩ := Cal.date_of (n.tmod 3652424) (by omega) (by omega)
    exact eNext_mid n _ y m d w rfl t1 t2 (by omega) (by omega) hv hn
end Go.Proofs.Ymbrdh
