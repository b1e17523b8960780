/-
  THE K LAWS' WALKS, MORE: LawS930018KDayNumber.
-/
import Derived.Test.YmbrdiK4
namespace Go.Proofs.Ymbrdi
open Go.RowKit
set_option linter.unusedVariables false
theorem wday_off {N u t i : Int} (u1 : 1 ≤ u) (u2 : u ≤ 7) (et : (u - Cal.wday N + 7) % 7 = t) (i1 : 0 ≤ i) (i2 : i ≤ 6) : (i = t → Cal.wday (N + i) = u) ∧ (i < t → (Cal.wday (N + i) != u) = true) := by
  refine ⟨fun h => ?_, fun h => ?_⟩
  · subst h; unfold Cal.wday at *; omega
  · have : Cal.wday (N + i) ≠ u := by unfold Cal.wday at *; omega
    simpa using this

set_option maxHeartbeats 2000000 in
theorem kday_false_yes (x c p v u N t y m d : Int) (Y M D : Int) (w : World) (x0 : 0 ≤ x) (x1 : x ≤ 4294967295) (c0 : 0 ≤ c) (c1 : c ≤ 255) (ep : x % 3652425 = p) (p0 : 0 ≤ p) (p1 : p ≤ 3652424) (eN : -719528 + p = N) (N1 : -719528 ≤ N) (N2 : N ≤ 2932896) (ev : c % 7 = v) (eu : 1 + v = u) (u1 : 1 ≤ u) (u2 : u ≤ 7) (v1 : 0 ≤ v) (v2 : v ≤ 6)
    (et : Hid ((u - Cal.wday N + 7) % 7 = t)) (t1 : 0 ≤ t) (t2 : t ≤ 6) (hv : Cal.vldB y m d = true) (hn : Cal.num y m d = N) (h2 : Cal.vldB Y M D = true) (hn2 : Cal.num Y M D = N + t) (HN : Hid (NwAt y m d u Y M D true)) (tt : N + t ≤ 2932896) :
    Calls Ydim.prog 10 #[.bool false, .int .u32 x, .int .u8 c] w fun e w' => e = .returned (.bool true) ∧ Kept w w' := by
  go_enter Ydim.func10, Ydim.ntmps10
  go_wp2_with (go_at_call 17; refine (from_at _ y m d _ hv hn).mono ?_; rintro e w' ⟨rfl, rfl⟩)
  go_loop [12] (fun k => ∃ i : Int, 0 ≤ i ∧ i ≤ t ∧ k = .int .i64 (N + i)) (fun k => (N + 7 - intOf k).toNat)
  case atStart => exact ⟨0, by omega, by omega, by simp⟩
  case round =>
    obtain ⟨i, i1, i2, rfl⟩ := hrel
    have F := wday_off u1 u2 et.out i1 (by omega)
    by_cases hlt : i < t
    · have hne := F.2 hlt
      clear F
      go_wp2_with (go_at_call 14; refine (week_any _ _).mono ?_; rintro e w' ⟨rfl, rfl⟩)
      go_round
      case rel => exact ⟨i + 1, by omega, by omega, by go_num⟩
      case measure => simp [intOf]; omega
    · obtain rfl : i = t := by omega
      have heq := F.1 rfl
      clear F hlt
      go_wp2_with (go_at_call 14; refine (week_any _ _).mono ?_; rintro e w' ⟨rfl, rfl⟩)
      refine (HN.out _).mono ?_
      rintro e w2 ⟨rfl, hk2⟩
      go_wp2_with (go_at_call 20; refine (todays_yes _ _ _ _ h2).mono ?_; rintro e w' ⟨rfl, n, rfl⟩)
      go_ret
      refine ⟨rfl, kept_drewN (kept_alloc (kept_alloc (kept_alloc (kept_alloc (kept_trans ?_ hk2) _ _) _ _) _ _) _ _) _⟩
      exact (by repeat (first | with_reducible exact kept_refl _ | with_reducible apply kept_alloc | with_reducible apply kept_drewN | with_reducible apply kept_drew | (with_reducible refine kept_setCell ?_ (by simp) _)))

set_option maxHeartbeats 2000000 in
theorem kday_false_off (x c p v u N t y m d : Int)  (w : World) (x0 : 0 ≤ x) (x1 : x ≤ 4294967295) (c0 : 0 ≤ c) (c1 : c ≤ 255) (ep : x % 3652425 = p) (p0 : 0 ≤ p) (p1 : p ≤ 3652424) (eN : -719528 + p = N) (N1 : -719528 ≤ N) (N2 : N ≤ 2932896) (ev : c % 7 = v) (eu : 1 + v = u) (u1 : 1 ≤ u) (u2 : u ≤ 7) (v1 : 0 ≤ v) (v2 : v ≤ 6)
    (et : Hid ((u - Cal.wday N + 7) % 7 = t)) (t1 : 0 ≤ t) (t2 : t ≤ 6) (hv : Cal.vldB y m d = true) (hn : Cal.num y m d = N) (HN : Hid (NwAt y m d u 0 0 0 false)) (tt : 2932896 < N + t) :
    Calls Ydim.prog 10 #[.bool false, .int .u32 x, .int .u8 c] w fun e w' => e = .returned (.bool true) ∧ Kept w w' := by
  go_enter Ydim.func10, Ydim.ntmps10
  go_wp2_with (go_at_call 17; refine (from_at _ y m d _ hv hn).mono ?_; rintro e w' ⟨rfl, rfl⟩)
  go_loop [12] (fun k => ∃ i : Int, 0 ≤ i ∧ i ≤ t ∧ k = .int .i64 (N + i)) (fun k => (N + 7 - intOf k).toNat)
  case atStart => exact ⟨0, by omega, by omega, by simp⟩
  case round =>
    obtain ⟨i, i1, i2, rfl⟩ := hrel
    have F := wday_off u1 u2 et.out i1 (by omega)
    by_cases hlt : i < t
    · have hne := F.2 hlt
      clear F
      go_wp2_with (go_at_call 14; refine (week_any _ _).mono ?_; rintro e w' ⟨rfl, rfl⟩)
      go_round
      case rel => exact ⟨i + 1, by omega, by omega, by go_num⟩
      case measure => simp [intOf]; omega
    · obtain rfl : i = t := by omega
      have heq := F.1 rfl
      clear F hlt
      go_wp2_with (go_at_call 14; refine (week_any _ _).mono ?_; rintro e w' ⟨rfl, rfl⟩)
      refine (HN.out _).mono ?_
      rintro e w2 ⟨rfl, hk2⟩
      go_wp2
      go_ret
      refine ⟨rfl, kept_alloc (kept_trans ?_ hk2) _ _⟩
      exact (by repeat (first | with_reducible exact kept_refl _ | with_reducible apply kept_alloc | with_reducible apply kept_drewN | with_reducible apply kept_drew | (with_reducible refine kept_setCell ?_ (by simp) _)))

set_option maxHeartbeats 2000000 in
theorem kday_true_yes (x c p v u N t y m d : Int) (Y M D : Int) (w : World) (x0 : 0 ≤ x) (x1 : x ≤ 4294967295) (c0 : 0 ≤ c) (c1 : c ≤ 255) (ep : x % 3652425 = p) (p0 : 0 ≤ p) (p1 : p ≤ 3652424) (eN : 2932896 - p = N) (N1 : -719528 ≤ N) (N2 : N ≤ 2932896) (ev : c % 7 = v) (eu : 1 + v = u) (u1 : 1 ≤ u) (u2 : u ≤ 7) (v1 : 0 ≤ v) (v2 : v ≤ 6)
    (et : Hid ((u - Cal.wday N + 7) % 7 = t)) (t1 : 0 ≤ t) (t2 : t ≤ 6) (hv : Cal.vldB y m d = true) (hn : Cal.num y m d = N) (h2 : Cal.vldB Y M D = true) (hn2 : Cal.num Y M D = N + t) (HN : Hid (NwAt y m d u Y M D true)) (tt : N + t ≤ 2932896) :
    Calls Ydim.prog 10 #[.bool true, .int .u32 x, .int .u8 c] w fun e w' => e = .returned (.bool true) ∧ Kept w w' := by
  go_enter Ydim.func10, Ydim.ntmps10
  go_wp2_with (go_at_call 17; refine (from_at _ y m d _ hv hn).mono ?_; rintro e w' ⟨rfl, rfl⟩)
  go_loop [12] (fun k => ∃ i : Int, 0 ≤ i ∧ i ≤ t ∧ k = .int .i64 (N + i)) (fun k => (N + 7 - intOf k).toNat)
  case atStart => exact ⟨0, by omega, by omega, by simp⟩
  case round =>
    obtain ⟨i, i1, i2, rfl⟩ := hrel
    have F := wday_off u1 u2 et.out i1 (by omega)
    by_cases hlt : i < t
    · have hne := F.2 hlt
      clear F
      go_wp2_with (go_at_call 14; refine (week_any _ _).mono ?_; rintro e w' ⟨rfl, rfl⟩)
      go_round
      case rel => exact ⟨i + 1, by omega, by omega, by go_num⟩
      case measure => simp [intOf]; omega
    · obtain rfl : i = t := by omega
      have heq := F.1 rfl
      clear F hlt
      go_wp2_with (go_at_call 14; refine (week_any _ _).mono ?_; rintro e w' ⟨rfl, rfl⟩)
      refine (HN.out _).mono ?_
      rintro e w2 ⟨rfl, hk2⟩
      go_wp2_with (go_at_call 20; refine (todays_yes _ _ _ _ h2).mono ?_; rintro e w' ⟨rfl, n, rfl⟩)
      go_ret
      refine ⟨rfl, kept_drewN (kept_alloc (kept_alloc (kept_alloc (kept_alloc (kept_trans ?_ hk2) _ _) _ _) _ _) _ _) _⟩
      exact (by repeat (first | with_reducible exact kept_refl _ | with_reducible apply kept_alloc | with_reducible apply kept_drewN | with_reducible apply kept_drew | (with_reducible refine kept_setCell ?_ (by simp) _)))

set_option maxHeartbeats 2000000 in
theorem kday_true_off (x c p v u N t y m d : Int)  (w : World) (x0 : 0 ≤ x) (x1 : x ≤ 4294967295) (c0 : 0 ≤ c) (c1 : c ≤ 255) (ep : x % 3652425 = p) (p0 : 0 ≤ p) (p1 : p ≤ 3652424) (eN : 2932896 - p = N) (N1 : -719528 ≤ N) (N2 : N ≤ 2932896) (ev : c % 7 = v) (eu : 1 + v = u) (u1 : 1 ≤ u) (u2 : u ≤ 7) (v1 : 0 ≤ v) (v2 : v ≤ 6)
    (et : Hid ((u - Cal.wday N + 7) % 7 = t)) (t1 : 0 ≤ t) (t2 : t ≤ 6) (hv : Cal.vldB y m d = true) (hn : Cal.num y m d = N) (HN : Hid (NwAt y m d u 0 0 0 false)) (tt : 2932896 < N + t) :
    Calls Ydim.prog 10 #[.bool true, .int .u32 x, .int .u8 c] w fun e w' => e = .returned (.bool true) ∧ Kept w w' := by
  go_enter Ydim.func10, Ydim.ntmps10
  go_wp2_with (go_at_call 17; refine (from_at _ y m d _ hv hn).mono ?_; rintro e w' ⟨rfl, rfl⟩)
  go_loop [12] (fun k => ∃ i : Int, 0 ≤ i ∧ i ≤ t ∧ k = .int .i64 (N + i)) (fun k => (N + 7 - intOf k).toNat)
  case atStart => exact ⟨0, by omega, by omega, by simp⟩
  case round =>
    obtain ⟨i, i1, i2, rfl⟩ := hrel
    have F := wday_off u1 u2 et.out i1 (by omega)
    by_cases hlt : i < t
    · have hne := F.2 hlt
      clear F
      go_wp2_with (go_at_call 14; refine (week_any _ _).mono ?_; rintro e w' ⟨rfl, rfl⟩)
      go_round
      case rel => exact ⟨i + 1, by omega, by omega, by go_num⟩
      case measure => simp [intOf]; omega
    · obtain rfl : i = t := by omega
      have heq := F.1 rfl
      clear F hlt
      go_wp2_with (go_at_call 14; refine (week_any _ _).mono ?_; rintro e w' ⟨rfl, rfl⟩)
      refine (HN.out _).mono ?_
      rintro e w2 ⟨rfl, hk2⟩
      go_wp2
      go_ret
      refine ⟨rfl, kept_alloc (kept_trans ?_ hk2) _ _⟩
      exact (by repeat (first | with_reducible exact kept_refl _ | with_reducible apply kept_alloc | with_reducible apply kept_drewN | with_reducible apply kept_drew | (with_reducible refine kept_setCell ?_ (by simp) _)))

theorem kday_any (f : Bool) (x c : Int) (w : World) (x0 : 0 ≤ x) (x1 : x ≤ 4294967295) (c0 : 0 ≤ c) (c1 : c ≤ 255) :
    Calls Ydim.prog 10 #[.bool f, .int .u32 x, .int .u8 c] w fun e w' => e = .returned (.bool true) ∧ Kept w w' := by
  cases f
  · obtain ⟨y, m, d, hv, hn⟩ := Cal.date_of (-719528 + x % 3652425) (by omega) (by omega)
    obtain ⟨g1, g2⟩ := Cal.wday_bd (Cal.num y m d)
    by_cases tt : -719528 + x % 3652425 + (1 + c % 7 - Cal.wday (Cal.num y m d) + 7) % 7 ≤ 2932896
    · obtain ⟨Y, M, D, h2, hn2⟩ := Cal.date_of _ (by omega) tt
      exact kday_false_yes x c _ _ _ _ _ y m d Y M D w x0 x1 c0 c1 rfl (by omega) (by omega) rfl (by omega) (by omega) rfl rfl (by omega) (by omega) (by omega) (by omega) (by show _ = _; rw [← hn]) (by omega) (by omega) hv hn h2 hn2 (nw_at hv (by omega) (by omega) rfl h2 (by rw [hn2, hn])) tt
    · exact kday_false_off x c _ _ _ _ _ y m d w x0 x1 c0 c1 rfl (by omega) (by omega) rfl (by omega) (by omega) rfl rfl (by omega) (by omega) (by omega) (by omega) (by show _ = _; rw [← hn]) (by omega) (by omega) hv hn (nw_off hv (by omega) (by omega) rfl (by rw [hn] at *; omega)) (by omega)
  · obtain ⟨y, m, d, hv, hn⟩ := Cal.date_of (2932896 - x % 3652425) (by omega) (by omega)
    obtain ⟨g1, g2⟩ := Cal.wday_bd (Cal.num y m d)
    by_cases tt : 2932896 - x % 3652425 + (1 + c % 7 - Cal.wday (Cal.num y m d) + 7) % 7 ≤ 2932896
    · obtain ⟨Y, M, D, h2, hn2⟩ := Cal.date_of _ (by omega) tt
      exact kday_true_yes x c _ _ _ _ _ y m d Y M D w x0 x1 c0 c1 rfl (by omega) (by omega) rfl (by omega) (by omega) rfl rfl (by omega) (by omega) (by omega) (by omega) (by show _ = _; rw [← hn]) (by omega) (by omega) hv hn h2 hn2 (nw_at hv (by omega) (by omega) rfl h2 (by rw [hn2, hn])) tt
    · exact kday_true_off x c _ _ _ _ _ y m d w x0 x1 c0 c1 rfl (by omega) (by omega) rfl (by omega) (by omega) rfl rfl (by omega) (by omega) (by omega) (by omega) (by show _ = _; rw [← hn]) (by omega) (by omega) hv hn (nw_off hv (by omega) (by omega) rfl (by rw [hn] at *; omega)) (by omega)
end Go.Proofs.Ymbrdi
