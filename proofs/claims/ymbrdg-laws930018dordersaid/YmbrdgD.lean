/-
  THE D LAWS' WALKS: DayOfYear against the cumulative table.
-/
import Derived.Test.YmbrdgKept
import Derived.Test.YmbrdgDays
import Derived.Test.YmbrdgEx
import Derived.OpenShut
namespace Go.Proofs.Ymbrdg
open Go.RowKit
set_option linter.unusedVariables false
theorem tb_bd (m : Int) (m1 : 1 ≤ m) (m2 : m ≤ 13) : 0 ≤ Cal.cum 1 m ∧ Cal.cum 1 m ≤ 365 := by
  have l : Cal.lp 1 = 0 := rfl
  unfold Cal.cum
  rw [l]
  repeat (first | omega | split)
theorem cum_lp (y m : Int) : Cal.cum y m = Cal.cum 1 m + (if 2 < m then Cal.lp y else 0) := by
  have l : Cal.lp 1 = 0 := rfl
  unfold Cal.cum
  rw [l]
  by_cases h1 : m ≤ 1
  · rw [if_pos h1, if_pos h1, if_neg (by omega)]; rfl
  by_cases h2 : m = 2
  · subst h2; simp
  rw [if_pos (show 2 < m by omega)]
  repeat (first | omega | split)
theorem beforeTab (m : Int) (m1 : 1 ≤ m) (m2 : m ≤ 13) : ([Value.int IntKind.i64 0, Value.int IntKind.i64 0, Value.int IntKind.i64 31, Value.int IntKind.i64 59, Value.int IntKind.i64 90, Value.int IntKind.i64 120, Value.int IntKind.i64 151, Value.int IntKind.i64 181, Value.int IntKind.i64 212, Value.int IntKind.i64 243, Value.int IntKind.i64 273, Value.int IntKind.i64 304, Value.int IntKind.i64 334, Value.int IntKind.i64 365] : List Value)[m.toNat]? = some (Value.int IntKind.i64 (Cal.cum 1 m)) := by
  have : m = 1 ∨ m = 2 ∨ m = 3 ∨ m = 4 ∨ m = 5 ∨ m = 6 ∨ m = 7 ∨ m = 8 ∨ m = 9 ∨ m = 10 ∨ m = 11 ∨ m = 12 ∨ m = 13 := by omega
  rcases this with rfl | rfl | rfl | rfl | rfl | rfl | rfl | rfl | rfl | rfl | rfl | rfl | rfl
  all_goals rfl
theorem lp25 (y : Int) : (¬ y % 4 = 0 ∧ Cal.lp y = 0) ∨ (y % 4 = 0 ∧ (y % 25 != 0) = true ∧ Cal.lp y = 1) ∨ (y % 4 = 0 ∧ y % 25 = 0 ∧ y % 16 = 0 ∧ Cal.lp y = 1) ∨ (y % 4 = 0 ∧ y % 25 = 0 ∧ ¬ y % 16 = 0 ∧ Cal.lp y = 0) := by
  have e : (y % 25 != 0) = true ↔ ¬ y % 25 = 0 := by simp
  rw [e]
  rcases Cal.lp_cases y with ⟨_, h, k, l⟩ | ⟨_, h, k⟩ <;> omega
set_option maxHeartbeats 2000000 in
theorem before_core (y m T : Int) (w : World) (y1 : 0 ≤ y) (y2 : y ≤ 9999) (m1 : 1 ≤ m) (m2 : m ≤ 13) (hT : ([Value.int IntKind.i64 0, Value.int IntKind.i64 0, Value.int IntKind.i64 31, Value.int IntKind.i64 59, Value.int IntKind.i64 90, Value.int IntKind.i64 120, Value.int IntKind.i64 151, Value.int IntKind.i64 181, Value.int IntKind.i64 212, Value.int IntKind.i64 243, Value.int IntKind.i64 273, Value.int IntKind.i64 304, Value.int IntKind.i64 334, Value.int IntKind.i64 365] : List Value)[m.toNat]? = some (Value.int IntKind.i64 T)) (T1 : 0 ≤ T) (T2 : T ≤ 365) :
    Calls Ydgm.prog 29 #[.int .i64 y, .int .i64 m] w fun e w' => e = .returned (.int .i64 (T + (if 2 < m then Cal.lp y else 0))) ∧ Kept w w' := by
  by_cases h : 2 < m
  · rcases lp25 y with ⟨t1, e⟩ | ⟨t1, t2, e⟩ | ⟨t1, t2, t3, e⟩ | ⟨t1, t2, t3, e⟩
    all_goals
      have E : Hid (T + (if 2 < m then Cal.lp y else 0) = T + Cal.lp y) := by show _ = _; rw [if_pos h]
      rw [E.out]
      go_enter Ydgm.func29, Ydgm.ntmps29
      go_wp2
      go_ret
      exact ⟨ret_int (by rw [e]; try omega), by repeat (first | with_reducible exact kept_refl _ | with_reducible apply kept_alloc | with_reducible apply kept_drewN | with_reducible apply kept_drew | (with_reducible refine kept_setCell ?_ (by simp) _))⟩
  · have E : Hid (T + (if 2 < m then Cal.lp y else 0) = T) := by show _ = _; rw [if_neg h]; omega
    rw [E.out]
    go_enter Ydgm.func29, Ydgm.ntmps29
    go_wp2
    go_ret
    exact ⟨ret_int (by try omega), by repeat (first | with_reducible exact kept_refl _ | with_reducible apply kept_alloc | with_reducible apply kept_drewN | with_reducible apply kept_drew | (with_reducible refine kept_setCell ?_ (by simp) _))⟩
theorem before_any (y m : Int) (w : World) (y1 : 0 ≤ y) (y2 : y ≤ 9999) (m1 : 1 ≤ m) (m2 : m ≤ 13) :
    Calls Ydgm.prog 29 #[.int .i64 y, .int .i64 m] w fun e w' => e = .returned (.int .i64 (Cal.cum y m)) ∧ Kept w w' := by
  rw [cum_lp y m]
  exact before_core y m _ w y1 y2 m1 m2 (beforeTab m m1 m2) (tb_bd m m1 m2).1 (tb_bd m m1 m2).2
theorem doy_any (y m d : Int) (w : World) :
    Calls Ydgm.prog 27 #[.agg #[.int .i64 y, .int .i64 m, .int .i64 d]] w fun e w' => e = .returned (.int .i64 (Cal.doy y m d)) ∧ Kept w w' := by
  cases h : Cal.vldB y m d
  · rw [doy_f h]
    refine (doy_no y m d w h).mono ?_
    rintro e w' ⟨rfl, n, rfl⟩
    exact ⟨rfl, by repeat (first | with_reducible exact kept_refl _ | with_reducible apply kept_alloc | with_reducible apply kept_drewN | with_reducible apply kept_drew | (with_reducible refine kept_setCell ?_ (by simp) _))⟩
  · rw [doy_t h]
    refine (doy_yes y m d w h).mono ?_
    rintro e w' ⟨rfl, n, rfl⟩
    exact ⟨rfl, by repeat (first | with_reducible exact kept_refl _ | with_reducible apply kept_alloc | with_reducible apply kept_drewN | with_reducible apply kept_drew | (with_reducible refine kept_setCell ?_ (by simp) _))⟩
theorem vld_f {y m d : Int} (h : ¬ (0 ≤ y ∧ y ≤ 9999 ∧ 1 ≤ d ∧ d ≤ Cal.dim y m)) : Cal.vldB y m d = false := by unfold Cal.vldB; rw [decide_eq_false_iff_not]; exact h
set_option maxHeartbeats 2000000 in
theorem dwant_any (y m d : Int) (w : World) :
    Calls Ydgm.prog 28 #[.int .i64 y, .int .i64 m, .int .i64 d] w fun e w' => e = .returned (.int .i64 (Cal.doy y m d)) ∧ Kept w w' := by
  by_cases c0 : y < 0
  · rw [doy_f (vld_f (by omega))]
    go_enter Ydgm.func28, Ydgm.ntmps28
    go_wp2
    go_ret
    exact ⟨rfl, by repeat (first | with_reducible exact kept_refl _ | with_reducible apply kept_alloc | with_reducible apply kept_drewN | with_reducible apply kept_drew | (with_reducible refine kept_setCell ?_ (by simp) _))⟩
  by_cases c1 : 9999 < y
  · rw [doy_f (vld_f (by omega))]
    go_enter Ydgm.func28, Ydgm.ntmps28
    go_wp2
    go_ret
    exact ⟨rfl, by repeat (first | with_reducible exact kept_refl _ | with_reducible apply kept_alloc | with_reducible apply kept_drewN | with_reducible apply kept_drew | (with_reducible refine kept_setCell ?_ (by simp) _))⟩
  by_cases c2 : m < 1
  · rw [doy_f (vld_f (by have := Cal.dim_out y m (by omega); omega))]
    go_enter Ydgm.func28, Ydgm.ntmps28
    go_wp2
    go_ret
    exact ⟨rfl, by repeat (first | with_reducible exact kept_refl _ | with_reducible apply kept_alloc | with_reducible apply kept_drewN | with_reducible apply kept_drew | (with_reducible refine kept_setCell ?_ (by simp) _))⟩
  by_cases c3 : 12 < m
  · rw [doy_f (vld_f (by have := Cal.dim_out y m (by omega); omega))]
    go_enter Ydgm.func28, Ydgm.ntmps28
    go_wp2
    go_ret
    exact ⟨rfl, by repeat (first | with_reducible exact kept_refl _ | with_reducible apply kept_alloc | with_reducible apply kept_drewN | with_reducible apply kept_drew | (with_reducible refine kept_setCell ?_ (by simp) _))⟩
  have y1 : 0 ≤ y := by omega
  have y2 : y ≤ 9999 := by omega
  have m1 : 1 ≤ m := by omega
  have m2 : m ≤ 12 := by omega
  obtain ⟨b1, b2⟩ := Cal.cum_bd y m m1 m2
  obtain ⟨l1, l2⟩ := Cal.dim_in y m m1 m2
  have cs := Cal.cum_succ y m m1 m2
  clear c0 c1 c2 c3
  by_cases c4 : d < 1
  · rw [doy_f (vld_f (by omega))]
    clear cs
    go_enter Ydgm.func28, Ydgm.ntmps28
    go_wp2_with fail
    refine (before_any _ _ _ y1 y2 m1 (by omega)).mono ?_
    rintro e w1 ⟨rfl, hk⟩
    go_wp2
    go_ret
    exact ⟨rfl, hk⟩
  by_cases c5 : Cal.dim y m < d
  · rw [doy_f (vld_f (by omega))]
    go_enter Ydgm.func28, Ydgm.ntmps28
    go_wp2_with fail
    refine (before_any _ _ _ y1 y2 m1 (by omega)).mono ?_
    rintro e w1 ⟨rfl, hk⟩
    go_wp2_with fail
    refine (before_any _ _ _ y1 y2 (by omega) (by omega)).mono ?_
    rintro e w2 ⟨rfl, hk2⟩
    go_wp2
    go_ret
    exact ⟨rfl, kept_trans hk hk2⟩
  · rw [doy_t (Cal.vld_mk (by omega))]
    have d3 : d ≤ 31 := by omega
    go_enter Ydgm.func28, Ydgm.ntmps28
    go_wp2_with fail
    refine (before_any _ _ _ y1 y2 m1 (by omega)).mono ?_
    rintro e w1 ⟨rfl, hk⟩
    go_wp2_with fail
    refine (before_any _ _ _ y1 y2 (by omega) (by omega)).mono ?_
    rintro e w2 ⟨rfl, hk2⟩
    go_wp2
    go_ret
    exact ⟨rfl, kept_trans hk hk2⟩
set_option maxHeartbeats 1000000 in
theorem dExact_any (y m d : Int) (w : World) :
    Calls Ydgm.prog 12 #[.int .i64 y, .int .i64 m, .int .i64 d] w fun e w' => e = .returned (.bool true) ∧ Kept w w' := by
  go_enter Ydgm.func12, Ydgm.ntmps12
  go_wp2_with fail
  refine (doy_any _ _ _ _).mono ?_
  rintro e w1 ⟨rfl, hk⟩
  go_wp2_with fail
  refine (dwant_any _ _ _ _).mono ?_
  rintro e w2 ⟨rfl, hk2⟩
  go_wp2
  go_ret
  exact ⟨rfl, kept_trans hk hk2⟩
set_option maxHeartbeats 1000000 in
theorem dNear_any (a b c : Int) (w : World) (a0 : 0 ≤ a) (a1 : a ≤ 65535) (b0 : 0 ≤ b) (b1 : b ≤ 255) (c0 : 0 ≤ c) (c1 : c ≤ 255) :
    Calls Ydgm.prog 13 #[.int .u16 a, .int .u8 b, .int .u8 c] w fun e w' => e = .returned (.bool true) ∧ Kept w w' := by
  go_enter Ydgm.func13, Ydgm.ntmps13
  go_wp2_with fail
  refine (doy_any _ _ _ _).mono ?_
  rintro e w1 ⟨rfl, hk⟩
  go_wp2_with fail
  refine (dwant_any _ _ _ _).mono ?_
  rintro e w2 ⟨rfl, hk2⟩
  go_wp2
  go_ret
  exact ⟨rfl, kept_trans hk hk2⟩
end Go.Proofs.Ymbrdg
