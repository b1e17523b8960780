/-
  THE G LAWS' WALKS: LawS930018GTotalOrder.
-/
import Derived.Test.YmbrdhG
import Derived.Test.YmbrdhAid
namespace Go.Proofs.Ymbrdh
open Go.RowKit
set_option linter.unusedVariables false
theorem tri {y m d y2 m2 d2 y3 m3 d3 A B C : Int} (hA : Cal.cmp y m d y2 m2 d2 = A) (hB : Cal.cmp y2 m2 d2 y3 m3 d3 = B) (hC : Cal.cmp y m d y3 m3 d3 = C) :
    -1 ≤ A ∧ A ≤ 1 ∧ -1 ≤ B ∧ B ≤ 1 ∧ (A = -1 → B ≤ 0 → C = -1) ∧ (A = 1 → 0 ≤ B → C = 1) ∧ (A = 0 → B = C) := by
  have a := cmp_3 y m d y2 m2 d2
  have b := cmp_3 y2 m2 d2 y3 m3 d3
  refine ⟨by omega, by omega, by omega, by omega, fun h k => ?_, fun h k => ?_, fun h => ?_⟩
  · rw [← hC]; exact cmp_up (hA.trans h) (by omega)
  · rw [← hC]; exact cmp_dn (hA.trans h) (by omega)
  · rcases cmp_cases y m d y2 m2 d2 with ⟨_, _⟩ | ⟨_, rfl, rfl, rfl⟩ | ⟨_, _⟩
    · omega
    · rw [← hB, ← hC]
    · omega

set_option maxHeartbeats 4000000 in
theorem total_y (y m d y2 m2 d2 y3 m3 d3 A B C : Int) (w : World) (hne : ¬ y = y2) (hA : Cal.cmp y m d y2 m2 d2 = A) (hB : Cal.cmp y2 m2 d2 y3 m3 d3 = B) (hC : Cal.cmp y m d y3 m3 d3 = C) (hBA : Cal.cmp y2 m2 d2 y m d = -A) (hAA : Cal.cmp y m d y m d = 0)
    (a1 : -1 ≤ A) (a2 : A ≤ 1) (a0 : ¬ A = 0) (b1 : -1 ≤ B) (b2 : B ≤ 1) (U : Hid (A = -1 → B ≤ 0 → C = -1)) (V : Hid (A = 1 → 0 ≤ B → C = 1)) :
    Calls Ydhm.prog 10 #[.agg #[.int .i64 y, .int .i64 m, .int .i64 d], .agg #[.int .i64 y2, .int .i64 m2, .int .i64 d2], .agg #[.int .i64 y3, .int .i64 m3, .int .i64 d3]] w fun e w' => e = .returned (.bool true) ∧ Grown w w' := by
  go_enter Ydhm.func10, Ydhm.ntmps10
  go_wp2_with (go_at_call 21; refine (compare_any _ _ _ _ _ _ _).mono ?_; rintro e w' ⟨rfl, rfl⟩)
  all_goals
    go_ret
    refine ⟨?_, by repeat (first | with_reducible apply Grown.alloc | with_reducible apply grown_drewN | with_reducible apply Grown.drew | with_reducible exact Grown.refl _)⟩
    first
      | exact ret_bool (by rw [U.out (by omega) (by omega)]; rfl)
      | exact ret_bool (by rw [V.out (by omega) (by omega)]; rfl)
      | rfl

set_option maxHeartbeats 4000000 in
theorem total_m (y m d m2 d2 y3 m3 d3 A B C : Int) (w : World) (hne : ¬ m = m2) (hA : Cal.cmp y m d y m2 d2 = A) (hB : Cal.cmp y m2 d2 y3 m3 d3 = B) (hC : Cal.cmp y m d y3 m3 d3 = C) (hBA : Cal.cmp y m2 d2 y m d = -A) (hAA : Cal.cmp y m d y m d = 0)
    (a1 : -1 ≤ A) (a2 : A ≤ 1) (a0 : ¬ A = 0) (b1 : -1 ≤ B) (b2 : B ≤ 1) (U : Hid (A = -1 → B ≤ 0 → C = -1)) (V : Hid (A = 1 → 0 ≤ B → C = 1)) :
    Calls Ydhm.prog 10 #[.agg #[.int .i64 y, .int .i64 m, .int .i64 d], .agg #[.int .i64 y, .int .i64 m2, .int .i64 d2], .agg #[.int .i64 y3, .int .i64 m3, .int .i64 d3]] w fun e w' => e = .returned (.bool true) ∧ Grown w w' := by
  go_enter Ydhm.func10, Ydhm.ntmps10
  go_wp2_with (go_at_call 21; refine (compare_any _ _ _ _ _ _ _).mono ?_; rintro e w' ⟨rfl, rfl⟩)
  all_goals
    go_ret
    refine ⟨?_, by repeat (first | with_reducible apply Grown.alloc | with_reducible apply grown_drewN | with_reducible apply Grown.drew | with_reducible exact Grown.refl _)⟩
    first
      | exact ret_bool (by rw [U.out (by omega) (by omega)]; rfl)
      | exact ret_bool (by rw [V.out (by omega) (by omega)]; rfl)
      | rfl

set_option maxHeartbeats 4000000 in
theorem total_d (y m d d2 y3 m3 d3 A B C : Int) (w : World) (hne : ¬ d = d2) (hA : Cal.cmp y m d y m d2 = A) (hB : Cal.cmp y m d2 y3 m3 d3 = B) (hC : Cal.cmp y m d y3 m3 d3 = C) (hBA : Cal.cmp y m d2 y m d = -A) (hAA : Cal.cmp y m d y m d = 0)
    (a1 : -1 ≤ A) (a2 : A ≤ 1) (a0 : ¬ A = 0) (b1 : -1 ≤ B) (b2 : B ≤ 1) (U : Hid (A = -1 → B ≤ 0 → C = -1)) (V : Hid (A = 1 → 0 ≤ B → C = 1)) :
    Calls Ydhm.prog 10 #[.agg #[.int .i64 y, .int .i64 m, .int .i64 d], .agg #[.int .i64 y, .int .i64 m, .int .i64 d2], .agg #[.int .i64 y3, .int .i64 m3, .int .i64 d3]] w fun e w' => e = .returned (.bool true) ∧ Grown w w' := by
  go_enter Ydhm.func10, Ydhm.ntmps10
  go_wp2_with (go_at_call 21; refine (compare_any _ _ _ _ _ _ _).mono ?_; rintro e w' ⟨rfl, rfl⟩)
  all_goals
    go_ret
    refine ⟨?_, by repeat (first | with_reducible apply Grown.alloc | with_reducible apply grown_drewN | with_reducible apply Grown.drew | with_reducible exact Grown.refl _)⟩
    first
      | exact ret_bool (by rw [U.out (by omega) (by omega)]; rfl)
      | exact ret_bool (by rw [V.out (by omega) (by omega)]; rfl)
      | rfl

set_option maxHeartbeats 4000000 in
theorem total_e (y m d y3 m3 d3 B : Int) (w : World) (hB : Cal.cmp y m d y3 m3 d3 = B) (hAA : Cal.cmp y m d y m d = 0) (b1 : -1 ≤ B) (b2 : B ≤ 1) :
    Calls Ydhm.prog 10 #[.agg #[.int .i64 y, .int .i64 m, .int .i64 d], .agg #[.int .i64 y, .int .i64 m, .int .i64 d], .agg #[.int .i64 y3, .int .i64 m3, .int .i64 d3]] w fun e w' => e = .returned (.bool true) ∧ Grown w w' := by
  by_cases h0 : B = 0
  · subst h0
    go_enter Ydhm.func10, Ydhm.ntmps10
    go_wp2_with (go_at_call 21; refine (compare_any _ _ _ _ _ _ _).mono ?_; rintro e w' ⟨rfl, rfl⟩)
    go_ret
    exact ⟨rfl, by repeat (first | with_reducible apply Grown.alloc | with_reducible apply grown_drewN | with_reducible apply Grown.drew | with_reducible exact Grown.refl _)⟩
  by_cases h1 : B = 1
  · subst h1
    go_enter Ydhm.func10, Ydhm.ntmps10
    go_wp2_with (go_at_call 21; refine (compare_any _ _ _ _ _ _ _).mono ?_; rintro e w' ⟨rfl, rfl⟩)
    go_ret
    exact ⟨rfl, by repeat (first | with_reducible apply Grown.alloc | with_reducible apply grown_drewN | with_reducible apply Grown.drew | with_reducible exact Grown.refl _)⟩
  · obtain rfl : B = -1 := by omega
    go_enter Ydhm.func10, Ydhm.ntmps10
    go_wp2_with (go_at_call 21; refine (compare_any _ _ _ _ _ _ _).mono ?_; rintro e w' ⟨rfl, rfl⟩)
    go_ret
    exact ⟨rfl, by repeat (first | with_reducible apply Grown.alloc | with_reducible apply grown_drewN | with_reducible apply Grown.drew | with_reducible exact Grown.refl _)⟩
theorem cmp_nz {y m d y' m' d' A : Int} (h : ¬ (y = y' ∧ m = m' ∧ d = d')) (hA : Cal.cmp y m d y' m' d' = A) : ¬ A = 0 := by
  have := cmp_ne h; omega
theorem total_any (y m d y2 m2 d2 y3 m3 d3 : Int) (w : World) :
    Calls Ydhm.prog 10 #[.agg #[.int .i64 y, .int .i64 m, .int .i64 d], .agg #[.int .i64 y2, .int .i64 m2, .int .i64 d2], .agg #[.int .i64 y3, .int .i64 m3, .int .i64 d3]] w fun e w' => e = .returned (.bool true) ∧ Grown w w' := by
  obtain ⟨a1, a2, b1, b2, U, V, _⟩ := tri (y := y) (m := m) (d := d) (y2 := y2) (m2 := m2) (d2 := d2) (y3 := y3) (m3 := m3) (d3 := d3) rfl rfl rfl
  by_cases h1 : y = y2
  · subst h1
    by_cases h2 : m = m2
    · subst h2
      by_cases h3 : d = d2
      · subst h3; exact total_e y m d y3 m3 d3 _ w rfl (cmp_self y m d) b1 b2
      · exact total_d y m d d2 y3 m3 d3 _ _ _ w h3 rfl rfl rfl (cmp_neg _ _ _ _ _ _) (cmp_self y m d) a1 a2 (cmp_nz (by omega) rfl) b1 b2 U V
    · exact total_m y m d m2 d2 y3 m3 d3 _ _ _ w h2 rfl rfl rfl (cmp_neg _ _ _ _ _ _) (cmp_self y m d) a1 a2 (cmp_nz (by omega) rfl) b1 b2 U V
  · exact total_y y m d y2 m2 d2 y3 m3 d3 _ _ _ w h1 rfl rfl rfl (cmp_neg _ _ _ _ _ _) (cmp_self y m d) a1 a2 (cmp_nz (by omega) rfl) b1 b2 U V
end Go.Proofs.Ymbrdh
