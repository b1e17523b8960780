/-
  THE CONTRACT of AddDays.
-/
import Derived.Test.YmbrdgKept
import Derived.Test.YmbrdgFrom
import Derived.Test.YmbrdgDays
namespace Go.Proofs.Ymbrdg
open Go.RowKit
set_option linter.unusedVariables false
set_option maxHeartbeats 1000000 in
theorem add_no (y m d n : Int) (w : World) (h : Cal.vldB y m d = false) :
    Calls Ydgm.prog 16 #[.agg #[.int .i64 y, .int .i64 m, .int .i64 d], .int .i64 n] w fun e w' => e = .returned (.tuple #[.agg #[.int .i64 0, .int .i64 0, .int .i64 0], .bool false]) ∧ Kept w w' := by
  go_enter Ydgm.func16, Ydgm.ntmps16
  go_wp2_with (go_at_call 30; refine (todays_no _ _ _ _ h).mono ?_; rintro e w' ⟨rfl, k, rfl⟩)
  exact bodyPost_ret (v := .tuple #[.agg #[.int .i64 0, .int .i64 0, .int .i64 0], .bool false]) (by simp [results, Ydgm.results16, go_sem]) rfl ⟨rfl, by repeat (first | with_reducible exact kept_refl _ | with_reducible apply kept_alloc | with_reducible apply kept_drewN | with_reducible apply kept_drew | (with_reducible refine kept_setCell ?_ (by simp) _))⟩
set_option maxHeartbeats 1000000 in
theorem add_out (y m d n : Int) (w : World) (h : Cal.vldB y m d = true) (hn : n < -719528 - Cal.num y m d ∨ 2932896 - Cal.num y m d < n) :
    Calls Ydgm.prog 16 #[.agg #[.int .i64 y, .int .i64 m, .int .i64 d], .int .i64 n] w fun e w' => e = .returned (.tuple #[.agg #[.int .i64 0, .int .i64 0, .int .i64 0], .bool false]) ∧ Kept w w' := by
  obtain ⟨b1, b2⟩ := Cal.num_bd h
  rcases hn with hn | hn
  · go_enter Ydgm.func16, Ydgm.ntmps16
    go_wp2_with (go_at_call 30; refine (todays_yes _ _ _ _ h).mono ?_; rintro e w' ⟨rfl, k, rfl⟩)
    exact bodyPost_ret (v := .tuple #[.agg #[.int .i64 0, .int .i64 0, .int .i64 0], .bool false]) (by simp [results, Ydgm.results16, go_sem]) rfl ⟨rfl, by repeat (first | with_reducible exact kept_refl _ | with_reducible apply kept_alloc | with_reducible apply kept_drewN | with_reducible apply kept_drew | (with_reducible refine kept_setCell ?_ (by simp) _))⟩
  · have hn' : ¬ n < -719528 - Cal.num y m d := by omega
    go_enter Ydgm.func16, Ydgm.ntmps16
    go_wp2_with (go_at_call 30; refine (todays_yes _ _ _ _ h).mono ?_; rintro e w' ⟨rfl, k, rfl⟩)
    exact bodyPost_ret (v := .tuple #[.agg #[.int .i64 0, .int .i64 0, .int .i64 0], .bool false]) (by simp [results, Ydgm.results16, go_sem]) rfl ⟨rfl, by repeat (first | with_reducible exact kept_refl _ | with_reducible apply kept_alloc | with_reducible apply kept_drewN | with_reducible apply kept_drew | (with_reducible refine kept_setCell ?_ (by simp) _))⟩
set_option maxHeartbeats 1000000 in
theorem add_yes (y m d n Y M D : Int) (w : World) (h : Cal.vldB y m d = true) (h2 : Cal.vldB Y M D = true) (hn : Cal.num Y M D = Cal.num y m d + n) :
    Calls Ydgm.prog 16 #[.agg #[.int .i64 y, .int .i64 m, .int .i64 d], .int .i64 n] w fun e w' => e = .returned (.tuple #[.agg #[.int .i64 Y, .int .i64 M, .int .i64 D], .bool true]) ∧ Kept w w' := by
  obtain ⟨b1, b2⟩ := Cal.num_bd h
  obtain ⟨c1, c2⟩ := Cal.num_bd h2
  have n1 : ¬ n < -719528 - Cal.num y m d := by omega
  have n2 : ¬ 2932896 - Cal.num y m d < n := by omega
  have HN : Hid (Cal.num Y M D = Cal.num y m d + n) := hn
  clear hn c1 c2
  go_enter Ydgm.func16, Ydgm.ntmps16
  go_wp2_with (first | (go_at_call 30; refine (todays_yes _ _ _ _ h).mono ?_; rintro e w' ⟨rfl, k, rfl⟩) | (go_at_call 31; refine (from_at _ Y M D _ h2 HN.out).mono ?_; rintro e w' ⟨rfl, rfl⟩))
  exact bodyPost_ret (v := .tuple #[.agg #[.int .i64 Y, .int .i64 M, .int .i64 D], .bool true]) (by simp [results, Ydgm.results16, go_sem]) rfl ⟨rfl, by repeat (first | with_reducible exact kept_refl _ | with_reducible apply kept_alloc | with_reducible apply kept_drewN | with_reducible apply kept_drew | (with_reducible refine kept_setCell ?_ (by simp) _))⟩
end Go.Proofs.Ymbrdg
