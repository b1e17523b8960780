/-
  THE H LAWS' WALKS: AddMonths against year-and-month arithmetic with one carry.
-/
import Derived.Test.YmbrdhLen
import Derived.Test.YmbrdhEx
import Derived.Test.YmbrdhKept
import Derived.OpenShut
namespace Go.Proofs.Ymbrdh
open Go.RowKit
set_option linter.unusedVariables false
/-- The lower of two. -/
def Cal.lo (d l : Int) : Int := if l < d then l else d
theorem lo_gt {d l : Int} (h : l < d) : Cal.lo d l = l := by unfold Cal.lo; rw [if_pos h]
theorem lo_le {d l : Int} (h : ¬ l < d) : Cal.lo d l = d := by unfold Cal.lo; rw [if_neg h]
set_option maxHeartbeats 1000000 in
theorem addm_no (y m d n : Int) (w : World) (h : Cal.vldB y m d = false) :
    Calls Ydhm.prog 24 #[.agg #[.int .i64 y, .int .i64 m, .int .i64 d], .int .i64 n] w fun e w' => e = .returned (.tuple #[.agg #[.int .i64 0, .int .i64 0, .int .i64 0], .bool false]) ∧ Kept w w' := by
  go_enter Ydhm.func24, Ydhm.ntmps24
  go_wp2_with (go_at_call 29; refine (valid_any _ _ _ _).mono ?_; rintro e w' ⟨rfl, k, rfl⟩)
  exact bodyPost_ret (v := .tuple #[.agg #[.int .i64 0, .int .i64 0, .int .i64 0], .bool false]) (by simp [results, Ydhm.results24, go_sem]) rfl ⟨rfl, by repeat (first | with_reducible exact kept_refl _ | with_reducible apply kept_alloc | with_reducible apply kept_drewN | with_reducible apply kept_drew | (with_reducible refine kept_setCell ?_ (by simp) _))⟩
set_option maxHeartbeats 1000000 in
theorem addm_out (y m d n : Int) (w : World) (h : Cal.vldB y m d = true) (hn : n < -(y * 12 + m - 1) ∨ 119999 - (y * 12 + m - 1) < n) :
    Calls Ydhm.prog 24 #[.agg #[.int .i64 y, .int .i64 m, .int .i64 d], .int .i64 n] w fun e w' => e = .returned (.tuple #[.agg #[.int .i64 0, .int .i64 0, .int .i64 0], .bool false]) ∧ Kept w w' := by
  obtain ⟨hm1, hm2⟩ := Cal.vld_m h
  obtain ⟨hy1, hy2, hd1, _⟩ := Cal.vld_of h
  rcases hn with hn | hn
  · go_enter Ydhm.func24, Ydhm.ntmps24
    go_wp2_with (go_at_call 29; refine (valid_any _ _ _ _).mono ?_; rintro e w' ⟨rfl, k, rfl⟩)
    exact bodyPost_ret (v := .tuple #[.agg #[.int .i64 0, .int .i64 0, .int .i64 0], .bool false]) (by simp [results, Ydhm.results24, go_sem]) rfl ⟨rfl, by repeat (first | with_reducible exact kept_refl _ | with_reducible apply kept_alloc | with_reducible apply kept_drewN | with_reducible apply kept_drew | (with_reducible refine kept_setCell ?_ (by simp) _))⟩
  · have hn' : ¬ n < -(y * 12 + m - 1) := by omega
    go_enter Ydhm.func24, Ydhm.ntmps24
    go_wp2_with (go_at_call 29; refine (valid_any _ _ _ _).mono ?_; rintro e w' ⟨rfl, k, rfl⟩)
    exact bodyPost_ret (v := .tuple #[.agg #[.int .i64 0, .int .i64 0, .int .i64 0], .bool false]) (by simp [results, Ydhm.results24, go_sem]) rfl ⟨rfl, by repeat (first | with_reducible exact kept_refl _ | with_reducible apply kept_alloc | with_reducible apply kept_drewN | with_reducible apply kept_drew | (with_reducible refine kept_setCell ?_ (by simp) _))⟩
set_option maxHeartbeats 1000000 in
theorem addm_yes (y m d n Y M : Int) (w : World) (h : Cal.vldB y m d = true) (hY1 : 0 ≤ Y) (hY2 : Y ≤ 9999) (hM1 : 1 ≤ M) (hM2 : M ≤ 12) (hI : y * 12 + m + n = Y * 12 + M) :
    Calls Ydhm.prog 24 #[.agg #[.int .i64 y, .int .i64 m, .int .i64 d], .int .i64 n] w fun e w' => e = .returned (.tuple #[.agg #[.int .i64 Y, .int .i64 M, .int .i64 (Cal.lo d (Cal.dim Y M))], .bool true]) ∧ Kept w w' := by
  obtain ⟨hm1, hm2⟩ := Cal.vld_m h
  obtain ⟨hy1, hy2, hd1, _⟩ := Cal.vld_of h
  have n1 : ¬ n < -(y * 12 + m - 1) := by omega
  have n2 : ¬ 119999 - (y * 12 + m - 1) < n := by omega
  have q : (y * 12 + m - 1 + n) / 12 = Y := by omega
  have r : (y * 12 + m - 1 + n) % 12 = M - 1 := by omega
  clear hI
  by_cases hl : Cal.dim Y M < d
  · have L := lo_gt hl
    go_enter Ydhm.func24, Ydhm.ntmps24
    go_wp2_with (first | (go_at_call 29; refine (valid_any _ _ _ _).mono ?_; rintro e w' ⟨rfl, k, rfl⟩) | (go_at_call 19; refine (dim_any _ _ _).mono ?_; rintro e w' ⟨rfl, rfl⟩))
    rw [L]
    exact bodyPost_ret (v := .tuple #[.agg #[.int .i64 Y, .int .i64 M, .int .i64 (Cal.dim Y M)], .bool true]) (by simp [results, Ydhm.results24, go_sem]) rfl ⟨rfl, by repeat (first | with_reducible exact kept_refl _ | with_reducible apply kept_alloc | with_reducible apply kept_drewN | with_reducible apply kept_drew | (with_reducible refine kept_setCell ?_ (by simp) _))⟩
  · have L := lo_le hl
    go_enter Ydhm.func24, Ydhm.ntmps24
    go_wp2_with (first | (go_at_call 29; refine (valid_any _ _ _ _).mono ?_; rintro e w' ⟨rfl, k, rfl⟩) | (go_at_call 19; refine (dim_any _ _ _).mono ?_; rintro e w' ⟨rfl, rfl⟩))
    rw [L]
    exact bodyPost_ret (v := .tuple #[.agg #[.int .i64 Y, .int .i64 M, .int .i64 d], .bool true]) (by simp [results, Ydhm.results24, go_sem]) rfl ⟨rfl, by repeat (first | with_reducible exact kept_refl _ | with_reducible apply kept_alloc | with_reducible apply kept_drewN | with_reducible apply kept_drew | (with_reducible refine kept_setCell ?_ (by simp) _))⟩
end Go.Proofs.Ymbrdh
