/-
  THE K LAWS' WALKS, MORE: NextWeekday.
-/
import Derived.Test.YmbrdiK
namespace Go.Proofs.Ymbrdi
open Go.RowKit
set_option linter.unusedVariables false
set_option maxHeartbeats 1000000 in
theorem nw_no (y m d x : Int) (w : World) (h : Cal.vldB y m d = false) :
    Calls Ydim.prog 19 #[.agg #[.int .i64 y, .int .i64 m, .int .i64 d], .int .i64 x] w fun e w' => e = .returned (.tuple #[.agg #[.int .i64 0, .int .i64 0, .int .i64 0], .bool false]) ∧ Kept w w' := by
  go_enter Ydim.func19, Ydim.ntmps19
  go_wp2_with (go_at_call 20; refine (todays_no _ _ _ _ h).mono ?_; rintro e w' ⟨rfl, k, rfl⟩)
  exact bodyPost_ret (v := .tuple #[.agg #[.int .i64 0, .int .i64 0, .int .i64 0], .bool false]) (by simp [results, Ydim.results19, go_sem]) rfl ⟨rfl, by repeat (first | with_reducible exact kept_refl _ | with_reducible apply kept_alloc | with_reducible apply kept_drewN | with_reducible apply kept_drew | (with_reducible refine kept_setCell ?_ (by simp) _))⟩
set_option maxHeartbeats 1000000 in
theorem nw_bad (y m d x : Int) (w : World) (h : Cal.vldB y m d = true) (hx : x < 1 ∨ 7 < x) :
    Calls Ydim.prog 19 #[.agg #[.int .i64 y, .int .i64 m, .int .i64 d], .int .i64 x] w fun e w' => e = .returned (.tuple #[.agg #[.int .i64 0, .int .i64 0, .int .i64 0], .bool false]) ∧ Kept w w' := by
  rcases hx with hx | hx
  · go_enter Ydim.func19, Ydim.ntmps19
    go_wp2_with (go_at_call 20; refine (todays_yes _ _ _ _ h).mono ?_; rintro e w' ⟨rfl, k, rfl⟩)
    exact bodyPost_ret (v := .tuple #[.agg #[.int .i64 0, .int .i64 0, .int .i64 0], .bool false]) (by simp [results, Ydim.results19, go_sem]) rfl ⟨rfl, by repeat (first | with_reducible exact kept_refl _ | with_reducible apply kept_alloc | with_reducible apply kept_drewN | with_reducible apply kept_drew | (with_reducible refine kept_setCell ?_ (by simp) _))⟩
  · have hx' : ¬ x < 1 := by omega
    go_enter Ydim.func19, Ydim.ntmps19
    go_wp2_with (go_at_call 20; refine (todays_yes _ _ _ _ h).mono ?_; rintro e w' ⟨rfl, k, rfl⟩)
    exact bodyPost_ret (v := .tuple #[.agg #[.int .i64 0, .int .i64 0, .int .i64 0], .bool false]) (by simp [results, Ydim.results19, go_sem]) rfl ⟨rfl, by repeat (first | with_reducible exact kept_refl _ | with_reducible apply kept_alloc | with_reducible apply kept_drewN | with_reducible apply kept_drew | (with_reducible refine kept_setCell ?_ (by simp) _))⟩

set_option maxHeartbeats 1000000 in
theorem nw_yes_up (y m d x g Y M D : Int) (w : World) (h : Cal.vldB y m d = true) (x1 : 1 ≤ x) (x2 : x ≤ 7) (eg : Cal.wday (Cal.num y m d) = g) (g1 : 1 ≤ g) (g2 : g ≤ 7) (c : x - g < 0) (h2 : Cal.vldB Y M D = true) (hn : Hid (Cal.num Y M D = Cal.num y m d + (x - g + 7))) :
    Calls Ydim.prog 19 #[.agg #[.int .i64 y, .int .i64 m, .int .i64 d], .int .i64 x] w fun e w' => e = .returned (.tuple #[.agg #[.int .i64 Y, .int .i64 M, .int .i64 D], .bool true]) ∧ Kept w w' := by
  go_enter Ydim.func19, Ydim.ntmps19
  go_wp2_with (first | (go_at_call 20; refine (todays_yes _ _ _ _ h).mono ?_; rintro e w' ⟨rfl, k, rfl⟩) | (go_at_call 14; refine (week_any _ _).mono ?_; rintro e w' ⟨rfl, rfl⟩))
  refine (add_yes _ _ _ _ Y M D _ h h2 hn.out).mono ?_
  rintro e w1 ⟨rfl, hk⟩
  obtain ⟨hc, hf, hz⟩ := kept_facts hk
  simp at hz
  go_wp2
  exact bodyPost_ret (v := .tuple #[.agg #[.int .i64 Y, .int .i64 M, .int .i64 D], .bool true]) (by simp [results, Ydim.results19, go_sem, hc]) rfl ⟨rfl, kept_setCell (kept_setCell (kept_setCell (kept_trans (by repeat (first | with_reducible exact kept_refl _ | with_reducible apply kept_alloc | with_reducible apply kept_drewN | with_reducible apply kept_drew | (with_reducible refine kept_setCell ?_ (by simp) _))) hk) (by simp) _) (by simp) _) (by simp) _⟩

set_option maxHeartbeats 1000000 in
theorem nw_out_up (y m d x g : Int) (w : World) (h : Cal.vldB y m d = true) (x1 : 1 ≤ x) (x2 : x ≤ 7) (eg : Cal.wday (Cal.num y m d) = g) (g1 : 1 ≤ g) (g2 : g ≤ 7) (c : x - g < 0) (hn : Hid (2932896 - Cal.num y m d < x - g + 7)) :
    Calls Ydim.prog 19 #[.agg #[.int .i64 y, .int .i64 m, .int .i64 d], .int .i64 x] w fun e w' => e = .returned (.tuple #[.agg #[.int .i64 0, .int .i64 0, .int .i64 0], .bool false]) ∧ Kept w w' := by
  go_enter Ydim.func19, Ydim.ntmps19
  go_wp2_with (first | (go_at_call 20; refine (todays_yes _ _ _ _ h).mono ?_; rintro e w' ⟨rfl, k, rfl⟩) | (go_at_call 14; refine (week_any _ _).mono ?_; rintro e w' ⟨rfl, rfl⟩))
  refine (add_out _ _ _ _ _ h (Or.inr hn.out)).mono ?_
  rintro e w1 ⟨rfl, hk⟩
  obtain ⟨hc, hf, hz⟩ := kept_facts hk
  simp at hz
  go_wp2
  exact bodyPost_ret (v := .tuple #[.agg #[.int .i64 0, .int .i64 0, .int .i64 0], .bool false]) (by simp [results, Ydim.results19, go_sem, hc]) rfl ⟨rfl, kept_setCell (kept_setCell (kept_setCell (kept_trans (by repeat (first | with_reducible exact kept_refl _ | with_reducible apply kept_alloc | with_reducible apply kept_drewN | with_reducible apply kept_drew | (with_reducible refine kept_setCell ?_ (by simp) _))) hk) (by simp) _) (by simp) _) (by simp) _⟩

set_option maxHeartbeats 1000000 in
theorem nw_yes_eq (y m d x g Y M D : Int) (w : World) (h : Cal.vldB y m d = true) (x1 : 1 ≤ x) (x2 : x ≤ 7) (eg : Cal.wday (Cal.num y m d) = g) (g1 : 1 ≤ g) (g2 : g ≤ 7) (c : ¬ x - g < 0) (h2 : Cal.vldB Y M D = true) (hn : Hid (Cal.num Y M D = Cal.num y m d + (x - g))) :
    Calls Ydim.prog 19 #[.agg #[.int .i64 y, .int .i64 m, .int .i64 d], .int .i64 x] w fun e w' => e = .returned (.tuple #[.agg #[.int .i64 Y, .int .i64 M, .int .i64 D], .bool true]) ∧ Kept w w' := by
  go_enter Ydim.func19, Ydim.ntmps19
  go_wp2_with (first | (go_at_call 20; refine (todays_yes _ _ _ _ h).mono ?_; rintro e w' ⟨rfl, k, rfl⟩) | (go_at_call 14; refine (week_any _ _).mono ?_; rintro e w' ⟨rfl, rfl⟩))
  refine (add_yes _ _ _ _ Y M D _ h h2 hn.out).mono ?_
  rintro e w1 ⟨rfl, hk⟩
  obtain ⟨hc, hf, hz⟩ := kept_facts hk
  simp at hz
  go_wp2
  exact bodyPost_ret (v := .tuple #[.agg #[.int .i64 Y, .int .i64 M, .int .i64 D], .bool true]) (by simp [results, Ydim.results19, go_sem, hc]) rfl ⟨rfl, kept_setCell (kept_setCell (kept_setCell (kept_trans (by repeat (first | with_reducible exact kept_refl _ | with_reducible apply kept_alloc | with_reducible apply kept_drewN | with_reducible apply kept_drew | (with_reducible refine kept_setCell ?_ (by simp) _))) hk) (by simp) _) (by simp) _) (by simp) _⟩

set_option maxHeartbeats 1000000 in
theorem nw_out_eq (y m d x g : Int) (w : World) (h : Cal.vldB y m d = true) (x1 : 1 ≤ x) (x2 : x ≤ 7) (eg : Cal.wday (Cal.num y m d) = g) (g1 : 1 ≤ g) (g2 : g ≤ 7) (c : ¬ x - g < 0) (hn : Hid (2932896 - Cal.num y m d < x - g)) :
    Calls Ydim.prog 19 #[.agg #[.int .i64 y, .int .i64 m, .int .i64 d], .int .i64 x] w fun e w' => e = .returned (.tuple #[.agg #[.int .i64 0, .int .i64 0, .int .i64 0], .bool false]) ∧ Kept w w' := by
  go_enter Ydim.func19, Ydim.ntmps19
  go_wp2_with (first | (go_at_call 20; refine (todays_yes _ _ _ _ h).mono ?_; rintro e w' ⟨rfl, k, rfl⟩) | (go_at_call 14; refine (week_any _ _).mono ?_; rintro e w' ⟨rfl, rfl⟩))
  refine (add_out _ _ _ _ _ h (Or.inr hn.out)).mono ?_
  rintro e w1 ⟨rfl, hk⟩
  obtain ⟨hc, hf, hz⟩ := kept_facts hk
  simp at hz
  go_wp2
  exact bodyPost_ret (v := .tuple #[.agg #[.int .i64 0, .int .i64 0, .int .i64 0], .bool false]) (by simp [results, Ydim.results19, go_sem, hc]) rfl ⟨rfl, kept_setCell (kept_setCell (kept_setCell (kept_trans (by repeat (first | with_reducible exact kept_refl _ | with_reducible apply kept_alloc | with_reducible apply kept_drewN | with_reducible apply kept_drew | (with_reducible refine kept_setCell ?_ (by simp) _))) hk) (by simp) _) (by simp) _) (by simp) _⟩
end Go.Proofs.Ymbrdi
