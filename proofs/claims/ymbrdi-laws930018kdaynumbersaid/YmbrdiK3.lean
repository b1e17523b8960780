/-
  THE K LAWS' WALKS, MORE: the law's own next weekday.
-/
import Derived.Test.YmbrdiK2
namespace Go.Proofs.Ymbrdi
open Go.RowKit
set_option linter.unusedVariables false
/-! A few days on, told on year, month and day. -/
theorem shift_d {y m d t : Int} (h : Cal.vldB y m d = true) (t1 : 0 ≤ t) (k : d + t ≤ Cal.dim y m) : Cal.vldB y m (d + t) = true ∧ Cal.num y m (d + t) = Cal.num y m d + t := by
  obtain ⟨h1, h2, h3, h4⟩ := Cal.vld_of h
  exact ⟨Cal.vld_mk (by omega), by unfold Cal.num; omega⟩
theorem shift_m {y m d t : Int} (h : Cal.vldB y m d = true) (t1 : 0 ≤ t) (t2 : t ≤ 6) (k : Cal.dim y m < d + t) (l : m < 12) : Cal.vldB y (m + 1) (d + t - Cal.dim y m) = true ∧ Cal.num y (m + 1) (d + t - Cal.dim y m) = Cal.num y m d + t := by
  obtain ⟨h1, h2, h3, h4⟩ := Cal.vld_of h
  obtain ⟨m1, m2⟩ := Cal.vld_m h
  have a := Cal.dim_in y (m + 1) (by omega) (by omega)
  have b := Cal.cum_succ y m m1 m2
  exact ⟨Cal.vld_mk (by omega), by unfold Cal.num; rw [b]; omega⟩
theorem shift_y {y m d t : Int} (h : Cal.vldB y m d = true) (t1 : 0 ≤ t) (t2 : t ≤ 6) (k : Cal.dim y m < d + t) (l : ¬ m < 12) : (y < 9999 → Cal.vldB (y + 1) 1 (d + t - Cal.dim y m) = true) ∧ Cal.num (y + 1) 1 (d + t - Cal.dim y m) = Cal.num y m d + t := by
  obtain ⟨h1, h2, h3, h4⟩ := Cal.vld_of h
  obtain ⟨m1, m2⟩ := Cal.vld_m h
  obtain rfl : m = 12 := by omega
  have a := Cal.dim_in (y + 1) 1 (by omega) (by omega)
  have b := Cal.dby_succ y h1
  have c := Cal.cum_tab y
  have e := (Cal.dim_tab y).2.2.2.2.2.2.2.2.2.2.2
  have f := (Cal.cum_tab (y + 1)).1
  refine ⟨fun hy => Cal.vld_mk (by omega), ?_⟩
  unfold Cal.num; rw [b, f, c.2.2.2.2.2.2.2.2.2.2.2.1]; omega
theorem shift_z {y m d t : Int} (h : Cal.vldB y m d = true) (t1 : 0 ≤ t) (t2 : t ≤ 6) (k : Cal.dim y m < d + t) (l : ¬ m < 12) (g : ¬ y < 9999) : 2932896 - Cal.num y m d < t := by
  obtain ⟨h1, h2, h3, h4⟩ := Cal.vld_of h
  have a := (shift_y h t1 t2 k l).2
  have y9 : y = 9999 := by omega
  rw [show y + 1 = (10000 : Int) by omega] at a
  have b : Cal.num 10000 1 (d + t - Cal.dim y m) = 2932897 + (d + t - Cal.dim y m) - 1 := by
    unfold Cal.num; rw [Cal.dby_max, (Cal.cum_tab 10000).1]; omega
  omega

set_option maxHeartbeats 2000000 in
theorem kn_no (y m d x : Int) (w : World) (h : Cal.vldB y m d = false) :
    Calls Ydim.prog 18 #[.int .i64 y, .int .i64 m, .int .i64 d, .int .i64 x] w fun e w' => e = .returned (.tuple #[.agg #[.int .i64 0, .int .i64 0, .int .i64 0], .bool false]) ∧ Kept w w' := by
  have h' := Cal.vld_not h
  have hout := Cal.dim_out y m
  by_cases c0 : y < 0
  · clear h' hout h
    go_enter Ydim.func18, Ydim.ntmps18
    go_wp2_with (go_at_call 25; refine (klen_any _ _ _).mono ?_; rintro e w' ⟨rfl, rfl⟩)
    exact bodyPost_ret (v := .tuple #[.agg #[.int .i64 0, .int .i64 0, .int .i64 0], .bool false]) (by simp [results, Ydim.results18, go_sem]) rfl ⟨rfl, by repeat (first | with_reducible exact kept_refl _ | with_reducible apply kept_alloc | with_reducible apply kept_drewN | with_reducible apply kept_drew | (with_reducible refine kept_setCell ?_ (by simp) _))⟩
  by_cases c1 : 9999 < y
  · clear h' hout h
    go_enter Ydim.func18, Ydim.ntmps18
    go_wp2_with (go_at_call 25; refine (klen_any _ _ _).mono ?_; rintro e w' ⟨rfl, rfl⟩)
    exact bodyPost_ret (v := .tuple #[.agg #[.int .i64 0, .int .i64 0, .int .i64 0], .bool false]) (by simp [results, Ydim.results18, go_sem]) rfl ⟨rfl, by repeat (first | with_reducible exact kept_refl _ | with_reducible apply kept_alloc | with_reducible apply kept_drewN | with_reducible apply kept_drew | (with_reducible refine kept_setCell ?_ (by simp) _))⟩
  by_cases c2 : m < 1
  · clear h' hout h
    go_enter Ydim.func18, Ydim.ntmps18
    go_wp2_with (go_at_call 25; refine (klen_any _ _ _).mono ?_; rintro e w' ⟨rfl, rfl⟩)
    exact bodyPost_ret (v := .tuple #[.agg #[.int .i64 0, .int .i64 0, .int .i64 0], .bool false]) (by simp [results, Ydim.results18, go_sem]) rfl ⟨rfl, by repeat (first | with_reducible exact kept_refl _ | with_reducible apply kept_alloc | with_reducible apply kept_drewN | with_reducible apply kept_drew | (with_reducible refine kept_setCell ?_ (by simp) _))⟩
  by_cases c3 : 12 < m
  · clear h' hout h
    go_enter Ydim.func18, Ydim.ntmps18
    go_wp2_with (go_at_call 25; refine (klen_any _ _ _).mono ?_; rintro e w' ⟨rfl, rfl⟩)
    exact bodyPost_ret (v := .tuple #[.agg #[.int .i64 0, .int .i64 0, .int .i64 0], .bool false]) (by simp [results, Ydim.results18, go_sem]) rfl ⟨rfl, by repeat (first | with_reducible exact kept_refl _ | with_reducible apply kept_alloc | with_reducible apply kept_drewN | with_reducible apply kept_drew | (with_reducible refine kept_setCell ?_ (by simp) _))⟩
  by_cases c4 : d < 1
  · clear h' hout h
    go_enter Ydim.func18, Ydim.ntmps18
    go_wp2_with (go_at_call 25; refine (klen_any _ _ _).mono ?_; rintro e w' ⟨rfl, rfl⟩)
    exact bodyPost_ret (v := .tuple #[.agg #[.int .i64 0, .int .i64 0, .int .i64 0], .bool false]) (by simp [results, Ydim.results18, go_sem]) rfl ⟨rfl, by repeat (first | with_reducible exact kept_refl _ | with_reducible apply kept_alloc | with_reducible apply kept_drewN | with_reducible apply kept_drew | (with_reducible refine kept_setCell ?_ (by simp) _))⟩
  · have c5 : Cal.dim y m < d := by omega
    clear h' hout h
    go_enter Ydim.func18, Ydim.ntmps18
    go_wp2_with (go_at_call 25; refine (klen_any _ _ _).mono ?_; rintro e w' ⟨rfl, rfl⟩)
    exact bodyPost_ret (v := .tuple #[.agg #[.int .i64 0, .int .i64 0, .int .i64 0], .bool false]) (by simp [results, Ydim.results18, go_sem]) rfl ⟨rfl, by repeat (first | with_reducible exact kept_refl _ | with_reducible apply kept_alloc | with_reducible apply kept_drewN | with_reducible apply kept_drew | (with_reducible refine kept_setCell ?_ (by simp) _))⟩

set_option maxHeartbeats 2000000 in
theorem kn_bad (y m d x : Int) (w : World) (h : Cal.vldB y m d = true) (hx : x < 1 ∨ 7 < x) :
    Calls Ydim.prog 18 #[.int .i64 y, .int .i64 m, .int .i64 d, .int .i64 x] w fun e w' => e = .returned (.tuple #[.agg #[.int .i64 0, .int .i64 0, .int .i64 0], .bool false]) ∧ Kept w w' := by
  obtain ⟨hm1, hm2⟩ := Cal.vld_m h
  obtain ⟨hy1, hy2, hd1, hd2⟩ := Cal.vld_of h
  rcases hx with hx | hx
  all_goals
    have hx' : Hid (x < 1 ∨ 7 < x) := by first | exact Or.inl hx | exact Or.inr hx
    go_enter Ydim.func18, Ydim.ntmps18
    go_wp2_with (go_at_call 25; refine (klen_any _ _ _).mono ?_; rintro e w' ⟨rfl, rfl⟩)
    exact bodyPost_ret (v := .tuple #[.agg #[.int .i64 0, .int .i64 0, .int .i64 0], .bool false]) (by simp [results, Ydim.results18, go_sem]) rfl ⟨rfl, by repeat (first | with_reducible exact kept_refl _ | with_reducible apply kept_alloc | with_reducible apply kept_drewN | with_reducible apply kept_drew | (with_reducible refine kept_setCell ?_ (by simp) _))⟩

set_option maxHeartbeats 2000000 in
theorem kn_d (y m d x g t : Int) (w : World) (h : Cal.vldB y m d = true) (x1 : 1 ≤ x) (x2 : x ≤ 7) (eg : Cal.wday (Cal.num y m d) = g) (g1 : 1 ≤ g) (g2 : g ≤ 7) (et : (x - g + 7) % 7 = t) (t1 : 0 ≤ t) (t2 : t ≤ 6) (k : d + t ≤ Cal.dim y m) :
    Calls Ydim.prog 18 #[.int .i64 y, .int .i64 m, .int .i64 d, .int .i64 x] w fun e w' => e = .returned (.tuple #[.agg #[.int .i64 y, .int .i64 m, .int .i64 (d + t)], .bool true]) ∧ Kept w w' := by
  obtain ⟨hm1, hm2⟩ := Cal.vld_m h
  obtain ⟨hy1, hy2, hd1, hdd⟩ := Cal.vld_of h
  have hd2 := Cal.vld_d h
  obtain ⟨l1, l2⟩ := Cal.dim_in y m hm1 hm2
  go_enter Ydim.func18, Ydim.ntmps18
  go_wp2_with (first | (go_at_call 25; refine (klen_any _ _ _).mono ?_; rintro e w' ⟨rfl, rfl⟩) | (go_at_call 26; refine (kwday_any _ _ _ _ h).mono ?_; rintro e w' ⟨rfl, cc, rfl⟩))
  exact bodyPost_ret (v := .tuple #[.agg #[.int .i64 y, .int .i64 m, .int .i64 (d + t)], .bool true]) (by simp [results, Ydim.results18, go_sem]) rfl ⟨rfl, by repeat (first | with_reducible exact kept_refl _ | with_reducible apply kept_alloc | with_reducible apply kept_drewN | with_reducible apply kept_drew | (with_reducible refine kept_setCell ?_ (by simp) _))⟩

set_option maxHeartbeats 2000000 in
theorem kn_m (y m d x g t : Int) (w : World) (h : Cal.vldB y m d = true) (x1 : 1 ≤ x) (x2 : x ≤ 7) (eg : Cal.wday (Cal.num y m d) = g) (g1 : 1 ≤ g) (g2 : g ≤ 7) (et : (x - g + 7) % 7 = t) (t1 : 0 ≤ t) (t2 : t ≤ 6) (k : ¬ d + t ≤ Cal.dim y m) (l : m < 12) :
    Calls Ydim.prog 18 #[.int .i64 y, .int .i64 m, .int .i64 d, .int .i64 x] w fun e w' => e = .returned (.tuple #[.agg #[.int .i64 y, .int .i64 (m + 1), .int .i64 (d + t - Cal.dim y m)], .bool true]) ∧ Kept w w' := by
  obtain ⟨hm1, hm2⟩ := Cal.vld_m h
  obtain ⟨hy1, hy2, hd1, hdd⟩ := Cal.vld_of h
  have hd2 := Cal.vld_d h
  obtain ⟨l1, l2⟩ := Cal.dim_in y m hm1 hm2
  go_enter Ydim.func18, Ydim.ntmps18
  go_wp2_with (first | (go_at_call 25; refine (klen_any _ _ _).mono ?_; rintro e w' ⟨rfl, rfl⟩) | (go_at_call 26; refine (kwday_any _ _ _ _ h).mono ?_; rintro e w' ⟨rfl, cc, rfl⟩))
  exact bodyPost_ret (v := .tuple #[.agg #[.int .i64 y, .int .i64 (m + 1), .int .i64 (d + t - Cal.dim y m)], .bool true]) (by simp [results, Ydim.results18, go_sem]) rfl ⟨rfl, by repeat (first | with_reducible exact kept_refl _ | with_reducible apply kept_alloc | with_reducible apply kept_drewN | with_reducible apply kept_drew | (with_reducible refine kept_setCell ?_ (by simp) _))⟩

set_option maxHeartbeats 2000000 in
theorem kn_y (y m d x g t : Int) (w : World) (h : Cal.vldB y m d = true) (x1 : 1 ≤ x) (x2 : x ≤ 7) (eg : Cal.wday (Cal.num y m d) = g) (g1 : 1 ≤ g) (g2 : g ≤ 7) (et : (x - g + 7) % 7 = t) (t1 : 0 ≤ t) (t2 : t ≤ 6) (k : ¬ d + t ≤ Cal.dim y m) (l : ¬ m < 12) (q : y < 9999) :
    Calls Ydim.prog 18 #[.int .i64 y, .int .i64 m, .int .i64 d, .int .i64 x] w fun e w' => e = .returned (.tuple #[.agg #[.int .i64 (y + 1), .int .i64 1, .int .i64 (d + t - Cal.dim y m)], .bool true]) ∧ Kept w w' := by
  obtain ⟨hm1, hm2⟩ := Cal.vld_m h
  obtain ⟨hy1, hy2, hd1, hdd⟩ := Cal.vld_of h
  have hd2 := Cal.vld_d h
  obtain ⟨l1, l2⟩ := Cal.dim_in y m hm1 hm2
  go_enter Ydim.func18, Ydim.ntmps18
  go_wp2_with (first | (go_at_call 25; refine (klen_any _ _ _).mono ?_; rintro e w' ⟨rfl, rfl⟩) | (go_at_call 26; refine (kwday_any _ _ _ _ h).mono ?_; rintro e w' ⟨rfl, cc, rfl⟩))
  exact bodyPost_ret (v := .tuple #[.agg #[.int .i64 (y + 1), .int .i64 1, .int .i64 (d + t - Cal.dim y m)], .bool true]) (by simp [results, Ydim.results18, go_sem]) rfl ⟨rfl, by repeat (first | with_reducible exact kept_refl _ | with_reducible apply kept_alloc | with_reducible apply kept_drewN | with_reducible apply kept_drew | (with_reducible refine kept_setCell ?_ (by simp) _))⟩

set_option maxHeartbeats 2000000 in
theorem kn_z (y m d x g t : Int) (w : World) (h : Cal.vldB y m d = true) (x1 : 1 ≤ x) (x2 : x ≤ 7) (eg : Cal.wday (Cal.num y m d) = g) (g1 : 1 ≤ g) (g2 : g ≤ 7) (et : (x - g + 7) % 7 = t) (t1 : 0 ≤ t) (t2 : t ≤ 6) (k : ¬ d + t ≤ Cal.dim y m) (l : ¬ m < 12) (q : ¬ y < 9999) :
    Calls Ydim.prog 18 #[.int .i64 y, .int .i64 m, .int .i64 d, .int .i64 x] w fun e w' => e = .returned (.tuple #[.agg #[.int .i64 0, .int .i64 0, .int .i64 0], .bool false]) ∧ Kept w w' := by
  obtain ⟨hm1, hm2⟩ := Cal.vld_m h
  obtain ⟨hy1, hy2, hd1, hdd⟩ := Cal.vld_of h
  have hd2 := Cal.vld_d h
  obtain ⟨l1, l2⟩ := Cal.dim_in y m hm1 hm2
  go_enter Ydim.func18, Ydim.ntmps18
  go_wp2_with (first | (go_at_call 25; refine (klen_any _ _ _).mono ?_; rintro e w' ⟨rfl, rfl⟩) | (go_at_call 26; refine (kwday_any _ _ _ _ h).mono ?_; rintro e w' ⟨rfl, cc, rfl⟩))
  exact bodyPost_ret (v := .tuple #[.agg #[.int .i64 0, .int .i64 0, .int .i64 0], .bool false]) (by simp [results, Ydim.results18, go_sem]) rfl ⟨rfl, by repeat (first | with_reducible exact kept_refl _ | with_reducible apply kept_alloc | with_reducible apply kept_drewN | with_reducible apply kept_drew | (with_reducible refine kept_setCell ?_ (by simp) _))⟩
end Go.Proofs.Ymbrdi
