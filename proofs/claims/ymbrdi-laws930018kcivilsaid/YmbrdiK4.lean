/-
  THE K LAWS' WALKS, MORE: LawS930018KCivil.
-/
import Derived.Test.YmbrdiK3
import Derived.Handy
namespace Go.Proofs.Ymbrdi
open Go.RowKit
set_option linter.unusedVariables false
/-- What the law's own reckoning answers at y, m, d, x. -/
abbrev KnAt (y m d x Y M D : Int) (ok : Bool) : Prop := ∀ w, Calls Ydim.prog 18 #[.int .i64 y, .int .i64 m, .int .i64 d, .int .i64 x] w fun e w' => e = .returned (.tuple #[.agg #[.int .i64 Y, .int .i64 M, .int .i64 D], .bool ok]) ∧ Kept w w'
/-- What NextWeekday answers there. -/
abbrev NwAt (y m d x Y M D : Int) (ok : Bool) : Prop := ∀ w, Calls Ydim.prog 19 #[.agg #[.int .i64 y, .int .i64 m, .int .i64 d], .int .i64 x] w fun e w' => e = .returned (.tuple #[.agg #[.int .i64 Y, .int .i64 M, .int .i64 D], .bool ok]) ∧ Kept w w'
theorem nw_at {y m d x t Y M D : Int} (h : Cal.vldB y m d = true) (x1 : 1 ≤ x) (x2 : x ≤ 7) (et : (x - Cal.wday (Cal.num y m d) + 7) % 7 = t) (h2 : Cal.vldB Y M D = true) (hn : Cal.num Y M D = Cal.num y m d + t) : NwAt y m d x Y M D true := by
  intro w
  obtain ⟨g1, g2⟩ := Cal.wday_bd (Cal.num y m d)
  by_cases c : x - Cal.wday (Cal.num y m d) < 0
  · exact nw_yes_up y m d x _ Y M D w h x1 x2 rfl g1 g2 c h2 (by show _ = _; rw [hn]; omega)
  · exact nw_yes_eq y m d x _ Y M D w h x1 x2 rfl g1 g2 c h2 (by show _ = _; rw [hn]; omega)
theorem nw_off {y m d x t : Int} (h : Cal.vldB y m d = true) (x1 : 1 ≤ x) (x2 : x ≤ 7) (et : (x - Cal.wday (Cal.num y m d) + 7) % 7 = t) (hn : 2932896 - Cal.num y m d < t) : NwAt y m d x 0 0 0 false := by
  intro w
  obtain ⟨g1, g2⟩ := Cal.wday_bd (Cal.num y m d)
  by_cases c : x - Cal.wday (Cal.num y m d) < 0
  · exact nw_out_up y m d x _ w h x1 x2 rfl g1 g2 c (by show _ < _; omega)
  · exact nw_out_eq y m d x _ w h x1 x2 rfl g1 g2 c (by show _ < _; omega)
theorem civ_pair (y m d x : Int) : ∃ Y M D ok, KnAt y m d x Y M D ok ∧ NwAt y m d x Y M D ok := by
  cases h : Cal.vldB y m d
  · exact ⟨0, 0, 0, false, fun w => kn_no y m d x w h, fun w => nw_no y m d x w h⟩
  by_cases hx : x < 1 ∨ 7 < x
  · exact ⟨0, 0, 0, false, fun w => kn_bad y m d x w h hx, fun w => nw_bad y m d x w h hx⟩
  obtain ⟨g1, g2⟩ := Cal.wday_bd (Cal.num y m d)
  obtain ⟨t, et⟩ : ∃ t, (x - Cal.wday (Cal.num y m d) + 7) % 7 = t := ⟨_, rfl⟩
  by_cases k : d + t ≤ Cal.dim y m
  · have s := shift_d h (by omega) k
    exact ⟨_, _, _, _, fun w => kn_d y m d x _ t w h (by omega) (by omega) rfl g1 g2 et (by omega) (by omega) k, nw_at h (by omega) (by omega) et s.1 s.2⟩
  by_cases l : m < 12
  · have s := shift_m h (t := t) (by omega) (by omega) (by omega) l
    exact ⟨_, _, _, _, fun w => kn_m y m d x _ t w h (by omega) (by omega) rfl g1 g2 et (by omega) (by omega) k l, nw_at h (by omega) (by omega) et s.1 s.2⟩
  by_cases q : y < 9999
  · have s := shift_y h (t := t) (by omega) (by omega) (by omega) l
    exact ⟨_, _, _, _, fun w => kn_y y m d x _ t w h (by omega) (by omega) rfl g1 g2 et (by omega) (by omega) k l q, nw_at h (by omega) (by omega) et (s.1 q) s.2⟩
  · have s := shift_z h (t := t) (by omega) (by omega) (by omega) l q
    exact ⟨_, _, _, _, fun w => kn_z y m d x _ t w h (by omega) (by omega) rfl g1 g2 et (by omega) (by omega) k l q, nw_off h (by omega) (by omega) et s⟩
set_option maxHeartbeats 1000000 in
theorem civ_raw (a y m d x Y M D : Int) (ok : Bool) (w : World) (a0 : 0 ≤ a) (a1 : a ≤ 255) (ea : a % 3 = 0) (HK : Hid (KnAt y m d x Y M D ok)) (HN : Hid (NwAt y m d x Y M D ok)) :
    Calls Ydim.prog 9 #[.int .u8 a, .int .i64 y, .int .i64 m, .int .i64 d, .int .i64 x] w fun e w' => e = .returned (.bool true) ∧ Kept w w' := by
  go_enter Ydim.func9, Ydim.ntmps9
  go_wp2_with fail
  refine (HK.out _).mono ?_
  rintro e w1 ⟨rfl, hk⟩
  go_wp2_with fail
  refine (HN.out _).mono ?_
  rintro e w2 ⟨rfl, hk2⟩
  obtain ⟨hc, hf, hz⟩ := kept_facts hk2
  simp at hz
  have hz' : w1.heap.size < w2.heap.size := by omega
  go_wp2
  go_ret
  exact ⟨rfl, kept_alloc (kept_trans (kept_alloc hk _ _) hk2) _ _⟩
set_option maxHeartbeats 1000000 in
theorem civ_near (a y m d x Y M D : Int) (ok : Bool) (w : World) (a0 : 0 ≤ a) (a1 : a ≤ 255) (ea : a % 3 = 1) (HK : Hid (KnAt (wrap64 ((IntKind.u64.wrap y).tmod 10000)) (wrap64 (1 + wrap64 ((IntKind.u64.wrap m).tmod 12))) (wrap64 (1 + wrap64 ((IntKind.u64.wrap d).tmod 31))) (wrap64 ((IntKind.u64.wrap x).tmod 9)) Y M D ok)) (HN : Hid (NwAt (wrap64 ((IntKind.u64.wrap y).tmod 10000)) (wrap64 (1 + wrap64 ((IntKind.u64.wrap m).tmod 12))) (wrap64 (1 + wrap64 ((IntKind.u64.wrap d).tmod 31))) (wrap64 ((IntKind.u64.wrap x).tmod 9)) Y M D ok)) :
    Calls Ydim.prog 9 #[.int .u8 a, .int .i64 y, .int .i64 m, .int .i64 d, .int .i64 x] w fun e w' => e = .returned (.bool true) ∧ Kept w w' := by
  go_enter Ydim.func9, Ydim.ntmps9
  go_wp2_with fail
  refine (HK.out _).mono ?_
  rintro e w1 ⟨rfl, hk⟩
  go_wp2_with fail
  refine (HN.out _).mono ?_
  rintro e w2 ⟨rfl, hk2⟩
  obtain ⟨hc, hf, hz⟩ := kept_facts hk2
  simp at hz
  have hz' : w1.heap.size < w2.heap.size := by omega
  go_wp2
  go_ret
  exact ⟨rfl, kept_alloc (kept_trans (kept_alloc hk _ _) hk2) _ _⟩
set_option maxHeartbeats 1000000 in
theorem civ_end (a y m d x Y M D : Int) (ok : Bool) (w : World) (a0 : 0 ≤ a) (a1 : a ≤ 255) (ea : a % 3 = 2) (HK : Hid (KnAt (9999) (12) (wrap64 (22 + wrap64 ((IntKind.u64.wrap d).tmod 10))) (wrap64 (1 + wrap64 ((IntKind.u64.wrap x).tmod 7))) Y M D ok)) (HN : Hid (NwAt (9999) (12) (wrap64 (22 + wrap64 ((IntKind.u64.wrap d).tmod 10))) (wrap64 (1 + wrap64 ((IntKind.u64.wrap x).tmod 7))) Y M D ok)) :
    Calls Ydim.prog 9 #[.int .u8 a, .int .i64 y, .int .i64 m, .int .i64 d, .int .i64 x] w fun e w' => e = .returned (.bool true) ∧ Kept w w' := by
  go_enter Ydim.func9, Ydim.ntmps9
  go_wp2_with fail
  refine (HK.out _).mono ?_
  rintro e w1 ⟨rfl, hk⟩
  go_wp2_with fail
  refine (HN.out _).mono ?_
  rintro e w2 ⟨rfl, hk2⟩
  obtain ⟨hc, hf, hz⟩ := kept_facts hk2
  simp at hz
  have hz' : w1.heap.size < w2.heap.size := by omega
  go_wp2
  go_ret
  exact ⟨rfl, kept_alloc (kept_trans (kept_alloc hk _ _) hk2) _ _⟩
theorem civ_any (a y m d x : Int) (w : World) (a0 : 0 ≤ a) (a1 : a ≤ 255) :
    Calls Ydim.prog 9 #[.int .u8 a, .int .i64 y, .int .i64 m, .int .i64 d, .int .i64 x] w fun e w' => e = .returned (.bool true) ∧ Kept w w' := by
  have h : a % 3 = 0 ∨ a % 3 = 1 ∨ a % 3 = 2 := by omega
  rcases h with h | h | h
  · obtain ⟨Y, M, D, ok, hk, hn⟩ := civ_pair y m d x
    exact civ_raw a y m d x Y M D ok w a0 a1 h hk hn
  · obtain ⟨Y, M, D, ok, hk, hn⟩ := civ_pair _ _ _ _
    exact civ_near a y m d x Y M D ok w a0 a1 h hk hn
  · obtain ⟨Y, M, D, ok, hk, hn⟩ := civ_pair _ _ _ _
    exact civ_end a y m d x Y M D ok w a0 a1 h hk hn
end Go.Proofs.Ymbrdi
