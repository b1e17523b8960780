/-
  THE J LAWS' WALKS, MORE: the three laws.
-/
import Derived.Test.YmbrdiJ
namespace Go.Proofs.Ymbrdi
open Go.RowKit
set_option linter.unusedVariables false

set_option maxHeartbeats 1000000 in
theorem jExact_any (y m d : Int) (w : World) :
    Calls Ydim.prog 6 #[.int .i64 y, .int .i64 m, .int .i64 d] w fun e w' => e = .returned (.bool true) ∧ Kept w w' := by
  all_goals
    go_enter Ydim.func6, Ydim.ntmps6
    go_wp2_with (first | (go_at_call 15; refine (valid_any _ _ _ _).mono ?_; rintro e w' ⟨rfl, n, rfl⟩) | (go_at_call 16; refine (jnames_any _ _ _ _).mono ?_; rintro e w' ⟨rfl, rfl⟩))
    go_ret
    exact ⟨rfl, by repeat (first | with_reducible exact kept_refl _ | with_reducible apply kept_alloc | with_reducible apply kept_drewN | with_reducible apply kept_drew | (with_reducible refine kept_setCell ?_ (by simp) _))⟩
theorem yearTab (i : Int) (i1 : 0 ≤ i) (i2 : i < 12) : ∃ Y : Int, ∀ h, ([Value.int IntKind.i64 0, Value.int IntKind.i64 9999, Value.int IntKind.i64 (-1), Value.int IntKind.i64 10000, Value.int IntKind.i64 1, Value.int IntKind.i64 4, Value.int IntKind.i64 100, Value.int IntKind.i64 400, Value.int IntKind.i64 1900, Value.int IntKind.i64 2000, Value.int IntKind.i64 2023, Value.int IntKind.i64 2024] : List Value)[i.toNat]'h = Value.int IntKind.i64 Y := by
  have : i = 0 ∨ i = 1 ∨ i = 2 ∨ i = 3 ∨ i = 4 ∨ i = 5 ∨ i = 6 ∨ i = 7 ∨ i = 8 ∨ i = 9 ∨ i = 10 ∨ i = 11 := by omega
  rcases this with rfl | rfl | rfl | rfl | rfl | rfl | rfl | rfl | rfl | rfl | rfl | rfl
  all_goals exact ⟨_, fun _ => rfl⟩
theorem dayTab (i : Int) (i1 : 0 ≤ i) (i2 : i < 8) : ∃ Y : Int, ∀ h, ([Value.int IntKind.i64 0, Value.int IntKind.i64 1, Value.int IntKind.i64 28, Value.int IntKind.i64 29, Value.int IntKind.i64 30, Value.int IntKind.i64 31, Value.int IntKind.i64 32, Value.int IntKind.i64 (-1)] : List Value)[i.toNat]'h = Value.int IntKind.i64 Y := by
  have : i = 0 ∨ i = 1 ∨ i = 2 ∨ i = 3 ∨ i = 4 ∨ i = 5 ∨ i = 6 ∨ i = 7 := by omega
  rcases this with rfl | rfl | rfl | rfl | rfl | rfl | rfl | rfl
  all_goals exact ⟨_, fun _ => rfl⟩
set_option maxHeartbeats 2000000 in
theorem jEdges_core (a b c i j k : Int) (w : World) (ha0 : 0 ≤ a) (ha1 : a ≤ 255) (hb0 : 0 ≤ b) (hb1 : b ≤ 255) (hc0 : 0 ≤ c) (hc1 : c ≤ 255) (ei : a % 12 = i) (ej : b % 14 = j) (ek : c % 8 = k) (i1 : 0 ≤ i) (i2 : i < 12) (k1 : 0 ≤ k) (k2 : k < 8) :
    Calls Ydim.prog 7 #[.int .u8 a, .int .u8 b, .int .u8 c] w fun e w' => e = .returned (.bool true) ∧ Kept w w' := by
  obtain ⟨Y, hY⟩ := yearTab i i1 i2
  obtain ⟨D, hD⟩ := dayTab k k1 k2
  all_goals
    go_enter Ydim.func7, Ydim.ntmps7
    go_wp2_with (first | (go_at_call 15; refine (valid_any _ _ _ _).mono ?_; rintro e w' ⟨rfl, n, rfl⟩) | (go_at_call 16; refine (jnames_any _ _ _ _).mono ?_; rintro e w' ⟨rfl, rfl⟩))
    go_ret
    exact ⟨rfl, by repeat (first | with_reducible exact kept_refl _ | with_reducible apply kept_alloc | with_reducible apply kept_drewN | with_reducible apply kept_drew | (with_reducible refine kept_setCell ?_ (by simp) _))⟩
theorem jEdges_any (a b c : Int) (w : World) (ha0 : 0 ≤ a) (ha1 : a ≤ 255) (hb0 : 0 ≤ b) (hb1 : b ≤ 255) (hc0 : 0 ≤ c) (hc1 : c ≤ 255) :
    Calls Ydim.prog 7 #[.int .u8 a, .int .u8 b, .int .u8 c] w fun e w' => e = .returned (.bool true) ∧ Kept w w' :=
  jEdges_core a b c _ _ _ w ha0 ha1 hb0 hb1 hc0 hc1 rfl rfl rfl (by omega) (by omega) (by omega) (by omega)
set_option maxHeartbeats 1000000 in
theorem jFrom_core (a p y m d : Int) (w : World) (ha0 : 0 ≤ a) (ha1 : a ≤ 4294967295) (ea : a % 3652425 = p) (p1 : 0 ≤ p) (p2 : p ≤ 3652424) (hv : Cal.vldB y m d = true) (hn : Cal.num y m d = -719528 + p) :
    Calls Ydim.prog 8 #[.int .u32 a] w fun e w' => e = .returned (.bool true) ∧ Kept w w' := by
  go_enter Ydim.func8, Ydim.ntmps8
  go_wp2_with (first | (go_at_call 17; refine (from_at _ y m d _ hv hn).mono ?_; rintro e w' ⟨rfl, rfl⟩) | (go_at_call 15; refine (valid_any _ _ _ _).mono ?_; rintro e w' ⟨rfl, n, rfl⟩))
  go_ret
  exact ⟨rfl, by repeat (first | with_reducible exact kept_refl _ | with_reducible apply kept_alloc | with_reducible apply kept_drewN | with_reducible apply kept_drew | (with_reducible refine kept_setCell ?_ (by simp) _))⟩
theorem jFrom_any (a : Int) (w : World) (ha0 : 0 ≤ a) (ha1 : a ≤ 4294967295) :
    Calls Ydim.prog 8 #[.int .u32 a] w fun e w' => e = .returned (.bool true) ∧ Kept w w' := by
  obtain ⟨y, m, d, hv, hn⟩ := Cal.date_of (-719528 + a % 3652425) (by omega) (by omega)
  exact jFrom_core a _ y m d w ha0 ha1 rfl (by omega) (by omega) hv hn
end Go.Proofs.Ymbrdi
