/-
  THE C LAWS' WALKS: Format.
-/
import Derived.Test.YmbrdgR
import Derived.Test.YmbrdgLen
import Derived.Laws.IdiomStrings
import Derived.OpenShut
namespace Go.Proofs.Ymbrdg
open Go.RowKit
set_option linter.unusedVariables false
theorem cell_new (X : World) (C : Array Value) (t : TypeId) (b : Nat) (hb : b = X.heap.size) (j : Nat) : (X.alloc (.cells C t)).cell? ⟨b, j, none⟩ = C[j]? := by
  subst hb
  exact World.cell?_alloc_mark X C t _ j
/-- 'string(b[:])' of the ten bytes that Format has laid. -/
theorem conv_fmt (y m d : Int) (X : World) (b : Nat) (t : TypeId) (hb : b = X.heap.size) (y1 : 0 ≤ y) (y2 : y ≤ 9999) (m1 : 0 ≤ m) (m2 : m ≤ 99) (d1 : 0 ≤ d) (d2 : d ≤ 99) :
    (convert 37 9 (.slice (some ⟨b, 0, none⟩) 10 10)).run Ydgm.prog (X.alloc (.cells #[.int .u8 (48 + y / 1000), .int .u8 (48 + y / 100 % 10), .int .u8 (48 + y / 10 % 10), .int .u8 (48 + y % 10), .int .u8 45, .int .u8 (48 + m / 10), .int .u8 (48 + m % 10), .int .u8 45, .int .u8 (48 + d / 10), .int .u8 (48 + d % 10)] t)) =
      .ok (.string (fmtS y m d)) (X.alloc (.cells #[.int .u8 (48 + y / 1000), .int .u8 (48 + y / 100 % 10), .int .u8 (48 + y / 10 % 10), .int .u8 (48 + y % 10), .int .u8 45, .int .u8 (48 + m / 10), .int .u8 (48 + m % 10), .int .u8 45, .int .u8 (48 + d / 10), .int .u8 (48 + d % 10)] t)) := by
  refine run_convert_bytes_back (P := Ydgm.prog) _ 37 9 5 ⟨b, 0, none⟩ 10 (fmtL y m d) Ydgm.underlying37 Ydgm.underlying5 Ydgm.underlying9 ?_
  intro j hj
  have ea : Addr.add ⟨b, 0, none⟩ j = ⟨b, j, none⟩ := by unfold Addr.add; split <;> simp_all
  rw [ea]
  rw [cell_new _ _ _ _ hb]
  have hj' : j < 10 := hj
  have : j = 0 ∨ j = 1 ∨ j = 2 ∨ j = 3 ∨ j = 4 ∨ j = 5 ∨ j = 6 ∨ j = 7 ∨ j = 8 ∨ j = 9 := by omega
  rcases this with rfl | rfl | rfl | rfl | rfl | rfl | rfl | rfl | rfl | rfl
  · show some (Value.int .u8 (48 + y / 1000)) = some (Value.int .u8 ((UInt8.ofNat (48 + y / 1000).toNat).toNat : Int))
    rw [ofNat_toNat _ (by omega) (by omega)]
  · show some (Value.int .u8 (48 + y / 100 % 10)) = some (Value.int .u8 ((UInt8.ofNat (48 + y / 100 % 10).toNat).toNat : Int))
    rw [ofNat_toNat _ (by omega) (by omega)]
  · show some (Value.int .u8 (48 + y / 10 % 10)) = some (Value.int .u8 ((UInt8.ofNat (48 + y / 10 % 10).toNat).toNat : Int))
    rw [ofNat_toNat _ (by omega) (by omega)]
  · show some (Value.int .u8 (48 + y % 10)) = some (Value.int .u8 ((UInt8.ofNat (48 + y % 10).toNat).toNat : Int))
    rw [ofNat_toNat _ (by omega) (by omega)]
  · rfl
  · show some (Value.int .u8 (48 + m / 10)) = some (Value.int .u8 ((UInt8.ofNat (48 + m / 10).toNat).toNat : Int))
    rw [ofNat_toNat _ (by omega) (by omega)]
  · show some (Value.int .u8 (48 + m % 10)) = some (Value.int .u8 ((UInt8.ofNat (48 + m % 10).toNat).toNat : Int))
    rw [ofNat_toNat _ (by omega) (by omega)]
  · rfl
  · show some (Value.int .u8 (48 + d / 10)) = some (Value.int .u8 ((UInt8.ofNat (48 + d / 10).toNat).toNat : Int))
    rw [ofNat_toNat _ (by omega) (by omega)]
  · show some (Value.int .u8 (48 + d % 10)) = some (Value.int .u8 ((UInt8.ofNat (48 + d % 10).toNat).toNat : Int))
    rw [ofNat_toNat _ (by omega) (by omega)]
set_option maxHeartbeats 1000000 in
theorem format_no (y m d : Int) (w : World) (hv : Cal.vldB y m d = false) :
    Calls Ydgm.prog 25 #[.agg #[.int .i64 y, .int .i64 m, .int .i64 d]] w fun e w' => e = .returned (.tuple #[.string ⟨#[]⟩, .bool false]) ∧ Kept w w' := by
  go_enter Ydgm.func25, Ydgm.ntmps25
  go_wp2_with (go_at_call 32; refine (valid_any _ _ _ _).mono ?_; rintro e w' ⟨rfl, n, rfl⟩)
  go_ret2
  exact ⟨rfl, by repeat (first | with_reducible exact kept_refl _ | with_reducible apply kept_alloc | with_reducible apply kept_drewN | with_reducible apply kept_drew | (with_reducible refine kept_setCell ?_ (by simp) _))⟩
set_option maxHeartbeats 1000000 in
theorem format_yes (y m d : Int) (w : World) (hv : Cal.vldB y m d = true) :
    Calls Ydgm.prog 25 #[.agg #[.int .i64 y, .int .i64 m, .int .i64 d]] w fun e w' => e = .returned (.tuple #[.string (fmtS y m d), .bool true]) ∧ Kept w w' := by
  obtain ⟨hm1, hm2⟩ := Cal.vld_m hv
  obtain ⟨hy1, hy2, hd1, hdd⟩ := Cal.vld_of hv
  have hd3 := Cal.vld_d hv
  have hcv := fun n => conv_fmt y m d (((w.alloc (.cells #[.int .i64 y, .int .i64 m, .int .i64 d] 23)).alloc (.cells #[.int .i64 y, .int .i64 m, .int .i64 d] 23)).drewN n) (w.heap.size + 1 + 1) 54 (by simp) hy1 hy2 (by omega) (by omega) (by omega) (by omega)
  go_enter Ydgm.func25, Ydgm.ntmps25
  go_wp2_with (go_at_call 32; refine (valid_any _ _ _ _).mono ?_; rintro e w' ⟨rfl, n, rfl⟩)
  go_ret2
  exact ⟨rfl, by repeat (first | with_reducible exact kept_refl _ | with_reducible apply kept_alloc | with_reducible apply kept_drewN | with_reducible apply kept_drew | (with_reducible refine kept_setCell ?_ (by simp) _))⟩
end Go.Proofs.Ymbrdg
