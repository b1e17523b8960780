/-
  THE B LAWS' WALKS, MORE: the written date as bytes, and as a text.
-/
import Derived.Test.YmbrdgB
import Derived.Test.YmbrdgC
namespace Go.Proofs.Ymbrdg
open Go.RowKit
set_option linter.unusedVariables false
/-- A text of ten bytes. -/
def tenL (x0 x1 x2 x3 x4 x5 x6 x7 x8 x9 : Int) : List UInt8 := [UInt8.ofNat (x0).toNat, UInt8.ofNat (x1).toNat, UInt8.ofNat (x2).toNat, UInt8.ofNat (x3).toNat, UInt8.ofNat (x4).toNat, UInt8.ofNat (x5).toNat, UInt8.ofNat (x6).toNat, UInt8.ofNat (x7).toNat, UInt8.ofNat (x8).toNat, UInt8.ofNat (x9).toNat]
def tenS (x0 x1 x2 x3 x4 x5 x6 x7 x8 x9 : Int) : ByteArray := ⟨(tenL x0 x1 x2 x3 x4 x5 x6 x7 x8 x9).toArray⟩
theorem tenS_size (x0 x1 x2 x3 x4 x5 x6 x7 x8 x9 : Int) : (tenS x0 x1 x2 x3 x4 x5 x6 x7 x8 x9).size = 10 := rfl
/-- 'string(b)' of ten bytes in a block of the call's own. -/
theorem conv_ten (x0 x1 x2 x3 x4 x5 x6 x7 x8 x9 : Int) (X : World) (b : Nat) (t : TypeId) (hb : b = X.heap.size) (l0 : 0 ≤ x0) (u0 : x0 ≤ 255) (l1 : 0 ≤ x1) (u1 : x1 ≤ 255) (l2 : 0 ≤ x2) (u2 : x2 ≤ 255) (l3 : 0 ≤ x3) (u3 : x3 ≤ 255) (l4 : 0 ≤ x4) (u4 : x4 ≤ 255) (l5 : 0 ≤ x5) (u5 : x5 ≤ 255) (l6 : 0 ≤ x6) (u6 : x6 ≤ 255) (l7 : 0 ≤ x7) (u7 : x7 ≤ 255) (l8 : 0 ≤ x8) (u8 : x8 ≤ 255) (l9 : 0 ≤ x9) (u9 : x9 ≤ 255) :
    (convert 37 9 (.slice (some ⟨b, 0, none⟩) 10 10)).run Ydgm.prog (X.alloc (.cells #[.int .u8 x0, .int .u8 x1, .int .u8 x2, .int .u8 x3, .int .u8 x4, .int .u8 x5, .int .u8 x6, .int .u8 x7, .int .u8 x8, .int .u8 x9] t)) =
      .ok (.string (tenS x0 x1 x2 x3 x4 x5 x6 x7 x8 x9)) (X.alloc (.cells #[.int .u8 x0, .int .u8 x1, .int .u8 x2, .int .u8 x3, .int .u8 x4, .int .u8 x5, .int .u8 x6, .int .u8 x7, .int .u8 x8, .int .u8 x9] t)) := by
  refine run_convert_bytes_back (P := Ydgm.prog) _ 37 9 5 ⟨b, 0, none⟩ 10 (tenL x0 x1 x2 x3 x4 x5 x6 x7 x8 x9) Ydgm.underlying37 Ydgm.underlying5 Ydgm.underlying9 ?_
  intro j hj
  have ea : Addr.add ⟨b, 0, none⟩ j = ⟨b, j, none⟩ := by unfold Addr.add; split <;> simp_all
  rw [ea]
  rw [cell_new _ _ _ _ hb]
  have hj' : j < 10 := hj
  have : j = 0 ∨ j = 1 ∨ j = 2 ∨ j = 3 ∨ j = 4 ∨ j = 5 ∨ j = 6 ∨ j = 7 ∨ j = 8 ∨ j = 9 := by omega
  rcases this with rfl | rfl | rfl | rfl | rfl | rfl | rfl | rfl | rfl | rfl
  · show some (Value.int .u8 x0) = some (Value.int .u8 ((UInt8.ofNat (x0).toNat).toNat : Int))
    rw [ofNat_toNat _ l0 u0]
  · show some (Value.int .u8 x1) = some (Value.int .u8 ((UInt8.ofNat (x1).toNat).toNat : Int))
    rw [ofNat_toNat _ l1 u1]
  · show some (Value.int .u8 x2) = some (Value.int .u8 ((UInt8.ofNat (x2).toNat).toNat : Int))
    rw [ofNat_toNat _ l2 u2]
  · show some (Value.int .u8 x3) = some (Value.int .u8 ((UInt8.ofNat (x3).toNat).toNat : Int))
    rw [ofNat_toNat _ l3 u3]
  · show some (Value.int .u8 x4) = some (Value.int .u8 ((UInt8.ofNat (x4).toNat).toNat : Int))
    rw [ofNat_toNat _ l4 u4]
  · show some (Value.int .u8 x5) = some (Value.int .u8 ((UInt8.ofNat (x5).toNat).toNat : Int))
    rw [ofNat_toNat _ l5 u5]
  · show some (Value.int .u8 x6) = some (Value.int .u8 ((UInt8.ofNat (x6).toNat).toNat : Int))
    rw [ofNat_toNat _ l6 u6]
  · show some (Value.int .u8 x7) = some (Value.int .u8 ((UInt8.ofNat (x7).toNat).toNat : Int))
    rw [ofNat_toNat _ l7 u7]
  · show some (Value.int .u8 x8) = some (Value.int .u8 ((UInt8.ofNat (x8).toNat).toNat : Int))
    rw [ofNat_toNat _ l8 u8]
  · show some (Value.int .u8 x9) = some (Value.int .u8 ((UInt8.ofNat (x9).toNat).toNat : Int))
    rw [ofNat_toNat _ l9 u9]
set_option maxHeartbeats 1000000 in
theorem btext_any (y m d : Int) (w : World) (y1 : 0 ≤ y) (y2 : y ≤ 9999) (m1 : 0 ≤ m) (m2 : m ≤ 99) (d1 : 0 ≤ d) (d2 : d ≤ 99) :
    Calls Ydgm.prog 21 #[.int .i64 y, .int .i64 m, .int .i64 d] w fun e w' => e = .returned (.slice (some ⟨w.heap.size, 0, none⟩) 10 10) ∧ w' = w.alloc (.cells #[.int .u8 (48 + y / 1000), .int .u8 (48 + y / 100 % 10), .int .u8 (48 + y / 10 % 10), .int .u8 (48 + y % 10), .int .u8 45, .int .u8 (48 + m / 10), .int .u8 (48 + m % 10), .int .u8 45, .int .u8 (48 + d / 10), .int .u8 (48 + d % 10)] 5) := by
  go_enter Ydgm.func21, Ydgm.ntmps21
  go_wp2
  go_ret
  exact ⟨rfl, rfl⟩
/-! The written date is well made. -/
theorem fmt_good (y m d : Int) (y1 : 0 ≤ y) (y2 : y ≤ 9999) (m1 : 0 ≤ m) (m2 : m ≤ 99) (d1 : 0 ≤ d) (d2 : d ≤ 99) :
    (∀ k, k < 10 → good (fmtS y m d) k) ∧ yv (fmtS y m d) 10 = y ∧ mv (fmtS y m d) 10 = m ∧ dv (fmtS y m d) 10 = d := by
  obtain ⟨b0, b1, b2, b3, b4, b5, b6, b7, b8, b9⟩ := fmtS_byt y m d y1 y2 m1 m2 d1 d2
  refine ⟨?_, ?_, ?_, ?_⟩
  · intro k hk
    unfold good
    have : k = 0 ∨ k = 1 ∨ k = 2 ∨ k = 3 ∨ k = 4 ∨ k = 5 ∨ k = 6 ∨ k = 7 ∨ k = 8 ∨ k = 9 := by omega
    rcases this with rfl | rfl | rfl | rfl | rfl | rfl | rfl | rfl | rfl | rfl <;> simp <;> omega
  · show acc (fmtS y m d) 0 4 = y
    simp only [acc, Nat.zero_add, b0, b1, b2, b3]; omega
  · show acc (fmtS y m d) 5 2 = m
    simp only [acc, Nat.add_zero, show 5 + 1 = 6 from rfl, b5, b6]; omega
  · show acc (fmtS y m d) 8 2 = d
    simp only [acc, Nat.add_zero, show 8 + 1 = 9 from rfl, b8, b9]; omega
theorem fmt_parse (y m d : Int) (y1 : 0 ≤ y) (y2 : y ≤ 9999) (m1 : 0 ≤ m) (m2 : m ≤ 99) (d1 : 0 ≤ d) (d2 : d ≤ 99) :
    (realB y m d = true → ParseAt (fmtS y m d) y m d true) ∧ (realB y m d = false → ParseAt (fmtS y m d) 0 0 0 false) := by
  obtain ⟨G, e1, e2, e3⟩ := fmt_good y m d y1 y2 m1 m2 d1 d2
  refine ⟨fun h => ?_, fun h => ?_⟩
  · have P := parse_date (fmtS_size y m d) G (by rw [e1, e2, e3, real_vld y1 y2]; exact h)
    rw [e1, e2, e3] at P
    exact P
  · refine parse_zero (fmtS_size y m d) ?_
    rintro ⟨_, _, _, _, _, hv⟩
    rw [e1, e2, e3, real_vld y1 y2, h] at hv
    cases hv

set_option maxHeartbeats 2000000 in
theorem bRender_yes (p q r y m d : Int) (w : World) (p0 : 0 ≤ p) (p1 : p ≤ 65535) (q0 : 0 ≤ q) (q1 : q ≤ 255) (r0 : 0 ≤ r) (r1 : r ≤ 255) (ey : p * 1237 % 10000 = y) (em : q * 5 % 14 = m) (ed : r * 10 % 33 = d)
    (y1 : 0 ≤ y) (y2 : y ≤ 9999) (m1 : 0 ≤ m) (m2 : m ≤ 99) (d1 : 0 ≤ d) (d2 : d ≤ 99) (hr : realB y m d = true) (HP : Hid (ParseAt (fmtS y m d) y m d true)) :
    Calls Ydgm.prog 6 #[.int .u16 p, .int .u8 q, .int .u8 r] w fun e w' => e = .returned (.bool true) ∧ Kept w w' := by
  have hcv := conv_fmt y m d w w.heap.size 5 rfl y1 y2 m1 m2 d1 d2
  go_enter Ydgm.func6, Ydgm.ntmps6
  go_wp2_with (go_at_call 21; refine (btext_any _ _ _ _ y1 y2 m1 m2 d1 d2).mono ?_; rintro e w' ⟨rfl, rfl⟩)
  refine (HP.out _).mono ?_
  rintro e w1 ⟨rfl, hk⟩
  go_wp2_with fail
  refine (breal_any _ _ _ _).mono ?_
  rintro e w2 ⟨rfl, hk2⟩
  obtain ⟨hc, hf, hz⟩ := kept_facts hk2
  go_wp2
  go_ret
  exact ⟨rfl, kept_trans (kept_alloc (kept_trans (by repeat (first | with_reducible exact kept_refl _ | with_reducible apply kept_alloc | with_reducible apply kept_drewN | with_reducible apply kept_drew | (with_reducible refine kept_setCell ?_ (by simp) _))) hk) _ _) hk2⟩

set_option maxHeartbeats 2000000 in
theorem bRender_no (p q r y m d : Int) (w : World) (p0 : 0 ≤ p) (p1 : p ≤ 65535) (q0 : 0 ≤ q) (q1 : q ≤ 255) (r0 : 0 ≤ r) (r1 : r ≤ 255) (ey : p * 1237 % 10000 = y) (em : q * 5 % 14 = m) (ed : r * 10 % 33 = d)
    (y1 : 0 ≤ y) (y2 : y ≤ 9999) (m1 : 0 ≤ m) (m2 : m ≤ 99) (d1 : 0 ≤ d) (d2 : d ≤ 99) (hr : realB y m d = false) (HP : Hid (ParseAt (fmtS y m d) 0 0 0 false)) :
    Calls Ydgm.prog 6 #[.int .u16 p, .int .u8 q, .int .u8 r] w fun e w' => e = .returned (.bool true) ∧ Kept w w' := by
  have hcv := conv_fmt y m d w w.heap.size 5 rfl y1 y2 m1 m2 d1 d2
  go_enter Ydgm.func6, Ydgm.ntmps6
  go_wp2_with (go_at_call 21; refine (btext_any _ _ _ _ y1 y2 m1 m2 d1 d2).mono ?_; rintro e w' ⟨rfl, rfl⟩)
  refine (HP.out _).mono ?_
  rintro e w1 ⟨rfl, hk⟩
  go_wp2_with fail
  refine (breal_any _ _ _ _).mono ?_
  rintro e w2 ⟨rfl, hk2⟩
  obtain ⟨hc, hf, hz⟩ := kept_facts hk2
  go_wp2
  go_ret
  exact ⟨rfl, kept_trans (kept_alloc (kept_trans (by repeat (first | with_reducible exact kept_refl _ | with_reducible apply kept_alloc | with_reducible apply kept_drewN | with_reducible apply kept_drew | (with_reducible refine kept_setCell ?_ (by simp) _))) hk) _ _) hk2⟩

theorem bRender_any (p q r : Int) (w : World) (p0 : 0 ≤ p) (p1 : p ≤ 65535) (q0 : 0 ≤ q) (q1 : q ≤ 255) (r0 : 0 ≤ r) (r1 : r ≤ 255) :
    Calls Ydgm.prog 6 #[.int .u16 p, .int .u8 q, .int .u8 r] w fun e w' => e = .returned (.bool true) ∧ Kept w w' := by
  have P := fmt_parse (p * 1237 % 10000) (q * 5 % 14) (r * 10 % 33) (by omega) (by omega) (by omega) (by omega) (by omega) (by omega)
  cases hr : realB (p * 1237 % 10000) (q * 5 % 14) (r * 10 % 33)
  · exact bRender_no p q r _ _ _ w p0 p1 q0 q1 r0 r1 rfl rfl rfl (by omega) (by omega) (by omega) (by omega) (by omega) (by omega) hr (P.2 hr)
  · exact bRender_yes p q r _ _ _ w p0 p1 q0 q1 r0 r1 rfl rfl rfl (by omega) (by omega) (by omega) (by omega) (by omega) (by omega) hr (P.1 hr)
end Go.Proofs.Ymbrdg
