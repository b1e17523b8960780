/-
  THE B LAWS' WALKS, MORE: LawS930018BTail.
-/
import Derived.Test.YmbrdgB2
namespace Go.Proofs.Ymbrdg
open Go.RowKit
set_option linter.unusedVariables false
set_option maxHeartbeats 1000000 in
theorem bTail_long (p q r : Int) (s : ByteArray) (w : World) (hs : s.size ≤ maxLen) (h : 1024 < (s.size : Int)) :
    Calls Ydgm.prog 8 #[.int .u16 p, .int .u8 q, .int .u8 r, .string s] w fun e w' => e = .returned (.bool true) ∧ Kept w w' := by
  unfold maxLen at hs
  go_enter Ydgm.func8, Ydgm.ntmps8
  go_wp2
  go_ret
  exact ⟨rfl, kept_refl _⟩
set_option maxHeartbeats 2000000 in
theorem bTail_short (p q r y m d : Int) (s : ByteArray) (w : World) (p0 : 0 ≤ p) (p1 : p ≤ 65535) (q0 : 0 ≤ q) (q1 : q ≤ 255) (r0 : 0 ≤ r) (r1 : r ≤ 255) (ey : p * 1237 % 10000 = y) (em : q * 5 % 14 = m) (ed : r * 10 % 33 = d)
    (y1 : 0 ≤ y) (y2 : y ≤ 9999) (m1 : 0 ≤ m) (m2 : m ≤ 99) (d1 : 0 ≤ d) (d2 : d ≤ 99) (hs : s.size ≤ 1024) :
    Calls Ydgm.prog 8 #[.int .u16 p, .int .u8 q, .int .u8 r, .string s] w fun e w' => e = .returned (.bool true) ∧ Kept w w' := by
  have hcv := conv_fmt y m d w w.heap.size 5 rfl y1 y2 m1 m2 d1 d2
  have hsz := fmtS_size y m d
  have hfit : ¬ 9223372036854775807 < (fmtS y m d).size + s.size := by rw [hsz]; omega
  have hcat : (fmtS y m d ++ s).size ≤ 2000 := by rw [ByteArray.size_append, hsz]; omega
  clear hsz
  go_enter Ydgm.func8, Ydgm.ntmps8
  go_wp2_with (go_at_call 21; refine (btext_any _ _ _ _ y1 y2 m1 m2 d1 d2).mono ?_; rintro e w' ⟨rfl, rfl⟩)
  refine (agrees_any _ _ (by unfold maxLen; omega)).mono ?_
  rintro e w1 ⟨rfl, hk⟩
  go_wp2_with fail
  refine (agrees_any _ _ (by unfold maxLen; omega)).mono ?_
  rintro e w2 ⟨rfl, hk2⟩
  go_wp2
  go_ret
  exact ⟨rfl, kept_trans (kept_trans (by repeat (first | with_reducible exact kept_refl _ | with_reducible apply kept_alloc | with_reducible apply kept_drewN | with_reducible apply kept_drew | (with_reducible refine kept_setCell ?_ (by simp) _))) hk) hk2⟩
theorem bTail_any (p q r : Int) (s : ByteArray) (w : World) (p0 : 0 ≤ p) (p1 : p ≤ 65535) (q0 : 0 ≤ q) (q1 : q ≤ 255) (r0 : 0 ≤ r) (r1 : r ≤ 255) (hs : s.size ≤ maxLen) :
    Calls Ydgm.prog 8 #[.int .u16 p, .int .u8 q, .int .u8 r, .string s] w fun e w' => e = .returned (.bool true) ∧ Kept w w' := by
  by_cases h : 1024 < (s.size : Int)
  · exact bTail_long p q r s w hs h
  · exact bTail_short p q r _ _ _ s w p0 p1 q0 q1 r0 r1 rfl rfl rfl (by omega) (by omega) (by omega) (by omega) (by omega) (by omega) (by omega)
end Go.Proofs.Ymbrdg
