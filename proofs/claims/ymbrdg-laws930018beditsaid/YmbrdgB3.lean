/-
  THE B LAWS' WALKS, MORE: LawS930018BEdit.
-/
import Derived.Test.YmbrdgB2
namespace Go.Proofs.Ymbrdg
open Go.RowKit
set_option linter.unusedVariables false

set_option maxHeartbeats 2000000 in
theorem bEdit_0 (p q r o c y m d v : Int) (w : World) (p0 : 0 ≤ p) (p1 : p ≤ 65535) (q0 : 0 ≤ q) (q1 : q ≤ 255) (r0 : 0 ≤ r) (r1 : r ≤ 255) (o0 : 0 ≤ o) (o1 : o ≤ 255) (c0 : 0 ≤ c) (c1 : c ≤ 255) (ey : p * 1237 % 10000 = y) (em : q * 5 % 14 = m) (ed : r * 10 % 33 = d) (eo : o % 10 = 0) (ev : IntKind.u8.wrap (c + 47) = v)
    (y1 : 0 ≤ y) (y2 : y ≤ 9999) (m1 : 0 ≤ m) (m2 : m ≤ 99) (d1 : 0 ≤ d) (d2 : d ≤ 99) (v1 : 0 ≤ v) (v2 : v ≤ 255) :
    Calls Ydgm.prog 7 #[.int .u16 p, .int .u8 q, .int .u8 r, .int .u8 o, .int .u8 c] w fun e w' => e = .returned (.bool true) ∧ Kept w w' := by
  have hcv := conv_ten v (48 + y / 100 % 10) (48 + y / 10 % 10) (48 + y % 10) (45) (48 + m / 10) (48 + m % 10) (45) (48 + d / 10) (48 + d % 10) w w.heap.size 5 rfl (by omega) (by omega) (by omega) (by omega) (by omega) (by omega) (by omega) (by omega) (by omega) (by omega) (by omega) (by omega) (by omega) (by omega) (by omega) (by omega) (by omega) (by omega) (by omega) (by omega)
  go_enter Ydgm.func7, Ydgm.ntmps7
  go_wp2_with (go_at_call 21; refine (btext_any _ _ _ _ y1 y2 m1 m2 d1 d2).mono ?_; rintro e w' ⟨rfl, rfl⟩)
  refine (agrees_any _ _ (by rw [tenS_size]; unfold maxLen; decide)).mono ?_
  rintro e w1 ⟨rfl, hk⟩
  go_wp2
  go_ret
  exact ⟨rfl, kept_trans (by repeat (first | with_reducible exact kept_refl _ | with_reducible apply kept_alloc | with_reducible apply kept_drewN | with_reducible apply kept_drew | (with_reducible refine kept_setCell ?_ (by simp) _))) hk⟩

set_option maxHeartbeats 2000000 in
theorem bEdit_1 (p q r o c y m d v : Int) (w : World) (p0 : 0 ≤ p) (p1 : p ≤ 65535) (q0 : 0 ≤ q) (q1 : q ≤ 255) (r0 : 0 ≤ r) (r1 : r ≤ 255) (o0 : 0 ≤ o) (o1 : o ≤ 255) (c0 : 0 ≤ c) (c1 : c ≤ 255) (ey : p * 1237 % 10000 = y) (em : q * 5 % 14 = m) (ed : r * 10 % 33 = d) (eo : o % 10 = 1) (ev : IntKind.u8.wrap (c + 47) = v)
    (y1 : 0 ≤ y) (y2 : y ≤ 9999) (m1 : 0 ≤ m) (m2 : m ≤ 99) (d1 : 0 ≤ d) (d2 : d ≤ 99) (v1 : 0 ≤ v) (v2 : v ≤ 255) :
    Calls Ydgm.prog 7 #[.int .u16 p, .int .u8 q, .int .u8 r, .int .u8 o, .int .u8 c] w fun e w' => e = .returned (.bool true) ∧ Kept w w' := by
  have hcv := conv_ten (48 + y / 1000) v (48 + y / 10 % 10) (48 + y % 10) (45) (48 + m / 10) (48 + m % 10) (45) (48 + d / 10) (48 + d % 10) w w.heap.size 5 rfl (by omega) (by omega) (by omega) (by omega) (by omega) (by omega) (by omega) (by omega) (by omega) (by omega) (by omega) (by omega) (by omega) (by omega) (by omega) (by omega) (by omega) (by omega) (by omega) (by omega)
  go_enter Ydgm.func7, Ydgm.ntmps7
  go_wp2_with (go_at_call 21; refine (btext_any _ _ _ _ y1 y2 m1 m2 d1 d2).mono ?_; rintro e w' ⟨rfl, rfl⟩)
  refine (agrees_any _ _ (by rw [tenS_size]; unfold maxLen; decide)).mono ?_
  rintro e w1 ⟨rfl, hk⟩
  go_wp2
  go_ret
  exact ⟨rfl, kept_trans (by repeat (first | with_reducible exact kept_refl _ | with_reducible apply kept_alloc | with_reducible apply kept_drewN | with_reducible apply kept_drew | (with_reducible refine kept_setCell ?_ (by simp) _))) hk⟩

set_option maxHeartbeats 2000000 in
theorem bEdit_2 (p q r o c y m d v : Int) (w : World) (p0 : 0 ≤ p) (p1 : p ≤ 65535) (q0 : 0 ≤ q) (q1 : q ≤ 255) (r0 : 0 ≤ r) (r1 : r ≤ 255) (o0 : 0 ≤ o) (o1 : o ≤ 255) (c0 : 0 ≤ c) (c1 : c ≤ 255) (ey : p * 1237 % 10000 = y) (em : q * 5 % 14 = m) (ed : r * 10 % 33 = d) (eo : o % 10 = 2) (ev : IntKind.u8.wrap (c + 47) = v)
    (y1 : 0 ≤ y) (y2 : y ≤ 9999) (m1 : 0 ≤ m) (m2 : m ≤ 99) (d1 : 0 ≤ d) (d2 : d ≤ 99) (v1 : 0 ≤ v) (v2 : v ≤ 255) :
    Calls Ydgm.prog 7 #[.int .u16 p, .int .u8 q, .int .u8 r, .int .u8 o, .int .u8 c] w fun e w' => e = .returned (.bool true) ∧ Kept w w' := by
  have hcv := conv_ten (48 + y / 1000) (48 + y / 100 % 10) v (48 + y % 10) (45) (48 + m / 10) (48 + m % 10) (45) (48 + d / 10) (48 + d % 10) w w.heap.size 5 rfl (by omega) (by omega) (by omega) (by omega) (by omega) (by omega) (by omega) (by omega) (by omega) (by omega) (by omega) (by omega) (by omega) (by omega) (by omega) (by omega) (by omega) (by omega) (by omega) (by omega)
  go_enter Ydgm.func7, Ydgm.ntmps7
  go_wp2_with (go_at_call 21; refine (btext_any _ _ _ _ y1 y2 m1 m2 d1 d2).mono ?_; rintro e w' ⟨rfl, rfl⟩)
  refine (agrees_any _ _ (by rw [tenS_size]; unfold maxLen; decide)).mono ?_
  rintro e w1 ⟨rfl, hk⟩
  go_wp2
  go_ret
  exact ⟨rfl, kept_trans (by repeat (first | with_reducible exact kept_refl _ | with_reducible apply kept_alloc | with_reducible apply kept_drewN | with_reducible apply kept_drew | (with_reducible refine kept_setCell ?_ (by simp) _))) hk⟩

set_option maxHeartbeats 2000000 in
theorem bEdit_3 (p q r o c y m d v : Int) (w : World) (p0 : 0 ≤ p) (p1 : p ≤ 65535) (q0 : 0 ≤ q) (q1 : q ≤ 255) (r0 : 0 ≤ r) (r1 : r ≤ 255) (o0 : 0 ≤ o) (o1 : o ≤ 255) (c0 : 0 ≤ c) (c1 : c ≤ 255) (ey : p * 1237 % 10000 = y) (em : q * 5 % 14 = m) (ed : r * 10 % 33 = d) (eo : o % 10 = 3) (ev : IntKind.u8.wrap (c + 47) = v)
    (y1 : 0 ≤ y) (y2 : y ≤ 9999) (m1 : 0 ≤ m) (m2 : m ≤ 99) (d1 : 0 ≤ d) (d2 : d ≤ 99) (v1 : 0 ≤ v) (v2 : v ≤ 255) :
    Calls Ydgm.prog 7 #[.int .u16 p, .int .u8 q, .int .u8 r, .int .u8 o, .int .u8 c] w fun e w' => e = .returned (.bool true) ∧ Kept w w' := by
  have hcv := conv_ten (48 + y / 1000) (48 + y / 100 % 10) (48 + y / 10 % 10) v (45) (48 + m / 10) (48 + m % 10) (45) (48 + d / 10) (48 + d % 10) w w.heap.size 5 rfl (by omega) (by omega) (by omega) (by omega) (by omega) (by omega) (by omega) (by omega) (by omega) (by omega) (by omega) (by omega) (by omega) (by omega) (by omega) (by omega) (by omega) (by omega) (by omega) (by omega)
  go_enter Ydgm.func7, Ydgm.ntmps7
  go_wp2_with (go_at_call 21; refine (btext_any _ _ _ _ y1 y2 m1 m2 d1 d2).mono ?_; rintro e w' ⟨rfl, rfl⟩)
  refine (agrees_any _ _ (by rw [tenS_size]; unfold maxLen; decide)).mono ?_
  rintro e w1 ⟨rfl, hk⟩
  go_wp2
  go_ret
  exact ⟨rfl, kept_trans (by repeat (first | with_reducible exact kept_refl _ | with_reducible apply kept_alloc | with_reducible apply kept_drewN | with_reducible apply kept_drew | (with_reducible refine kept_setCell ?_ (by simp) _))) hk⟩

set_option maxHeartbeats 2000000 in
theorem bEdit_4 (p q r o c y m d v : Int) (w : World) (p0 : 0 ≤ p) (p1 : p ≤ 65535) (q0 : 0 ≤ q) (q1 : q ≤ 255) (r0 : 0 ≤ r) (r1 : r ≤ 255) (o0 : 0 ≤ o) (o1 : o ≤ 255) (c0 : 0 ≤ c) (c1 : c ≤ 255) (ey : p * 1237 % 10000 = y) (em : q * 5 % 14 = m) (ed : r * 10 % 33 = d) (eo : o % 10 = 4) (ev : IntKind.u8.wrap (c + 47) = v)
    (y1 : 0 ≤ y) (y2 : y ≤ 9999) (m1 : 0 ≤ m) (m2 : m ≤ 99) (d1 : 0 ≤ d) (d2 : d ≤ 99) (v1 : 0 ≤ v) (v2 : v ≤ 255) :
    Calls Ydgm.prog 7 #[.int .u16 p, .int .u8 q, .int .u8 r, .int .u8 o, .int .u8 c] w fun e w' => e = .returned (.bool true) ∧ Kept w w' := by
  have hcv := conv_ten (48 + y / 1000) (48 + y / 100 % 10) (48 + y / 10 % 10) (48 + y % 10) v (48 + m / 10) (48 + m % 10) (45) (48 + d / 10) (48 + d % 10) w w.heap.size 5 rfl (by omega) (by omega) (by omega) (by omega) (by omega) (by omega) (by omega) (by omega) (by omega) (by omega) (by omega) (by omega) (by omega) (by omega) (by omega) (by omega) (by omega) (by omega) (by omega) (by omega)
  go_enter Ydgm.func7, Ydgm.ntmps7
  go_wp2_with (go_at_call 21; refine (btext_any _ _ _ _ y1 y2 m1 m2 d1 d2).mono ?_; rintro e w' ⟨rfl, rfl⟩)
  refine (agrees_any _ _ (by rw [tenS_size]; unfold maxLen; decide)).mono ?_
  rintro e w1 ⟨rfl, hk⟩
  go_wp2
  go_ret
  exact ⟨rfl, kept_trans (by repeat (first | with_reducible exact kept_refl _ | with_reducible apply kept_alloc | with_reducible apply kept_drewN | with_reducible apply kept_drew | (with_reducible refine kept_setCell ?_ (by simp) _))) hk⟩

set_option maxHeartbeats 2000000 in
theorem bEdit_5 (p q r o c y m d v : Int) (w : World) (p0 : 0 ≤ p) (p1 : p ≤ 65535) (q0 : 0 ≤ q) (q1 : q ≤ 255) (r0 : 0 ≤ r) (r1 : r ≤ 255) (o0 : 0 ≤ o) (o1 : o ≤ 255) (c0 : 0 ≤ c) (c1 : c ≤ 255) (ey : p * 1237 % 10000 = y) (em : q * 5 % 14 = m) (ed : r * 10 % 33 = d) (eo : o % 10 = 5) (ev : IntKind.u8.wrap (c + 47) = v)
    (y1 : 0 ≤ y) (y2 : y ≤ 9999) (m1 : 0 ≤ m) (m2 : m ≤ 99) (d1 : 0 ≤ d) (d2 : d ≤ 99) (v1 : 0 ≤ v) (v2 : v ≤ 255) :
    Calls Ydgm.prog 7 #[.int .u16 p, .int .u8 q, .int .u8 r, .int .u8 o, .int .u8 c] w fun e w' => e = .returned (.bool true) ∧ Kept w w' := by
  have hcv := conv_ten (48 + y / 1000) (48 + y / 100 % 10) (48 + y / 10 % 10) (48 + y % 10) (45) v (48 + m % 10) (45) (48 + d / 10) (48 + d % 10) w w.heap.size 5 rfl (by omega) (by omega) (by omega) (by omega) (by omega) (by omega) (by omega) (by omega) (by omega) (by omega) (by omega) (by omega) (by omega) (by omega) (by omega) (by omega) (by omega) (by omega) (by omega) (by omega)
  go_enter Ydgm.func7, Ydgm.ntmps7
  go_wp2_with (go_at_call 21; refine (btext_any _ _ _ _ y1 y2 m1 m2 d1 d2).mono ?_; rintro e w' ⟨rfl, rfl⟩)
  refine (agrees_any _ _ (by rw [tenS_size]; unfold maxLen; decide)).mono ?_
  rintro e w1 ⟨rfl, hk⟩
  go_wp2
  go_ret
  exact ⟨rfl, kept_trans (by repeat (first | with_reducible exact kept_refl _ | with_reducible apply kept_alloc | with_reducible apply kept_drewN | with_reducible apply kept_drew | (with_reducible refine kept_setCell ?_ (by simp) _))) hk⟩

set_option maxHeartbeats 2000000 in
theorem bEdit_6 (p q r o c y m d v : Int) (w : World) (p0 : 0 ≤ p) (p1 : p ≤ 65535) (q0 : 0 ≤ q) (q1 : q ≤ 255) (r0 : 0 ≤ r) (r1 : r ≤ 255) (o0 : 0 ≤ o) (o1 : o ≤ 255) (c0 : 0 ≤ c) (c1 : c ≤ 255) (ey : p * 1237 % 10000 = y) (em : q * 5 % 14 = m) (ed : r * 10 % 33 = d) (eo : o % 10 = 6) (ev : IntKind.u8.wrap (c + 47) = v)
    (y1 : 0 ≤ y) (y2 : y ≤ 9999) (m1 : 0 ≤ m) (m2 : m ≤ 99) (d1 : 0 ≤ d) (d2 : d ≤ 99) (v1 : 0 ≤ v) (v2 : v ≤ 255) :
    Calls Ydgm.prog 7 #[.int .u16 p, .int .u8 q, .int .u8 r, .int .u8 o, .int .u8 c] w fun e w' => e = .returned (.bool true) ∧ Kept w w' := by
  have hcv := conv_ten (48 + y / 1000) (48 + y / 100 % 10) (48 + y / 10 % 10) (48 + y % 10) (45) (48 + m / 10) v (45) (48 + d / 10) (48 + d % 10) w w.heap.size 5 rfl (by omega) (by omega) (by omega) (by omega) (by omega) (by omega) (by omega) (by omega) (by omega) (by omega) (by omega) (by omega) (by omega) (by omega) (by omega) (by omega) (by omega) (by omega) (by omega) (by omega)
  go_enter Ydgm.func7, Ydgm.ntmps7
  go_wp2_with (go_at_call 21; refine (btext_any _ _ _ _ y1 y2 m1 m2 d1 d2).mono ?_; rintro e w' ⟨rfl, rfl⟩)
  refine (agrees_any _ _ (by rw [tenS_size]; unfold maxLen; decide)).mono ?_
  rintro e w1 ⟨rfl, hk⟩
  go_wp2
  go_ret
  exact ⟨rfl, kept_trans (by repeat (first | with_reducible exact kept_refl _ | with_reducible apply kept_alloc | with_reducible apply kept_drewN | with_reducible apply kept_drew | (with_reducible refine kept_setCell ?_ (by simp) _))) hk⟩

set_option maxHeartbeats 2000000 in
theorem bEdit_7 (p q r o c y m d v : Int) (w : World) (p0 : 0 ≤ p) (p1 : p ≤ 65535) (q0 : 0 ≤ q) (q1 : q ≤ 255) (r0 : 0 ≤ r) (r1 : r ≤ 255) (o0 : 0 ≤ o) (o1 : o ≤ 255) (c0 : 0 ≤ c) (c1 : c ≤ 255) (ey : p * 1237 % 10000 = y) (em : q * 5 % 14 = m) (ed : r * 10 % 33 = d) (eo : o % 10 = 7) (ev : IntKind.u8.wrap (c + 47) = v)
    (y1 : 0 ≤ y) (y2 : y ≤ 9999) (m1 : 0 ≤ m) (m2 : m ≤ 99) (d1 : 0 ≤ d) (d2 : d ≤ 99) (v1 : 0 ≤ v) (v2 : v ≤ 255) :
    Calls Ydgm.prog 7 #[.int .u16 p, .int .u8 q, .int .u8 r, .int .u8 o, .int .u8 c] w fun e w' => e = .returned (.bool true) ∧ Kept w w' := by
  have hcv := conv_ten (48 + y / 1000) (48 + y / 100 % 10) (48 + y / 10 % 10) (48 + y % 10) (45) (48 + m / 10) (48 + m % 10) v (48 + d / 10) (48 + d % 10) w w.heap.size 5 rfl (by omega) (by omega) (by omega) (by omega) (by omega) (by omega) (by omega) (by omega) (by omega) (by omega) (by omega) (by omega) (by omega) (by omega) (by omega) (by omega) (by omega) (by omega) (by omega) (by omega)
  go_enter Ydgm.func7, Ydgm.ntmps7
  go_wp2_with (go_at_call 21; refine (btext_any _ _ _ _ y1 y2 m1 m2 d1 d2).mono ?_; rintro e w' ⟨rfl, rfl⟩)
  refine (agrees_any _ _ (by rw [tenS_size]; unfold maxLen; decide)).mono ?_
  rintro e w1 ⟨rfl, hk⟩
  go_wp2
  go_ret
  exact ⟨rfl, kept_trans (by repeat (first | with_reducible exact kept_refl _ | with_reducible apply kept_alloc | with_reducible apply kept_drewN | with_reducible apply kept_drew | (with_reducible refine kept_setCell ?_ (by simp) _))) hk⟩

set_option maxHeartbeats 2000000 in
theorem bEdit_8 (p q r o c y m d v : Int) (w : World) (p0 : 0 ≤ p) (p1 : p ≤ 65535) (q0 : 0 ≤ q) (q1 : q ≤ 255) (r0 : 0 ≤ r) (r1 : r ≤ 255) (o0 : 0 ≤ o) (o1 : o ≤ 255) (c0 : 0 ≤ c) (c1 : c ≤ 255) (ey : p * 1237 % 10000 = y) (em : q * 5 % 14 = m) (ed : r * 10 % 33 = d) (eo : o % 10 = 8) (ev : IntKind.u8.wrap (c + 47) = v)
    (y1 : 0 ≤ y) (y2 : y ≤ 9999) (m1 : 0 ≤ m) (m2 : m ≤ 99) (d1 : 0 ≤ d) (d2 : d ≤ 99) (v1 : 0 ≤ v) (v2 : v ≤ 255) :
    Calls Ydgm.prog 7 #[.int .u16 p, .int .u8 q, .int .u8 r, .int .u8 o, .int .u8 c] w fun e w' => e = .returned (.bool true) ∧ Kept w w' := by
  have hcv := conv_ten (48 + y / 1000) (48 + y / 100 % 10) (48 + y / 10 % 10) (48 + y % 10) (45) (48 + m / 10) (48 + m % 10) (45) v (48 + d % 10) w w.heap.size 5 rfl (by omega) (by omega) (by omega) (by omega) (by omega) (by omega) (by omega) (by omega) (by omega) (by omega) (by omega) (by omega) (by omega) (by omega) (by omega) (by omega) (by omega) (by omega) (by omega) (by omega)
  go_enter Ydgm.func7, Ydgm.ntmps7
  go_wp2_with (go_at_call 21; refine (btext_any _ _ _ _ y1 y2 m1 m2 d1 d2).mono ?_; rintro e w' ⟨rfl, rfl⟩)
  refine (agrees_any _ _ (by rw [tenS_size]; unfold maxLen; decide)).mono ?_
  rintro e w1 ⟨rfl, hk⟩
  go_wp2
  go_ret
  exact ⟨rfl, kept_trans (by repeat (first | with_reducible exact kept_refl _ | with_reducible apply kept_alloc | with_reducible apply kept_drewN | with_reducible apply kept_drew | (with_reducible refine kept_setCell ?_ (by simp) _))) hk⟩

set_option maxHeartbeats 2000000 in
theorem bEdit_9 (p q r o c y m d v : Int) (w : World) (p0 : 0 ≤ p) (p1 : p ≤ 65535) (q0 : 0 ≤ q) (q1 : q ≤ 255) (r0 : 0 ≤ r) (r1 : r ≤ 255) (o0 : 0 ≤ o) (o1 : o ≤ 255) (c0 : 0 ≤ c) (c1 : c ≤ 255) (ey : p * 1237 % 10000 = y) (em : q * 5 % 14 = m) (ed : r * 10 % 33 = d) (eo : o % 10 = 9) (ev : IntKind.u8.wrap (c + 47) = v)
    (y1 : 0 ≤ y) (y2 : y ≤ 9999) (m1 : 0 ≤ m) (m2 : m ≤ 99) (d1 : 0 ≤ d) (d2 : d ≤ 99) (v1 : 0 ≤ v) (v2 : v ≤ 255) :
    Calls Ydgm.prog 7 #[.int .u16 p, .int .u8 q, .int .u8 r, .int .u8 o, .int .u8 c] w fun e w' => e = .returned (.bool true) ∧ Kept w w' := by
  have hcv := conv_ten (48 + y / 1000) (48 + y / 100 % 10) (48 + y / 10 % 10) (48 + y % 10) (45) (48 + m / 10) (48 + m % 10) (45) (48 + d / 10) v w w.heap.size 5 rfl (by omega) (by omega) (by omega) (by omega) (by omega) (by omega) (by omega) (by omega) (by omega) (by omega) (by omega) (by omega) (by omega) (by omega) (by omega) (by omega) (by omega) (by omega) (by omega) (by omega)
  go_enter Ydgm.func7, Ydgm.ntmps7
  go_wp2_with (go_at_call 21; refine (btext_any _ _ _ _ y1 y2 m1 m2 d1 d2).mono ?_; rintro e w' ⟨rfl, rfl⟩)
  refine (agrees_any _ _ (by rw [tenS_size]; unfold maxLen; decide)).mono ?_
  rintro e w1 ⟨rfl, hk⟩
  go_wp2
  go_ret
  exact ⟨rfl, kept_trans (by repeat (first | with_reducible exact kept_refl _ | with_reducible apply kept_alloc | with_reducible apply kept_drewN | with_reducible apply kept_drew | (with_reducible refine kept_setCell ?_ (by simp) _))) hk⟩

theorem bEdit_any (p q r o c : Int) (w : World) (p0 : 0 ≤ p) (p1 : p ≤ 65535) (q0 : 0 ≤ q) (q1 : q ≤ 255) (r0 : 0 ≤ r) (r1 : r ≤ 255) (o0 : 0 ≤ o) (o1 : o ≤ 255) (c0 : 0 ≤ c) (c1 : c ≤ 255) :
    Calls Ydgm.prog 7 #[.int .u16 p, .int .u8 q, .int .u8 r, .int .u8 o, .int .u8 c] w fun e w' => e = .returned (.bool true) ∧ Kept w w' := by
  have hv : 0 ≤ IntKind.u8.wrap (c + 47) ∧ IntKind.u8.wrap (c + 47) ≤ 255 := by rw [IntKind.wrap_u8]; omega
  have ho : o % 10 = 0 ∨ o % 10 = 1 ∨ o % 10 = 2 ∨ o % 10 = 3 ∨ o % 10 = 4 ∨ o % 10 = 5 ∨ o % 10 = 6 ∨ o % 10 = 7 ∨ o % 10 = 8 ∨ o % 10 = 9 := by omega
  rcases ho with h | h | h | h | h | h | h | h | h | h
  · exact bEdit_0 p q r o c _ _ _ _ w p0 p1 q0 q1 r0 r1 o0 o1 c0 c1 rfl rfl rfl h rfl (by omega) (by omega) (by omega) (by omega) (by omega) (by omega) hv.1 hv.2
  · exact bEdit_1 p q r o c _ _ _ _ w p0 p1 q0 q1 r0 r1 o0 o1 c0 c1 rfl rfl rfl h rfl (by omega) (by omega) (by omega) (by omega) (by omega) (by omega) hv.1 hv.2
  · exact bEdit_2 p q r o c _ _ _ _ w p0 p1 q0 q1 r0 r1 o0 o1 c0 c1 rfl rfl rfl h rfl (by omega) (by omega) (by omega) (by omega) (by omega) (by omega) hv.1 hv.2
  · exact bEdit_3 p q r o c _ _ _ _ w p0 p1 q0 q1 r0 r1 o0 o1 c0 c1 rfl rfl rfl h rfl (by omega) (by omega) (by omega) (by omega) (by omega) (by omega) hv.1 hv.2
  · exact bEdit_4 p q r o c _ _ _ _ w p0 p1 q0 q1 r0 r1 o0 o1 c0 c1 rfl rfl rfl h rfl (by omega) (by omega) (by omega) (by omega) (by omega) (by omega) hv.1 hv.2
  · exact bEdit_5 p q r o c _ _ _ _ w p0 p1 q0 q1 r0 r1 o0 o1 c0 c1 rfl rfl rfl h rfl (by omega) (by omega) (by omega) (by omega) (by omega) (by omega) hv.1 hv.2
  · exact bEdit_6 p q r o c _ _ _ _ w p0 p1 q0 q1 r0 r1 o0 o1 c0 c1 rfl rfl rfl h rfl (by omega) (by omega) (by omega) (by omega) (by omega) (by omega) hv.1 hv.2
  · exact bEdit_7 p q r o c _ _ _ _ w p0 p1 q0 q1 r0 r1 o0 o1 c0 c1 rfl rfl rfl h rfl (by omega) (by omega) (by omega) (by omega) (by omega) (by omega) hv.1 hv.2
  · exact bEdit_8 p q r o c _ _ _ _ w p0 p1 q0 q1 r0 r1 o0 o1 c0 c1 rfl rfl rfl h rfl (by omega) (by omega) (by omega) (by omega) (by omega) (by omega) hv.1 hv.2
  · exact bEdit_9 p q r o c _ _ _ _ w p0 p1 q0 q1 r0 r1 o0 o1 c0 c1 rfl rfl rfl h rfl (by omega) (by omega) (by omega) (by omega) (by omega) (by omega) hv.1 hv.2
end Go.Proofs.Ymbrdg
