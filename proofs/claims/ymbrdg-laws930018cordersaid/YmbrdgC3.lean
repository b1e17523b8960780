/-
  THE C LAWS' WALKS, MORE: LawS930018COrder.
-/
import Derived.Test.YmbrdgC
import Derived.Test.YmbrdgO
namespace Go.Proofs.Ymbrdg
open Go.RowKit
set_option linter.unusedVariables false

set_option maxHeartbeats 4000000 in
theorem cOrd_a (a b c a2 b2 c2 : Int) (w : World) (a0 : 0 ≤ a) (a1 : a ≤ 65535) (b0 : 0 ≤ b) (b1 : b ≤ 65535) (c0 : 0 ≤ c) (c1 : c ≤ 65535) (a20 : 0 ≤ a2) (a21 : a2 ≤ 65535) (b20 : 0 ≤ b2) (b21 : b2 ≤ 65535) (c20 : 0 ≤ c2) (c21 : c2 ≤ 65535) (y m d y2 m2 d2 : Int)
    (ey : a % 10000 = y) (em : b % 12 = m - 1) (ed : c % 28 = d - 1) (ey2 : a2 % 10000 = y2) (em2 : b2 % 12 = m2 - 1) (ed2 : c2 % 28 = d2 - 1) (hv : Cal.vldB y m d = true) (hv2 : Cal.vldB y2 m2 d2 = true) (h : y < y2) :
    Calls Ydgm.prog 11 #[.int .u16 a, .int .u16 b, .int .u16 c, .int .u16 a2, .int .u16 b2, .int .u16 c2] w fun e w' => e = .returned (.bool true) ∧ Kept w w' := by
  obtain ⟨hm1, hm2⟩ := Cal.vld_m hv
  obtain ⟨hy1, hy2, hd1, hdd⟩ := Cal.vld_of hv
  have hd2 := Cal.vld_d hv
  obtain ⟨hm21, hm22⟩ := Cal.vld_m hv2
  obtain ⟨hy21, hy22, hd21, hd22⟩ := Cal.vld_of hv2
  have hd23 := Cal.vld_d hv2
  have L : Op.bytesLess (fmtS y m d).toList (fmtS y2 m2 d2).toList = true := by
    rw [less_fmt y m d y2 m2 d2 hy1 hy2 (by omega) (by omega) (by omega) (by omega) hy21 hy22 (by omega) (by omega) (by omega) (by omega)]
    simp; omega
  have Q := eq_fmt y m d y2 m2 d2 hy1 hy2 (by omega) (by omega) (by omega) (by omega) hy21 hy22 (by omega) (by omega) (by omega) (by omega) (by omega)
  have n2 : (y == y2) = false := by rw [beq_dec]; simp; omega
  clear hdd hd22
  go_enter Ydgm.func11, Ydgm.ntmps11
  go_wp2_with fail
  refine (format_yes _ _ _ _ hv).mono ?_
  rintro e w1 ⟨rfl, hk⟩
  obtain ⟨hc, hf, hz⟩ := kept_facts hk
  simp at hz
  have hz1 : w.heap.size < w1.heap.size := by omega
  have hz2 : w.heap.size + 1 < w1.heap.size := by omega
  go_wp2_with fail
  refine (format_yes _ _ _ _ hv2).mono ?_
  rintro e w2 ⟨rfl, hk2⟩
  obtain ⟨hc2, hf2, hz3⟩ := kept_facts hk2
  go_wp2
  go_ret
  exact ⟨by first | rfl | exact ret_bool (by simp; omega), kept_trans (kept_trans (by repeat (first | with_reducible exact kept_refl _ | with_reducible apply kept_alloc | with_reducible apply kept_drewN | with_reducible apply kept_drew | (with_reducible refine kept_setCell ?_ (by simp) _))) hk) hk2⟩

set_option maxHeartbeats 4000000 in
theorem cOrd_b (a b c a2 b2 c2 : Int) (w : World) (a0 : 0 ≤ a) (a1 : a ≤ 65535) (b0 : 0 ≤ b) (b1 : b ≤ 65535) (c0 : 0 ≤ c) (c1 : c ≤ 65535) (a20 : 0 ≤ a2) (a21 : a2 ≤ 65535) (b20 : 0 ≤ b2) (b21 : b2 ≤ 65535) (c20 : 0 ≤ c2) (c21 : c2 ≤ 65535) (y m d y2 m2 d2 : Int)
    (ey : a % 10000 = y) (em : b % 12 = m - 1) (ed : c % 28 = d - 1) (ey2 : a2 % 10000 = y2) (em2 : b2 % 12 = m2 - 1) (ed2 : c2 % 28 = d2 - 1) (hv : Cal.vldB y m d = true) (hv2 : Cal.vldB y2 m2 d2 = true) (h : y2 < y) :
    Calls Ydgm.prog 11 #[.int .u16 a, .int .u16 b, .int .u16 c, .int .u16 a2, .int .u16 b2, .int .u16 c2] w fun e w' => e = .returned (.bool true) ∧ Kept w w' := by
  obtain ⟨hm1, hm2⟩ := Cal.vld_m hv
  obtain ⟨hy1, hy2, hd1, hdd⟩ := Cal.vld_of hv
  have hd2 := Cal.vld_d hv
  obtain ⟨hm21, hm22⟩ := Cal.vld_m hv2
  obtain ⟨hy21, hy22, hd21, hd22⟩ := Cal.vld_of hv2
  have hd23 := Cal.vld_d hv2
  have L : Op.bytesLess (fmtS y m d).toList (fmtS y2 m2 d2).toList = false := by
    rw [less_fmt y m d y2 m2 d2 hy1 hy2 (by omega) (by omega) (by omega) (by omega) hy21 hy22 (by omega) (by omega) (by omega) (by omega)]
    simp; omega
  have Q := eq_fmt y m d y2 m2 d2 hy1 hy2 (by omega) (by omega) (by omega) (by omega) hy21 hy22 (by omega) (by omega) (by omega) (by omega) (by omega)
  have n2 : (y == y2) = false := by rw [beq_dec]; simp; omega
  have n3 : ¬ y = y2 := by omega
  clear hdd hd22
  go_enter Ydgm.func11, Ydgm.ntmps11
  go_wp2_with fail
  refine (format_yes _ _ _ _ hv).mono ?_
  rintro e w1 ⟨rfl, hk⟩
  obtain ⟨hc, hf, hz⟩ := kept_facts hk
  simp at hz
  have hz1 : w.heap.size < w1.heap.size := by omega
  have hz2 : w.heap.size + 1 < w1.heap.size := by omega
  go_wp2_with fail
  refine (format_yes _ _ _ _ hv2).mono ?_
  rintro e w2 ⟨rfl, hk2⟩
  obtain ⟨hc2, hf2, hz3⟩ := kept_facts hk2
  go_wp2
  go_ret
  exact ⟨by first | rfl | exact ret_bool (by simp; omega), kept_trans (kept_trans (by repeat (first | with_reducible exact kept_refl _ | with_reducible apply kept_alloc | with_reducible apply kept_drewN | with_reducible apply kept_drew | (with_reducible refine kept_setCell ?_ (by simp) _))) hk) hk2⟩

set_option maxHeartbeats 4000000 in
theorem cOrd_c (a b c a2 b2 c2 : Int) (w : World) (a0 : 0 ≤ a) (a1 : a ≤ 65535) (b0 : 0 ≤ b) (b1 : b ≤ 65535) (c0 : 0 ≤ c) (c1 : c ≤ 65535) (a20 : 0 ≤ a2) (a21 : a2 ≤ 65535) (b20 : 0 ≤ b2) (b21 : b2 ≤ 65535) (c20 : 0 ≤ c2) (c21 : c2 ≤ 65535) (y m d m2 d2 : Int)
    (ey : a % 10000 = y) (em : b % 12 = m - 1) (ed : c % 28 = d - 1) (ey2 : a2 % 10000 = y) (em2 : b2 % 12 = m2 - 1) (ed2 : c2 % 28 = d2 - 1) (hv : Cal.vldB y m d = true) (hv2 : Cal.vldB y m2 d2 = true) (h : m < m2) :
    Calls Ydgm.prog 11 #[.int .u16 a, .int .u16 b, .int .u16 c, .int .u16 a2, .int .u16 b2, .int .u16 c2] w fun e w' => e = .returned (.bool true) ∧ Kept w w' := by
  obtain ⟨hm1, hm2⟩ := Cal.vld_m hv
  obtain ⟨hy1, hy2, hd1, hdd⟩ := Cal.vld_of hv
  have hd2 := Cal.vld_d hv
  obtain ⟨hm21, hm22⟩ := Cal.vld_m hv2
  obtain ⟨hy21, hy22, hd21, hd22⟩ := Cal.vld_of hv2
  have hd23 := Cal.vld_d hv2
  have L : Op.bytesLess (fmtS y m d).toList (fmtS y m2 d2).toList = true := by
    rw [less_fmt y m d y m2 d2 hy1 hy2 (by omega) (by omega) (by omega) (by omega) hy21 hy22 (by omega) (by omega) (by omega) (by omega)]
    simp; omega
  have Q := eq_fmt y m d y m2 d2 hy1 hy2 (by omega) (by omega) (by omega) (by omega) hy21 hy22 (by omega) (by omega) (by omega) (by omega) (by omega)
  have n2 : (m == m2) = false := by rw [beq_dec]; simp; omega
  clear hdd hd22
  go_enter Ydgm.func11, Ydgm.ntmps11
  go_wp2_with fail
  refine (format_yes _ _ _ _ hv).mono ?_
  rintro e w1 ⟨rfl, hk⟩
  obtain ⟨hc, hf, hz⟩ := kept_facts hk
  simp at hz
  have hz1 : w.heap.size < w1.heap.size := by omega
  have hz2 : w.heap.size + 1 < w1.heap.size := by omega
  go_wp2_with fail
  refine (format_yes _ _ _ _ hv2).mono ?_
  rintro e w2 ⟨rfl, hk2⟩
  obtain ⟨hc2, hf2, hz3⟩ := kept_facts hk2
  go_wp2
  go_ret
  exact ⟨by first | rfl | exact ret_bool (by simp; omega), kept_trans (kept_trans (by repeat (first | with_reducible exact kept_refl _ | with_reducible apply kept_alloc | with_reducible apply kept_drewN | with_reducible apply kept_drew | (with_reducible refine kept_setCell ?_ (by simp) _))) hk) hk2⟩

set_option maxHeartbeats 4000000 in
theorem cOrd_d (a b c a2 b2 c2 : Int) (w : World) (a0 : 0 ≤ a) (a1 : a ≤ 65535) (b0 : 0 ≤ b) (b1 : b ≤ 65535) (c0 : 0 ≤ c) (c1 : c ≤ 65535) (a20 : 0 ≤ a2) (a21 : a2 ≤ 65535) (b20 : 0 ≤ b2) (b21 : b2 ≤ 65535) (c20 : 0 ≤ c2) (c21 : c2 ≤ 65535) (y m d m2 d2 : Int)
    (ey : a % 10000 = y) (em : b % 12 = m - 1) (ed : c % 28 = d - 1) (ey2 : a2 % 10000 = y) (em2 : b2 % 12 = m2 - 1) (ed2 : c2 % 28 = d2 - 1) (hv : Cal.vldB y m d = true) (hv2 : Cal.vldB y m2 d2 = true) (h : m2 < m) :
    Calls Ydgm.prog 11 #[.int .u16 a, .int .u16 b, .int .u16 c, .int .u16 a2, .int .u16 b2, .int .u16 c2] w fun e w' => e = .returned (.bool true) ∧ Kept w w' := by
  obtain ⟨hm1, hm2⟩ := Cal.vld_m hv
  obtain ⟨hy1, hy2, hd1, hdd⟩ := Cal.vld_of hv
  have hd2 := Cal.vld_d hv
  obtain ⟨hm21, hm22⟩ := Cal.vld_m hv2
  obtain ⟨hy21, hy22, hd21, hd22⟩ := Cal.vld_of hv2
  have hd23 := Cal.vld_d hv2
  have L : Op.bytesLess (fmtS y m d).toList (fmtS y m2 d2).toList = false := by
    rw [less_fmt y m d y m2 d2 hy1 hy2 (by omega) (by omega) (by omega) (by omega) hy21 hy22 (by omega) (by omega) (by omega) (by omega)]
    simp; omega
  have Q := eq_fmt y m d y m2 d2 hy1 hy2 (by omega) (by omega) (by omega) (by omega) hy21 hy22 (by omega) (by omega) (by omega) (by omega) (by omega)
  have n2 : (m == m2) = false := by rw [beq_dec]; simp; omega
  have n3 : ¬ m = m2 := by omega
  clear hdd hd22
  go_enter Ydgm.func11, Ydgm.ntmps11
  go_wp2_with fail
  refine (format_yes _ _ _ _ hv).mono ?_
  rintro e w1 ⟨rfl, hk⟩
  obtain ⟨hc, hf, hz⟩ := kept_facts hk
  simp at hz
  have hz1 : w.heap.size < w1.heap.size := by omega
  have hz2 : w.heap.size + 1 < w1.heap.size := by omega
  go_wp2_with fail
  refine (format_yes _ _ _ _ hv2).mono ?_
  rintro e w2 ⟨rfl, hk2⟩
  obtain ⟨hc2, hf2, hz3⟩ := kept_facts hk2
  go_wp2
  go_ret
  exact ⟨by first | rfl | exact ret_bool (by simp; omega), kept_trans (kept_trans (by repeat (first | with_reducible exact kept_refl _ | with_reducible apply kept_alloc | with_reducible apply kept_drewN | with_reducible apply kept_drew | (with_reducible refine kept_setCell ?_ (by simp) _))) hk) hk2⟩

set_option maxHeartbeats 4000000 in
theorem cOrd_f (a b c a2 b2 c2 : Int) (w : World) (a0 : 0 ≤ a) (a1 : a ≤ 65535) (b0 : 0 ≤ b) (b1 : b ≤ 65535) (c0 : 0 ≤ c) (c1 : c ≤ 65535) (a20 : 0 ≤ a2) (a21 : a2 ≤ 65535) (b20 : 0 ≤ b2) (b21 : b2 ≤ 65535) (c20 : 0 ≤ c2) (c21 : c2 ≤ 65535) (y m d d2 : Int)
    (ey : a % 10000 = y) (em : b % 12 = m - 1) (ed : c % 28 = d - 1) (ey2 : a2 % 10000 = y) (em2 : b2 % 12 = m - 1) (ed2 : c2 % 28 = d2 - 1) (hv : Cal.vldB y m d = true) (hv2 : Cal.vldB y m d2 = true) (h : d < d2) :
    Calls Ydgm.prog 11 #[.int .u16 a, .int .u16 b, .int .u16 c, .int .u16 a2, .int .u16 b2, .int .u16 c2] w fun e w' => e = .returned (.bool true) ∧ Kept w w' := by
  obtain ⟨hm1, hm2⟩ := Cal.vld_m hv
  obtain ⟨hy1, hy2, hd1, hdd⟩ := Cal.vld_of hv
  have hd2 := Cal.vld_d hv
  obtain ⟨hm21, hm22⟩ := Cal.vld_m hv2
  obtain ⟨hy21, hy22, hd21, hd22⟩ := Cal.vld_of hv2
  have hd23 := Cal.vld_d hv2
  have L : Op.bytesLess (fmtS y m d).toList (fmtS y m d2).toList = true := by
    rw [less_fmt y m d y m d2 hy1 hy2 (by omega) (by omega) (by omega) (by omega) hy21 hy22 (by omega) (by omega) (by omega) (by omega)]
    simp; omega
  have Q := eq_fmt y m d y m d2 hy1 hy2 (by omega) (by omega) (by omega) (by omega) hy21 hy22 (by omega) (by omega) (by omega) (by omega) (by omega)
  have n2 : (d == d2) = false := by rw [beq_dec]; simp; omega
  clear hdd hd22
  go_enter Ydgm.func11, Ydgm.ntmps11
  go_wp2_with fail
  refine (format_yes _ _ _ _ hv).mono ?_
  rintro e w1 ⟨rfl, hk⟩
  obtain ⟨hc, hf, hz⟩ := kept_facts hk
  simp at hz
  have hz1 : w.heap.size < w1.heap.size := by omega
  have hz2 : w.heap.size + 1 < w1.heap.size := by omega
  go_wp2_with fail
  refine (format_yes _ _ _ _ hv2).mono ?_
  rintro e w2 ⟨rfl, hk2⟩
  obtain ⟨hc2, hf2, hz3⟩ := kept_facts hk2
  go_wp2
  go_ret
  exact ⟨by first | rfl | exact ret_bool (by simp; omega), kept_trans (kept_trans (by repeat (first | with_reducible exact kept_refl _ | with_reducible apply kept_alloc | with_reducible apply kept_drewN | with_reducible apply kept_drew | (with_reducible refine kept_setCell ?_ (by simp) _))) hk) hk2⟩

set_option maxHeartbeats 4000000 in
theorem cOrd_g (a b c a2 b2 c2 : Int) (w : World) (a0 : 0 ≤ a) (a1 : a ≤ 65535) (b0 : 0 ≤ b) (b1 : b ≤ 65535) (c0 : 0 ≤ c) (c1 : c ≤ 65535) (a20 : 0 ≤ a2) (a21 : a2 ≤ 65535) (b20 : 0 ≤ b2) (b21 : b2 ≤ 65535) (c20 : 0 ≤ c2) (c21 : c2 ≤ 65535) (y m d d2 : Int)
    (ey : a % 10000 = y) (em : b % 12 = m - 1) (ed : c % 28 = d - 1) (ey2 : a2 % 10000 = y) (em2 : b2 % 12 = m - 1) (ed2 : c2 % 28 = d2 - 1) (hv : Cal.vldB y m d = true) (hv2 : Cal.vldB y m d2 = true) (h : d2 < d) :
    Calls Ydgm.prog 11 #[.int .u16 a, .int .u16 b, .int .u16 c, .int .u16 a2, .int .u16 b2, .int .u16 c2] w fun e w' => e = .returned (.bool true) ∧ Kept w w' := by
  obtain ⟨hm1, hm2⟩ := Cal.vld_m hv
  obtain ⟨hy1, hy2, hd1, hdd⟩ := Cal.vld_of hv
  have hd2 := Cal.vld_d hv
  obtain ⟨hm21, hm22⟩ := Cal.vld_m hv2
  obtain ⟨hy21, hy22, hd21, hd22⟩ := Cal.vld_of hv2
  have hd23 := Cal.vld_d hv2
  have L : Op.bytesLess (fmtS y m d).toList (fmtS y m d2).toList = false := by
    rw [less_fmt y m d y m d2 hy1 hy2 (by omega) (by omega) (by omega) (by omega) hy21 hy22 (by omega) (by omega) (by omega) (by omega)]
    simp; omega
  have Q := eq_fmt y m d y m d2 hy1 hy2 (by omega) (by omega) (by omega) (by omega) hy21 hy22 (by omega) (by omega) (by omega) (by omega) (by omega)
  have n2 : (d == d2) = false := by rw [beq_dec]; simp; omega
  have n3 : ¬ d = d2 := by omega
  clear hdd hd22
  go_enter Ydgm.func11, Ydgm.ntmps11
  go_wp2_with fail
  refine (format_yes _ _ _ _ hv).mono ?_
  rintro e w1 ⟨rfl, hk⟩
  obtain ⟨hc, hf, hz⟩ := kept_facts hk
  simp at hz
  have hz1 : w.heap.size < w1.heap.size := by omega
  have hz2 : w.heap.size + 1 < w1.heap.size := by omega
  go_wp2_with fail
  refine (format_yes _ _ _ _ hv2).mono ?_
  rintro e w2 ⟨rfl, hk2⟩
  obtain ⟨hc2, hf2, hz3⟩ := kept_facts hk2
  go_wp2
  go_ret
  exact ⟨by first | rfl | exact ret_bool (by simp; omega), kept_trans (kept_trans (by repeat (first | with_reducible exact kept_refl _ | with_reducible apply kept_alloc | with_reducible apply kept_drewN | with_reducible apply kept_drew | (with_reducible refine kept_setCell ?_ (by simp) _))) hk) hk2⟩

set_option maxHeartbeats 4000000 in
theorem cOrd_e (a b c a2 b2 c2 : Int) (w : World) (a0 : 0 ≤ a) (a1 : a ≤ 65535) (b0 : 0 ≤ b) (b1 : b ≤ 65535) (c0 : 0 ≤ c) (c1 : c ≤ 65535) (a20 : 0 ≤ a2) (a21 : a2 ≤ 65535) (b20 : 0 ≤ b2) (b21 : b2 ≤ 65535) (c20 : 0 ≤ c2) (c21 : c2 ≤ 65535) (y m d : Int)
    (ey : a % 10000 = y) (em : b % 12 = m - 1) (ed : c % 28 = d - 1) (ey2 : a2 % 10000 = y) (em2 : b2 % 12 = m - 1) (ed2 : c2 % 28 = d - 1) (hv : Cal.vldB y m d = true) (hv2 : Cal.vldB y m d = true)  :
    Calls Ydgm.prog 11 #[.int .u16 a, .int .u16 b, .int .u16 c, .int .u16 a2, .int .u16 b2, .int .u16 c2] w fun e w' => e = .returned (.bool true) ∧ Kept w w' := by
  obtain ⟨hm1, hm2⟩ := Cal.vld_m hv
  obtain ⟨hy1, hy2, hd1, hdd⟩ := Cal.vld_of hv
  have hd2 := Cal.vld_d hv
  obtain ⟨hm21, hm22⟩ := Cal.vld_m hv2
  obtain ⟨hy21, hy22, hd21, hd22⟩ := Cal.vld_of hv2
  have hd23 := Cal.vld_d hv2
  have L : Op.bytesLess (fmtS y m d).toList (fmtS y m d).toList = false := by
    rw [less_fmt y m d y m d hy1 hy2 (by omega) (by omega) (by omega) (by omega) hy21 hy22 (by omega) (by omega) (by omega) (by omega)]
    simp
  clear hdd hd22
  go_enter Ydgm.func11, Ydgm.ntmps11
  go_wp2_with fail
  refine (format_yes _ _ _ _ hv).mono ?_
  rintro e w1 ⟨rfl, hk⟩
  obtain ⟨hc, hf, hz⟩ := kept_facts hk
  simp at hz
  have hz1 : w.heap.size < w1.heap.size := by omega
  have hz2 : w.heap.size + 1 < w1.heap.size := by omega
  go_wp2_with fail
  refine (format_yes _ _ _ _ hv2).mono ?_
  rintro e w2 ⟨rfl, hk2⟩
  obtain ⟨hc2, hf2, hz3⟩ := kept_facts hk2
  go_wp2
  go_ret
  exact ⟨by first | rfl | exact ret_bool (by simp; omega), kept_trans (kept_trans (by repeat (first | with_reducible exact kept_refl _ | with_reducible apply kept_alloc | with_reducible apply kept_drewN | with_reducible apply kept_drew | (with_reducible refine kept_setCell ?_ (by simp) _))) hk) hk2⟩

theorem cOrd_any (a b c a2 b2 c2 : Int) (w : World) (a0 : 0 ≤ a) (a1 : a ≤ 65535) (b0 : 0 ≤ b) (b1 : b ≤ 65535) (c0 : 0 ≤ c) (c1 : c ≤ 65535) (a20 : 0 ≤ a2) (a21 : a2 ≤ 65535) (b20 : 0 ≤ b2) (b21 : b2 ≤ 65535) (c20 : 0 ≤ c2) (c21 : c2 ≤ 65535) :
    Calls Ydgm.prog 11 #[.int .u16 a, .int .u16 b, .int .u16 c, .int .u16 a2, .int .u16 b2, .int .u16 c2] w fun e w' => e = .returned (.bool true) ∧ Kept w w' := by
  obtain ⟨y, ey⟩ : ∃ y, a % 10000 = y := ⟨_, rfl⟩
  obtain ⟨m, em⟩ : ∃ m, b % 12 = m - 1 := ⟨b % 12 + 1, by omega⟩
  obtain ⟨d, ed⟩ : ∃ d, c % 28 = d - 1 := ⟨c % 28 + 1, by omega⟩
  obtain ⟨y2, ey2⟩ : ∃ y, a2 % 10000 = y := ⟨_, rfl⟩
  obtain ⟨m2, em2⟩ : ∃ m, b2 % 12 = m - 1 := ⟨b2 % 12 + 1, by omega⟩
  obtain ⟨d2, ed2⟩ : ∃ d, c2 % 28 = d - 1 := ⟨c2 % 28 + 1, by omega⟩
  have k := Cal.dim_in y m (by omega) (by omega)
  have l := Cal.dim_in y2 m2 (by omega) (by omega)
  have hv : Cal.vldB y m d = true := Cal.vld_mk (by omega)
  have hv2 : Cal.vldB y2 m2 d2 = true := Cal.vld_mk (by omega)
  by_cases h1 : y < y2
  · exact cOrd_a a b c a2 b2 c2 w a0 a1 b0 b1 c0 c1 a20 a21 b20 b21 c20 c21 y m d y2 m2 d2 ey em ed ey2 em2 ed2 hv hv2 h1
  by_cases h2 : y2 < y
  · exact cOrd_b a b c a2 b2 c2 w a0 a1 b0 b1 c0 c1 a20 a21 b20 b21 c20 c21 y m d y2 m2 d2 ey em ed ey2 em2 ed2 hv hv2 h2
  obtain rfl : y = y2 := by omega
  by_cases h3 : m < m2
  · exact cOrd_c a b c a2 b2 c2 w a0 a1 b0 b1 c0 c1 a20 a21 b20 b21 c20 c21 y m d m2 d2 ey em ed ey2 em2 ed2 hv hv2 h3
  by_cases h4 : m2 < m
  · exact cOrd_d a b c a2 b2 c2 w a0 a1 b0 b1 c0 c1 a20 a21 b20 b21 c20 c21 y m d m2 d2 ey em ed ey2 em2 ed2 hv hv2 h4
  obtain rfl : m = m2 := by omega
  by_cases h5 : d < d2
  · exact cOrd_f a b c a2 b2 c2 w a0 a1 b0 b1 c0 c1 a20 a21 b20 b21 c20 c21 y m d d2 ey em ed ey2 em2 ed2 hv hv2 h5
  by_cases h6 : d2 < d
  · exact cOrd_g a b c a2 b2 c2 w a0 a1 b0 b1 c0 c1 a20 a21 b20 b21 c20 c21 y m d d2 ey em ed ey2 em2 ed2 hv hv2 h6
  obtain rfl : d = d2 := by omega
  exact cOrd_e a b c a2 b2 c2 w a0 a1 b0 b1 c0 c1 a20 a21 b20 b21 c20 c21 y m d ey em ed ey2 em2 ed2 hv hv2
end Go.Proofs.Ymbrdg
