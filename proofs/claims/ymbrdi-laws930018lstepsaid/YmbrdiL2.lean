/-
  THE L LAWS' WALKS: LawS930018LStep.
-/
import Derived.Test.YmbrdiL
namespace Go.Proofs.Ymbrdi
open Go.RowKit
set_option linter.unusedVariables false

set_option maxHeartbeats 2000000 in
theorem lStep_a_d (a b c e : Int) (w : World) (ha0 : 0 ≤ a) (ha1 : a ≤ 255) (hb0 : 0 ≤ b) (hb1 : b ≤ 255) (hc0 : 0 ≤ c) (hc1 : c ≤ 255) (he0 : 0 ≤ e) (he1 : e ≤ 255) (p q : Int) (ep : a % 100 = p) (eq : b % 100 = q) (p1 : 0 ≤ p) (p2 : p ≤ 99) (q1 : 0 ≤ q) (q2 : q ≤ 99) (y m d : Int) (ey : p * 100 + q = y) (em : c % 12 = m - 1) (ed : e % Cal.dim y m = d - 1) (hv : Cal.vldB y m d = true) (f1 : ¬ y = 0) (k : d < Cal.dim y m) :
    Calls Ydim.prog 12 #[.int .u8 a, .int .u8 b, .int .u8 c, .int .u8 e] w fun e w' => e = .returned (.bool true) ∧ Kept w w' := by
  obtain ⟨hm1, hm2⟩ := Cal.vld_m hv
  obtain ⟨hy1, hy2, hd1, hdd⟩ := Cal.vld_of hv
  have hd2 := Cal.vld_d hv
  obtain ⟨l1, l2⟩ := Cal.dim_in y m hm1 hm2
  obtain ⟨n1, n2⟩ := Cal.num_bd hv
  obtain ⟨hv2, hn2⟩ := Cal.next_d hv k
  go_enter Ydim.func12, Ydim.ntmps12
  go_wp2_with (go_at_call 21; refine (llen_any _ _ _).mono ?_; rintro e w' ⟨rfl, rfl⟩)
  refine (todays_yes _ _ _ _ hv).mono ?_
  rintro e w1 ⟨rfl, n, rfl⟩
  go_wp2_with fail
  refine (todays_yes _ _ _ _ hv2).mono ?_
  rintro e w2 ⟨rfl, j, rfl⟩
  go_wp2
  go_ret
  exact ⟨rfl, by repeat (first | with_reducible exact kept_refl _ | with_reducible apply kept_alloc | with_reducible apply kept_drewN | with_reducible apply kept_drew | (with_reducible refine kept_setCell ?_ (by simp) _))⟩

set_option maxHeartbeats 2000000 in
theorem lStep_a_m (a b c e : Int) (w : World) (ha0 : 0 ≤ a) (ha1 : a ≤ 255) (hb0 : 0 ≤ b) (hb1 : b ≤ 255) (hc0 : 0 ≤ c) (hc1 : c ≤ 255) (he0 : 0 ≤ e) (he1 : e ≤ 255) (p q : Int) (ep : a % 100 = p) (eq : b % 100 = q) (p1 : 0 ≤ p) (p2 : p ≤ 99) (q1 : 0 ≤ q) (q2 : q ≤ 99) (y m d : Int) (ey : p * 100 + q = y) (em : c % 12 = m - 1) (ed : e % Cal.dim y m = d - 1) (hv : Cal.vldB y m d = true) (f1 : ¬ y = 0) (k : ¬ d < Cal.dim y m) (l : m < 12) :
    Calls Ydim.prog 12 #[.int .u8 a, .int .u8 b, .int .u8 c, .int .u8 e] w fun e w' => e = .returned (.bool true) ∧ Kept w w' := by
  obtain ⟨hm1, hm2⟩ := Cal.vld_m hv
  obtain ⟨hy1, hy2, hd1, hdd⟩ := Cal.vld_of hv
  have hd2 := Cal.vld_d hv
  obtain ⟨l1, l2⟩ := Cal.dim_in y m hm1 hm2
  obtain ⟨n1, n2⟩ := Cal.num_bd hv
  obtain ⟨hv2, hn2⟩ := Cal.next_m hv (by omega) l
  go_enter Ydim.func12, Ydim.ntmps12
  go_wp2_with (go_at_call 21; refine (llen_any _ _ _).mono ?_; rintro e w' ⟨rfl, rfl⟩)
  refine (todays_yes _ _ _ _ hv).mono ?_
  rintro e w1 ⟨rfl, n, rfl⟩
  go_wp2_with fail
  refine (todays_yes _ _ _ _ hv2).mono ?_
  rintro e w2 ⟨rfl, j, rfl⟩
  go_wp2
  go_ret
  exact ⟨rfl, by repeat (first | with_reducible exact kept_refl _ | with_reducible apply kept_alloc | with_reducible apply kept_drewN | with_reducible apply kept_drew | (with_reducible refine kept_setCell ?_ (by simp) _))⟩

set_option maxHeartbeats 2000000 in
theorem lStep_a_y (a b c e : Int) (w : World) (ha0 : 0 ≤ a) (ha1 : a ≤ 255) (hb0 : 0 ≤ b) (hb1 : b ≤ 255) (hc0 : 0 ≤ c) (hc1 : c ≤ 255) (he0 : 0 ≤ e) (he1 : e ≤ 255) (p q : Int) (ep : a % 100 = p) (eq : b % 100 = q) (p1 : 0 ≤ p) (p2 : p ≤ 99) (q1 : 0 ≤ q) (q2 : q ≤ 99) (y m d : Int) (ey : p * 100 + q = y) (em : c % 12 = m - 1) (ed : e % Cal.dim y m = d - 1) (hv : Cal.vldB y m d = true) (f1 : ¬ y = 0) (k : ¬ d < Cal.dim y m) (l : ¬ m < 12) (g : y < 9999) :
    Calls Ydim.prog 12 #[.int .u8 a, .int .u8 b, .int .u8 c, .int .u8 e] w fun e w' => e = .returned (.bool true) ∧ Kept w w' := by
  obtain ⟨hm1, hm2⟩ := Cal.vld_m hv
  obtain ⟨hy1, hy2, hd1, hdd⟩ := Cal.vld_of hv
  have hd2 := Cal.vld_d hv
  obtain ⟨l1, l2⟩ := Cal.dim_in y m hm1 hm2
  obtain ⟨n1, n2⟩ := Cal.num_bd hv
  obtain ⟨hn2, hv2'⟩ := Cal.next_y hv (by omega) (by omega)
  have hv2 := hv2' g
  clear hv2'
  go_enter Ydim.func12, Ydim.ntmps12
  go_wp2_with (go_at_call 21; refine (llen_any _ _ _).mono ?_; rintro e w' ⟨rfl, rfl⟩)
  refine (todays_yes _ _ _ _ hv).mono ?_
  rintro e w1 ⟨rfl, n, rfl⟩
  go_wp2_with fail
  refine (todays_yes _ _ _ _ hv2).mono ?_
  rintro e w2 ⟨rfl, j, rfl⟩
  go_wp2
  go_ret
  exact ⟨rfl, by repeat (first | with_reducible exact kept_refl _ | with_reducible apply kept_alloc | with_reducible apply kept_drewN | with_reducible apply kept_drew | (with_reducible refine kept_setCell ?_ (by simp) _))⟩

set_option maxHeartbeats 2000000 in
theorem lStep_a_z (a b c e : Int) (w : World) (ha0 : 0 ≤ a) (ha1 : a ≤ 255) (hb0 : 0 ≤ b) (hb1 : b ≤ 255) (hc0 : 0 ≤ c) (hc1 : c ≤ 255) (he0 : 0 ≤ e) (he1 : e ≤ 255) (p q : Int) (ep : a % 100 = p) (eq : b % 100 = q) (p1 : 0 ≤ p) (p2 : p ≤ 99) (q1 : 0 ≤ q) (q2 : q ≤ 99) (y m d : Int) (ey : p * 100 + q = y) (em : c % 12 = m - 1) (ed : e % Cal.dim y m = d - 1) (hv : Cal.vldB y m d = true) (f1 : ¬ y = 0) (k : ¬ d < Cal.dim y m) (l : ¬ m < 12) (g : ¬ y < 9999) :
    Calls Ydim.prog 12 #[.int .u8 a, .int .u8 b, .int .u8 c, .int .u8 e] w fun e w' => e = .returned (.bool true) ∧ Kept w w' := by
  obtain ⟨hm1, hm2⟩ := Cal.vld_m hv
  obtain ⟨hy1, hy2, hd1, hdd⟩ := Cal.vld_of hv
  have hd2 := Cal.vld_d hv
  obtain ⟨l1, l2⟩ := Cal.dim_in y m hm1 hm2
  obtain ⟨n1, n2⟩ := Cal.num_bd hv
  have hv2 : Cal.vldB (y + 1) 1 1 = false := by
    cases h : Cal.vldB (y + 1) 1 1
    · rfl
    · have := Cal.vld_of h; omega
  have hlast : Cal.num y m d = 2932896 := by
    have x := Cal.next_y hv (by omega) (by omega)
    have y9 : y = 9999 := by omega
    have x1 := x.1
    rw [show y + 1 = (10000 : Int) by omega] at x1
    have z : Cal.num 10000 1 1 = 2932897 := rfl
    omega
  go_enter Ydim.func12, Ydim.ntmps12
  go_wp2_with (go_at_call 21; refine (llen_any _ _ _).mono ?_; rintro e w' ⟨rfl, rfl⟩)
  refine (todays_yes _ _ _ _ hv).mono ?_
  rintro e w1 ⟨rfl, n, rfl⟩
  go_wp2_with fail
  refine (todays_no _ _ _ _ hv2).mono ?_
  rintro e w2 ⟨rfl, j, rfl⟩
  go_wp2
  go_ret
  exact ⟨rfl, by repeat (first | with_reducible exact kept_refl _ | with_reducible apply kept_alloc | with_reducible apply kept_drewN | with_reducible apply kept_drew | (with_reducible refine kept_setCell ?_ (by simp) _))⟩

set_option maxHeartbeats 2000000 in
theorem lStep_b_d (a b c e : Int) (w : World) (ha0 : 0 ≤ a) (ha1 : a ≤ 255) (hb0 : 0 ≤ b) (hb1 : b ≤ 255) (hc0 : 0 ≤ c) (hc1 : c ≤ 255) (he0 : 0 ≤ e) (he1 : e ≤ 255) (p q : Int) (ep : a % 100 = p) (eq : b % 100 = q) (p1 : 0 ≤ p) (p2 : p ≤ 99) (q1 : 0 ≤ q) (q2 : q ≤ 99) (m d : Int) (ey : p * 100 + q = 0) (em : c % 12 = m - 1) (ed : e % Cal.dim 0 m = d - 1) (hv : Cal.vldB 0 m d = true) (f1 : ¬ m = 1) (k : d < Cal.dim 0 m) :
    Calls Ydim.prog 12 #[.int .u8 a, .int .u8 b, .int .u8 c, .int .u8 e] w fun e w' => e = .returned (.bool true) ∧ Kept w w' := by
  obtain ⟨hm1, hm2⟩ := Cal.vld_m hv
  obtain ⟨hy1, hy2, hd1, hdd⟩ := Cal.vld_of hv
  have hd2 := Cal.vld_d hv
  obtain ⟨l1, l2⟩ := Cal.dim_in 0 m hm1 hm2
  obtain ⟨n1, n2⟩ := Cal.num_bd hv
  obtain ⟨hv2, hn2⟩ := Cal.next_d hv k
  go_enter Ydim.func12, Ydim.ntmps12
  go_wp2_with (go_at_call 21; refine (llen_any _ _ _).mono ?_; rintro e w' ⟨rfl, rfl⟩)
  refine (todays_yes _ _ _ _ hv).mono ?_
  rintro e w1 ⟨rfl, n, rfl⟩
  go_wp2_with fail
  refine (todays_yes _ _ _ _ hv2).mono ?_
  rintro e w2 ⟨rfl, j, rfl⟩
  go_wp2
  go_ret
  exact ⟨rfl, by repeat (first | with_reducible exact kept_refl _ | with_reducible apply kept_alloc | with_reducible apply kept_drewN | with_reducible apply kept_drew | (with_reducible refine kept_setCell ?_ (by simp) _))⟩

set_option maxHeartbeats 2000000 in
theorem lStep_b_m (a b c e : Int) (w : World) (ha0 : 0 ≤ a) (ha1 : a ≤ 255) (hb0 : 0 ≤ b) (hb1 : b ≤ 255) (hc0 : 0 ≤ c) (hc1 : c ≤ 255) (he0 : 0 ≤ e) (he1 : e ≤ 255) (p q : Int) (ep : a % 100 = p) (eq : b % 100 = q) (p1 : 0 ≤ p) (p2 : p ≤ 99) (q1 : 0 ≤ q) (q2 : q ≤ 99) (m d : Int) (ey : p * 100 + q = 0) (em : c % 12 = m - 1) (ed : e % Cal.dim 0 m = d - 1) (hv : Cal.vldB 0 m d = true) (f1 : ¬ m = 1) (k : ¬ d < Cal.dim 0 m) (l : m < 12) :
    Calls Ydim.prog 12 #[.int .u8 a, .int .u8 b, .int .u8 c, .int .u8 e] w fun e w' => e = .returned (.bool true) ∧ Kept w w' := by
  obtain ⟨hm1, hm2⟩ := Cal.vld_m hv
  obtain ⟨hy1, hy2, hd1, hdd⟩ := Cal.vld_of hv
  have hd2 := Cal.vld_d hv
  obtain ⟨l1, l2⟩ := Cal.dim_in 0 m hm1 hm2
  obtain ⟨n1, n2⟩ := Cal.num_bd hv
  obtain ⟨hv2, hn2⟩ := Cal.next_m hv (by omega) l
  go_enter Ydim.func12, Ydim.ntmps12
  go_wp2_with (go_at_call 21; refine (llen_any _ _ _).mono ?_; rintro e w' ⟨rfl, rfl⟩)
  refine (todays_yes _ _ _ _ hv).mono ?_
  rintro e w1 ⟨rfl, n, rfl⟩
  go_wp2_with fail
  refine (todays_yes _ _ _ _ hv2).mono ?_
  rintro e w2 ⟨rfl, j, rfl⟩
  go_wp2
  go_ret
  exact ⟨rfl, by repeat (first | with_reducible exact kept_refl _ | with_reducible apply kept_alloc | with_reducible apply kept_drewN | with_reducible apply kept_drew | (with_reducible refine kept_setCell ?_ (by simp) _))⟩

set_option maxHeartbeats 2000000 in
theorem lStep_b_y (a b c e : Int) (w : World) (ha0 : 0 ≤ a) (ha1 : a ≤ 255) (hb0 : 0 ≤ b) (hb1 : b ≤ 255) (hc0 : 0 ≤ c) (hc1 : c ≤ 255) (he0 : 0 ≤ e) (he1 : e ≤ 255) (p q : Int) (ep : a % 100 = p) (eq : b % 100 = q) (p1 : 0 ≤ p) (p2 : p ≤ 99) (q1 : 0 ≤ q) (q2 : q ≤ 99) (m d : Int) (ey : p * 100 + q = 0) (em : c % 12 = m - 1) (ed : e % Cal.dim 0 m = d - 1) (hv : Cal.vldB 0 m d = true) (f1 : ¬ m = 1) (k : ¬ d < Cal.dim 0 m) (l : ¬ m < 12) (g : (0 : Int) < 9999) :
    Calls Ydim.prog 12 #[.int .u8 a, .int .u8 b, .int .u8 c, .int .u8 e] w fun e w' => e = .returned (.bool true) ∧ Kept w w' := by
  obtain ⟨hm1, hm2⟩ := Cal.vld_m hv
  obtain ⟨hy1, hy2, hd1, hdd⟩ := Cal.vld_of hv
  have hd2 := Cal.vld_d hv
  obtain ⟨l1, l2⟩ := Cal.dim_in 0 m hm1 hm2
  obtain ⟨n1, n2⟩ := Cal.num_bd hv
  obtain ⟨hn2, hv2'⟩ := Cal.next_y hv (by omega) (by omega)
  have hv2 := hv2' g
  clear hv2'
  have hv2 : Cal.vldB 1 1 1 = true := hv2
  have hn2 : Cal.num 1 1 1 = Cal.num 0 m d + 1 := hn2
  go_enter Ydim.func12, Ydim.ntmps12
  go_wp2_with (go_at_call 21; refine (llen_any _ _ _).mono ?_; rintro e w' ⟨rfl, rfl⟩)
  refine (todays_yes _ _ _ _ hv).mono ?_
  rintro e w1 ⟨rfl, n, rfl⟩
  go_wp2_with fail
  refine (todays_yes _ _ _ _ hv2).mono ?_
  rintro e w2 ⟨rfl, j, rfl⟩
  go_wp2
  go_ret
  exact ⟨rfl, by repeat (first | with_reducible exact kept_refl _ | with_reducible apply kept_alloc | with_reducible apply kept_drewN | with_reducible apply kept_drew | (with_reducible refine kept_setCell ?_ (by simp) _))⟩

set_option maxHeartbeats 2000000 in
theorem lStep_c_d (a b c e : Int) (w : World) (ha0 : 0 ≤ a) (ha1 : a ≤ 255) (hb0 : 0 ≤ b) (hb1 : b ≤ 255) (hc0 : 0 ≤ c) (hc1 : c ≤ 255) (he0 : 0 ≤ e) (he1 : e ≤ 255) (p q : Int) (ep : a % 100 = p) (eq : b % 100 = q) (p1 : 0 ≤ p) (p2 : p ≤ 99) (q1 : 0 ≤ q) (q2 : q ≤ 99) (d : Int) (ey : p * 100 + q = 0) (em : c % 12 = 0) (ed : e % Cal.dim 0 1 = d - 1) (hv : Cal.vldB 0 1 d = true) (f1 : ¬ d = 1) (k : d < Cal.dim 0 1) :
    Calls Ydim.prog 12 #[.int .u8 a, .int .u8 b, .int .u8 c, .int .u8 e] w fun e w' => e = .returned (.bool true) ∧ Kept w w' := by
  obtain ⟨hm1, hm2⟩ := Cal.vld_m hv
  obtain ⟨hy1, hy2, hd1, hdd⟩ := Cal.vld_of hv
  have hd2 := Cal.vld_d hv
  obtain ⟨l1, l2⟩ := Cal.dim_in 0 1 hm1 hm2
  obtain ⟨n1, n2⟩ := Cal.num_bd hv
  obtain ⟨hv2, hn2⟩ := Cal.next_d hv k
  go_enter Ydim.func12, Ydim.ntmps12
  go_wp2_with (go_at_call 21; refine (llen_any _ _ _).mono ?_; rintro e w' ⟨rfl, rfl⟩)
  refine (todays_yes _ _ _ _ hv).mono ?_
  rintro e w1 ⟨rfl, n, rfl⟩
  go_wp2_with fail
  refine (todays_yes _ _ _ _ hv2).mono ?_
  rintro e w2 ⟨rfl, j, rfl⟩
  go_wp2
  go_ret
  exact ⟨rfl, by repeat (first | with_reducible exact kept_refl _ | with_reducible apply kept_alloc | with_reducible apply kept_drewN | with_reducible apply kept_drew | (with_reducible refine kept_setCell ?_ (by simp) _))⟩

set_option maxHeartbeats 2000000 in
theorem lStep_c_m (a b c e : Int) (w : World) (ha0 : 0 ≤ a) (ha1 : a ≤ 255) (hb0 : 0 ≤ b) (hb1 : b ≤ 255) (hc0 : 0 ≤ c) (hc1 : c ≤ 255) (he0 : 0 ≤ e) (he1 : e ≤ 255) (p q : Int) (ep : a % 100 = p) (eq : b % 100 = q) (p1 : 0 ≤ p) (p2 : p ≤ 99) (q1 : 0 ≤ q) (q2 : q ≤ 99) (d : Int) (ey : p * 100 + q = 0) (em : c % 12 = 0) (ed : e % Cal.dim 0 1 = d - 1) (hv : Cal.vldB 0 1 d = true) (f1 : ¬ d = 1) (k : ¬ d < Cal.dim 0 1) (l : (1 : Int) < 12) :
    Calls Ydim.prog 12 #[.int .u8 a, .int .u8 b, .int .u8 c, .int .u8 e] w fun e w' => e = .returned (.bool true) ∧ Kept w w' := by
  obtain ⟨hm1, hm2⟩ := Cal.vld_m hv
  obtain ⟨hy1, hy2, hd1, hdd⟩ := Cal.vld_of hv
  have hd2 := Cal.vld_d hv
  obtain ⟨l1, l2⟩ := Cal.dim_in 0 1 hm1 hm2
  obtain ⟨n1, n2⟩ := Cal.num_bd hv
  obtain ⟨hv2', hn2'⟩ := Cal.next_m hv (by omega) l
  have hv2 : Cal.vldB 0 2 1 = true := hv2'
  have hn2 : Cal.num 0 2 1 = Cal.num 0 1 d + 1 := hn2'
  clear hv2' hn2'
  go_enter Ydim.func12, Ydim.ntmps12
  go_wp2_with (go_at_call 21; refine (llen_any _ _ _).mono ?_; rintro e w' ⟨rfl, rfl⟩)
  refine (todays_yes _ _ _ _ hv).mono ?_
  rintro e w1 ⟨rfl, n, rfl⟩
  go_wp2_with fail
  refine (todays_yes _ _ _ _ hv2).mono ?_
  rintro e w2 ⟨rfl, j, rfl⟩
  go_wp2
  go_ret
  exact ⟨rfl, by repeat (first | with_reducible exact kept_refl _ | with_reducible apply kept_alloc | with_reducible apply kept_drewN | with_reducible apply kept_drew | (with_reducible refine kept_setCell ?_ (by simp) _))⟩

set_option maxHeartbeats 2000000 in
theorem lStep_o_d (a b c e : Int) (w : World) (ha0 : 0 ≤ a) (ha1 : a ≤ 255) (hb0 : 0 ≤ b) (hb1 : b ≤ 255) (hc0 : 0 ≤ c) (hc1 : c ≤ 255) (he0 : 0 ≤ e) (he1 : e ≤ 255) (p q : Int) (ep : a % 100 = p) (eq : b % 100 = q) (p1 : 0 ≤ p) (p2 : p ≤ 99) (q1 : 0 ≤ q) (q2 : q ≤ 99) (ey : p * 100 + q = 0) (em : c % 12 = 0) (ed : e % Cal.dim 0 1 = 0) (hv : Cal.vldB 0 1 1 = true) (f1 : Cal.num 0 1 1 = -719528) (k : (1 : Int) < Cal.dim 0 1) :
    Calls Ydim.prog 12 #[.int .u8 a, .int .u8 b, .int .u8 c, .int .u8 e] w fun e w' => e = .returned (.bool true) ∧ Kept w w' := by
  obtain ⟨hm1, hm2⟩ := Cal.vld_m hv
  obtain ⟨hy1, hy2, hd1, hdd⟩ := Cal.vld_of hv
  have hd2 := Cal.vld_d hv
  obtain ⟨l1, l2⟩ := Cal.dim_in 0 1 hm1 hm2
  obtain ⟨n1, n2⟩ := Cal.num_bd hv
  obtain ⟨hv2', hn2'⟩ := Cal.next_d hv k
  have hv2 : Cal.vldB 0 1 2 = true := hv2'
  have hn2 : Cal.num 0 1 2 = -719527 := rfl
  clear hv2' hn2'
  go_enter Ydim.func12, Ydim.ntmps12
  go_wp2_with (go_at_call 21; refine (llen_any _ _ _).mono ?_; rintro e w' ⟨rfl, rfl⟩)
  refine (todays_yes _ _ _ _ hv).mono ?_
  rintro e w1 ⟨rfl, n, rfl⟩
  go_wp2_with fail
  refine (todays_yes _ _ _ _ hv2).mono ?_
  rintro e w2 ⟨rfl, j, rfl⟩
  go_wp2
  go_ret
  exact ⟨rfl, by repeat (first | with_reducible exact kept_refl _ | with_reducible apply kept_alloc | with_reducible apply kept_drewN | with_reducible apply kept_drew | (with_reducible refine kept_setCell ?_ (by simp) _))⟩

theorem lStep_any (a b c e : Int) (w : World) (ha0 : 0 ≤ a) (ha1 : a ≤ 255) (hb0 : 0 ≤ b) (hb1 : b ≤ 255) (hc0 : 0 ≤ c) (hc1 : c ≤ 255) (he0 : 0 ≤ e) (he1 : e ≤ 255) :
    Calls Ydim.prog 12 #[.int .u8 a, .int .u8 b, .int .u8 c, .int .u8 e] w fun e w' => e = .returned (.bool true) ∧ Kept w w' := by
  obtain ⟨y, ey⟩ : ∃ y, a % 100 * 100 + b % 100 = y := ⟨_, rfl⟩
  obtain ⟨m, em⟩ : ∃ m, c % 12 = m - 1 := ⟨c % 12 + 1, by omega⟩
  have k := Cal.dim_in y m (by omega) (by omega)
  have k1 := Int.emod_nonneg e (b := Cal.dim y m) (by omega)
  have k2 := Int.emod_lt_of_pos e (b := Cal.dim y m) (by omega)
  obtain ⟨d, ed⟩ : ∃ d, e % Cal.dim y m = d - 1 := ⟨e % Cal.dim y m + 1, by omega⟩
  have hv : Cal.vldB y m d = true := Cal.vld_mk (by omega)
  by_cases f1 : y = 0
  · subst f1
    by_cases f2 : m = 1
    · subst f2
      by_cases f3 : d = 1
      · subst f3
        exact lStep_o_d a b c e w ha0 ha1 hb0 hb1 hc0 hc1 he0 he1 _ _ rfl rfl (by omega) (by omega) (by omega) (by omega) ey em ed hv rfl (by have := (Cal.dim_tab 0).1; omega)
      · by_cases n1 : d < Cal.dim 0 1
        · exact lStep_c_d a b c e w ha0 ha1 hb0 hb1 hc0 hc1 he0 he1 _ _ rfl rfl (by omega) (by omega) (by omega) (by omega) d ey em ed hv f3 n1
        · exact lStep_c_m a b c e w ha0 ha1 hb0 hb1 hc0 hc1 he0 he1 _ _ rfl rfl (by omega) (by omega) (by omega) (by omega) d ey em ed hv f3 n1 (by decide)
    · by_cases n1 : d < Cal.dim 0 m
      · exact lStep_b_d a b c e w ha0 ha1 hb0 hb1 hc0 hc1 he0 he1 _ _ rfl rfl (by omega) (by omega) (by omega) (by omega) m d ey em ed hv f2 n1
      by_cases n2 : m < 12
      · exact lStep_b_m a b c e w ha0 ha1 hb0 hb1 hc0 hc1 he0 he1 _ _ rfl rfl (by omega) (by omega) (by omega) (by omega) m d ey em ed hv f2 n1 n2
      · exact lStep_b_y a b c e w ha0 ha1 hb0 hb1 hc0 hc1 he0 he1 _ _ rfl rfl (by omega) (by omega) (by omega) (by omega) m d ey em ed hv f2 n1 n2 (by decide)
  · by_cases n1 : d < Cal.dim y m
    · exact lStep_a_d a b c e w ha0 ha1 hb0 hb1 hc0 hc1 he0 he1 _ _ rfl rfl (by omega) (by omega) (by omega) (by omega) y m d ey em ed hv f1 n1
    by_cases n2 : m < 12
    · exact lStep_a_m a b c e w ha0 ha1 hb0 hb1 hc0 hc1 he0 he1 _ _ rfl rfl (by omega) (by omega) (by omega) (by omega) y m d ey em ed hv f1 n1 n2
    by_cases n3 : y < 9999
    · exact lStep_a_y a b c e w ha0 ha1 hb0 hb1 hc0 hc1 he0 he1 _ _ rfl rfl (by omega) (by omega) (by omega) (by omega) y m d ey em ed hv f1 n1 n2 n3
    · exact lStep_a_z a b c e w ha0 ha1 hb0 hb1 hc0 hc1 he0 he1 _ _ rfl rfl (by omega) (by omega) (by omega) (by omega) y m d ey em ed hv f1 n1 n2 n3
end Go.Proofs.Ymbrdi
