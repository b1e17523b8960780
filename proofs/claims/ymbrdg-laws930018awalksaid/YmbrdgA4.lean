/-
  THE A LAWS' WALKS, MORE: LawS930018AWalk.
-/
import Derived.Test.YmbrdgA3
namespace Go.Proofs.Ymbrdg
open Go.RowKit
set_option linter.unusedVariables false
/-! The day before. -/
theorem prev_d {y m d : Int} (h : Cal.vldB y m d = true) (k : ¬ d - 1 < 1) : Cal.vldB y m (d - 1) = true ∧ Cal.num y m (d - 1) = Cal.num y m d - 1 := by
  obtain ⟨h1, h2, h3, h4⟩ := Cal.vld_of h
  exact ⟨Cal.vld_mk (by omega), by unfold Cal.num; omega⟩
theorem prev_m {y m d : Int} (h : Cal.vldB y m d = true) (k : d - 1 < 1) (l : ¬ m - 1 < 1) : Cal.vldB y (m - 1) (Cal.dim y (m - 1)) = true ∧ Cal.num y (m - 1) (Cal.dim y (m - 1)) = Cal.num y m d - 1 := by
  obtain ⟨h1, h2, h3, h4⟩ := Cal.vld_of h
  obtain ⟨m1, m2⟩ := Cal.vld_m h
  have a := Cal.dim_in y (m - 1) (by omega) (by omega)
  have b := Cal.cum_succ y (m - 1) (by omega) (by omega)
  rw [show m - 1 + 1 = m by omega] at b
  exact ⟨Cal.vld_mk (by omega), by unfold Cal.num; rw [b]; omega⟩
theorem prev_y {y m d : Int} (h : Cal.vldB y m d = true) (k : d - 1 < 1) (l : m - 1 < 1) (g : ¬ y - 1 < 0) : Cal.vldB (y - 1) 12 (Cal.dim (y - 1) 12) = true ∧ Cal.num (y - 1) 12 (Cal.dim (y - 1) 12) = Cal.num y m d - 1 := by
  obtain ⟨h1, h2, h3, h4⟩ := Cal.vld_of h
  obtain ⟨m1, m2⟩ := Cal.vld_m h
  obtain rfl : m = 1 := by omega
  obtain rfl : d = 1 := by omega
  have e := (Cal.dim_tab (y - 1)).2.2.2.2.2.2.2.2.2.2.2
  have c := (Cal.cum_tab (y - 1)).2.2.2.2.2.2.2.2.2.2.2.1
  have f := (Cal.cum_tab y).1
  have b := Cal.dby_succ (y - 1) (by omega)
  rw [show y - 1 + 1 = y by omega] at b
  exact ⟨Cal.vld_mk (by omega), by unfold Cal.num; rw [b, c, f, e]; omega⟩
theorem prev_z {y m d : Int} (h : Cal.vldB y m d = true) (k : d - 1 < 1) (l : m - 1 < 1) (g : y - 1 < 0) : Cal.num y m d = -719528 := by
  obtain ⟨h1, h2, h3, h4⟩ := Cal.vld_of h
  obtain ⟨m1, m2⟩ := Cal.vld_m h
  obtain rfl : m = 1 := by omega
  obtain rfl : d = 1 := by omega
  obtain rfl : y = 0 := by omega
  rfl
/-- The day after, as the walk has it: the day is counted up first. -/
theorem suc_z {y m d : Int} (h : Cal.vldB y m d = true) (k : Cal.dim y m < d + 1) (l : 12 < m + 1) (g : 9999 < y + 1) : Cal.num y m d = 2932896 := by
  obtain ⟨h1, h2, h3, h4⟩ := Cal.vld_of h
  obtain ⟨m1, m2⟩ := Cal.vld_m h
  have x := (Cal.next_y h (by omega) (by omega)).1
  rw [show y + 1 = (10000 : Int) by omega] at x
  have z : Cal.num 10000 1 1 = 2932897 := rfl
  omega

set_option maxHeartbeats 4000000 in
theorem aWalk_up_in (p q r f t y m d : Int) (w : World) (p0 : 0 ≤ p) (p1 : p ≤ 65535) (q0 : 0 ≤ q) (q1 : q ≤ 255) (r0 : 0 ≤ r) (r1 : r ≤ 255) (f0 : -32768 ≤ f) (f1 : f ≤ 32767) (et : f.tmod 800 = t) (t1 : -800 < t) (t2 : t < 800)
    (HD : Hid (∀ w, Calls Ydgm.prog 15 #[.int .u16 p, .int .u8 q, .int .u8 r] w fun e w' => e = .returned (.agg #[.int .i64 y, .int .i64 m, .int .i64 d]) ∧ w' = w.alloc (.cells #[.int .i64 y, .int .i64 m, .int .i64 d] 23))) (hv : Cal.vldB y m d = true) (t0 : 0 ≤ t) (Y M D : Int) (h2 : Cal.vldB Y M D = true) (HN : Hid (Cal.num Y M D = Cal.num y m d + t)) :
    Calls Ydgm.prog 4 #[.int .u16 p, .int .u8 q, .int .u8 r, .int .i16 f] w fun e w' => e = .returned (.bool true) ∧ Kept w w' := by
  go_enter Ydgm.func4, Ydgm.ntmps4
  go_wp2_with (go_at_call 15; refine (HD.out _).mono ?_; rintro e w' ⟨rfl, rfl⟩)
  refine (add_yes _ _ _ _ Y M D _ hv h2 HN.out).mono ?_
  rintro e w1 ⟨rfl, hk⟩
  obtain ⟨hc, hf, hz⟩ := kept_facts hk
  simp at hz
  have hz' : w.heap.size + 1 < w1.heap.size := by omega
  go_wp2_with fail
  go_quiet (fail)
  go_wp2
  go_loop [13, 14, 15, 16] (fun a b c k => ∃ I yy mm dd : Int, 0 ≤ I ∧ I ≤ t ∧ a = .int .i64 yy ∧ b = .int .i64 mm ∧ c = .int .i64 dd ∧ k = .int .i64 I ∧ Cal.vldB yy mm dd = true ∧ Hid (Cal.num yy mm dd = Cal.num y m d + I)) (fun _ _ _ k => (t - intOf k).toNat)
  case atStart => exact ⟨0, y, m, d, by omega, by omega, rfl, rfl, rfl, rfl, hv, by show _ = _; omega⟩
  case round =>
    obtain ⟨I, yy, mm, dd, i1, i2, rfl, rfl, rfl, rfl, hvv, HM⟩ := hrel
    obtain ⟨hm1, hm2⟩ := Cal.vld_m hvv
    obtain ⟨hy1, hy2, hd1, hdd⟩ := Cal.vld_of hvv
    have hd3 := Cal.vld_d hvv
    by_cases hlt : I < t
    · by_cases k1 : Cal.dim yy mm < dd + 1
      · by_cases k2 : 12 < mm + 1
        · by_cases k3 : 9999 < yy + 1
          · have zz : Hid (Cal.num yy mm dd = 2932896) := suc_z hvv k1 k2 k3
            exfalso
            have a := HM.out; have b := HN.out; have c := zz.out; have e := Cal.num_bd h2
            omega
          · have nx := Cal.next_y hvv (by omega) (by omega)
            have NX : Hid (Cal.num (yy + 1) 1 1 = Cal.num yy mm dd + 1 ∧ Cal.vldB (yy + 1) 1 1 = true) := ⟨nx.1, nx.2 (by omega)⟩
            clear nx
            go_wp2_with (go_at_call 19; refine (alen_any _ _ _ hm1 hm2).mono ?_; rintro e w' ⟨rfl, rfl⟩)
            go_round
            case rel => exact ⟨I + 1, yy + 1, 1, 1, by omega, by omega, rfl, rfl, rfl, by go_num, NX.out.2, by show _ = _; have a := HM.out; have b := NX.out.1; omega⟩
            case measure => simp [intOf]; omega
        · have NX : Hid (Cal.vldB yy (mm + 1) 1 = true ∧ Cal.num yy (mm + 1) 1 = Cal.num yy mm dd + 1) := Cal.next_m hvv (by omega) (by omega)
          go_wp2_with (go_at_call 19; refine (alen_any _ _ _ hm1 hm2).mono ?_; rintro e w' ⟨rfl, rfl⟩)
          go_round
          case rel => exact ⟨I + 1, yy, mm + 1, 1, by omega, by omega, rfl, rfl, rfl, by go_num, NX.out.1, by show _ = _; have a := HM.out; have b := NX.out.2; omega⟩
          case measure => simp [intOf]; omega
      · have NX : Hid (Cal.vldB yy mm (dd + 1) = true ∧ Cal.num yy mm (dd + 1) = Cal.num yy mm dd + 1) := Cal.next_d hvv (by omega)
        go_wp2_with (go_at_call 19; refine (alen_any _ _ _ hm1 hm2).mono ?_; rintro e w' ⟨rfl, rfl⟩)
        go_round
        case rel => exact ⟨I + 1, yy, mm, dd + 1, by omega, by omega, rfl, rfl, rfl, by go_num, NX.out.1, by show _ = _; have a := HM.out; have b := NX.out.2; omega⟩
        case measure => simp [intOf]; omega
    · obtain ⟨rfl, rfl, rfl⟩ := Cal.num_inj hvv h2 (by have a := HM.out; have b := HN.out; omega)
      go_wp2
      go_loop [13, 14, 15, 17] (fun a b c k => a = .int .i64 yy ∧ b = .int .i64 mm ∧ c = .int .i64 dd ∧ k = .int .i64 0) (fun _ _ _ _ => 0)
      case atStart => exact ⟨rfl, rfl, rfl, rfl⟩
      case round =>
        obtain ⟨rfl, rfl, rfl, rfl⟩ := hrel
        go_wp2
        go_ret
        refine ⟨rfl, ?_⟩
        repeat (first | with_reducible apply kept_alloc | with_reducible apply kept_drewN | with_reducible apply kept_drew)
        exact kept_trans (by repeat (first | with_reducible exact kept_refl _ | with_reducible apply kept_alloc | with_reducible apply kept_drewN | with_reducible apply kept_drew | (with_reducible refine kept_setCell ?_ (by simp) _))) hk

set_option maxHeartbeats 4000000 in
theorem aWalk_up_out (p q r f t y m d : Int) (w : World) (p0 : 0 ≤ p) (p1 : p ≤ 65535) (q0 : 0 ≤ q) (q1 : q ≤ 255) (r0 : 0 ≤ r) (r1 : r ≤ 255) (f0 : -32768 ≤ f) (f1 : f ≤ 32767) (et : f.tmod 800 = t) (t1 : -800 < t) (t2 : t < 800)
    (HD : Hid (∀ w, Calls Ydgm.prog 15 #[.int .u16 p, .int .u8 q, .int .u8 r] w fun e w' => e = .returned (.agg #[.int .i64 y, .int .i64 m, .int .i64 d]) ∧ w' = w.alloc (.cells #[.int .i64 y, .int .i64 m, .int .i64 d] 23))) (hv : Cal.vldB y m d = true) (t0 : 0 ≤ t) (HN : Hid (2932896 - Cal.num y m d < t)) :
    Calls Ydgm.prog 4 #[.int .u16 p, .int .u8 q, .int .u8 r, .int .i16 f] w fun e w' => e = .returned (.bool true) ∧ Kept w w' := by
  go_enter Ydgm.func4, Ydgm.ntmps4
  go_wp2_with (go_at_call 15; refine (HD.out _).mono ?_; rintro e w' ⟨rfl, rfl⟩)
  refine (add_out _ _ _ _ _ hv (Or.inr HN.out)).mono ?_
  rintro e w1 ⟨rfl, hk⟩
  obtain ⟨hc, hf, hz⟩ := kept_facts hk
  simp at hz
  have hz' : w.heap.size + 1 < w1.heap.size := by omega
  go_wp2_with fail
  go_quiet (fail)
  go_wp2
  go_loop [13, 14, 15, 16] (fun a b c k => ∃ I yy mm dd : Int, 0 ≤ I ∧ I ≤ t ∧ a = .int .i64 yy ∧ b = .int .i64 mm ∧ c = .int .i64 dd ∧ k = .int .i64 I ∧ Cal.vldB yy mm dd = true ∧ Hid (Cal.num yy mm dd = Cal.num y m d + I)) (fun _ _ _ k => (t - intOf k).toNat)
  case atStart => exact ⟨0, y, m, d, by omega, by omega, rfl, rfl, rfl, rfl, hv, by show _ = _; omega⟩
  case round =>
    obtain ⟨I, yy, mm, dd, i1, i2, rfl, rfl, rfl, rfl, hvv, HM⟩ := hrel
    obtain ⟨hm1, hm2⟩ := Cal.vld_m hvv
    obtain ⟨hy1, hy2, hd1, hdd⟩ := Cal.vld_of hvv
    have hd3 := Cal.vld_d hvv
    by_cases hlt : I < t
    · by_cases k1 : Cal.dim yy mm < dd + 1
      · by_cases k2 : 12 < mm + 1
        · by_cases k3 : 9999 < yy + 1
          · have zz : Hid (Cal.num yy mm dd = 2932896) := suc_z hvv k1 k2 k3
            go_wp2_with (go_at_call 19; refine (alen_any _ _ _ hm1 hm2).mono ?_; rintro e w' ⟨rfl, rfl⟩)
            go_ret
            refine ⟨rfl, ?_⟩
            repeat (first | with_reducible apply kept_alloc | with_reducible apply kept_drewN | with_reducible apply kept_drew)
            exact kept_trans (by repeat (first | with_reducible exact kept_refl _ | with_reducible apply kept_alloc | with_reducible apply kept_drewN | with_reducible apply kept_drew | (with_reducible refine kept_setCell ?_ (by simp) _))) hk
          · have nx := Cal.next_y hvv (by omega) (by omega)
            have NX : Hid (Cal.num (yy + 1) 1 1 = Cal.num yy mm dd + 1 ∧ Cal.vldB (yy + 1) 1 1 = true) := ⟨nx.1, nx.2 (by omega)⟩
            clear nx
            go_wp2_with (go_at_call 19; refine (alen_any _ _ _ hm1 hm2).mono ?_; rintro e w' ⟨rfl, rfl⟩)
            go_round
            case rel => exact ⟨I + 1, yy + 1, 1, 1, by omega, by omega, rfl, rfl, rfl, by go_num, NX.out.2, by show _ = _; have a := HM.out; have b := NX.out.1; omega⟩
            case measure => simp [intOf]; omega
        · have NX : Hid (Cal.vldB yy (mm + 1) 1 = true ∧ Cal.num yy (mm + 1) 1 = Cal.num yy mm dd + 1) := Cal.next_m hvv (by omega) (by omega)
          go_wp2_with (go_at_call 19; refine (alen_any _ _ _ hm1 hm2).mono ?_; rintro e w' ⟨rfl, rfl⟩)
          go_round
          case rel => exact ⟨I + 1, yy, mm + 1, 1, by omega, by omega, rfl, rfl, rfl, by go_num, NX.out.1, by show _ = _; have a := HM.out; have b := NX.out.2; omega⟩
          case measure => simp [intOf]; omega
      · have NX : Hid (Cal.vldB yy mm (dd + 1) = true ∧ Cal.num yy mm (dd + 1) = Cal.num yy mm dd + 1) := Cal.next_d hvv (by omega)
        go_wp2_with (go_at_call 19; refine (alen_any _ _ _ hm1 hm2).mono ?_; rintro e w' ⟨rfl, rfl⟩)
        go_round
        case rel => exact ⟨I + 1, yy, mm, dd + 1, by omega, by omega, rfl, rfl, rfl, by go_num, NX.out.1, by show _ = _; have a := HM.out; have b := NX.out.2; omega⟩
        case measure => simp [intOf]; omega
    · exfalso
      have a := HM.out; have b := HN.out; have c := Cal.num_bd hvv
      omega

set_option maxHeartbeats 4000000 in
theorem aWalk_dn_in (p q r f t y m d : Int) (w : World) (p0 : 0 ≤ p) (p1 : p ≤ 65535) (q0 : 0 ≤ q) (q1 : q ≤ 255) (r0 : 0 ≤ r) (r1 : r ≤ 255) (f0 : -32768 ≤ f) (f1 : f ≤ 32767) (et : f.tmod 800 = t) (t1 : -800 < t) (t2 : t < 800)
    (HD : Hid (∀ w, Calls Ydgm.prog 15 #[.int .u16 p, .int .u8 q, .int .u8 r] w fun e w' => e = .returned (.agg #[.int .i64 y, .int .i64 m, .int .i64 d]) ∧ w' = w.alloc (.cells #[.int .i64 y, .int .i64 m, .int .i64 d] 23))) (hv : Cal.vldB y m d = true) (t0 : t < 0) (Y M D : Int) (h2 : Cal.vldB Y M D = true) (HN : Hid (Cal.num Y M D = Cal.num y m d + t)) :
    Calls Ydgm.prog 4 #[.int .u16 p, .int .u8 q, .int .u8 r, .int .i16 f] w fun e w' => e = .returned (.bool true) ∧ Kept w w' := by
  go_enter Ydgm.func4, Ydgm.ntmps4
  go_wp2_with (go_at_call 15; refine (HD.out _).mono ?_; rintro e w' ⟨rfl, rfl⟩)
  refine (add_yes _ _ _ _ Y M D _ hv h2 HN.out).mono ?_
  rintro e w1 ⟨rfl, hk⟩
  obtain ⟨hc, hf, hz⟩ := kept_facts hk
  simp at hz
  have hz' : w.heap.size + 1 < w1.heap.size := by omega
  go_wp2_with fail
  go_quiet (fail)
  go_wp2
  go_loop [13, 14, 15, 16] (fun a b c k => a = .int .i64 y ∧ b = .int .i64 m ∧ c = .int .i64 d ∧ k = .int .i64 0) (fun _ _ _ _ => 0)
  case atStart => exact ⟨rfl, rfl, rfl, rfl⟩
  case round =>
    obtain ⟨rfl, rfl, rfl, rfl⟩ := hrel
    go_wp2
    go_loop [13, 14, 15, 17] (fun a b c k => ∃ I yy mm dd : Int, 0 ≤ I ∧ I ≤ -t ∧ a = .int .i64 yy ∧ b = .int .i64 mm ∧ c = .int .i64 dd ∧ k = .int .i64 (-I) ∧ Cal.vldB yy mm dd = true ∧ Hid (Cal.num yy mm dd = Cal.num y m d - I)) (fun _ _ _ k => (intOf k - t).toNat)
    case atStart => exact ⟨0, y, m, d, by omega, by omega, rfl, rfl, rfl, rfl, hv, by show _ = _; omega⟩
    case round =>
      obtain ⟨I, yy, mm, dd, i1, i2, rfl, rfl, rfl, rfl, hvv, HM⟩ := hrel
      obtain ⟨hm1, hm2⟩ := Cal.vld_m hvv
      obtain ⟨hy1, hy2, hd1, hdd⟩ := Cal.vld_of hvv
      have hd3 := Cal.vld_d hvv
      by_cases hlt : t < -I
      · by_cases k1 : dd - 1 < 1
        · by_cases k2 : mm - 1 < 1
          · by_cases k3 : yy - 1 < 0
            · have zz : Hid (Cal.num yy mm dd = -719528) := prev_z hvv k1 k2 k3
              exfalso
              have a := HM.out; have b := HN.out; have c := zz.out; have e := Cal.num_bd h2
              omega
            · have NX : Hid (Cal.vldB (yy - 1) 12 (Cal.dim (yy - 1) 12) = true ∧ Cal.num (yy - 1) 12 (Cal.dim (yy - 1) 12) = Cal.num yy mm dd - 1) := prev_y hvv k1 k2 k3
              go_wp2_with (go_at_call 19; refine (alen_any _ _ _ (by decide) (by decide)).mono ?_; rintro e w' ⟨rfl, rfl⟩)
              go_round
              case rel => exact ⟨I + 1, yy - 1, 12, _, by omega, by omega, rfl, rfl, rfl, by go_num, NX.out.1, by show _ = _; have a := HM.out; have b := NX.out.2; omega⟩
              case measure => simp [intOf]; omega
          · have NX : Hid (Cal.vldB yy (mm - 1) (Cal.dim yy (mm - 1)) = true ∧ Cal.num yy (mm - 1) (Cal.dim yy (mm - 1)) = Cal.num yy mm dd - 1) := prev_m hvv k1 k2
            go_wp2_with (go_at_call 19; refine (alen_any _ _ _ (by omega) (by omega)).mono ?_; rintro e w' ⟨rfl, rfl⟩)
            go_round
            case rel => exact ⟨I + 1, yy, mm - 1, _, by omega, by omega, rfl, rfl, rfl, by go_num, NX.out.1, by show _ = _; have a := HM.out; have b := NX.out.2; omega⟩
            case measure => simp [intOf]; omega
        · have NX : Hid (Cal.vldB yy mm (dd - 1) = true ∧ Cal.num yy mm (dd - 1) = Cal.num yy mm dd - 1) := prev_d hvv k1
          go_wp2
          go_round
          case rel => exact ⟨I + 1, yy, mm, dd - 1, by omega, by omega, rfl, rfl, rfl, by go_num, NX.out.1, by show _ = _; have a := HM.out; have b := NX.out.2; omega⟩
          case measure => simp [intOf]; omega
      · obtain ⟨rfl, rfl, rfl⟩ := Cal.num_inj hvv h2 (by have a := HM.out; have b := HN.out; omega)
        go_wp2
        go_ret
        refine ⟨rfl, ?_⟩
        repeat (first | with_reducible apply kept_alloc | with_reducible apply kept_drewN | with_reducible apply kept_drew)
        exact kept_trans (by repeat (first | with_reducible exact kept_refl _ | with_reducible apply kept_alloc | with_reducible apply kept_drewN | with_reducible apply kept_drew | (with_reducible refine kept_setCell ?_ (by simp) _))) hk

set_option maxHeartbeats 4000000 in
theorem aWalk_dn_out (p q r f t y m d : Int) (w : World) (p0 : 0 ≤ p) (p1 : p ≤ 65535) (q0 : 0 ≤ q) (q1 : q ≤ 255) (r0 : 0 ≤ r) (r1 : r ≤ 255) (f0 : -32768 ≤ f) (f1 : f ≤ 32767) (et : f.tmod 800 = t) (t1 : -800 < t) (t2 : t < 800)
    (HD : Hid (∀ w, Calls Ydgm.prog 15 #[.int .u16 p, .int .u8 q, .int .u8 r] w fun e w' => e = .returned (.agg #[.int .i64 y, .int .i64 m, .int .i64 d]) ∧ w' = w.alloc (.cells #[.int .i64 y, .int .i64 m, .int .i64 d] 23))) (hv : Cal.vldB y m d = true) (t0 : t < 0) (HN : Hid (t < -719528 - Cal.num y m d)) :
    Calls Ydgm.prog 4 #[.int .u16 p, .int .u8 q, .int .u8 r, .int .i16 f] w fun e w' => e = .returned (.bool true) ∧ Kept w w' := by
  go_enter Ydgm.func4, Ydgm.ntmps4
  go_wp2_with (go_at_call 15; refine (HD.out _).mono ?_; rintro e w' ⟨rfl, rfl⟩)
  refine (add_out _ _ _ _ _ hv (Or.inl HN.out)).mono ?_
  rintro e w1 ⟨rfl, hk⟩
  obtain ⟨hc, hf, hz⟩ := kept_facts hk
  simp at hz
  have hz' : w.heap.size + 1 < w1.heap.size := by omega
  go_wp2_with fail
  go_quiet (fail)
  go_wp2
  go_loop [13, 14, 15, 16] (fun a b c k => a = .int .i64 y ∧ b = .int .i64 m ∧ c = .int .i64 d ∧ k = .int .i64 0) (fun _ _ _ _ => 0)
  case atStart => exact ⟨rfl, rfl, rfl, rfl⟩
  case round =>
    obtain ⟨rfl, rfl, rfl, rfl⟩ := hrel
    go_wp2
    go_loop [13, 14, 15, 17] (fun a b c k => ∃ I yy mm dd : Int, 0 ≤ I ∧ I ≤ -t ∧ a = .int .i64 yy ∧ b = .int .i64 mm ∧ c = .int .i64 dd ∧ k = .int .i64 (-I) ∧ Cal.vldB yy mm dd = true ∧ Hid (Cal.num yy mm dd = Cal.num y m d - I)) (fun _ _ _ k => (intOf k - t).toNat)
    case atStart => exact ⟨0, y, m, d, by omega, by omega, rfl, rfl, rfl, rfl, hv, by show _ = _; omega⟩
    case round =>
      obtain ⟨I, yy, mm, dd, i1, i2, rfl, rfl, rfl, rfl, hvv, HM⟩ := hrel
      obtain ⟨hm1, hm2⟩ := Cal.vld_m hvv
      obtain ⟨hy1, hy2, hd1, hdd⟩ := Cal.vld_of hvv
      have hd3 := Cal.vld_d hvv
      by_cases hlt : t < -I
      · by_cases k1 : dd - 1 < 1
        · by_cases k2 : mm - 1 < 1
          · by_cases k3 : yy - 1 < 0
            · have zz : Hid (Cal.num yy mm dd = -719528) := prev_z hvv k1 k2 k3
              go_wp2
              go_ret
              refine ⟨rfl, ?_⟩
              repeat (first | with_reducible apply kept_alloc | with_reducible apply kept_drewN | with_reducible apply kept_drew)
              exact kept_trans (by repeat (first | with_reducible exact kept_refl _ | with_reducible apply kept_alloc | with_reducible apply kept_drewN | with_reducible apply kept_drew | (with_reducible refine kept_setCell ?_ (by simp) _))) hk
            · have NX : Hid (Cal.vldB (yy - 1) 12 (Cal.dim (yy - 1) 12) = true ∧ Cal.num (yy - 1) 12 (Cal.dim (yy - 1) 12) = Cal.num yy mm dd - 1) := prev_y hvv k1 k2 k3
              go_wp2_with (go_at_call 19; refine (alen_any _ _ _ (by decide) (by decide)).mono ?_; rintro e w' ⟨rfl, rfl⟩)
              go_round
              case rel => exact ⟨I + 1, yy - 1, 12, _, by omega, by omega, rfl, rfl, rfl, by go_num, NX.out.1, by show _ = _; have a := HM.out; have b := NX.out.2; omega⟩
              case measure => simp [intOf]; omega
          · have NX : Hid (Cal.vldB yy (mm - 1) (Cal.dim yy (mm - 1)) = true ∧ Cal.num yy (mm - 1) (Cal.dim yy (mm - 1)) = Cal.num yy mm dd - 1) := prev_m hvv k1 k2
            go_wp2_with (go_at_call 19; refine (alen_any _ _ _ (by omega) (by omega)).mono ?_; rintro e w' ⟨rfl, rfl⟩)
            go_round
            case rel => exact ⟨I + 1, yy, mm - 1, _, by omega, by omega, rfl, rfl, rfl, by go_num, NX.out.1, by show _ = _; have a := HM.out; have b := NX.out.2; omega⟩
            case measure => simp [intOf]; omega
        · have NX : Hid (Cal.vldB yy mm (dd - 1) = true ∧ Cal.num yy mm (dd - 1) = Cal.num yy mm dd - 1) := prev_d hvv k1
          go_wp2
          go_round
          case rel => exact ⟨I + 1, yy, mm, dd - 1, by omega, by omega, rfl, rfl, rfl, by go_num, NX.out.1, by show _ = _; have a := HM.out; have b := NX.out.2; omega⟩
          case measure => simp [intOf]; omega
      · exfalso
        have a := HM.out; have b := HN.out; have c := Cal.num_bd hvv
        omega

theorem aWalk_any (p q r f : Int) (w : World) (p0 : 0 ≤ p) (p1 : p ≤ 65535) (q0 : 0 ≤ q) (q1 : q ≤ 255) (r0 : 0 ≤ r) (r1 : r ≤ 255) (f0 : -32768 ≤ f) (f1 : f ≤ 32767) :
    Calls Ydgm.prog 4 #[.int .u16 p, .int .u8 q, .int .u8 r, .int .i16 f] w fun e w' => e = .returned (.bool true) ∧ Kept w w' := by
  obtain ⟨y, m, d, hv, HD⟩ := adate_any p q r p0 p1 q0 q1 r0 r1
  obtain ⟨t1, t2⟩ := tmod_bd f 800 (by decide)
  have b := Cal.num_bd hv
  by_cases t0 : 0 ≤ f.tmod 800
  · by_cases c : 2932896 - Cal.num y m d < f.tmod 800
    · exact aWalk_up_out p q r f _ y m d w p0 p1 q0 q1 r0 r1 f0 f1 rfl t1 t2 HD hv t0 c
    · obtain ⟨Y, M, D, h2, hn⟩ := Cal.date_of (Cal.num y m d + f.tmod 800) (by omega) (by omega)
      exact aWalk_up_in p q r f _ y m d w p0 p1 q0 q1 r0 r1 f0 f1 rfl t1 t2 HD hv t0 Y M D h2 hn
  · by_cases c : f.tmod 800 < -719528 - Cal.num y m d
    · exact aWalk_dn_out p q r f _ y m d w p0 p1 q0 q1 r0 r1 f0 f1 rfl t1 t2 HD hv (by omega) c
    · obtain ⟨Y, M, D, h2, hn⟩ := Cal.date_of (Cal.num y m d + f.tmod 800) (by omega) (by omega)
      exact aWalk_dn_in p q r f _ y m d w p0 p1 q0 q1 r0 r1 f0 f1 rfl t1 t2 HD hv (by omega) Y M D h2 hn
end Go.Proofs.Ymbrdg
