/-
  THE C LAWS' WALKS, MORE: LawS930018CDigits.
-/
import Derived.Test.YmbrdgC
namespace Go.Proofs.Ymbrdg
open Go.RowKit
set_option linter.unusedVariables false

set_option maxHeartbeats 4000000 in
set_option maxRecDepth 20000 in
theorem cDig_lo (p q r o m d A B C E Y M D : Int) (w : World) (p0 : 0 ≤ p) (p1 : p ≤ 255) (q0 : 0 ≤ q) (q1 : q ≤ 255) (r0 : 0 ≤ r) (r1 : r ≤ 255) (o0 : 0 ≤ o) (o1 : o ≤ 255) (m0 : 0 ≤ m) (m1 : m ≤ 255) (d0 : 0 ≤ d) (d1 : d ≤ 255)
    (eA : p % 10 = A) (eB : q % 10 = B) (eC : r % 10 = C) (eE : o % 10 = E) (A0 : 0 ≤ A) (A1 : A ≤ 9) (B0 : 0 ≤ B) (B1 : B ≤ 9) (C0 : 0 ≤ C) (C1 : C ≤ 9) (E0 : 0 ≤ E) (E1 : E ≤ 9)
    (eY : A * 1000 + B * 100 + C * 10 + E = Y) (eM : m * 5 % 12 = M - 1) (eD : d * 11 % Cal.dim Y M = D - 1) (hv : Cal.vldB Y M D = true) (c : M < 10) :
    Calls Ydgm.prog 9 #[.int .u8 p, .int .u8 q, .int .u8 r, .int .u8 o, .int .u8 m, .int .u8 d] w fun e w' => e = .returned (.bool true) ∧ Kept w w' := by
  obtain ⟨hm1, hm2⟩ := Cal.vld_m hv
  obtain ⟨hy1, hy2, hd1, hd2⟩ := Cal.vld_of hv
  have hd3 := Cal.vld_d hv
  obtain ⟨l1, l2⟩ := Cal.dim_in Y M hm1 hm2
  obtain ⟨b0, b1, b2, b3, b4, b5, b6, b7, b8, b9⟩ := fmtS_byt Y M D hy1 hy2 (by omega) (by omega) (by omega) (by omega)
  have a0 : byt (fmtS Y M D) 0 = 48 + A := by omega
  have a1 : byt (fmtS Y M D) 1 = 48 + B := by omega
  have a2 : byt (fmtS Y M D) 2 = 48 + C := by omega
  have a3 : byt (fmtS Y M D) 3 = 48 + E := by omega
  have a5 : byt (fmtS Y M D) 5 = 48 := by omega
  have a6 : byt (fmtS Y M D) 6 = 48 + M := by omega
  have H8 : Hid (byt (fmtS Y M D) 8 = 48 + D / 10) := b8
  have H9 : Hid (byt (fmtS Y M D) 9 = 48 + D % 10) := b9
  clear b0 b1 b2 b3 b5 b6 b8 b9
  have hsz := fmtS_size Y M D
  have hB := byt_get (fmtS Y M D)
  go_enter Ydgm.func9, Ydgm.ntmps9
  go_wp2_with (go_at_call 24; refine (clen_any _ _ _).mono ?_; rintro e w' ⟨rfl, rfl⟩)
  refine (format_yes _ _ _ _ hv).mono ?_
  rintro e w1 ⟨rfl, hk⟩
  go_wp2
  go_loop [20, 21] (fun t u => ∃ k : Int, 0 ≤ k ∧ k ≤ 3 ∧ 0 ≤ D - 10 * k ∧ t = .int .i64 k ∧ u = .int .i64 (D - 10 * k)) (fun _ u => (intOf u).toNat)
  case atStart => exact ⟨0, by omega, by omega, by omega, rfl, by simp⟩
  case round =>
    obtain ⟨k, k1, k2, k3, rfl, rfl⟩ := hrel
    by_cases hlt : 10 ≤ D - 10 * k
    · go_wp2
      go_round
      case rel => exact ⟨k + 1, by omega, by omega, by omega, rfl, by go_num⟩
      case measure => simp [intOf]; omega
    · have a8 : byt (fmtS Y M D) 8 = 48 + k := by have := H8.out; omega
      have a9 : byt (fmtS Y M D) 9 = 48 + (D - 10 * k) := by have := H9.out; omega
      clear eA eB eC eE eY eM eD H8 H9 hd2 l1 l2 hv
      go_wp2
      go_ret
      exact ⟨rfl, hk⟩

set_option maxHeartbeats 4000000 in
set_option maxRecDepth 20000 in
theorem cDig_hi (p q r o m d A B C E Y M D : Int) (w : World) (p0 : 0 ≤ p) (p1 : p ≤ 255) (q0 : 0 ≤ q) (q1 : q ≤ 255) (r0 : 0 ≤ r) (r1 : r ≤ 255) (o0 : 0 ≤ o) (o1 : o ≤ 255) (m0 : 0 ≤ m) (m1 : m ≤ 255) (d0 : 0 ≤ d) (d1 : d ≤ 255)
    (eA : p % 10 = A) (eB : q % 10 = B) (eC : r % 10 = C) (eE : o % 10 = E) (A0 : 0 ≤ A) (A1 : A ≤ 9) (B0 : 0 ≤ B) (B1 : B ≤ 9) (C0 : 0 ≤ C) (C1 : C ≤ 9) (E0 : 0 ≤ E) (E1 : E ≤ 9)
    (eY : A * 1000 + B * 100 + C * 10 + E = Y) (eM : m * 5 % 12 = M - 1) (eD : d * 11 % Cal.dim Y M = D - 1) (hv : Cal.vldB Y M D = true) (c : ¬ M < 10) :
    Calls Ydgm.prog 9 #[.int .u8 p, .int .u8 q, .int .u8 r, .int .u8 o, .int .u8 m, .int .u8 d] w fun e w' => e = .returned (.bool true) ∧ Kept w w' := by
  obtain ⟨hm1, hm2⟩ := Cal.vld_m hv
  obtain ⟨hy1, hy2, hd1, hd2⟩ := Cal.vld_of hv
  have hd3 := Cal.vld_d hv
  obtain ⟨l1, l2⟩ := Cal.dim_in Y M hm1 hm2
  obtain ⟨b0, b1, b2, b3, b4, b5, b6, b7, b8, b9⟩ := fmtS_byt Y M D hy1 hy2 (by omega) (by omega) (by omega) (by omega)
  have a0 : byt (fmtS Y M D) 0 = 48 + A := by omega
  have a1 : byt (fmtS Y M D) 1 = 48 + B := by omega
  have a2 : byt (fmtS Y M D) 2 = 48 + C := by omega
  have a3 : byt (fmtS Y M D) 3 = 48 + E := by omega
  have a5 : byt (fmtS Y M D) 5 = 49 := by omega
  have a6 : byt (fmtS Y M D) 6 = 48 + (M - 10) := by omega
  have H8 : Hid (byt (fmtS Y M D) 8 = 48 + D / 10) := b8
  have H9 : Hid (byt (fmtS Y M D) 9 = 48 + D % 10) := b9
  clear b0 b1 b2 b3 b5 b6 b8 b9
  have hsz := fmtS_size Y M D
  have hB := byt_get (fmtS Y M D)
  go_enter Ydgm.func9, Ydgm.ntmps9
  go_wp2_with (go_at_call 24; refine (clen_any _ _ _).mono ?_; rintro e w' ⟨rfl, rfl⟩)
  refine (format_yes _ _ _ _ hv).mono ?_
  rintro e w1 ⟨rfl, hk⟩
  go_wp2
  go_loop [20, 21] (fun t u => ∃ k : Int, 0 ≤ k ∧ k ≤ 3 ∧ 0 ≤ D - 10 * k ∧ t = .int .i64 k ∧ u = .int .i64 (D - 10 * k)) (fun _ u => (intOf u).toNat)
  case atStart => exact ⟨0, by omega, by omega, by omega, rfl, by simp⟩
  case round =>
    obtain ⟨k, k1, k2, k3, rfl, rfl⟩ := hrel
    by_cases hlt : 10 ≤ D - 10 * k
    · go_wp2
      go_round
      case rel => exact ⟨k + 1, by omega, by omega, by omega, rfl, by go_num⟩
      case measure => simp [intOf]; omega
    · have a8 : byt (fmtS Y M D) 8 = 48 + k := by have := H8.out; omega
      have a9 : byt (fmtS Y M D) 9 = 48 + (D - 10 * k) := by have := H9.out; omega
      clear eA eB eC eE eY eM eD H8 H9 hd2 l1 l2 hv
      go_wp2
      go_ret
      exact ⟨rfl, hk⟩

theorem cDig_any (p q r o m d : Int) (w : World) (p0 : 0 ≤ p) (p1 : p ≤ 255) (q0 : 0 ≤ q) (q1 : q ≤ 255) (r0 : 0 ≤ r) (r1 : r ≤ 255) (o0 : 0 ≤ o) (o1 : o ≤ 255) (m0 : 0 ≤ m) (m1 : m ≤ 255) (d0 : 0 ≤ d) (d1 : d ≤ 255) :
    Calls Ydgm.prog 9 #[.int .u8 p, .int .u8 q, .int .u8 r, .int .u8 o, .int .u8 m, .int .u8 d] w fun e w' => e = .returned (.bool true) ∧ Kept w w' := by
  obtain ⟨Y, eY⟩ : ∃ Y, p % 10 * 1000 + q % 10 * 100 + r % 10 * 10 + o % 10 = Y := ⟨_, rfl⟩
  obtain ⟨M, eM⟩ : ∃ M, m * 5 % 12 = M - 1 := ⟨m * 5 % 12 + 1, by omega⟩
  have k := Cal.dim_in Y M (by omega) (by omega)
  have k1 := Int.emod_nonneg (d * 11) (b := Cal.dim Y M) (by omega)
  have k2 := Int.emod_lt_of_pos (d * 11) (b := Cal.dim Y M) (by omega)
  obtain ⟨D, eD⟩ : ∃ D, d * 11 % Cal.dim Y M = D - 1 := ⟨d * 11 % Cal.dim Y M + 1, by omega⟩
  have hv : Cal.vldB Y M D = true := Cal.vld_mk (by omega)
  by_cases c : M < 10
  · exact cDig_lo p q r o m d _ _ _ _ Y M D w p0 p1 q0 q1 r0 r1 o0 o1 m0 m1 d0 d1 rfl rfl rfl rfl (by omega) (by omega) (by omega) (by omega) (by omega) (by omega) (by omega) (by omega) eY eM eD hv c
  · exact cDig_hi p q r o m d _ _ _ _ Y M D w p0 p1 q0 q1 r0 r1 o0 o1 m0 m1 d0 d1 rfl rfl rfl rfl (by omega) (by omega) (by omega) (by omega) (by omega) (by omega) (by omega) (by omega) eY eM eD hv c
end Go.Proofs.Ymbrdg
