/-
  THE C LAWS' WALKS, MORE: LawS930018CAnyDate.
-/
import Derived.Test.YmbrdgC
namespace Go.Proofs.Ymbrdg
open Go.RowKit
set_option linter.unusedVariables false
/-! What Format has written reads back. -/
theorem digs_fmt (y m d : Int) (y1 : 0 ≤ y) (y2 : y ≤ 9999) (m1 : 0 ≤ m) (m2 : m ≤ 99) (d1 : 0 ≤ d) (d2 : d ≤ 99) :
    rd (fmtS y m d) 0 4 = y ∧ rd (fmtS y m d) 5 2 = m ∧ rd (fmtS y m d) 8 2 = d := by
  obtain ⟨b0, b1, b2, b3, b4, b5, b6, b7, b8, b9⟩ := fmtS_byt y m d y1 y2 m1 m2 d1 d2
  refine ⟨?_, ?_, ?_⟩
  · rw [rd_t]
    · simp only [acc, Nat.zero_add, b0, b1, b2, b3]; omega
    · simp only [digs, Nat.zero_add, b0, b1, b2, b3, Bool.and_eq_true, decide_eq_true_iff, true_and]; omega
  · rw [rd_t]
    · simp only [acc, Nat.add_zero, show 5 + 1 = 6 from rfl, b5, b6]; omega
    · simp only [digs, Nat.add_zero, show 5 + 1 = 6 from rfl, b5, b6, Bool.and_eq_true, decide_eq_true_iff, true_and]; omega
  · rw [rd_t]
    · simp only [acc, Nat.add_zero, show 8 + 1 = 9 from rfl, b8, b9]; omega
    · simp only [digs, Nat.add_zero, show 8 + 1 = 9 from rfl, b8, b9, Bool.and_eq_true, decide_eq_true_iff, true_and]; omega
set_option maxHeartbeats 1000000 in
theorem cAny_no (y m d : Int) (w : World) (hv : Cal.vldB y m d = false) :
    Calls Ydgm.prog 10 #[.int .i64 y, .int .i64 m, .int .i64 d] w fun e w' => e = .returned (.bool true) ∧ Kept w w' := by
  have h' := Cal.vld_not hv
  by_cases c0 : y < 0
  · clear h'
    have k0 : decide (0 ≤ y) = false := by simp; omega
    go_enter Ydgm.func10, Ydgm.ntmps10
    go_wp2_with fail
    refine (format_no _ _ _ _ hv).mono ?_
    rintro e w1 ⟨rfl, hk⟩
    go_wp2_with (go_at_call 24; refine (clen_any _ _ _).mono ?_; rintro e w' ⟨rfl, rfl⟩)
    go_ret
    exact ⟨rfl, hk⟩
  by_cases c1 : 9999 < y
  · clear h'
    have k1 : decide (y ≤ 9999) = false := by simp; omega
    go_enter Ydgm.func10, Ydgm.ntmps10
    go_wp2_with fail
    refine (format_no _ _ _ _ hv).mono ?_
    rintro e w1 ⟨rfl, hk⟩
    go_wp2_with (go_at_call 24; refine (clen_any _ _ _).mono ?_; rintro e w' ⟨rfl, rfl⟩)
    go_ret
    exact ⟨rfl, hk⟩
  by_cases c2 : d < 1
  · clear h'
    have k2 : decide (1 ≤ d) = false := by simp; omega
    go_enter Ydgm.func10, Ydgm.ntmps10
    go_wp2_with fail
    refine (format_no _ _ _ _ hv).mono ?_
    rintro e w1 ⟨rfl, hk⟩
    go_wp2_with (go_at_call 24; refine (clen_any _ _ _).mono ?_; rintro e w' ⟨rfl, rfl⟩)
    go_ret
    exact ⟨rfl, hk⟩
  · have c3 : Cal.dim y m < d := by omega
    clear h'
    have k3 : decide (d ≤ Cal.dim y m) = false := by simp; omega
    go_enter Ydgm.func10, Ydgm.ntmps10
    go_wp2_with fail
    refine (format_no _ _ _ _ hv).mono ?_
    rintro e w1 ⟨rfl, hk⟩
    go_wp2_with (go_at_call 24; refine (clen_any _ _ _).mono ?_; rintro e w' ⟨rfl, rfl⟩)
    go_ret
    exact ⟨rfl, hk⟩

set_option maxHeartbeats 2000000 in
theorem cAny_yes (y m d : Int) (w : World) (hv : Cal.vldB y m d = true) :
    Calls Ydgm.prog 10 #[.int .i64 y, .int .i64 m, .int .i64 d] w fun e w' => e = .returned (.bool true) ∧ Kept w w' := by
  obtain ⟨hm1, hm2⟩ := Cal.vld_m hv
  obtain ⟨hy1, hy2, hd1, hd2⟩ := Cal.vld_of hv
  have hd3 := Cal.vld_d hv
  obtain ⟨b0, b1, b2, b3, b4, b5, b6, b7, b8, b9⟩ := fmtS_byt y m d hy1 hy2 (by omega) (by omega) (by omega) (by omega)
  obtain ⟨r1, r2, r3⟩ := digs_fmt y m d hy1 hy2 (by omega) (by omega) (by omega) (by omega)
  have hsz := fmtS_size y m d
  have hB := byt_get (fmtS y m d)
  clear b0 b1 b2 b3 b5 b6 b8 b9
  go_enter Ydgm.func10, Ydgm.ntmps10
  go_wp2_with fail
  refine (format_yes _ _ _ _ hv).mono ?_
  rintro e w1 ⟨rfl, hk⟩
  go_wp2_with (go_at_call 24; refine (clen_any _ _ _).mono ?_; rintro e w' ⟨rfl, rfl⟩)
  refine (cread_year _ _ hsz).mono ?_
  rintro e w2 ⟨rfl, rfl⟩
  go_wp2_with fail
  refine (cread_month _ _ hsz).mono ?_
  rintro e w3 ⟨rfl, rfl⟩
  go_wp2_with fail
  refine (cread_day _ _ hsz).mono ?_
  rintro e w4 ⟨rfl, rfl⟩
  go_wp2
  go_ret
  exact ⟨rfl, hk⟩
theorem cAny_any (y m d : Int) (w : World) :
    Calls Ydgm.prog 10 #[.int .i64 y, .int .i64 m, .int .i64 d] w fun e w' => e = .returned (.bool true) ∧ Kept w w' := by
  cases hv : Cal.vldB y m d
  · exact cAny_no y m d w hv
  · exact cAny_yes y m d w hv
end Go.Proofs.Ymbrdg
