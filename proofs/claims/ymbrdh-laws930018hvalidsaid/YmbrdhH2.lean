/-
  THE H LAWS' WALKS, MORE: the law's own reckoning.
-/
import Derived.Test.YmbrdhH
import Derived.Handy
namespace Go.Proofs.Ymbrdh
open Go.RowKit
set_option linter.unusedVariables false
theorem tdiv12 (n : Int) : n = 12 * n.tdiv 12 + n.tmod 12 ∧ -11 ≤ n.tmod 12 ∧ n.tmod 12 ≤ 11 := by
  have h := Int.mul_tdiv_add_tmod n 12
  have a := Int.tmod_lt_of_pos n (show (0 : Int) < 12 by decide)
  have b := Int.tmod_lt_of_pos (-n) (show (0 : Int) < 12 by decide)
  rw [Int.neg_tmod] at b; omega
/-- The law's own answer: nothing. -/
abbrev hNone : Ending := .returned (.tuple #[.int .i64 0, .int .i64 0, .int .i64 0, .bool false])

set_option maxHeartbeats 2000000 in
theorem hwant_no (y m d n : Int) (w : World) (h : Cal.vldB y m d = false) :
    Calls Ydhm.prog 28 #[.int .i64 y, .int .i64 m, .int .i64 d, .int .i64 n] w fun e w' => e = hNone ∧ w' = w := by
  have h' := Cal.vld_not h
  have hout := Cal.dim_out y m
  by_cases c0 : y < 0
  · clear h' hout h
    go_enter Ydhm.func28, Ydhm.ntmps28
    go_wp2_with (go_at_call 23; refine (hlen_any _ _ _).mono ?_; rintro e w' ⟨rfl, rfl⟩)
    exact bodyPost_ret (v := .tuple #[.int .i64 0, .int .i64 0, .int .i64 0, .bool false]) (by simp [results, Ydhm.results28, go_sem]) rfl ⟨rfl, rfl⟩
  by_cases c1 : 9999 < y
  · clear h' hout h
    go_enter Ydhm.func28, Ydhm.ntmps28
    go_wp2_with (go_at_call 23; refine (hlen_any _ _ _).mono ?_; rintro e w' ⟨rfl, rfl⟩)
    exact bodyPost_ret (v := .tuple #[.int .i64 0, .int .i64 0, .int .i64 0, .bool false]) (by simp [results, Ydhm.results28, go_sem]) rfl ⟨rfl, rfl⟩
  by_cases c2 : m < 1
  · clear h' hout h
    go_enter Ydhm.func28, Ydhm.ntmps28
    go_wp2_with (go_at_call 23; refine (hlen_any _ _ _).mono ?_; rintro e w' ⟨rfl, rfl⟩)
    exact bodyPost_ret (v := .tuple #[.int .i64 0, .int .i64 0, .int .i64 0, .bool false]) (by simp [results, Ydhm.results28, go_sem]) rfl ⟨rfl, rfl⟩
  by_cases c3 : 12 < m
  · clear h' hout h
    go_enter Ydhm.func28, Ydhm.ntmps28
    go_wp2_with (go_at_call 23; refine (hlen_any _ _ _).mono ?_; rintro e w' ⟨rfl, rfl⟩)
    exact bodyPost_ret (v := .tuple #[.int .i64 0, .int .i64 0, .int .i64 0, .bool false]) (by simp [results, Ydhm.results28, go_sem]) rfl ⟨rfl, rfl⟩
  by_cases c4 : d < 1
  · clear h' hout h
    go_enter Ydhm.func28, Ydhm.ntmps28
    go_wp2_with (go_at_call 23; refine (hlen_any _ _ _).mono ?_; rintro e w' ⟨rfl, rfl⟩)
    exact bodyPost_ret (v := .tuple #[.int .i64 0, .int .i64 0, .int .i64 0, .bool false]) (by simp [results, Ydhm.results28, go_sem]) rfl ⟨rfl, rfl⟩
  · have c5 : Cal.dim y m < d := by omega
    clear h' hout h
    go_enter Ydhm.func28, Ydhm.ntmps28
    go_wp2_with (go_at_call 23; refine (hlen_any _ _ _).mono ?_; rintro e w' ⟨rfl, rfl⟩)
    exact bodyPost_ret (v := .tuple #[.int .i64 0, .int .i64 0, .int .i64 0, .bool false]) (by simp [results, Ydhm.results28, go_sem]) rfl ⟨rfl, rfl⟩

set_option maxHeartbeats 2000000 in
theorem hwant_out_lo (y m d n q r : Int) (w : World) (h : Cal.vldB y m d = true) (hq : n.tdiv 12 = q) (hr : n.tmod 12 = r) (q1 : -800000000000000000 ≤ q) (q2 : q ≤ 800000000000000000) (r1 : -11 ≤ r) (r2 : r ≤ 11) (c : m + r < 1) (ho : y + q - 1 < 0 ∨ 9999 < y + q - 1) :
    Calls Ydhm.prog 28 #[.int .i64 y, .int .i64 m, .int .i64 d, .int .i64 n] w fun e w' => e = hNone ∧ w' = w := by
  obtain ⟨hm1, hm2⟩ := Cal.vld_m h
  obtain ⟨hy1, hy2, hd1, hd2⟩ := Cal.vld_of h
  clear h
  rcases ho with ho | ho
  all_goals
    go_enter Ydhm.func28, Ydhm.ntmps28
    go_wp2_with (go_at_call 23; refine (hlen_any _ _ _).mono ?_; rintro e w' ⟨rfl, rfl⟩)
    exact bodyPost_ret (v := .tuple #[.int .i64 0, .int .i64 0, .int .i64 0, .bool false]) (by simp [results, Ydhm.results28, go_sem]) rfl ⟨rfl, rfl⟩
set_option maxHeartbeats 2000000 in
theorem hwant_yes_lo (y m d n q r Y M : Int) (w : World) (h : Cal.vldB y m d = true) (hq : n.tdiv 12 = q) (hr : n.tmod 12 = r) (q1 : -800000000000000000 ≤ q) (q2 : q ≤ 800000000000000000) (r1 : -11 ≤ r) (r2 : r ≤ 11) (c : m + r < 1) (eY : y + q - 1 = Y) (eM : m + r + 12 = M) (Y1 : 0 ≤ Y) (Y2 : Y ≤ 9999) :
    Calls Ydhm.prog 28 #[.int .i64 y, .int .i64 m, .int .i64 d, .int .i64 n] w fun e w' => e = .returned (.tuple #[.int .i64 Y, .int .i64 M, .int .i64 (Cal.lo d (Cal.dim Y M)), .bool true]) ∧ w' = w := by
  obtain ⟨hm1, hm2⟩ := Cal.vld_m h
  obtain ⟨hy1, hy2, hd1, hd2⟩ := Cal.vld_of h
  clear h
  by_cases hl : Cal.dim Y M < d
  · have L := lo_gt hl
    go_enter Ydhm.func28, Ydhm.ntmps28
    go_wp2_with (go_at_call 23; refine (hlen_any _ _ _).mono ?_; rintro e w' ⟨rfl, rfl⟩)
    rw [L]
    exact bodyPost_ret (v := .tuple #[.int .i64 Y, .int .i64 M, .int .i64 (Cal.dim Y M), .bool true]) (by simp [results, Ydhm.results28, go_sem]) rfl ⟨rfl, rfl⟩
  · have L := lo_le hl
    go_enter Ydhm.func28, Ydhm.ntmps28
    go_wp2_with (go_at_call 23; refine (hlen_any _ _ _).mono ?_; rintro e w' ⟨rfl, rfl⟩)
    rw [L]
    exact bodyPost_ret (v := .tuple #[.int .i64 Y, .int .i64 M, .int .i64 d, .bool true]) (by simp [results, Ydhm.results28, go_sem]) rfl ⟨rfl, rfl⟩

set_option maxHeartbeats 2000000 in
theorem hwant_out_hi (y m d n q r : Int) (w : World) (h : Cal.vldB y m d = true) (hq : n.tdiv 12 = q) (hr : n.tmod 12 = r) (q1 : -800000000000000000 ≤ q) (q2 : q ≤ 800000000000000000) (r1 : -11 ≤ r) (r2 : r ≤ 11) (c : 12 < m + r) (ho : y + q + 1 < 0 ∨ 9999 < y + q + 1) :
    Calls Ydhm.prog 28 #[.int .i64 y, .int .i64 m, .int .i64 d, .int .i64 n] w fun e w' => e = hNone ∧ w' = w := by
  obtain ⟨hm1, hm2⟩ := Cal.vld_m h
  obtain ⟨hy1, hy2, hd1, hd2⟩ := Cal.vld_of h
  clear h
  rcases ho with ho | ho
  all_goals
    go_enter Ydhm.func28, Ydhm.ntmps28
    go_wp2_with (go_at_call 23; refine (hlen_any _ _ _).mono ?_; rintro e w' ⟨rfl, rfl⟩)
    exact bodyPost_ret (v := .tuple #[.int .i64 0, .int .i64 0, .int .i64 0, .bool false]) (by simp [results, Ydhm.results28, go_sem]) rfl ⟨rfl, rfl⟩
set_option maxHeartbeats 2000000 in
theorem hwant_yes_hi (y m d n q r Y M : Int) (w : World) (h : Cal.vldB y m d = true) (hq : n.tdiv 12 = q) (hr : n.tmod 12 = r) (q1 : -800000000000000000 ≤ q) (q2 : q ≤ 800000000000000000) (r1 : -11 ≤ r) (r2 : r ≤ 11) (c : 12 < m + r) (eY : y + q + 1 = Y) (eM : m + r - 12 = M) (Y1 : 0 ≤ Y) (Y2 : Y ≤ 9999) :
    Calls Ydhm.prog 28 #[.int .i64 y, .int .i64 m, .int .i64 d, .int .i64 n] w fun e w' => e = .returned (.tuple #[.int .i64 Y, .int .i64 M, .int .i64 (Cal.lo d (Cal.dim Y M)), .bool true]) ∧ w' = w := by
  obtain ⟨hm1, hm2⟩ := Cal.vld_m h
  obtain ⟨hy1, hy2, hd1, hd2⟩ := Cal.vld_of h
  clear h
  by_cases hl : Cal.dim Y M < d
  · have L := lo_gt hl
    go_enter Ydhm.func28, Ydhm.ntmps28
    go_wp2_with (go_at_call 23; refine (hlen_any _ _ _).mono ?_; rintro e w' ⟨rfl, rfl⟩)
    rw [L]
    exact bodyPost_ret (v := .tuple #[.int .i64 Y, .int .i64 M, .int .i64 (Cal.dim Y M), .bool true]) (by simp [results, Ydhm.results28, go_sem]) rfl ⟨rfl, rfl⟩
  · have L := lo_le hl
    go_enter Ydhm.func28, Ydhm.ntmps28
    go_wp2_with (go_at_call 23; refine (hlen_any _ _ _).mono ?_; rintro e w' ⟨rfl, rfl⟩)
    rw [L]
    exact bodyPost_ret (v := .tuple #[.int .i64 Y, .int .i64 M, .int .i64 d, .bool true]) (by simp [results, Ydhm.results28, go_sem]) rfl ⟨rfl, rfl⟩

set_option maxHeartbeats 2000000 in
theorem hwant_out_mid (y m d n q r : Int) (w : World) (h : Cal.vldB y m d = true) (hq : n.tdiv 12 = q) (hr : n.tmod 12 = r) (q1 : -800000000000000000 ≤ q) (q2 : q ≤ 800000000000000000) (r1 : -11 ≤ r) (r2 : r ≤ 11) (c1 : 1 ≤ m + r) (c2 : m + r ≤ 12) (ho : y + q < 0 ∨ 9999 < y + q) :
    Calls Ydhm.prog 28 #[.int .i64 y, .int .i64 m, .int .i64 d, .int .i64 n] w fun e w' => e = hNone ∧ w' = w := by
  obtain ⟨hm1, hm2⟩ := Cal.vld_m h
  obtain ⟨hy1, hy2, hd1, hd2⟩ := Cal.vld_of h
  clear h
  rcases ho with ho | ho
  all_goals
    go_enter Ydhm.func28, Ydhm.ntmps28
    go_wp2_with (go_at_call 23; refine (hlen_any _ _ _).mono ?_; rintro e w' ⟨rfl, rfl⟩)
    exact bodyPost_ret (v := .tuple #[.int .i64 0, .int .i64 0, .int .i64 0, .bool false]) (by simp [results, Ydhm.results28, go_sem]) rfl ⟨rfl, rfl⟩
set_option maxHeartbeats 2000000 in
theorem hwant_yes_mid (y m d n q r Y M : Int) (w : World) (h : Cal.vldB y m d = true) (hq : n.tdiv 12 = q) (hr : n.tmod 12 = r) (q1 : -800000000000000000 ≤ q) (q2 : q ≤ 800000000000000000) (r1 : -11 ≤ r) (r2 : r ≤ 11) (c1 : 1 ≤ m + r) (c2 : m + r ≤ 12) (eY : y + q = Y) (eM : m + r = M) (Y1 : 0 ≤ Y) (Y2 : Y ≤ 9999) :
    Calls Ydhm.prog 28 #[.int .i64 y, .int .i64 m, .int .i64 d, .int .i64 n] w fun e w' => e = .returned (.tuple #[.int .i64 Y, .int .i64 M, .int .i64 (Cal.lo d (Cal.dim Y M)), .bool true]) ∧ w' = w := by
  obtain ⟨hm1, hm2⟩ := Cal.vld_m h
  obtain ⟨hy1, hy2, hd1, hd2⟩ := Cal.vld_of h
  clear h
  by_cases hl : Cal.dim Y M < d
  · have L := lo_gt hl
    go_enter Ydhm.func28, Ydhm.ntmps28
    go_wp2_with (go_at_call 23; refine (hlen_any _ _ _).mono ?_; rintro e w' ⟨rfl, rfl⟩)
    rw [L]
    exact bodyPost_ret (v := .tuple #[.int .i64 Y, .int .i64 M, .int .i64 (Cal.dim Y M), .bool true]) (by simp [results, Ydhm.results28, go_sem]) rfl ⟨rfl, rfl⟩
  · have L := lo_le hl
    go_enter Ydhm.func28, Ydhm.ntmps28
    go_wp2_with (go_at_call 23; refine (hlen_any _ _ _).mono ?_; rintro e w' ⟨rfl, rfl⟩)
    rw [L]
    exact bodyPost_ret (v := .tuple #[.int .i64 Y, .int .i64 M, .int .i64 d, .bool true]) (by simp [results, Ydhm.results28, go_sem]) rfl ⟨rfl, rfl⟩
end Go.Proofs.Ymbrdh
