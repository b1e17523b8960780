/-
  THE LAWS' OWN READING OF DIGITS: zzs930018cread, zzs930018bnum.
-/
import Derived.Test.YmbrdgKept
import Derived.Test.YmbrdgEx
import Derived.Test.YmbrdgS
namespace Go.Proofs.Ymbrdg
open Go.RowKit
set_option linter.unusedVariables false

set_option maxHeartbeats 1000000 in
theorem cread_ok (s : ByteArray) (lo n : Nat) (w : World) (h1 : lo + n ≤ s.size) (h2 : s.size ≤ 100000) (h3 : n ≤ 4) (hd : Hid (digs s lo n = true)) :
    Calls Ydgm.prog 26 #[.string s, .int .i64 (lo : Int), .int .i64 ((lo : Int) + (n : Int))] w fun e w' => e = .returned (.int .i64 (acc s lo n)) ∧ w' = w := by
  have hB := byt_get s
  go_enter Ydgm.func26, Ydgm.ntmps26
  go_wp2
  go_loop [7, 8] (fun t i => ∃ k : Nat, k ≤ n ∧ i = .int .i64 ((lo : Int) + (k : Int)) ∧ t = .int .i64 (acc s lo k)) (fun _ i => lo + n - (intOf i).toNat)
  case atStart => exact ⟨0, by omega, by simp, rfl⟩
  case round =>
    obtain ⟨k, hk, rfl, rfl⟩ := hrel
    by_cases hlt : k < n
    · obtain ⟨c1, c2⟩ := digs_at s lo n k hlt hd.out
      obtain ⟨a1, a2⟩ := acc_le s lo k (by omega) (digs_le s lo n k (by omega) hd.out)
      go_wp2
      go_round
      case rel => exact ⟨k + 1, by omega, by go_num, rfl⟩
      case measure => simp [intOf]; omega
    · obtain rfl : k = n := by omega
      go_wp2
      go_ret
      exact ⟨rfl, rfl⟩
set_option maxHeartbeats 1000000 in
theorem cread_bad (s : ByteArray) (lo n j : Nat) (w : World) (h1 : lo + n ≤ s.size) (h2 : s.size ≤ 100000) (h3 : n ≤ 4) (hj : j < n) (hd : Hid (digs s lo j = true)) (hb : Hid (¬ (48 ≤ byt s (lo + j) ∧ byt s (lo + j) ≤ 57))) :
    Calls Ydgm.prog 26 #[.string s, .int .i64 (lo : Int), .int .i64 ((lo : Int) + (n : Int))] w fun e w' => e = .returned (.int .i64 (-1)) ∧ w' = w := by
  have hB := byt_get s
  go_enter Ydgm.func26, Ydgm.ntmps26
  go_wp2
  go_loop [7, 8] (fun t i => ∃ k : Nat, k ≤ j ∧ i = .int .i64 ((lo : Int) + (k : Int)) ∧ t = .int .i64 (acc s lo k)) (fun _ i => lo + n - (intOf i).toNat)
  case atStart => exact ⟨0, by omega, by simp, rfl⟩
  case round =>
    obtain ⟨k, hk, rfl, rfl⟩ := hrel
    by_cases hlt : k < j
    · obtain ⟨c1, c2⟩ := digs_at s lo j k hlt hd.out
      obtain ⟨a1, a2⟩ := acc_le s lo k (by omega) (digs_le s lo j k (by omega) hd.out)
      go_wp2
      go_round
      case rel => exact ⟨k + 1, by omega, by go_num, rfl⟩
      case measure => simp [intOf]; omega
    · obtain rfl : k = j := by omega
      by_cases c1 : byt s (lo + k) < 48
      · go_wp2
        go_ret
        exact ⟨rfl, rfl⟩
      · have c2 : 57 < byt s (lo + k) := by have := hb.out; omega
        go_wp2
        go_ret
        exact ⟨rfl, rfl⟩
theorem cread_any (s : ByteArray) (lo n : Nat) (w : World) (h1 : lo + n ≤ s.size) (h2 : s.size ≤ 100000) (h3 : n ≤ 4) :
    Calls Ydgm.prog 26 #[.string s, .int .i64 (lo : Int), .int .i64 ((lo : Int) + (n : Int))] w fun e w' => e = .returned (.int .i64 (rd s lo n)) ∧ w' = w := by
  cases h : digs s lo n
  · rw [rd_f h]
    obtain ⟨j, hj, hd, hb⟩ := digs_bad s lo n h
    exact cread_bad s lo n j w h1 h2 h3 hj hd hb
  · rw [rd_t h]
    exact cread_ok s lo n w h1 h2 h3 h
theorem cread_year (s : ByteArray) (w : World) (h : s.size = 10) : Calls Ydgm.prog 26 #[.string s, .int .i64 0, .int .i64 4] w fun e w' => e = .returned (.int .i64 (rd s 0 4)) ∧ w' = w := by
  have := cread_any s 0 4 w (by omega) (by omega) (by omega)
  exact this
theorem cread_month (s : ByteArray) (w : World) (h : s.size = 10) : Calls Ydgm.prog 26 #[.string s, .int .i64 5, .int .i64 7] w fun e w' => e = .returned (.int .i64 (rd s 5 2)) ∧ w' = w := by
  have := cread_any s 5 2 w (by omega) (by omega) (by omega)
  exact this
theorem cread_day (s : ByteArray) (w : World) (h : s.size = 10) : Calls Ydgm.prog 26 #[.string s, .int .i64 8, .int .i64 10] w fun e w' => e = .returned (.int .i64 (rd s 8 2)) ∧ w' = w := by
  have := cread_any s 8 2 w (by omega) (by omega) (by omega)
  exact this

set_option maxHeartbeats 1000000 in
theorem bnum_ok (s : ByteArray) (lo n : Nat) (w : World) (h1 : lo + n ≤ s.size) (h2 : s.size ≤ 100000) (h3 : n ≤ 4) (hd : Hid (digs s lo n = true)) :
    Calls Ydgm.prog 33 #[.string s, .int .i64 (lo : Int), .int .i64 ((lo : Int) + (n : Int))] w fun e w' => e = .returned (.int .i64 (acc s lo n)) ∧ w' = w := by
  have hB := byt_get s
  go_enter Ydgm.func33, Ydgm.ntmps33
  go_wp2
  go_loop [7, 8] (fun t i => ∃ k : Nat, k ≤ n ∧ i = .int .i64 ((lo : Int) + (k : Int)) ∧ t = .int .i64 (acc s lo k)) (fun _ i => lo + n - (intOf i).toNat)
  case atStart => exact ⟨0, by omega, by simp, rfl⟩
  case round =>
    obtain ⟨k, hk, rfl, rfl⟩ := hrel
    by_cases hlt : k < n
    · obtain ⟨c1, c2⟩ := digs_at s lo n k hlt hd.out
      obtain ⟨a1, a2⟩ := acc_le s lo k (by omega) (digs_le s lo n k (by omega) hd.out)
      go_wp2
      go_round
      case rel => exact ⟨k + 1, by omega, by go_num, rfl⟩
      case measure => simp [intOf]; omega
    · obtain rfl : k = n := by omega
      go_wp2
      go_ret
      exact ⟨rfl, rfl⟩
set_option maxHeartbeats 1000000 in
theorem bnum_bad (s : ByteArray) (lo n j : Nat) (w : World) (h1 : lo + n ≤ s.size) (h2 : s.size ≤ 100000) (h3 : n ≤ 4) (hj : j < n) (hd : Hid (digs s lo j = true)) (hb : Hid (¬ (48 ≤ byt s (lo + j) ∧ byt s (lo + j) ≤ 57))) :
    Calls Ydgm.prog 33 #[.string s, .int .i64 (lo : Int), .int .i64 ((lo : Int) + (n : Int))] w fun e w' => e = .returned (.int .i64 (-1)) ∧ w' = w := by
  have hB := byt_get s
  go_enter Ydgm.func33, Ydgm.ntmps33
  go_wp2
  go_loop [7, 8] (fun t i => ∃ k : Nat, k ≤ j ∧ i = .int .i64 ((lo : Int) + (k : Int)) ∧ t = .int .i64 (acc s lo k)) (fun _ i => lo + n - (intOf i).toNat)
  case atStart => exact ⟨0, by omega, by simp, rfl⟩
  case round =>
    obtain ⟨k, hk, rfl, rfl⟩ := hrel
    by_cases hlt : k < j
    · obtain ⟨c1, c2⟩ := digs_at s lo j k hlt hd.out
      obtain ⟨a1, a2⟩ := acc_le s lo k (by omega) (digs_le s lo j k (by omega) hd.out)
      go_wp2
      go_round
      case rel => exact ⟨k + 1, by omega, by go_num, rfl⟩
      case measure => simp [intOf]; omega
    · obtain rfl : k = j := by omega
      by_cases c1 : byt s (lo + k) < 48
      · go_wp2
        go_ret
        exact ⟨rfl, rfl⟩
      · have c2 : 57 < byt s (lo + k) := by have := hb.out; omega
        go_wp2
        go_ret
        exact ⟨rfl, rfl⟩
theorem bnum_any (s : ByteArray) (lo n : Nat) (w : World) (h1 : lo + n ≤ s.size) (h2 : s.size ≤ 100000) (h3 : n ≤ 4) :
    Calls Ydgm.prog 33 #[.string s, .int .i64 (lo : Int), .int .i64 ((lo : Int) + (n : Int))] w fun e w' => e = .returned (.int .i64 (rd s lo n)) ∧ w' = w := by
  cases h : digs s lo n
  · rw [rd_f h]
    obtain ⟨j, hj, hd, hb⟩ := digs_bad s lo n h
    exact bnum_bad s lo n j w h1 h2 h3 hj hd hb
  · rw [rd_t h]
    exact bnum_ok s lo n w h1 h2 h3 h
theorem bnum_year (s : ByteArray) (w : World) (h : s.size = 10) : Calls Ydgm.prog 33 #[.string s, .int .i64 0, .int .i64 4] w fun e w' => e = .returned (.int .i64 (rd s 0 4)) ∧ w' = w := by
  have := bnum_any s 0 4 w (by omega) (by omega) (by omega)
  exact this
theorem bnum_month (s : ByteArray) (w : World) (h : s.size = 10) : Calls Ydgm.prog 33 #[.string s, .int .i64 5, .int .i64 7] w fun e w' => e = .returned (.int .i64 (rd s 5 2)) ∧ w' = w := by
  have := bnum_any s 5 2 w (by omega) (by omega) (by omega)
  exact this
theorem bnum_day (s : ByteArray) (w : World) (h : s.size = 10) : Calls Ydgm.prog 33 #[.string s, .int .i64 8, .int .i64 10] w fun e w' => e = .returned (.int .i64 (rd s 8 2)) ∧ w' = w := by
  have := bnum_any s 8 2 w (by omega) (by omega) (by omega)
  exact this
end Go.Proofs.Ymbrdg
