/-
  THE G LAWS' WALKS: LawS930018GLexicographic.
-/
import Derived.Test.YmbrdhG
import Derived.Test.YmbrdhAid
namespace Go.Proofs.Ymbrdh
open Go.RowKit
set_option linter.unusedVariables false
/-- The order of two integers as -1, 0, 1. -/
def Cal.sgn (x y : Int) : Int := if x < y then -1 else if y < x then 1 else 0
theorem sgn_cases (x y : Int) : (Cal.sgn x y = -1 ∧ x < y) ∨ (Cal.sgn x y = 0 ∧ x = y) ∨ (Cal.sgn x y = 1 ∧ y < x) := by
  unfold Cal.sgn
  repeat (first | omega | split)
theorem sgn_lt {x y : Int} (h : x < y) : Cal.sgn x y = -1 := by unfold Cal.sgn; rw [if_pos h]
theorem sgn_gt {x y : Int} (h : y < x) : Cal.sgn x y = 1 := by unfold Cal.sgn; rw [if_neg (by omega), if_pos h]
theorem sgn_eq {x y : Int} (h : x = y) : Cal.sgn x y = 0 := by unfold Cal.sgn; rw [if_neg (by omega), if_neg (by omega)]
set_option maxHeartbeats 400000 in
theorem gsign_any (x y : Int) (w : World) :
    Calls Ydhm.prog 20 #[.int .i64 x, .int .i64 y] w fun e w' => e = .returned (.int .i64 (Cal.sgn x y)) ∧ w' = w := by
  by_cases h1 : x < y
  · go_enter Ydhm.func20, Ydhm.ntmps20
    go_wp2
    go_ret; exact ⟨ret_int (sgn_lt h1).symm, rfl⟩
  by_cases h2 : y < x
  · go_enter Ydhm.func20, Ydhm.ntmps20
    go_wp2
    go_ret; exact ⟨ret_int (sgn_gt h2).symm, rfl⟩
  · go_enter Ydhm.func20, Ydhm.ntmps20
    go_wp2
    go_ret; exact ⟨ret_int (sgn_eq (by omega)).symm, rfl⟩
/-- A callee that draws nothing, met inside a region behind earlier draws. -/
theorem quiet_same2 {P : Program} {f : FuncId} {args : Array Value} {w : World} {q n : Nat} {v : Value}
    (h : Calls P f args (w.drewN (q + n)) fun e w' => e = .returned v ∧ w' = w.drewN (q + n)) : Calls P f args (w.drewN (q + n)) fun e w'' => e = .returned v ∧ ∃ m, w'' = w.drewN (q + m) :=
  h.mono fun _ _ ⟨he, hm⟩ => ⟨he, n, hm⟩
/-- What the loop has found behind its i-th round, from the least significant part upwards. -/
def Cal.acc (y m d y' m' d' : Int) (i : Int) : Int :=
  if i ≤ 0 then 0 else if i = 1 then Cal.sgn d d' else if i = 2 then (if Cal.sgn m m' = 0 then Cal.sgn d d' else Cal.sgn m m') else Cal.cmp y m d y' m' d'
theorem acc_1 (y m d y' m' d' : Int) : Cal.acc y m d y' m' d' 1 = Cal.sgn d d' := rfl
theorem acc_1z {y m d y' m' d' : Int} (h : Cal.sgn d d' = 0) : Cal.acc y m d y' m' d' 1 = Cal.acc y m d y' m' d' 0 := by simp [Cal.acc, h]
theorem acc_2z {y m d y' m' d' : Int} (h : Cal.sgn m m' = 0) : Cal.acc y m d y' m' d' 2 = Cal.acc y m d y' m' d' 1 := by simp [Cal.acc, h]
theorem acc_2n {y m d y' m' d' : Int} (h : ¬ Cal.sgn m m' = 0) : Cal.acc y m d y' m' d' 2 = Cal.sgn m m' := by simp [Cal.acc, h]
theorem acc_3z {y m d y' m' d' : Int} (h : Cal.sgn y y' = 0) : Cal.acc y m d y' m' d' 3 = Cal.acc y m d y' m' d' 2 := by
  simp only [Cal.acc, Cal.cmp]
  simp
  rcases sgn_cases y y' with ⟨a, _⟩ | ⟨_, rfl⟩ | ⟨a, _⟩
  · omega
  · rcases sgn_cases m m' with ⟨a, b⟩ | ⟨a, rfl⟩ | ⟨a, b⟩
    · rw [a]; simp [b]
    · rw [a]; simp [Cal.sgn]
    · rw [a, if_neg (by omega), if_neg (by omega), if_neg (by omega), if_pos b]; rfl
  · omega
theorem acc_3n {y m d y' m' d' : Int} (h : ¬ Cal.sgn y y' = 0) : Cal.acc y m d y' m' d' 3 = Cal.sgn y y' := by
  simp only [Cal.acc, Cal.cmp]
  simp
  rcases sgn_cases y y' with ⟨a, b⟩ | ⟨a, _⟩ | ⟨a, b⟩
  · rw [a, if_pos b]
  · omega
  · rw [a, if_neg (by omega), if_pos b]
theorem acc_3 (y m d y' m' d' : Int) : Cal.acc y m d y' m' d' 3 = Cal.cmp y m d y' m' d' := rfl

set_option maxHeartbeats 4000000 in
theorem lex_000 (y m d y2 m2 d2 x : Int) (w : World) (e1 : (bits BinOp.and IntKind.u8 x 1 != 0) = false) (e2 : (bits BinOp.and IntKind.u8 x 2 != 0) = false) (e3 : (bits BinOp.and IntKind.u8 x 4 != 0) = false) :
    Calls Ydhm.prog 9 #[.agg #[.int .i64 y, .int .i64 m, .int .i64 d], .agg #[.int .i64 y2, .int .i64 m2, .int .i64 d2], .int .u8 x] w fun e w' => e = .returned (.bool true) ∧ Grown w w' := by
  go_enter Ydhm.func9, Ydhm.ntmps9
  go_wp2
  go_loopw [9, 10] (fun t k wr => ∃ i : Int, 0 ≤ i ∧ i ≤ 3 ∧ k = .int .i64 i ∧ t = .int .i64 (Cal.acc y m d y2 m2 d2 i) ∧ ∃ q, wr = ((((w.alloc (.cells #[.int .i64 y, .int .i64 m, .int .i64 d] 25)).alloc (.cells #[.int .i64 y2, .int .i64 m2, .int .i64 d2] 25)).alloc (.cells #[.int .i64 d, .int .i64 m, .int .i64 y] 34)).alloc (.cells #[.int .i64 d2, .int .i64 m2, .int .i64 y2] 34)).drewN q) (fun _ k _ => (3 - intOf k).toNat)
  case atStart => exact ⟨0, by omega, by omega, rfl, rfl, 0, rfl⟩
  case round =>
    obtain ⟨i, hi1, hi2, rfl, rfl, q, rfl⟩ := hrel
    have hi : i = 0 ∨ i = 1 ∨ i = 2 ∨ i = 3 := by omega
    rcases hi with rfl | rfl | rfl | rfl
    · cases hs : (Cal.sgn d d2 != 0)
      all_goals
        go_wp2_with fail
        go_quiet ((go_at_call 20; exact quiet_same2 (gsign_any _ _ _)))
        go_wp2
        go_roundw
        case rel => exact ⟨1, by omega, by omega, by go_num, by first | rw [acc_1z (by simpa using hs)] | rw [acc_1], _, rfl⟩
        case measure => simp [intOf]
    · cases hs : (Cal.sgn m m2 != 0)
      all_goals
        go_wp2_with fail
        go_quiet ((go_at_call 20; exact quiet_same2 (gsign_any _ _ _)))
        go_wp2
        go_roundw
        case rel => exact ⟨2, by omega, by omega, by go_num, by first | rw [acc_2z (by simpa using hs)] | rw [acc_2n (by simpa using hs)], _, rfl⟩
        case measure => simp [intOf]
    · cases hs : (Cal.sgn y y2 != 0)
      all_goals
        go_wp2_with fail
        go_quiet ((go_at_call 20; exact quiet_same2 (gsign_any _ _ _)))
        go_wp2
        go_roundw
        case rel => exact ⟨3, by omega, by omega, by go_num, by first | rw [acc_3z (by simpa using hs)] | rw [acc_3n (by simpa using hs)], _, rfl⟩
        case measure => simp [intOf]
    · have h3 := acc_3 y m d y2 m2 d2
      go_wp2_with (go_at_call 21; refine (compare_any _ _ _ _ _ _ _).mono ?_; rintro e w' ⟨rfl, rfl⟩)
      go_ret
      exact ⟨rfl, by repeat (first | with_reducible apply Grown.alloc | with_reducible apply grown_drewN | with_reducible apply Grown.drew | with_reducible exact Grown.refl _)⟩

set_option maxHeartbeats 4000000 in
theorem lex_001 (y m d y2 m2 d2 x : Int) (w : World) (e1 : (bits BinOp.and IntKind.u8 x 1 != 0) = false) (e2 : (bits BinOp.and IntKind.u8 x 2 != 0) = false) (e3 : (bits BinOp.and IntKind.u8 x 4 != 0) = true) :
    Calls Ydhm.prog 9 #[.agg #[.int .i64 y, .int .i64 m, .int .i64 d], .agg #[.int .i64 y2, .int .i64 m2, .int .i64 d2], .int .u8 x] w fun e w' => e = .returned (.bool true) ∧ Grown w w' := by
  go_enter Ydhm.func9, Ydhm.ntmps9
  go_wp2
  go_loopw [9, 10] (fun t k wr => ∃ i : Int, 0 ≤ i ∧ i ≤ 3 ∧ k = .int .i64 i ∧ t = .int .i64 (Cal.acc y m d y2 m2 d i) ∧ ∃ q, wr = ((((w.alloc (.cells #[.int .i64 y, .int .i64 m, .int .i64 d] 25)).alloc (.cells #[.int .i64 y2, .int .i64 m2, .int .i64 d] 25)).alloc (.cells #[.int .i64 d, .int .i64 m, .int .i64 y] 34)).alloc (.cells #[.int .i64 d, .int .i64 m2, .int .i64 y2] 34)).drewN q) (fun _ k _ => (3 - intOf k).toNat)
  case atStart => exact ⟨0, by omega, by omega, rfl, rfl, 0, rfl⟩
  case round =>
    obtain ⟨i, hi1, hi2, rfl, rfl, q, rfl⟩ := hrel
    have hi : i = 0 ∨ i = 1 ∨ i = 2 ∨ i = 3 := by omega
    rcases hi with rfl | rfl | rfl | rfl
    · cases hs : (Cal.sgn d d != 0)
      all_goals
        go_wp2_with fail
        go_quiet ((go_at_call 20; exact quiet_same2 (gsign_any _ _ _)))
        go_wp2
        go_roundw
        case rel => exact ⟨1, by omega, by omega, by go_num, by first | rw [acc_1z (by simpa using hs)] | rw [acc_1], _, rfl⟩
        case measure => simp [intOf]
    · cases hs : (Cal.sgn m m2 != 0)
      all_goals
        go_wp2_with fail
        go_quiet ((go_at_call 20; exact quiet_same2 (gsign_any _ _ _)))
        go_wp2
        go_roundw
        case rel => exact ⟨2, by omega, by omega, by go_num, by first | rw [acc_2z (by simpa using hs)] | rw [acc_2n (by simpa using hs)], _, rfl⟩
        case measure => simp [intOf]
    · cases hs : (Cal.sgn y y2 != 0)
      all_goals
        go_wp2_with fail
        go_quiet ((go_at_call 20; exact quiet_same2 (gsign_any _ _ _)))
        go_wp2
        go_roundw
        case rel => exact ⟨3, by omega, by omega, by go_num, by first | rw [acc_3z (by simpa using hs)] | rw [acc_3n (by simpa using hs)], _, rfl⟩
        case measure => simp [intOf]
    · have h3 := acc_3 y m d y2 m2 d
      go_wp2_with (go_at_call 21; refine (compare_any _ _ _ _ _ _ _).mono ?_; rintro e w' ⟨rfl, rfl⟩)
      go_ret
      exact ⟨rfl, by repeat (first | with_reducible apply Grown.alloc | with_reducible apply grown_drewN | with_reducible apply Grown.drew | with_reducible exact Grown.refl _)⟩

set_option maxHeartbeats 4000000 in
theorem lex_010 (y m d y2 m2 d2 x : Int) (w : World) (e1 : (bits BinOp.and IntKind.u8 x 1 != 0) = false) (e2 : (bits BinOp.and IntKind.u8 x 2 != 0) = true) (e3 : (bits BinOp.and IntKind.u8 x 4 != 0) = false) :
    Calls Ydhm.prog 9 #[.agg #[.int .i64 y, .int .i64 m, .int .i64 d], .agg #[.int .i64 y2, .int .i64 m2, .int .i64 d2], .int .u8 x] w fun e w' => e = .returned (.bool true) ∧ Grown w w' := by
  go_enter Ydhm.func9, Ydhm.ntmps9
  go_wp2
  go_loopw [9, 10] (fun t k wr => ∃ i : Int, 0 ≤ i ∧ i ≤ 3 ∧ k = .int .i64 i ∧ t = .int .i64 (Cal.acc y m d y2 m d2 i) ∧ ∃ q, wr = ((((w.alloc (.cells #[.int .i64 y, .int .i64 m, .int .i64 d] 25)).alloc (.cells #[.int .i64 y2, .int .i64 m, .int .i64 d2] 25)).alloc (.cells #[.int .i64 d, .int .i64 m, .int .i64 y] 34)).alloc (.cells #[.int .i64 d2, .int .i64 m, .int .i64 y2] 34)).drewN q) (fun _ k _ => (3 - intOf k).toNat)
  case atStart => exact ⟨0, by omega, by omega, rfl, rfl, 0, rfl⟩
  case round =>
    obtain ⟨i, hi1, hi2, rfl, rfl, q, rfl⟩ := hrel
    have hi : i = 0 ∨ i = 1 ∨ i = 2 ∨ i = 3 := by omega
    rcases hi with rfl | rfl | rfl | rfl
    · cases hs : (Cal.sgn d d2 != 0)
      all_goals
        go_wp2_with fail
        go_quiet ((go_at_call 20; exact quiet_same2 (gsign_any _ _ _)))
        go_wp2
        go_roundw
        case rel => exact ⟨1, by omega, by omega, by go_num, by first | rw [acc_1z (by simpa using hs)] | rw [acc_1], _, rfl⟩
        case measure => simp [intOf]
    · cases hs : (Cal.sgn m m != 0)
      all_goals
        go_wp2_with fail
        go_quiet ((go_at_call 20; exact quiet_same2 (gsign_any _ _ _)))
        go_wp2
        go_roundw
        case rel => exact ⟨2, by omega, by omega, by go_num, by first | rw [acc_2z (by simpa using hs)] | rw [acc_2n (by simpa using hs)], _, rfl⟩
        case measure => simp [intOf]
    · cases hs : (Cal.sgn y y2 != 0)
      all_goals
        go_wp2_with fail
        go_quiet ((go_at_call 20; exact quiet_same2 (gsign_any _ _ _)))
        go_wp2
        go_roundw
        case rel => exact ⟨3, by omega, by omega, by go_num, by first | rw [acc_3z (by simpa using hs)] | rw [acc_3n (by simpa using hs)], _, rfl⟩
        case measure => simp [intOf]
    · have h3 := acc_3 y m d y2 m d2
      go_wp2_with (go_at_call 21; refine (compare_any _ _ _ _ _ _ _).mono ?_; rintro e w' ⟨rfl, rfl⟩)
      go_ret
      exact ⟨rfl, by repeat (first | with_reducible apply Grown.alloc | with_reducible apply grown_drewN | with_reducible apply Grown.drew | with_reducible exact Grown.refl _)⟩

set_option maxHeartbeats 4000000 in
theorem lex_011 (y m d y2 m2 d2 x : Int) (w : World) (e1 : (bits BinOp.and IntKind.u8 x 1 != 0) = false) (e2 : (bits BinOp.and IntKind.u8 x 2 != 0) = true) (e3 : (bits BinOp.and IntKind.u8 x 4 != 0) = true) :
    Calls Ydhm.prog 9 #[.agg #[.int .i64 y, .int .i64 m, .int .i64 d], .agg #[.int .i64 y2, .int .i64 m2, .int .i64 d2], .int .u8 x] w fun e w' => e = .returned (.bool true) ∧ Grown w w' := by
  go_enter Ydhm.func9, Ydhm.ntmps9
  go_wp2
  go_loopw [9, 10] (fun t k wr => ∃ i : Int, 0 ≤ i ∧ i ≤ 3 ∧ k = .int .i64 i ∧ t = .int .i64 (Cal.acc y m d y2 m d i) ∧ ∃ q, wr = ((((w.alloc (.cells #[.int .i64 y, .int .i64 m, .int .i64 d] 25)).alloc (.cells #[.int .i64 y2, .int .i64 m, .int .i64 d] 25)).alloc (.cells #[.int .i64 d, .int .i64 m, .int .i64 y] 34)).alloc (.cells #[.int .i64 d, .int .i64 m, .int .i64 y2] 34)).drewN q) (fun _ k _ => (3 - intOf k).toNat)
  case atStart => exact ⟨0, by omega, by omega, rfl, rfl, 0, rfl⟩
  case round =>
    obtain ⟨i, hi1, hi2, rfl, rfl, q, rfl⟩ := hrel
    have hi : i = 0 ∨ i = 1 ∨ i = 2 ∨ i = 3 := by omega
    rcases hi with rfl | rfl | rfl | rfl
    · cases hs : (Cal.sgn d d != 0)
      all_goals
        go_wp2_with fail
        go_quiet ((go_at_call 20; exact quiet_same2 (gsign_any _ _ _)))
        go_wp2
        go_roundw
        case rel => exact ⟨1, by omega, by omega, by go_num, by first | rw [acc_1z (by simpa using hs)] | rw [acc_1], _, rfl⟩
        case measure => simp [intOf]
    · cases hs : (Cal.sgn m m != 0)
      all_goals
        go_wp2_with fail
        go_quiet ((go_at_call 20; exact quiet_same2 (gsign_any _ _ _)))
        go_wp2
        go_roundw
        case rel => exact ⟨2, by omega, by omega, by go_num, by first | rw [acc_2z (by simpa using hs)] | rw [acc_2n (by simpa using hs)], _, rfl⟩
        case measure => simp [intOf]
    · cases hs : (Cal.sgn y y2 != 0)
      all_goals
        go_wp2_with fail
        go_quiet ((go_at_call 20; exact quiet_same2 (gsign_any _ _ _)))
        go_wp2
        go_roundw
        case rel => exact ⟨3, by omega, by omega, by go_num, by first | rw [acc_3z (by simpa using hs)] | rw [acc_3n (by simpa using hs)], _, rfl⟩
        case measure => simp [intOf]
    · have h3 := acc_3 y m d y2 m d
      go_wp2_with (go_at_call 21; refine (compare_any _ _ _ _ _ _ _).mono ?_; rintro e w' ⟨rfl, rfl⟩)
      go_ret
      exact ⟨rfl, by repeat (first | with_reducible apply Grown.alloc | with_reducible apply grown_drewN | with_reducible apply Grown.drew | with_reducible exact Grown.refl _)⟩

set_option maxHeartbeats 4000000 in
theorem lex_100 (y m d y2 m2 d2 x : Int) (w : World) (e1 : (bits BinOp.and IntKind.u8 x 1 != 0) = true) (e2 : (bits BinOp.and IntKind.u8 x 2 != 0) = false) (e3 : (bits BinOp.and IntKind.u8 x 4 != 0) = false) :
    Calls Ydhm.prog 9 #[.agg #[.int .i64 y, .int .i64 m, .int .i64 d], .agg #[.int .i64 y2, .int .i64 m2, .int .i64 d2], .int .u8 x] w fun e w' => e = .returned (.bool true) ∧ Grown w w' := by
  go_enter Ydhm.func9, Ydhm.ntmps9
  go_wp2
  go_loopw [9, 10] (fun t k wr => ∃ i : Int, 0 ≤ i ∧ i ≤ 3 ∧ k = .int .i64 i ∧ t = .int .i64 (Cal.acc y m d y m2 d2 i) ∧ ∃ q, wr = ((((w.alloc (.cells #[.int .i64 y, .int .i64 m, .int .i64 d] 25)).alloc (.cells #[.int .i64 y, .int .i64 m2, .int .i64 d2] 25)).alloc (.cells #[.int .i64 d, .int .i64 m, .int .i64 y] 34)).alloc (.cells #[.int .i64 d2, .int .i64 m2, .int .i64 y] 34)).drewN q) (fun _ k _ => (3 - intOf k).toNat)
  case atStart => exact ⟨0, by omega, by omega, rfl, rfl, 0, rfl⟩
  case round =>
    obtain ⟨i, hi1, hi2, rfl, rfl, q, rfl⟩ := hrel
    have hi : i = 0 ∨ i = 1 ∨ i = 2 ∨ i = 3 := by omega
    rcases hi with rfl | rfl | rfl | rfl
    · cases hs : (Cal.sgn d d2 != 0)
      all_goals
        go_wp2_with fail
        go_quiet ((go_at_call 20; exact quiet_same2 (gsign_any _ _ _)))
        go_wp2
        go_roundw
        case rel => exact ⟨1, by omega, by omega, by go_num, by first | rw [acc_1z (by simpa using hs)] | rw [acc_1], _, rfl⟩
        case measure => simp [intOf]
    · cases hs : (Cal.sgn m m2 != 0)
      all_goals
        go_wp2_with fail
        go_quiet ((go_at_call 20; exact quiet_same2 (gsign_any _ _ _)))
        go_wp2
        go_roundw
        case rel => exact ⟨2, by omega, by omega, by go_num, by first | rw [acc_2z (by simpa using hs)] | rw [acc_2n (by simpa using hs)], _, rfl⟩
        case measure => simp [intOf]
    · cases hs : (Cal.sgn y y != 0)
      all_goals
        go_wp2_with fail
        go_quiet ((go_at_call 20; exact quiet_same2 (gsign_any _ _ _)))
        go_wp2
        go_roundw
        case rel => exact ⟨3, by omega, by omega, by go_num, by first | rw [acc_3z (by simpa using hs)] | rw [acc_3n (by simpa using hs)], _, rfl⟩
        case measure => simp [intOf]
    · have h3 := acc_3 y m d y m2 d2
      go_wp2_with (go_at_call 21; refine (compare_any _ _ _ _ _ _ _).mono ?_; rintro e w' ⟨rfl, rfl⟩)
      go_ret
      exact ⟨rfl, by repeat (first | with_reducible apply Grown.alloc | with_reducible apply grown_drewN | with_reducible apply Grown.drew | with_reducible exact Grown.refl _)⟩

set_option maxHeartbeats 4000000 in
theorem lex_101 (y m d y2 m2 d2 x : Int) (w : World) (e1 : (bits BinOp.and IntKind.u8 x 1 != 0) = true) (e2 : (bits BinOp.and IntKind.u8 x 2 != 0) = false) (e3 : (bits BinOp.and IntKind.u8 x 4 != 0) = true) :
    Calls Ydhm.prog 9 #[.agg #[.int .i64 y, .int .i64 m, .int .i64 d], .agg #[.int .i64 y2, .int .i64 m2, .int .i64 d2], .int .u8 x] w fun e w' => e = .returned (.bool true) ∧ Grown w w' := by
  go_enter Ydhm.func9, Ydhm.ntmps9
  go_wp2
  go_loopw [9, 10] (fun t k wr => ∃ i : Int, 0 ≤ i ∧ i ≤ 3 ∧ k = .int .i64 i ∧ t = .int .i64 (Cal.acc y m d y m2 d i) ∧ ∃ q, wr = ((((w.alloc (.cells #[.int .i64 y, .int .i64 m, .int .i64 d] 25)).alloc (.cells #[.int .i64 y, .int .i64 m2, .int .i64 d] 25)).alloc (.cells #[.int .i64 d, .int .i64 m, .int .i64 y] 34)).alloc (.cells #[.int .i64 d, .int .i64 m2, .int .i64 y] 34)).drewN q) (fun _ k _ => (3 - intOf k).toNat)
  case atStart => exact ⟨0, by omega, by omega, rfl, rfl, 0, rfl⟩
  case round =>
    obtain ⟨i, hi1, hi2, rfl, rfl, q, rfl⟩ := hrel
    have hi : i = 0 ∨ i = 1 ∨ i = 2 ∨ i = 3 := by omega
    rcases hi with rfl | rfl | rfl | rfl
    · cases hs : (Cal.sgn d d != 0)
      all_goals
        go_wp2_with fail
        go_quiet ((go_at_call 20; exact quiet_same2 (gsign_any _ _ _)))
        go_wp2
        go_roundw
        case rel => exact ⟨1, by omega, by omega, by go_num, by first | rw [acc_1z (by simpa using hs)] | rw [acc_1], _, rfl⟩
        case measure => simp [intOf]
    · cases hs : (Cal.sgn m m2 != 0)
      all_goals
        go_wp2_with fail
        go_quiet ((go_at_call 20; exact quiet_same2 (gsign_any _ _ _)))
        go_wp2
        go_roundw
        case rel => exact ⟨2, by omega, by omega, by go_num, by first | rw [acc_2z (by simpa using hs)] | rw [acc_2n (by simpa using hs)], _, rfl⟩
        case measure => simp [intOf]
    · cases hs : (Cal.sgn y y != 0)
      all_goals
        go_wp2_with fail
        go_quiet ((go_at_call 20; exact quiet_same2 (gsign_any _ _ _)))
        go_wp2
        go_roundw
        case rel => exact ⟨3, by omega, by omega, by go_num, by first | rw [acc_3z (by simpa using hs)] | rw [acc_3n (by simpa using hs)], _, rfl⟩
        case measure => simp [intOf]
    · have h3 := acc_3 y m d y m2 d
      go_wp2_with (go_at_call 21; refine (compare_any _ _ _ _ _ _ _).mono ?_; rintro e w' ⟨rfl, rfl⟩)
      go_ret
      exact ⟨rfl, by repeat (first | with_reducible apply Grown.alloc | with_reducible apply grown_drewN | with_reducible apply Grown.drew | with_reducible exact Grown.refl _)⟩

set_option maxHeartbeats 4000000 in
theorem lex_110 (y m d y2 m2 d2 x : Int) (w : World) (e1 : (bits BinOp.and IntKind.u8 x 1 != 0) = true) (e2 : (bits BinOp.and IntKind.u8 x 2 != 0) = true) (e3 : (bits BinOp.and IntKind.u8 x 4 != 0) = false) :
    Calls Ydhm.prog 9 #[.agg #[.int .i64 y, .int .i64 m, .int .i64 d], .agg #[.int .i64 y2, .int .i64 m2, .int .i64 d2], .int .u8 x] w fun e w' => e = .returned (.bool true) ∧ Grown w w' := by
  go_enter Ydhm.func9, Ydhm.ntmps9
  go_wp2
  go_loopw [9, 10] (fun t k wr => ∃ i : Int, 0 ≤ i ∧ i ≤ 3 ∧ k = .int .i64 i ∧ t = .int .i64 (Cal.acc y m d y m d2 i) ∧ ∃ q, wr = ((((w.alloc (.cells #[.int .i64 y, .int .i64 m, .int .i64 d] 25)).alloc (.cells #[.int .i64 y, .int .i64 m, .int .i64 d2] 25)).alloc (.cells #[.int .i64 d, .int .i64 m, .int .i64 y] 34)).alloc (.cells #[.int .i64 d2, .int .i64 m, .int .i64 y] 34)).drewN q) (fun _ k _ => (3 - intOf k).toNat)
  case atStart => exact ⟨0, by omega, by omega, rfl, rfl, 0, rfl⟩
  case round =>
    obtain ⟨i, hi1, hi2, rfl, rfl, q, rfl⟩ := hrel
    have hi : i = 0 ∨ i = 1 ∨ i = 2 ∨ i = 3 := by omega
    rcases hi with rfl | rfl | rfl | rfl
    · cases hs : (Cal.sgn d d2 != 0)
      all_goals
        go_wp2_with fail
        go_quiet ((go_at_call 20; exact quiet_same2 (gsign_any _ _ _)))
        go_wp2
        go_roundw
        case rel => exact ⟨1, by omega, by omega, by go_num, by first | rw [acc_1z (by simpa using hs)] | rw [acc_1], _, rfl⟩
        case measure => simp [intOf]
    · cases hs : (Cal.sgn m m != 0)
      all_goals
        go_wp2_with fail
        go_quiet ((go_at_call 20; exact quiet_same2 (gsign_any _ _ _)))
        go_wp2
        go_roundw
        case rel => exact ⟨2, by omega, by omega, by go_num, by first | rw [acc_2z (by simpa using hs)] | rw [acc_2n (by simpa using hs)], _, rfl⟩
        case measure => simp [intOf]
    · cases hs : (Cal.sgn y y != 0)
      all_goals
        go_wp2_with fail
        go_quiet ((go_at_call 20; exact quiet_same2 (gsign_any _ _ _)))
        go_wp2
        go_roundw
        case rel => exact ⟨3, by omega, by omega, by go_num, by first | rw [acc_3z (by simpa using hs)] | rw [acc_3n (by simpa using hs)], _, rfl⟩
        case measure => simp [intOf]
    · have h3 := acc_3 y m d y m d2
      go_wp2_with (go_at_call 21; refine (compare_any _ _ _ _ _ _ _).mono ?_; rintro e w' ⟨rfl, rfl⟩)
      go_ret
      exact ⟨rfl, by repeat (first | with_reducible apply Grown.alloc | with_reducible apply grown_drewN | with_reducible apply Grown.drew | with_reducible exact Grown.refl _)⟩

set_option maxHeartbeats 4000000 in
theorem lex_111 (y m d y2 m2 d2 x : Int) (w : World) (e1 : (bits BinOp.and IntKind.u8 x 1 != 0) = true) (e2 : (bits BinOp.and IntKind.u8 x 2 != 0) = true) (e3 : (bits BinOp.and IntKind.u8 x 4 != 0) = true) :
    Calls Ydhm.prog 9 #[.agg #[.int .i64 y, .int .i64 m, .int .i64 d], .agg #[.int .i64 y2, .int .i64 m2, .int .i64 d2], .int .u8 x] w fun e w' => e = .returned (.bool true) ∧ Grown w w' := by
  go_enter Ydhm.func9, Ydhm.ntmps9
  go_wp2
  go_loopw [9, 10] (fun t k wr => ∃ i : Int, 0 ≤ i ∧ i ≤ 3 ∧ k = .int .i64 i ∧ t = .int .i64 (Cal.acc y m d y m d i) ∧ ∃ q, wr = ((((w.alloc (.cells #[.int .i64 y, .int .i64 m, .int .i64 d] 25)).alloc (.cells #[.int .i64 y, .int .i64 m, .int .i64 d] 25)).alloc (.cells #[.int .i64 d, .int .i64 m, .int .i64 y] 34)).alloc (.cells #[.int .i64 d, .int .i64 m, .int .i64 y] 34)).drewN q) (fun _ k _ => (3 - intOf k).toNat)
  case atStart => exact ⟨0, by omega, by omega, rfl, rfl, 0, rfl⟩
  case round =>
    obtain ⟨i, hi1, hi2, rfl, rfl, q, rfl⟩ := hrel
    have hi : i = 0 ∨ i = 1 ∨ i = 2 ∨ i = 3 := by omega
    rcases hi with rfl | rfl | rfl | rfl
    · cases hs : (Cal.sgn d d != 0)
      all_goals
        go_wp2_with fail
        go_quiet ((go_at_call 20; exact quiet_same2 (gsign_any _ _ _)))
        go_wp2
        go_roundw
        case rel => exact ⟨1, by omega, by omega, by go_num, by first | rw [acc_1z (by simpa using hs)] | rw [acc_1], _, rfl⟩
        case measure => simp [intOf]
    · cases hs : (Cal.sgn m m != 0)
      all_goals
        go_wp2_with fail
        go_quiet ((go_at_call 20; exact quiet_same2 (gsign_any _ _ _)))
        go_wp2
        go_roundw
        case rel => exact ⟨2, by omega, by omega, by go_num, by first | rw [acc_2z (by simpa using hs)] | rw [acc_2n (by simpa using hs)], _, rfl⟩
        case measure => simp [intOf]
    · cases hs : (Cal.sgn y y != 0)
      all_goals
        go_wp2_with fail
        go_quiet ((go_at_call 20; exact quiet_same2 (gsign_any _ _ _)))
        go_wp2
        go_roundw
        case rel => exact ⟨3, by omega, by omega, by go_num, by first | rw [acc_3z (by simpa using hs)] | rw [acc_3n (by simpa using hs)], _, rfl⟩
        case measure => simp [intOf]
    · have h3 := acc_3 y m d y m d
      go_wp2_with (go_at_call 21; refine (compare_any _ _ _ _ _ _ _).mono ?_; rintro e w' ⟨rfl, rfl⟩)
      go_ret
      exact ⟨rfl, by repeat (first | with_reducible apply Grown.alloc | with_reducible apply grown_drewN | with_reducible apply Grown.drew | with_reducible exact Grown.refl _)⟩

theorem lex_any (y m d y2 m2 d2 x : Int) (w : World) :
    Calls Ydhm.prog 9 #[.agg #[.int .i64 y, .int .i64 m, .int .i64 d], .agg #[.int .i64 y2, .int .i64 m2, .int .i64 d2], .int .u8 x] w fun e w' => e = .returned (.bool true) ∧ Grown w w' := by
  cases e1 : (bits BinOp.and IntKind.u8 x 1 != 0) <;> cases e2 : (bits BinOp.and IntKind.u8 x 2 != 0) <;> cases e3 : (bits BinOp.and IntKind.u8 x 4 != 0)
  · exact lex_000 y m d y2 m2 d2 x w e1 e2 e3
  · exact lex_001 y m d y2 m2 d2 x w e1 e2 e3
  · exact lex_010 y m d y2 m2 d2 x w e1 e2 e3
  · exact lex_011 y m d y2 m2 d2 x w e1 e2 e3
  · exact lex_100 y m d y2 m2 d2 x w e1 e2 e3
  · exact lex_101 y m d y2 m2 d2 x w e1 e2 e3
  · exact lex_110 y m d y2 m2 d2 x w e1 e2 e3
  · exact lex_111 y m d y2 m2 d2 x w e1 e2 e3
end Go.Proofs.Ymbrdh
