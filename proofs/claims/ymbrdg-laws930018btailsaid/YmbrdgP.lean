/-
  THE CONTRACT of Parse: for every text.
-/
import Derived.Test.YmbrdgKept
import Derived.Test.YmbrdgEx
import Derived.Test.YmbrdgS
namespace Go.Proofs.Ymbrdg
open Go.RowKit
set_option linter.unusedVariables false
/-- Is the k-th byte what a written date has there? -/
def good (s : ByteArray) (k : Nat) : Prop := if k = 4 ∨ k = 7 then byt s k = 45 else 48 ≤ byt s k ∧ byt s k ≤ 57
theorem good_dec (s : ByteArray) (k : Nat) : good s k ∨ ¬ good s k := Classical.em _
/-- Year, month and day as they stand ahead of the k-th byte. -/
def yv (s : ByteArray) (k : Nat) : Int := acc s 0 (min k 4)
def mv (s : ByteArray) (k : Nat) : Int := acc s 5 (min (k - 5) 2)
def dv (s : ByteArray) (k : Nat) : Int := acc s 8 (min (k - 8) 2)
theorem digs_of (s : ByteArray) (lo : Nat) : ∀ n, (∀ k, k < n → 48 ≤ byt s (lo + k) ∧ byt s (lo + k) ≤ 57) → digs s lo n = true
  | 0, _ => rfl
  | n + 1, h => (digs_succ s lo n).2 ⟨digs_of s lo n (fun k hk => h k (by omega)), h n (by omega)⟩
theorem good_digit {s : ByteArray} {k : Nat} (h : good s k) (h4 : k ≠ 4) (h7 : k ≠ 7) : 48 ≤ byt s k ∧ byt s k ≤ 57 := by
  unfold good at h; rw [if_neg (by omega)] at h; exact h
theorem good_dash {s : ByteArray} {k : Nat} (h : good s k) (h4 : k = 4 ∨ k = 7) : byt s k = 45 := by
  unfold good at h; rw [if_pos h4] at h; exact h
theorem first_bad (s : ByteArray) : ∀ n : Nat, n ≤ 10 → ∃ j, j ≤ n ∧ (∀ k, k < j → good s k) ∧ (j < n → ¬ good s j)
  | 0, _ => ⟨0, by omega, fun k hk => by omega, fun h => by omega⟩
  | n + 1, hn => by
    obtain ⟨j, h1, h2, h3⟩ := first_bad s n (by omega)
    by_cases e : j = n
    · subst e
      rcases good_dec s j with g | g
      · refine ⟨j + 1, by omega, fun k hk => ?_, fun h => by omega⟩
        by_cases e : k = j
        · subst e; exact g
        · exact h2 k (by omega)
      · exact ⟨j, by omega, h2, fun _ => g⟩
    · exact ⟨j, by omega, h2, fun _ => h3 (by omega)⟩
theorem val_bd (s : ByteArray) (k j : Nat) (hk : k ≤ j) (hj : j ≤ 10) (h : ∀ i, i < j → good s i) : 0 ≤ yv s k ∧ yv s k ≤ 9999 ∧ (k ≤ 3 → yv s k ≤ 999) ∧ 0 ≤ mv s k ∧ mv s k ≤ 99 ∧ (k ≤ 6 → mv s k ≤ 9) ∧ 0 ≤ dv s k ∧ dv s k ≤ 99 ∧ (k ≤ 9 → dv s k ≤ 9) := by
  have a := acc_bd s 0 (min k 4) (by omega) (digs_of s 0 _ (fun i hi => by rw [Nat.zero_add]; exact good_digit (h i (by omega)) (by omega) (by omega)))
  have b := acc_bd s 5 (min (k - 5) 2) (by omega) (digs_of s 5 _ (fun i hi => good_digit (h (5 + i) (by omega)) (by omega) (by omega)))
  have c := acc_bd s 8 (min (k - 8) 2) (by omega) (digs_of s 8 _ (fun i hi => good_digit (h (8 + i) (by omega)) (by omega) (by omega)))
  unfold yv mv dv
  have hk' : k = 0 ∨ k = 1 ∨ k = 2 ∨ k = 3 ∨ k = 4 ∨ k = 5 ∨ k = 6 ∨ k = 7 ∨ k = 8 ∨ k = 9 ∨ k = 10 := by omega
  rcases hk' with rfl | rfl | rfl | rfl | rfl | rfl | rfl | rfl | rfl | rfl | rfl <;> simp at a b c ⊢ <;> omega
/-- What Parse answers, j bytes being good. -/
def pres (s : ByteArray) (j : Nat) : Value :=
  if j = 10 ∧ Cal.vldB (yv s 10) (mv s 10) (dv s 10) = true then .tuple #[.agg #[.int .i64 (yv s 10), .int .i64 (mv s 10), .int .i64 (dv s 10)], .bool true] else .tuple #[.agg #[.int .i64 0, .int .i64 0, .int .i64 0], .bool false]
theorem pres_bad {s : ByteArray} {j : Nat} (h : j < 10) : pres s j = .tuple #[.agg #[.int .i64 0, .int .i64 0, .int .i64 0], .bool false] := by unfold pres; rw [if_neg (by omega)]
theorem pres_no {s : ByteArray} (h : Cal.vldB (yv s 10) (mv s 10) (dv s 10) = false) : pres s 10 = .tuple #[.agg #[.int .i64 0, .int .i64 0, .int .i64 0], .bool false] := by unfold pres; rw [if_neg (by simp [h])]
theorem pres_yes {s : ByteArray} (h : Cal.vldB (yv s 10) (mv s 10) (dv s 10) = true) : pres s 10 = .tuple #[.agg #[.int .i64 (yv s 10), .int .i64 (mv s 10), .int .i64 (dv s 10)], .bool true] := by unfold pres; rw [if_pos ⟨rfl, h⟩]
/-- A struct stored into a block that is there reads back. -/
theorem cells3 (X : World) (b : Nat) (v0 v1 v2 u0 u1 u2 : Value) (h0 : X.cell? ⟨b, 0, none⟩ = some u0) (h1 : X.cell? ⟨b, 1, none⟩ = some u1) (h2 : X.cell? ⟨b, 2, none⟩ = some u2) :
    (((X.setCell ⟨b, 0, none⟩ v0).setCell ⟨b, 1, none⟩ v1).setCell ⟨b, 2, none⟩ v2).cell? ⟨b, 0, none⟩ = some v0 ∧ (((X.setCell ⟨b, 0, none⟩ v0).setCell ⟨b, 1, none⟩ v1).setCell ⟨b, 2, none⟩ v2).cell? ⟨b, 1, none⟩ = some v1 ∧
    (((X.setCell ⟨b, 0, none⟩ v0).setCell ⟨b, 1, none⟩ v1).setCell ⟨b, 2, none⟩ v2).cell? ⟨b, 2, none⟩ = some v2 := by
  refine ⟨?_, ?_, ?_⟩ <;> simp [go_sem, h0, h1, h2]
theorem first3 (w : World) (D V : Array Value) (n : Nat) (j : Nat) (hj : j < 3) : ((((w.alloc (.cells #[.int .i64 0, .int .i64 0, .int .i64 0] 23)).alloc (.cells D 23)).alloc (.cells V 23)).drewN n).cell? ⟨w.heap.size, j, none⟩ = some (.int .i64 0) := by
  have : j = 0 ∨ j = 1 ∨ j = 2 := by omega
  rcases this with rfl | rfl | rfl <;> simp [go_sem]
theorem ret_v {a b : Value} (h : a = b) : Ending.returned a = .returned b := by rw [h]
set_option maxHeartbeats 400000 in
theorem parse_len (s : ByteArray) (w : World) (h : ((s.size : Int) == 10) = false) (hs : s.size ≤ maxLen) :
    Calls Ydgm.prog 20 #[.string s] w fun e w' => e = .returned (.tuple #[.agg #[.int .i64 0, .int .i64 0, .int .i64 0], .bool false]) ∧ Kept w w' := by
  have h' : ((s.size : Int) != 10) = true := by simp only [bne, h]; rfl
  unfold maxLen at hs
  go_enter Ydgm.func20, Ydgm.ntmps20
  go_wp2
  exact bodyPost_ret (v := .tuple #[.agg #[.int .i64 0, .int .i64 0, .int .i64 0], .bool false]) (by simp [results, Ydgm.results20, go_sem]) rfl ⟨rfl, by repeat (first | with_reducible exact kept_refl _ | with_reducible apply kept_alloc | with_reducible apply kept_drewN | with_reducible apply kept_drew | (with_reducible refine kept_setCell ?_ (by simp) _))⟩

set_option maxHeartbeats 8000000 in
theorem parse_core (s : ByteArray) (j : Nat) (w : World) (hsz : s.size = 10) (hj : j ≤ 10) (G : Hid (∀ k, k < j → good s k)) (N : Hid (j < 10 → ¬ good s j)) :
    Calls Ydgm.prog 20 #[.string s] w fun e w' => e = .returned (pres s j) ∧ Kept w w' := by
  have hB := byt_get s
  go_enter Ydgm.func20, Ydgm.ntmps20
  go_wp2
  go_loopw [5] (fun i wr => ∃ k : Nat, k ≤ j ∧ i = .int .i64 (k : Int) ∧ wr = (w.alloc (.cells #[.int .i64 0, .int .i64 0, .int .i64 0] 23)).alloc (.cells #[.int .i64 (yv s k), .int .i64 (mv s k), .int .i64 (dv s k)] 23)) (fun i _ => 10 - (intOf i).toNat)
  case atStart => exact ⟨0, by omega, rfl, rfl⟩
  case round =>
    obtain ⟨k, hk, rfl, rfl⟩ := hrel
    obtain ⟨v1, v2, v3, v4, v5, v6, v7, v8, v9⟩ := val_bd s k j hk hj G.out
    have hk' : k = 0 ∨ k = 1 ∨ k = 2 ∨ k = 3 ∨ k = 4 ∨ k = 5 ∨ k = 6 ∨ k = 7 ∨ k = 8 ∨ k = 9 ∨ k = 10 := by omega
    by_cases hlt : k < j
    · have g := G.out k hlt
      rcases hk' with rfl | rfl | rfl | rfl | rfl | rfl | rfl | rfl | rfl | rfl | rfl
      · obtain ⟨c1, c2⟩ := good_digit g (by omega) (by omega)
        have vv := v3 (by omega)
        clear g v3 v6 v9
        go_wp2
        go_roundw
        case rel => exact ⟨1, by omega, by go_num, rfl⟩
        case measure => simp [intOf]
      · obtain ⟨c1, c2⟩ := good_digit g (by omega) (by omega)
        have vv := v3 (by omega)
        clear g v3 v6 v9
        go_wp2
        go_roundw
        case rel => exact ⟨2, by omega, by go_num, rfl⟩
        case measure => simp [intOf]
      · obtain ⟨c1, c2⟩ := good_digit g (by omega) (by omega)
        have vv := v3 (by omega)
        clear g v3 v6 v9
        go_wp2
        go_roundw
        case rel => exact ⟨3, by omega, by go_num, rfl⟩
        case measure => simp [intOf]
      · obtain ⟨c1, c2⟩ := good_digit g (by omega) (by omega)
        have vv := v3 (by omega)
        clear g v3 v6 v9
        go_wp2
        go_roundw
        case rel => exact ⟨4, by omega, by go_num, rfl⟩
        case measure => simp [intOf]
      · have c := good_dash g (by omega)
        clear g v3 v6 v9
        go_wp2
        go_roundw
        case rel => exact ⟨5, by omega, by go_num, rfl⟩
        case measure => simp [intOf]
      · obtain ⟨c1, c2⟩ := good_digit g (by omega) (by omega)
        have vv := v6 (by omega)
        clear g v3 v6 v9
        go_wp2
        go_roundw
        case rel => exact ⟨6, by omega, by go_num, rfl⟩
        case measure => simp [intOf]
      · obtain ⟨c1, c2⟩ := good_digit g (by omega) (by omega)
        have vv := v6 (by omega)
        clear g v3 v6 v9
        go_wp2
        go_roundw
        case rel => exact ⟨7, by omega, by go_num, rfl⟩
        case measure => simp [intOf]
      · have c := good_dash g (by omega)
        clear g v3 v6 v9
        go_wp2
        go_roundw
        case rel => exact ⟨8, by omega, by go_num, rfl⟩
        case measure => simp [intOf]
      · obtain ⟨c1, c2⟩ := good_digit g (by omega) (by omega)
        have vv := v9 (by omega)
        clear g v3 v6 v9
        go_wp2
        go_roundw
        case rel => exact ⟨9, by omega, by go_num, rfl⟩
        case measure => simp [intOf]
      · obtain ⟨c1, c2⟩ := good_digit g (by omega) (by omega)
        have vv := v9 (by omega)
        clear g v3 v6 v9
        go_wp2
        go_roundw
        case rel => exact ⟨10, by omega, by go_num, rfl⟩
        case measure => simp [intOf]
      · exfalso; omega
    · obtain rfl : k = j := by omega
      rcases hk' with rfl | rfl | rfl | rfl | rfl | rfl | rfl | rfl | rfl | rfl | rfl
      · have n := N.out (by omega)
        clear v3 v6 v9
        by_cases c1 : byt s 0 < 48
        · clear n
          go_wp2
          exact bodyPost_ret (v := .tuple #[.agg #[.int .i64 0, .int .i64 0, .int .i64 0], .bool false]) (by simp [results, Ydgm.results20, go_sem]) rfl ⟨ret_v (pres_bad (by omega)).symm, by repeat (first | with_reducible exact kept_refl _ | with_reducible apply kept_alloc | with_reducible apply kept_drewN | with_reducible apply kept_drew | (with_reducible refine kept_setCell ?_ (by simp) _))⟩
        · have c2 : 57 < byt s 0 := by
            unfold good at n; simp at n; omega
          clear n
          go_wp2
          exact bodyPost_ret (v := .tuple #[.agg #[.int .i64 0, .int .i64 0, .int .i64 0], .bool false]) (by simp [results, Ydgm.results20, go_sem]) rfl ⟨ret_v (pres_bad (by omega)).symm, by repeat (first | with_reducible exact kept_refl _ | with_reducible apply kept_alloc | with_reducible apply kept_drewN | with_reducible apply kept_drew | (with_reducible refine kept_setCell ?_ (by simp) _))⟩
      · have n := N.out (by omega)
        clear v3 v6 v9
        by_cases c1 : byt s 1 < 48
        · clear n
          go_wp2
          exact bodyPost_ret (v := .tuple #[.agg #[.int .i64 0, .int .i64 0, .int .i64 0], .bool false]) (by simp [results, Ydgm.results20, go_sem]) rfl ⟨ret_v (pres_bad (by omega)).symm, by repeat (first | with_reducible exact kept_refl _ | with_reducible apply kept_alloc | with_reducible apply kept_drewN | with_reducible apply kept_drew | (with_reducible refine kept_setCell ?_ (by simp) _))⟩
        · have c2 : 57 < byt s 1 := by
            unfold good at n; simp at n; omega
          clear n
          go_wp2
          exact bodyPost_ret (v := .tuple #[.agg #[.int .i64 0, .int .i64 0, .int .i64 0], .bool false]) (by simp [results, Ydgm.results20, go_sem]) rfl ⟨ret_v (pres_bad (by omega)).symm, by repeat (first | with_reducible exact kept_refl _ | with_reducible apply kept_alloc | with_reducible apply kept_drewN | with_reducible apply kept_drew | (with_reducible refine kept_setCell ?_ (by simp) _))⟩
      · have n := N.out (by omega)
        clear v3 v6 v9
        by_cases c1 : byt s 2 < 48
        · clear n
          go_wp2
          exact bodyPost_ret (v := .tuple #[.agg #[.int .i64 0, .int .i64 0, .int .i64 0], .bool false]) (by simp [results, Ydgm.results20, go_sem]) rfl ⟨ret_v (pres_bad (by omega)).symm, by repeat (first | with_reducible exact kept_refl _ | with_reducible apply kept_alloc | with_reducible apply kept_drewN | with_reducible apply kept_drew | (with_reducible refine kept_setCell ?_ (by simp) _))⟩
        · have c2 : 57 < byt s 2 := by
            unfold good at n; simp at n; omega
          clear n
          go_wp2
          exact bodyPost_ret (v := .tuple #[.agg #[.int .i64 0, .int .i64 0, .int .i64 0], .bool false]) (by simp [results, Ydgm.results20, go_sem]) rfl ⟨ret_v (pres_bad (by omega)).symm, by repeat (first | with_reducible exact kept_refl _ | with_reducible apply kept_alloc | with_reducible apply kept_drewN | with_reducible apply kept_drew | (with_reducible refine kept_setCell ?_ (by simp) _))⟩
      · have n := N.out (by omega)
        clear v3 v6 v9
        by_cases c1 : byt s 3 < 48
        · clear n
          go_wp2
          exact bodyPost_ret (v := .tuple #[.agg #[.int .i64 0, .int .i64 0, .int .i64 0], .bool false]) (by simp [results, Ydgm.results20, go_sem]) rfl ⟨ret_v (pres_bad (by omega)).symm, by repeat (first | with_reducible exact kept_refl _ | with_reducible apply kept_alloc | with_reducible apply kept_drewN | with_reducible apply kept_drew | (with_reducible refine kept_setCell ?_ (by simp) _))⟩
        · have c2 : 57 < byt s 3 := by
            unfold good at n; simp at n; omega
          clear n
          go_wp2
          exact bodyPost_ret (v := .tuple #[.agg #[.int .i64 0, .int .i64 0, .int .i64 0], .bool false]) (by simp [results, Ydgm.results20, go_sem]) rfl ⟨ret_v (pres_bad (by omega)).symm, by repeat (first | with_reducible exact kept_refl _ | with_reducible apply kept_alloc | with_reducible apply kept_drewN | with_reducible apply kept_drew | (with_reducible refine kept_setCell ?_ (by simp) _))⟩
      · have n := N.out (by omega)
        have c : (byt s 4 != 45) = true := by
          unfold good at n; simpa using n
        clear n v3 v6 v9
        go_wp2
        exact bodyPost_ret (v := .tuple #[.agg #[.int .i64 0, .int .i64 0, .int .i64 0], .bool false]) (by simp [results, Ydgm.results20, go_sem]) rfl ⟨ret_v (pres_bad (by omega)).symm, by repeat (first | with_reducible exact kept_refl _ | with_reducible apply kept_alloc | with_reducible apply kept_drewN | with_reducible apply kept_drew | (with_reducible refine kept_setCell ?_ (by simp) _))⟩
      · have n := N.out (by omega)
        clear v3 v6 v9
        by_cases c1 : byt s 5 < 48
        · clear n
          go_wp2
          exact bodyPost_ret (v := .tuple #[.agg #[.int .i64 0, .int .i64 0, .int .i64 0], .bool false]) (by simp [results, Ydgm.results20, go_sem]) rfl ⟨ret_v (pres_bad (by omega)).symm, by repeat (first | with_reducible exact kept_refl _ | with_reducible apply kept_alloc | with_reducible apply kept_drewN | with_reducible apply kept_drew | (with_reducible refine kept_setCell ?_ (by simp) _))⟩
        · have c2 : 57 < byt s 5 := by
            unfold good at n; simp at n; omega
          clear n
          go_wp2
          exact bodyPost_ret (v := .tuple #[.agg #[.int .i64 0, .int .i64 0, .int .i64 0], .bool false]) (by simp [results, Ydgm.results20, go_sem]) rfl ⟨ret_v (pres_bad (by omega)).symm, by repeat (first | with_reducible exact kept_refl _ | with_reducible apply kept_alloc | with_reducible apply kept_drewN | with_reducible apply kept_drew | (with_reducible refine kept_setCell ?_ (by simp) _))⟩
      · have n := N.out (by omega)
        clear v3 v6 v9
        by_cases c1 : byt s 6 < 48
        · clear n
          go_wp2
          exact bodyPost_ret (v := .tuple #[.agg #[.int .i64 0, .int .i64 0, .int .i64 0], .bool false]) (by simp [results, Ydgm.results20, go_sem]) rfl ⟨ret_v (pres_bad (by omega)).symm, by repeat (first | with_reducible exact kept_refl _ | with_reducible apply kept_alloc | with_reducible apply kept_drewN | with_reducible apply kept_drew | (with_reducible refine kept_setCell ?_ (by simp) _))⟩
        · have c2 : 57 < byt s 6 := by
            unfold good at n; simp at n; omega
          clear n
          go_wp2
          exact bodyPost_ret (v := .tuple #[.agg #[.int .i64 0, .int .i64 0, .int .i64 0], .bool false]) (by simp [results, Ydgm.results20, go_sem]) rfl ⟨ret_v (pres_bad (by omega)).symm, by repeat (first | with_reducible exact kept_refl _ | with_reducible apply kept_alloc | with_reducible apply kept_drewN | with_reducible apply kept_drew | (with_reducible refine kept_setCell ?_ (by simp) _))⟩
      · have n := N.out (by omega)
        have c : (byt s 7 != 45) = true := by
          unfold good at n; simpa using n
        clear n v3 v6 v9
        go_wp2
        exact bodyPost_ret (v := .tuple #[.agg #[.int .i64 0, .int .i64 0, .int .i64 0], .bool false]) (by simp [results, Ydgm.results20, go_sem]) rfl ⟨ret_v (pres_bad (by omega)).symm, by repeat (first | with_reducible exact kept_refl _ | with_reducible apply kept_alloc | with_reducible apply kept_drewN | with_reducible apply kept_drew | (with_reducible refine kept_setCell ?_ (by simp) _))⟩
      · have n := N.out (by omega)
        clear v3 v6 v9
        by_cases c1 : byt s 8 < 48
        · clear n
          go_wp2
          exact bodyPost_ret (v := .tuple #[.agg #[.int .i64 0, .int .i64 0, .int .i64 0], .bool false]) (by simp [results, Ydgm.results20, go_sem]) rfl ⟨ret_v (pres_bad (by omega)).symm, by repeat (first | with_reducible exact kept_refl _ | with_reducible apply kept_alloc | with_reducible apply kept_drewN | with_reducible apply kept_drew | (with_reducible refine kept_setCell ?_ (by simp) _))⟩
        · have c2 : 57 < byt s 8 := by
            unfold good at n; simp at n; omega
          clear n
          go_wp2
          exact bodyPost_ret (v := .tuple #[.agg #[.int .i64 0, .int .i64 0, .int .i64 0], .bool false]) (by simp [results, Ydgm.results20, go_sem]) rfl ⟨ret_v (pres_bad (by omega)).symm, by repeat (first | with_reducible exact kept_refl _ | with_reducible apply kept_alloc | with_reducible apply kept_drewN | with_reducible apply kept_drew | (with_reducible refine kept_setCell ?_ (by simp) _))⟩
      · have n := N.out (by omega)
        clear v3 v6 v9
        by_cases c1 : byt s 9 < 48
        · clear n
          go_wp2
          exact bodyPost_ret (v := .tuple #[.agg #[.int .i64 0, .int .i64 0, .int .i64 0], .bool false]) (by simp [results, Ydgm.results20, go_sem]) rfl ⟨ret_v (pres_bad (by omega)).symm, by repeat (first | with_reducible exact kept_refl _ | with_reducible apply kept_alloc | with_reducible apply kept_drewN | with_reducible apply kept_drew | (with_reducible refine kept_setCell ?_ (by simp) _))⟩
        · have c2 : 57 < byt s 9 := by
            unfold good at n; simp at n; omega
          clear n
          go_wp2
          exact bodyPost_ret (v := .tuple #[.agg #[.int .i64 0, .int .i64 0, .int .i64 0], .bool false]) (by simp [results, Ydgm.results20, go_sem]) rfl ⟨ret_v (pres_bad (by omega)).symm, by repeat (first | with_reducible exact kept_refl _ | with_reducible apply kept_alloc | with_reducible apply kept_drewN | with_reducible apply kept_drew | (with_reducible refine kept_setCell ?_ (by simp) _))⟩
      · clear v3 v6 v9
        cases hv : Cal.vldB (yv s 10) (mv s 10) (dv s 10)
        · go_wp2_with (go_at_call 32; refine (valid_any _ _ _ _).mono ?_; rintro e w' ⟨rfl, n, rfl⟩)
          obtain ⟨q0, q1, q2⟩ := cells3 _ w.heap.size (.int .i64 0) (.int .i64 0) (.int .i64 0) _ _ _ (first3 w #[.int .i64 (yv s 10), .int .i64 (mv s 10), .int .i64 (dv s 10)] #[.int .i64 (yv s 10), .int .i64 (mv s 10), .int .i64 (dv s 10)] n 0 (by omega)) (first3 w _ _ n 1 (by omega)) (first3 w _ _ n 2 (by omega))
          exact bodyPost_ret (v := .tuple #[.agg #[.int .i64 0, .int .i64 0, .int .i64 0], .bool false]) (by simp [results, Ydgm.results20, go_sem, q0, q1, q2]) rfl ⟨ret_v (pres_no hv).symm, by repeat (first | with_reducible exact kept_refl _ | with_reducible apply kept_alloc | with_reducible apply kept_drewN | with_reducible apply kept_drew | (with_reducible refine kept_setCell ?_ (by simp) _))⟩
        · go_wp2_with (go_at_call 32; refine (valid_any _ _ _ _).mono ?_; rintro e w' ⟨rfl, n, rfl⟩)
          obtain ⟨q0, q1, q2⟩ := cells3 _ w.heap.size (.int .i64 (yv s 10)) (.int .i64 (mv s 10)) (.int .i64 (dv s 10)) _ _ _ (first3 w #[.int .i64 (yv s 10), .int .i64 (mv s 10), .int .i64 (dv s 10)] #[.int .i64 (yv s 10), .int .i64 (mv s 10), .int .i64 (dv s 10)] n 0 (by omega)) (first3 w _ _ n 1 (by omega)) (first3 w _ _ n 2 (by omega))
          exact bodyPost_ret (v := .tuple #[.agg #[.int .i64 (yv s 10), .int .i64 (mv s 10), .int .i64 (dv s 10)], .bool true]) (by simp [results, Ydgm.results20, go_sem, q0, q1, q2]) rfl ⟨ret_v (pres_yes hv).symm, by repeat (first | with_reducible exact kept_refl _ | with_reducible apply kept_alloc | with_reducible apply kept_drewN | with_reducible apply kept_drew | (with_reducible refine kept_setCell ?_ (by simp) _))⟩
end Go.Proofs.Ymbrdg
