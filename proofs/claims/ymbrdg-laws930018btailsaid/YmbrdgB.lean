/-
  THE B LAWS' WALKS: the laws' own reading of a written date.
-/
import Derived.Test.YmbrdgP
import Derived.Test.YmbrdgR
import Derived.Test.YmbrdgLen
import Derived.OpenShut
namespace Go.Proofs.Ymbrdg
open Go.RowKit
set_option linter.unusedVariables false
/-- Does the month have such a day? -/
def realB (y m d : Int) : Bool := decide (1 ≤ d ∧ d ≤ Cal.dim y m)
theorem real_t {y m d : Int} (h : 1 ≤ d ∧ d ≤ Cal.dim y m) : realB y m d = true := by unfold realB; simp [h]
theorem real_f {y m d : Int} (h : ¬ (1 ≤ d ∧ d ≤ Cal.dim y m)) : realB y m d = false := by unfold realB; rw [decide_eq_false_iff_not]; exact h
theorem real_of {y m d : Int} (h : realB y m d = true) : 1 ≤ d ∧ d ≤ Cal.dim y m := by unfold realB at h; simpa using h
theorem real_vld {y m d : Int} (y1 : 0 ≤ y) (y2 : y ≤ 9999) : Cal.vldB y m d = realB y m d := by
  unfold Cal.vldB realB; rw [Bool.eq_iff_iff]; simp only [decide_eq_true_iff]; omega
theorem lenTab (y m : Int) (m1 : 1 ≤ m) (m2 : m ≤ 12) (h : ¬ m = 2) : ([Value.int IntKind.i64 0, Value.int IntKind.i64 31, Value.int IntKind.i64 28, Value.int IntKind.i64 31, Value.int IntKind.i64 30, Value.int IntKind.i64 31, Value.int IntKind.i64 30, Value.int IntKind.i64 31, Value.int IntKind.i64 31, Value.int IntKind.i64 30, Value.int IntKind.i64 31, Value.int IntKind.i64 30, Value.int IntKind.i64 31] : List Value)[m.toNat]? = some (Value.int IntKind.i64 (Cal.dim y m)) := by
  rcases Cal.month_cases m m1 m2 with rfl | rfl | rfl | rfl | rfl | rfl | rfl | rfl | rfl | rfl | rfl | rfl
  case inr.inl => exact absurd rfl h
  all_goals simp [Cal.dim]
theorem ret_dec {d L : Int} {b : Bool} (h : decide (d ≤ L) = b) : Ending.returned (.bool (decide (d ≤ L))) = .returned (.bool b) := by rw [h]
set_option maxHeartbeats 2000000 in
theorem breal_any (y m d : Int) (w : World) :
    Calls Ydgm.prog 22 #[.int .i64 y, .int .i64 m, .int .i64 d] w fun e w' => e = .returned (.bool (realB y m d)) ∧ Kept w w' := by
  by_cases c0 : m < 1
  · rw [real_f (by have := Cal.dim_out y m (by omega); omega)]
    go_enter Ydgm.func22, Ydgm.ntmps22
    go_wp2
    go_ret
    exact ⟨rfl, by repeat (first | with_reducible exact kept_refl _ | with_reducible apply kept_alloc | with_reducible apply kept_drewN | with_reducible apply kept_drew | (with_reducible refine kept_setCell ?_ (by simp) _))⟩
  by_cases c1 : 12 < m
  · rw [real_f (by have := Cal.dim_out y m (by omega); omega)]
    go_enter Ydgm.func22, Ydgm.ntmps22
    go_wp2
    go_ret
    exact ⟨rfl, by repeat (first | with_reducible exact kept_refl _ | with_reducible apply kept_alloc | with_reducible apply kept_drewN | with_reducible apply kept_drew | (with_reducible refine kept_setCell ?_ (by simp) _))⟩
  by_cases c2 : d < 1
  · rw [real_f (by omega)]
    go_enter Ydgm.func22, Ydgm.ntmps22
    go_wp2
    go_ret
    exact ⟨rfl, by repeat (first | with_reducible exact kept_refl _ | with_reducible apply kept_alloc | with_reducible apply kept_drewN | with_reducible apply kept_drew | (with_reducible refine kept_setCell ?_ (by simp) _))⟩
  have R : Hid (∀ L, Cal.dim y m = L → decide (d ≤ L) = realB y m d) := by
    intro L hL
    unfold realB
    rw [hL, Bool.eq_iff_iff]; simp only [decide_eq_true_iff]; omega
  by_cases e2 : m = 2
  · subst e2
    rcases dim2_ways y with ⟨t1, hd⟩ | ⟨t1, t2, hd⟩ | ⟨t1, t2, t3, hd⟩ | ⟨t1, t2, t3, hd⟩
    case inr.inr.inr =>
      have t4 : (y.tmod 100 != 0) = true := by simpa using t3
      go_enter Ydgm.func22, Ydgm.ntmps22
      go_wp2
      go_ret
      exact ⟨ret_bool (R.out _ hd), by repeat (first | with_reducible exact kept_refl _ | with_reducible apply kept_alloc | with_reducible apply kept_drewN | with_reducible apply kept_drew | (with_reducible refine kept_setCell ?_ (by simp) _))⟩
    all_goals
      go_enter Ydgm.func22, Ydgm.ntmps22
      go_wp2
      go_ret
      exact ⟨ret_bool (R.out _ hd), by repeat (first | with_reducible exact kept_refl _ | with_reducible apply kept_alloc | with_reducible apply kept_drewN | with_reducible apply kept_drew | (with_reducible refine kept_setCell ?_ (by simp) _))⟩
  · have hT := lenTab y m (by omega) (by omega) e2
    have n2 : (m == 2) = false := by rw [beq_dec]; simp [e2]
    obtain ⟨L, hL⟩ : ∃ L, Cal.dim y m = L := ⟨_, rfl⟩
    rw [hL] at hT
    have RL : Hid (decide (d ≤ L) = realB y m d) := R.out L hL
    clear R hL
    go_enter Ydgm.func22, Ydgm.ntmps22
    go_wp2
    go_ret
    exact ⟨ret_bool RL.out, by repeat (first | with_reducible exact kept_refl _ | with_reducible apply kept_alloc | with_reducible apply kept_drewN | with_reducible apply kept_drew | (with_reducible refine kept_setCell ?_ (by simp) _))⟩
/-! What Parse answers and what the law's own reading answers. -/
abbrev ParseAt (s : ByteArray) (Y M D : Int) (ok : Bool) : Prop := ∀ w, Calls Ydgm.prog 20 #[.string s] w fun e w' => e = .returned (.tuple #[.agg #[.int .i64 Y, .int .i64 M, .int .i64 D], .bool ok]) ∧ Kept w w'
set_option maxHeartbeats 1000000 in
/-- The text is too short or too long. -/
theorem agree_len (s : ByteArray) (w : World) (h : ((s.size : Int) == 10) = false) (hs : s.size ≤ maxLen) (HP : Hid (ParseAt s 0 0 0 false)) :
    Calls Ydgm.prog 23 #[.string s] w fun e w' => e = .returned (.bool true) ∧ Kept w w' := by
  unfold maxLen at hs
  go_enter Ydgm.func23, Ydgm.ntmps23
  go_wp2_with fail
  refine (HP.out _).mono ?_
  rintro e w1 ⟨rfl, hk⟩
  go_wp2
  go_ret
  exact ⟨rfl, kept_alloc (kept_alloc hk _ _) _ _⟩
set_option maxHeartbeats 1000000 in
theorem agree_dash4 (s : ByteArray) (w : World) (hsz : s.size = 10) (h4 : (byt s 4 == 45) = false) (HP : Hid (ParseAt s 0 0 0 false)) :
    Calls Ydgm.prog 23 #[.string s] w fun e w' => e = .returned (.bool true) ∧ Kept w w' := by
  have hB := byt_get s
  go_enter Ydgm.func23, Ydgm.ntmps23
  go_wp2_with fail
  refine (HP.out _).mono ?_
  rintro e w1 ⟨rfl, hk⟩
  go_wp2
  go_ret
  exact ⟨rfl, kept_alloc (kept_alloc hk _ _) _ _⟩
set_option maxHeartbeats 1000000 in
theorem agree_dash7 (s : ByteArray) (w : World) (hsz : s.size = 10) (h4 : byt s 4 = 45) (h7 : (byt s 7 == 45) = false) (HP : Hid (ParseAt s 0 0 0 false)) :
    Calls Ydgm.prog 23 #[.string s] w fun e w' => e = .returned (.bool true) ∧ Kept w w' := by
  have hB := byt_get s
  go_enter Ydgm.func23, Ydgm.ntmps23
  go_wp2_with fail
  refine (HP.out _).mono ?_
  rintro e w1 ⟨rfl, hk⟩
  go_wp2
  go_ret
  exact ⟨rfl, kept_alloc (kept_alloc hk _ _) _ _⟩
set_option maxHeartbeats 1000000 in
theorem agree_year (s : ByteArray) (w : World) (hsz : s.size = 10) (h4 : byt s 4 = 45) (h7 : byt s 7 = 45) (hy : rd s 0 4 = -1) (HP : Hid (ParseAt s 0 0 0 false)) :
    Calls Ydgm.prog 23 #[.string s] w fun e w' => e = .returned (.bool true) ∧ Kept w w' := by
  have hB := byt_get s
  go_enter Ydgm.func23, Ydgm.ntmps23
  go_wp2_with fail
  refine (HP.out _).mono ?_
  rintro e w1 ⟨rfl, hk⟩
  go_wp2_with fail
  refine (bnum_year _ _ hsz).mono ?_
  rintro e w2 ⟨rfl, rfl⟩
  go_wp2_with fail
  refine (bnum_month _ _ hsz).mono ?_
  rintro e w3 ⟨rfl, rfl⟩
  go_wp2_with fail
  refine (bnum_day _ _ hsz).mono ?_
  rintro e w4 ⟨rfl, rfl⟩
  go_wp2
  go_ret
  exact ⟨rfl, kept_alloc (kept_alloc hk _ _) _ _⟩
set_option maxHeartbeats 1000000 in
theorem agree_no (s : ByteArray) (w : World) (hsz : s.size = 10) (h4 : byt s 4 = 45) (h7 : byt s 7 = 45) (hy : 0 ≤ rd s 0 4) (hr : realB (rd s 0 4) (rd s 5 2) (rd s 8 2) = false) (HP : Hid (ParseAt s 0 0 0 false)) :
    Calls Ydgm.prog 23 #[.string s] w fun e w' => e = .returned (.bool true) ∧ Kept w w' := by
  have hB := byt_get s
  go_enter Ydgm.func23, Ydgm.ntmps23
  go_wp2_with fail
  refine (HP.out _).mono ?_
  rintro e w1 ⟨rfl, hk⟩
  go_wp2_with fail
  refine (bnum_year _ _ hsz).mono ?_
  rintro e w2 ⟨rfl, rfl⟩
  go_wp2_with fail
  refine (bnum_month _ _ hsz).mono ?_
  rintro e w3 ⟨rfl, rfl⟩
  go_wp2_with fail
  refine (bnum_day _ _ hsz).mono ?_
  rintro e w4 ⟨rfl, rfl⟩
  go_wp2_with fail
  refine (breal_any _ _ _ _).mono ?_
  rintro e w5 ⟨rfl, hk2⟩
  obtain ⟨hc, hf, hz⟩ := kept_facts hk2
  go_wp2
  go_ret
  exact ⟨rfl, kept_trans (kept_alloc (kept_alloc hk _ _) _ _) hk2⟩
set_option maxHeartbeats 1000000 in
theorem agree_yes (s : ByteArray) (w : World) (hsz : s.size = 10) (h4 : byt s 4 = 45) (h7 : byt s 7 = 45) (hy : 0 ≤ rd s 0 4) (hr : realB (rd s 0 4) (rd s 5 2) (rd s 8 2) = true) (HP : Hid (ParseAt s (rd s 0 4) (rd s 5 2) (rd s 8 2) true)) :
    Calls Ydgm.prog 23 #[.string s] w fun e w' => e = .returned (.bool true) ∧ Kept w w' := by
  have hB := byt_get s
  go_enter Ydgm.func23, Ydgm.ntmps23
  go_wp2_with fail
  refine (HP.out _).mono ?_
  rintro e w1 ⟨rfl, hk⟩
  go_wp2_with fail
  refine (bnum_year _ _ hsz).mono ?_
  rintro e w2 ⟨rfl, rfl⟩
  go_wp2_with fail
  refine (bnum_month _ _ hsz).mono ?_
  rintro e w3 ⟨rfl, rfl⟩
  go_wp2_with fail
  refine (bnum_day _ _ hsz).mono ?_
  rintro e w4 ⟨rfl, rfl⟩
  go_wp2_with fail
  refine (breal_any _ _ _ _).mono ?_
  rintro e w5 ⟨rfl, hk2⟩
  obtain ⟨hc, hf, hz⟩ := kept_facts hk2
  simp at hz
  go_wp2
  go_ret
  exact ⟨rfl, kept_setCell (kept_setCell (kept_setCell (kept_trans (kept_alloc (kept_alloc hk _ _) _ _) hk2) (by simp; have := hk.1.size; omega) _) (by simp; have := hk.1.size; omega) _) (by simp; have := hk.1.size; omega) _⟩

theorem all_good {s : ByteArray} (h4 : byt s 4 = 45) (h7 : byt s 7 = 45) (a : digs s 0 4 = true) (b : digs s 5 2 = true) (c : digs s 8 2 = true) : ∀ k, k < 10 → good s k := by
  intro k hk
  have a0 := digs_at s 0 4 0 (by omega) a
  have a1 := digs_at s 0 4 1 (by omega) a
  have a2 := digs_at s 0 4 2 (by omega) a
  have a3 := digs_at s 0 4 3 (by omega) a
  have b0 := digs_at s 5 2 0 (by omega) b
  have b1 := digs_at s 5 2 1 (by omega) b
  have c0 := digs_at s 8 2 0 (by omega) c
  have c1 := digs_at s 8 2 1 (by omega) c
  unfold good
  have : k = 0 ∨ k = 1 ∨ k = 2 ∨ k = 3 ∨ k = 4 ∨ k = 5 ∨ k = 6 ∨ k = 7 ∨ k = 8 ∨ k = 9 := by omega
  rcases this with rfl | rfl | rfl | rfl | rfl | rfl | rfl | rfl | rfl | rfl <;> simp at * <;> omega
theorem digs_good {s : ByteArray} (h : ∀ k, k < 10 → good s k) : byt s 4 = 45 ∧ byt s 7 = 45 ∧ digs s 0 4 = true ∧ digs s 5 2 = true ∧ digs s 8 2 = true :=
  ⟨good_dash (h 4 (by omega)) (by omega), good_dash (h 7 (by omega)) (by omega),
    digs_of s 0 _ (fun i hi => by rw [Nat.zero_add]; exact good_digit (h i (by omega)) (by omega) (by omega)),
    digs_of s 5 _ (fun i hi => good_digit (h (5 + i) (by omega)) (by omega) (by omega)), digs_of s 8 _ (fun i hi => good_digit (h (8 + i) (by omega)) (by omega) (by omega))⟩
/-- Parse refuses a text that is not made so, or names no day. -/
theorem parse_zero {s : ByteArray} (hsz : s.size = 10) (h : ¬ (byt s 4 = 45 ∧ byt s 7 = 45 ∧ digs s 0 4 = true ∧ digs s 5 2 = true ∧ digs s 8 2 = true ∧ Cal.vldB (yv s 10) (mv s 10) (dv s 10) = true)) : ParseAt s 0 0 0 false := by
  intro w
  obtain ⟨j, hj, G, N⟩ := first_bad s 10 (by omega)
  refine (parse_core s j w hsz hj G N).mono ?_
  rintro e w' ⟨rfl, hk⟩
  refine ⟨?_, hk⟩
  by_cases e : j < 10
  · rw [pres_bad e]
  · obtain rfl : j = 10 := by omega
    cases hv : Cal.vldB (yv s 10) (mv s 10) (dv s 10)
    · rw [pres_no hv]
    · obtain ⟨a, b, c, d, f⟩ := digs_good G
      exact absurd ⟨a, b, c, d, f, hv⟩ h
theorem parse_date {s : ByteArray} (hsz : s.size = 10) (G : ∀ k, k < 10 → good s k) (hv : Cal.vldB (yv s 10) (mv s 10) (dv s 10) = true) : ParseAt s (yv s 10) (mv s 10) (dv s 10) true := by
  intro w
  refine (parse_core s 10 w hsz (by omega) G (fun h => by omega)).mono ?_
  rintro e w' ⟨rfl, hk⟩
  exact ⟨by rw [pres_yes hv], hk⟩
theorem agrees_any (s : ByteArray) (w : World) (hs : s.size ≤ maxLen) :
    Calls Ydgm.prog 23 #[.string s] w fun e w' => e = .returned (.bool true) ∧ Kept w w' := by
  by_cases hsz : s.size = 10
  · by_cases h4 : byt s 4 = 45
    · by_cases h7 : byt s 7 = 45
      · cases ha : digs s 0 4
        · exact agree_year s w hsz h4 h7 (rd_f ha) (parse_zero hsz (by simp [ha]))
        · have ey := rd_t ha
          have by4 := acc_bd s 0 4 (by omega) ha
          simp at by4
          cases hr : realB (rd s 0 4) (rd s 5 2) (rd s 8 2)
          · refine agree_no s w hsz h4 h7 (by omega) hr (parse_zero hsz ?_)
            rintro ⟨_, _, _, hb, hc, hv⟩
            have e1 : yv s 10 = rd s 0 4 := ey.symm
            have e2 : mv s 10 = rd s 5 2 := (rd_t hb).symm
            have e3 : dv s 10 = rd s 8 2 := (rd_t hc).symm
            rw [e1, e2, e3, real_vld (by omega) (by omega), hr] at hv
            cases hv
          · obtain ⟨r1, r2⟩ := real_of hr
            obtain ⟨m1, m2⟩ := Cal.month_of _ _ _ r1 r2
            have hb : digs s 5 2 = true := by
              cases h : digs s 5 2
              · rw [rd_f h] at m1; omega
              · rfl
            have hc : digs s 8 2 = true := by
              cases h : digs s 8 2
              · rw [rd_f h] at r1; omega
              · rfl
            have e1 : yv s 10 = rd s 0 4 := ey.symm
            have e2 : mv s 10 = rd s 5 2 := (rd_t hb).symm
            have e3 : dv s 10 = rd s 8 2 := (rd_t hc).symm
            have P := parse_date hsz (all_good h4 h7 ha hb hc) (by rw [e1, e2, e3, real_vld (by omega) (by omega)]; exact hr)
            rw [e1, e2, e3] at P
            exact agree_yes s w hsz h4 h7 (by omega) hr P
      · exact agree_dash7 s w hsz h4 (by rw [beq_dec]; simpa using h7) (parse_zero hsz (by simp [h7]))
    · exact agree_dash4 s w hsz (by rw [beq_dec]; simpa using h4) (parse_zero hsz (by simp [h4]))
  · have h : ((s.size : Int) == 10) = false := by rw [beq_dec]; simp; omega
    exact agree_len s w h hs (fun w => parse_len s w h hs)
end Go.Proofs.Ymbrdg
