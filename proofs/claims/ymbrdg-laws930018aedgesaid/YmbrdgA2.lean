/-
  THE A LAWS' WALKS, MORE: LawS930018AExact.
-/
import Derived.Test.YmbrdgA
namespace Go.Proofs.Ymbrdg
open Go.RowKit
set_option linter.unusedVariables false

set_option maxHeartbeats 2000000 in
theorem aExact_raw_no (y m d n : Int) (w : World) (n1 : -9223372036854775808 ≤ n) (n2 : n ≤ 9223372036854775807)  (hv : Cal.vldB y m d = false) :
    Calls Ydgm.prog 3 #[.bool true, .int .i64 y, .int .i64 m, .int .i64 d, .int .i64 n] w fun e w' => e = .returned (.bool true) ∧ Kept w w' := by
  go_enter Ydgm.func3, Ydgm.ntmps3
  go_wp2_with fail
  refine (add_no _ _ _ _ _ hv).mono ?_
  rintro e w1 ⟨rfl, hk⟩
  obtain ⟨hc, hf, hz⟩ := kept_facts hk
  simp at hz
  have hz' : w.heap.size < w1.heap.size := by omega
  go_wp2_with (go_at_call 17; refine (avalid_any _ _ _ _).mono ?_; rintro e w' ⟨rfl, jj, rfl⟩)
  go_ret
  refine ⟨rfl, ?_⟩
  repeat (first | with_reducible apply kept_alloc | with_reducible apply kept_drewN | with_reducible apply kept_drew)
  exact kept_trans (by repeat (first | with_reducible exact kept_refl _ | with_reducible apply kept_alloc | with_reducible apply kept_drewN | with_reducible apply kept_drew | (with_reducible refine kept_setCell ?_ (by simp) _))) hk

set_option maxHeartbeats 2000000 in
theorem aExact_raw_lo (y m d n : Int) (w : World) (n1 : -9223372036854775808 ≤ n) (n2 : n ≤ 9223372036854775807)  (hv : Cal.vldB y m d = true) (hn : n < 146038 - Cal.an y m d) :
    Calls Ydgm.prog 3 #[.bool true, .int .i64 y, .int .i64 m, .int .i64 d, .int .i64 n] w fun e w' => e = .returned (.bool true) ∧ Kept w w' := by
  obtain ⟨b1, b2⟩ := an_bd hv
  have HN : Hid (n < -719528 - Cal.num y m d ∨ 2932896 - Cal.num y m d < n) := by show _ ∨ _; unfold Cal.an at hn; omega
  have f1 := an_first
  have f2 := an_last
  have g1 := Cal.first_day.1
  have g2 := Cal.last_day.1
  go_enter Ydgm.func3, Ydgm.ntmps3
  go_wp2_with fail
  refine (add_out _ _ _ _ _ hv HN.out).mono ?_
  rintro e w1 ⟨rfl, hk⟩
  obtain ⟨hc, hf, hz⟩ := kept_facts hk
  simp at hz
  have hz' : w.heap.size < w1.heap.size := by omega
  go_wp2_with (first | (go_at_call 17; refine (avalid_any _ _ _ _).mono ?_; rintro e w' ⟨rfl, jj, rfl⟩) | (go_at_call 18; refine (anum_any _ _ _ _ (by first | exact hv | exact g1 | exact g2)).mono ?_; rintro e w' ⟨rfl, rfl⟩))
  go_ret
  refine ⟨rfl, ?_⟩
  repeat (first | with_reducible apply kept_alloc | with_reducible apply kept_drewN | with_reducible apply kept_drew)
  exact kept_trans (by repeat (first | with_reducible exact kept_refl _ | with_reducible apply kept_alloc | with_reducible apply kept_drewN | with_reducible apply kept_drew | (with_reducible refine kept_setCell ?_ (by simp) _))) hk

set_option maxHeartbeats 2000000 in
theorem aExact_raw_hi (y m d n : Int) (w : World) (n1 : -9223372036854775808 ≤ n) (n2 : n ≤ 9223372036854775807)  (hv : Cal.vldB y m d = true) (hn : 3798462 - Cal.an y m d < n) :
    Calls Ydgm.prog 3 #[.bool true, .int .i64 y, .int .i64 m, .int .i64 d, .int .i64 n] w fun e w' => e = .returned (.bool true) ∧ Kept w w' := by
  obtain ⟨b1, b2⟩ := an_bd hv
  have c1 : ¬ n < 146038 - Cal.an y m d := by omega
  have HN : Hid (n < -719528 - Cal.num y m d ∨ 2932896 - Cal.num y m d < n) := by show _ ∨ _; unfold Cal.an at hn; omega
  have f1 := an_first
  have f2 := an_last
  have g1 := Cal.first_day.1
  have g2 := Cal.last_day.1
  go_enter Ydgm.func3, Ydgm.ntmps3
  go_wp2_with fail
  refine (add_out _ _ _ _ _ hv HN.out).mono ?_
  rintro e w1 ⟨rfl, hk⟩
  obtain ⟨hc, hf, hz⟩ := kept_facts hk
  simp at hz
  have hz' : w.heap.size < w1.heap.size := by omega
  go_wp2_with (first | (go_at_call 17; refine (avalid_any _ _ _ _).mono ?_; rintro e w' ⟨rfl, jj, rfl⟩) | (go_at_call 18; refine (anum_any _ _ _ _ (by first | exact hv | exact g1 | exact g2)).mono ?_; rintro e w' ⟨rfl, rfl⟩))
  go_ret
  refine ⟨rfl, ?_⟩
  repeat (first | with_reducible apply kept_alloc | with_reducible apply kept_drewN | with_reducible apply kept_drew)
  exact kept_trans (by repeat (first | with_reducible exact kept_refl _ | with_reducible apply kept_alloc | with_reducible apply kept_drewN | with_reducible apply kept_drew | (with_reducible refine kept_setCell ?_ (by simp) _))) hk

set_option maxHeartbeats 2000000 in
theorem aExact_raw_in (y m d n : Int) (w : World) (n1 : -9223372036854775808 ≤ n) (n2 : n ≤ 9223372036854775807)  (Y M D : Int) (hv : Cal.vldB y m d = true) (h2 : Cal.vldB Y M D = true) (hn : Cal.an Y M D = Cal.an y m d + n) :
    Calls Ydgm.prog 3 #[.bool true, .int .i64 y, .int .i64 m, .int .i64 d, .int .i64 n] w fun e w' => e = .returned (.bool true) ∧ Kept w w' := by
  obtain ⟨b1, b2⟩ := an_bd hv
  obtain ⟨b3, b4⟩ := an_bd h2
  have c1 : ¬ n < 146038 - Cal.an y m d := by omega
  have c2 : ¬ 3798462 - Cal.an y m d < n := by omega
  have HN : Hid (Cal.num Y M D = Cal.num y m d + n) := by show _ = _; unfold Cal.an at hn; omega
  clear b3 b4
  have f1 := an_first
  have f2 := an_last
  have g1 := Cal.first_day.1
  have g2 := Cal.last_day.1
  go_enter Ydgm.func3, Ydgm.ntmps3
  go_wp2_with fail
  refine (add_yes _ _ _ _ Y M D _ hv h2 HN.out).mono ?_
  rintro e w1 ⟨rfl, hk⟩
  obtain ⟨hc, hf, hz⟩ := kept_facts hk
  simp at hz
  have hz' : w.heap.size < w1.heap.size := by omega
  go_wp2_with (first | (go_at_call 17; refine (avalid_any _ _ _ _).mono ?_; rintro e w' ⟨rfl, jj, rfl⟩) | (go_at_call 18; refine (anum_any _ _ _ _ (by first | exact hv | exact g1 | exact g2 | exact h2)).mono ?_; rintro e w' ⟨rfl, rfl⟩))
  go_ret
  refine ⟨rfl, ?_⟩
  repeat (first | with_reducible apply kept_alloc | with_reducible apply kept_drewN | with_reducible apply kept_drew)
  exact kept_trans (by repeat (first | with_reducible exact kept_refl _ | with_reducible apply kept_alloc | with_reducible apply kept_drewN | with_reducible apply kept_drew | (with_reducible refine kept_setCell ?_ (by simp) _))) hk

set_option maxHeartbeats 2000000 in
theorem aExact_own_lo (p q r n A B C y m d : Int) (w : World) (n1 : -9223372036854775808 ≤ n) (n2 : n ≤ 9223372036854775807) (eA : IntKind.u16.wrap p = A) (eB : IntKind.u8.wrap q = B) (eC : IntKind.u8.wrap r = C) (HD : Hid (∀ w, Calls Ydgm.prog 15 #[.int .u16 A, .int .u8 B, .int .u8 C] w fun e w' => e = .returned (.agg #[.int .i64 y, .int .i64 m, .int .i64 d]) ∧ w' = w.alloc (.cells #[.int .i64 y, .int .i64 m, .int .i64 d] 23))) (hv : Cal.vldB y m d = true) (hn : n < 146038 - Cal.an y m d) :
    Calls Ydgm.prog 3 #[.bool false, .int .i64 p, .int .i64 q, .int .i64 r, .int .i64 n] w fun e w' => e = .returned (.bool true) ∧ Kept w w' := by
  obtain ⟨b1, b2⟩ := an_bd hv
  have HN : Hid (n < -719528 - Cal.num y m d ∨ 2932896 - Cal.num y m d < n) := by show _ ∨ _; unfold Cal.an at hn; omega
  have f1 := an_first
  have f2 := an_last
  have g1 := Cal.first_day.1
  have g2 := Cal.last_day.1
  go_enter Ydgm.func3, Ydgm.ntmps3
  go_wp2_with (go_at_call 15; refine (HD.out _).mono ?_; rintro e w' ⟨rfl, rfl⟩)
  refine (add_out _ _ _ _ _ hv HN.out).mono ?_
  rintro e w1 ⟨rfl, hk⟩
  obtain ⟨hc, hf, hz⟩ := kept_facts hk
  simp at hz
  have hz' : w.heap.size < w1.heap.size := by omega
  go_wp2_with (first | (go_at_call 17; refine (avalid_any _ _ _ _).mono ?_; rintro e w' ⟨rfl, jj, rfl⟩) | (go_at_call 18; refine (anum_any _ _ _ _ (by first | exact hv | exact g1 | exact g2)).mono ?_; rintro e w' ⟨rfl, rfl⟩))
  go_ret
  refine ⟨rfl, ?_⟩
  repeat (first | with_reducible apply kept_alloc | with_reducible apply kept_drewN | with_reducible apply kept_drew)
  exact kept_trans (by repeat (first | with_reducible exact kept_refl _ | with_reducible apply kept_alloc | with_reducible apply kept_drewN | with_reducible apply kept_drew | (with_reducible refine kept_setCell ?_ (by simp) _))) hk

set_option maxHeartbeats 2000000 in
theorem aExact_own_hi (p q r n A B C y m d : Int) (w : World) (n1 : -9223372036854775808 ≤ n) (n2 : n ≤ 9223372036854775807) (eA : IntKind.u16.wrap p = A) (eB : IntKind.u8.wrap q = B) (eC : IntKind.u8.wrap r = C) (HD : Hid (∀ w, Calls Ydgm.prog 15 #[.int .u16 A, .int .u8 B, .int .u8 C] w fun e w' => e = .returned (.agg #[.int .i64 y, .int .i64 m, .int .i64 d]) ∧ w' = w.alloc (.cells #[.int .i64 y, .int .i64 m, .int .i64 d] 23))) (hv : Cal.vldB y m d = true) (hn : 3798462 - Cal.an y m d < n) :
    Calls Ydgm.prog 3 #[.bool false, .int .i64 p, .int .i64 q, .int .i64 r, .int .i64 n] w fun e w' => e = .returned (.bool true) ∧ Kept w w' := by
  obtain ⟨b1, b2⟩ := an_bd hv
  have c1 : ¬ n < 146038 - Cal.an y m d := by omega
  have HN : Hid (n < -719528 - Cal.num y m d ∨ 2932896 - Cal.num y m d < n) := by show _ ∨ _; unfold Cal.an at hn; omega
  have f1 := an_first
  have f2 := an_last
  have g1 := Cal.first_day.1
  have g2 := Cal.last_day.1
  go_enter Ydgm.func3, Ydgm.ntmps3
  go_wp2_with (go_at_call 15; refine (HD.out _).mono ?_; rintro e w' ⟨rfl, rfl⟩)
  refine (add_out _ _ _ _ _ hv HN.out).mono ?_
  rintro e w1 ⟨rfl, hk⟩
  obtain ⟨hc, hf, hz⟩ := kept_facts hk
  simp at hz
  have hz' : w.heap.size < w1.heap.size := by omega
  go_wp2_with (first | (go_at_call 17; refine (avalid_any _ _ _ _).mono ?_; rintro e w' ⟨rfl, jj, rfl⟩) | (go_at_call 18; refine (anum_any _ _ _ _ (by first | exact hv | exact g1 | exact g2)).mono ?_; rintro e w' ⟨rfl, rfl⟩))
  go_ret
  refine ⟨rfl, ?_⟩
  repeat (first | with_reducible apply kept_alloc | with_reducible apply kept_drewN | with_reducible apply kept_drew)
  exact kept_trans (by repeat (first | with_reducible exact kept_refl _ | with_reducible apply kept_alloc | with_reducible apply kept_drewN | with_reducible apply kept_drew | (with_reducible refine kept_setCell ?_ (by simp) _))) hk

set_option maxHeartbeats 2000000 in
theorem aExact_own_in (p q r n A B C y m d : Int) (w : World) (n1 : -9223372036854775808 ≤ n) (n2 : n ≤ 9223372036854775807) (eA : IntKind.u16.wrap p = A) (eB : IntKind.u8.wrap q = B) (eC : IntKind.u8.wrap r = C) (HD : Hid (∀ w, Calls Ydgm.prog 15 #[.int .u16 A, .int .u8 B, .int .u8 C] w fun e w' => e = .returned (.agg #[.int .i64 y, .int .i64 m, .int .i64 d]) ∧ w' = w.alloc (.cells #[.int .i64 y, .int .i64 m, .int .i64 d] 23))) (Y M D : Int) (hv : Cal.vldB y m d = true) (h2 : Cal.vldB Y M D = true) (hn : Cal.an Y M D = Cal.an y m d + n) :
    Calls Ydgm.prog 3 #[.bool false, .int .i64 p, .int .i64 q, .int .i64 r, .int .i64 n] w fun e w' => e = .returned (.bool true) ∧ Kept w w' := by
  obtain ⟨b1, b2⟩ := an_bd hv
  obtain ⟨b3, b4⟩ := an_bd h2
  have c1 : ¬ n < 146038 - Cal.an y m d := by omega
  have c2 : ¬ 3798462 - Cal.an y m d < n := by omega
  have HN : Hid (Cal.num Y M D = Cal.num y m d + n) := by show _ = _; unfold Cal.an at hn; omega
  clear b3 b4
  have f1 := an_first
  have f2 := an_last
  have g1 := Cal.first_day.1
  have g2 := Cal.last_day.1
  go_enter Ydgm.func3, Ydgm.ntmps3
  go_wp2_with (go_at_call 15; refine (HD.out _).mono ?_; rintro e w' ⟨rfl, rfl⟩)
  refine (add_yes _ _ _ _ Y M D _ hv h2 HN.out).mono ?_
  rintro e w1 ⟨rfl, hk⟩
  obtain ⟨hc, hf, hz⟩ := kept_facts hk
  simp at hz
  have hz' : w.heap.size < w1.heap.size := by omega
  go_wp2_with (first | (go_at_call 17; refine (avalid_any _ _ _ _).mono ?_; rintro e w' ⟨rfl, jj, rfl⟩) | (go_at_call 18; refine (anum_any _ _ _ _ (by first | exact hv | exact g1 | exact g2 | exact h2)).mono ?_; rintro e w' ⟨rfl, rfl⟩))
  go_ret
  refine ⟨rfl, ?_⟩
  repeat (first | with_reducible apply kept_alloc | with_reducible apply kept_drewN | with_reducible apply kept_drew)
  exact kept_trans (by repeat (first | with_reducible exact kept_refl _ | with_reducible apply kept_alloc | with_reducible apply kept_drewN | with_reducible apply kept_drew | (with_reducible refine kept_setCell ?_ (by simp) _))) hk

theorem wrap16_bd (p : Int) : 0 ≤ IntKind.u16.wrap p ∧ IntKind.u16.wrap p ≤ 65535 := by
  rw [IntKind.wrap_u16]; omega
theorem wrap8_bd (p : Int) : 0 ≤ IntKind.u8.wrap p ∧ IntKind.u8.wrap p ≤ 255 := by
  rw [IntKind.wrap_u8]; omega
theorem an_target {y m d n : Int} (hv : Cal.vldB y m d = true) (c1 : ¬ n < 146038 - Cal.an y m d) (c2 : ¬ 3798462 - Cal.an y m d < n) : ∃ Y M D, Cal.vldB Y M D = true ∧ Cal.an Y M D = Cal.an y m d + n := by
  unfold Cal.an at *
  obtain ⟨Y, M, D, h2, hn⟩ := Cal.date_of (Cal.num y m d + n) (by omega) (by omega)
  exact ⟨Y, M, D, h2, by omega⟩
theorem aExact_any (f : Bool) (p q r n : Int) (w : World) (n1 : -9223372036854775808 ≤ n) (n2 : n ≤ 9223372036854775807) :
    Calls Ydgm.prog 3 #[.bool f, .int .i64 p, .int .i64 q, .int .i64 r, .int .i64 n] w fun e w' => e = .returned (.bool true) ∧ Kept w w' := by
  cases f
  · obtain ⟨y, m, d, hv, HD⟩ := adate_any _ _ _ (wrap16_bd p).1 (wrap16_bd p).2 (wrap8_bd q).1 (wrap8_bd q).2 (wrap8_bd r).1 (wrap8_bd r).2
    by_cases c1 : n < 146038 - Cal.an y m d
    · exact aExact_own_lo p q r n _ _ _ y m d w n1 n2 rfl rfl rfl HD hv c1
    by_cases c2 : 3798462 - Cal.an y m d < n
    · exact aExact_own_hi p q r n _ _ _ y m d w n1 n2 rfl rfl rfl HD hv c2
    · obtain ⟨Y, M, D, h2, hn⟩ := an_target hv c1 c2
      exact aExact_own_in p q r n _ _ _ y m d w n1 n2 rfl rfl rfl HD Y M D hv h2 hn
  · cases hv : Cal.vldB p q r
    · exact aExact_raw_no p q r n w n1 n2 hv
    by_cases c1 : n < 146038 - Cal.an p q r
    · exact aExact_raw_lo p q r n w n1 n2 hv c1
    by_cases c2 : 3798462 - Cal.an p q r < n
    · exact aExact_raw_hi p q r n w n1 n2 hv c2
    · obtain ⟨Y, M, D, h2, hn⟩ := an_target hv c1 c2
      exact aExact_raw_in p q r n w n1 n2 Y M D hv h2 hn
end Go.Proofs.Ymbrdg
