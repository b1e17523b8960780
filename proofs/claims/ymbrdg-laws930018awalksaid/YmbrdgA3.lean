/-
  THE A LAWS' WALKS, MORE: LawS930018AEdge.
-/
import Derived.Test.YmbrdgA2
namespace Go.Proofs.Ymbrdg
open Go.RowKit
set_option linter.unusedVariables false
theorem top_day {o : Int} (h1 : -30 ≤ o) (h2 : o ≤ 0) : Cal.vldB 9999 12 (31 + o) = true ∧ Cal.an 9999 12 (31 + o) = 3798462 + o := by
  have a := (Cal.dim_tab 9999).2.2.2.2.2.2.2.2.2.2.2
  have b : Cal.an 9999 12 (31 + o) = Cal.an 9999 12 31 + o := by unfold Cal.an Cal.num; omega
  exact ⟨Cal.vld_mk (by omega), by rw [b, an_last]⟩
theorem low_day {o : Int} (h1 : 0 ≤ o) (h2 : o ≤ 30) : Cal.vldB 0 1 (1 + o) = true ∧ Cal.an 0 1 (1 + o) = 146038 + o := by
  have a := (Cal.dim_tab 0).1
  have b : Cal.an 0 1 (1 + o) = Cal.an 0 1 1 + o := by unfold Cal.an Cal.num; omega
  exact ⟨Cal.vld_mk (by omega), by rw [b, an_first]⟩

set_option maxHeartbeats 2000000 in
theorem aEdge_top_out (p q r f o y m d : Int) (w : World) (p0 : 0 ≤ p) (p1 : p ≤ 65535) (q0 : 0 ≤ q) (q1 : q ≤ 255) (r0 : 0 ≤ r) (r1 : r ≤ 255) (f0 : -128 ≤ f) (f1 : f ≤ 127) (eo : f.tmod 31 = o) (o1 : -30 ≤ o) (o2 : o ≤ 30) (c : 0 < o)
    (HD : Hid (∀ w, Calls Ydgm.prog 15 #[.int .u16 p, .int .u8 q, .int .u8 r] w fun e w' => e = .returned (.agg #[.int .i64 y, .int .i64 m, .int .i64 d]) ∧ w' = w.alloc (.cells #[.int .i64 y, .int .i64 m, .int .i64 d] 23))) (hv : Cal.vldB y m d = true) :
    Calls Ydgm.prog 5 #[.int .u16 p, .int .u8 q, .int .u8 r, .bool true, .int .i8 f] w fun e w' => e = .returned (.bool true) ∧ Kept w w' := by
  obtain ⟨b1, b2⟩ := an_bd hv
  have e1 := an_first
  have e2 := an_last
  have g1 := Cal.first_day.1
  have g2 := Cal.last_day.1
  have HN : Hid (3798462 - Cal.an y m d + o < -719528 - Cal.num y m d ∨ 2932896 - Cal.num y m d < 3798462 - Cal.an y m d + o) := by show _ ∨ _; unfold Cal.an at *; omega
  go_enter Ydgm.func5, Ydgm.ntmps5
  go_wp2_with (first | (go_at_call 15; refine (HD.out _).mono ?_; rintro e w' ⟨rfl, rfl⟩) | (go_at_call 18; refine (anum_any _ _ _ _ (by first | exact hv | exact g1 | exact g2)).mono ?_; rintro e w' ⟨rfl, rfl⟩))
  refine (add_out _ _ _ _ _ hv HN.out).mono ?_
  rintro e w1 ⟨rfl, hk⟩
  obtain ⟨hc, hf, hz⟩ := kept_facts hk
  simp at hz
  go_wp2
  go_ret
  refine ⟨rfl, ?_⟩
  repeat (first | with_reducible apply kept_alloc | with_reducible apply kept_drewN | with_reducible apply kept_drew)
  exact kept_trans (by repeat (first | with_reducible exact kept_refl _ | with_reducible apply kept_alloc | with_reducible apply kept_drewN | with_reducible apply kept_drew | (with_reducible refine kept_setCell ?_ (by simp) _))) hk

set_option maxHeartbeats 2000000 in
theorem aEdge_top_in (p q r f o y m d : Int) (w : World) (p0 : 0 ≤ p) (p1 : p ≤ 65535) (q0 : 0 ≤ q) (q1 : q ≤ 255) (r0 : 0 ≤ r) (r1 : r ≤ 255) (f0 : -128 ≤ f) (f1 : f ≤ 127) (eo : f.tmod 31 = o) (o1 : -30 ≤ o) (o2 : o ≤ 30) (c : ¬ 0 < o)
    (HD : Hid (∀ w, Calls Ydgm.prog 15 #[.int .u16 p, .int .u8 q, .int .u8 r] w fun e w' => e = .returned (.agg #[.int .i64 y, .int .i64 m, .int .i64 d]) ∧ w' = w.alloc (.cells #[.int .i64 y, .int .i64 m, .int .i64 d] 23))) (hv : Cal.vldB y m d = true) :
    Calls Ydgm.prog 5 #[.int .u16 p, .int .u8 q, .int .u8 r, .bool true, .int .i8 f] w fun e w' => e = .returned (.bool true) ∧ Kept w w' := by
  obtain ⟨b1, b2⟩ := an_bd hv
  have e1 := an_first
  have e2 := an_last
  have g1 := Cal.first_day.1
  have g2 := Cal.last_day.1
  have T := top_day (o := o) (by omega) (by omega)
  have h2 := T.1
  have HN : Hid (Cal.num 9999 12 (31 + o) = Cal.num y m d + (3798462 - Cal.an y m d + o)) := by show _ = _; have := T.2; unfold Cal.an at *; omega
  clear T
  go_enter Ydgm.func5, Ydgm.ntmps5
  go_wp2_with (first | (go_at_call 15; refine (HD.out _).mono ?_; rintro e w' ⟨rfl, rfl⟩) | (go_at_call 18; refine (anum_any _ _ _ _ (by first | exact hv | exact g1 | exact g2)).mono ?_; rintro e w' ⟨rfl, rfl⟩))
  refine (add_yes _ _ _ _ 9999 12 (31 + o) _ hv h2 HN.out).mono ?_
  rintro e w1 ⟨rfl, hk⟩
  obtain ⟨hc, hf, hz⟩ := kept_facts hk
  simp at hz
  go_wp2
  go_ret
  refine ⟨rfl, ?_⟩
  repeat (first | with_reducible apply kept_alloc | with_reducible apply kept_drewN | with_reducible apply kept_drew)
  exact kept_trans (by repeat (first | with_reducible exact kept_refl _ | with_reducible apply kept_alloc | with_reducible apply kept_drewN | with_reducible apply kept_drew | (with_reducible refine kept_setCell ?_ (by simp) _))) hk

set_option maxHeartbeats 2000000 in
theorem aEdge_low_out (p q r f o y m d : Int) (w : World) (p0 : 0 ≤ p) (p1 : p ≤ 65535) (q0 : 0 ≤ q) (q1 : q ≤ 255) (r0 : 0 ≤ r) (r1 : r ≤ 255) (f0 : -128 ≤ f) (f1 : f ≤ 127) (eo : f.tmod 31 = o) (o1 : -30 ≤ o) (o2 : o ≤ 30) (c : o < 0)
    (HD : Hid (∀ w, Calls Ydgm.prog 15 #[.int .u16 p, .int .u8 q, .int .u8 r] w fun e w' => e = .returned (.agg #[.int .i64 y, .int .i64 m, .int .i64 d]) ∧ w' = w.alloc (.cells #[.int .i64 y, .int .i64 m, .int .i64 d] 23))) (hv : Cal.vldB y m d = true) :
    Calls Ydgm.prog 5 #[.int .u16 p, .int .u8 q, .int .u8 r, .bool false, .int .i8 f] w fun e w' => e = .returned (.bool true) ∧ Kept w w' := by
  obtain ⟨b1, b2⟩ := an_bd hv
  have e1 := an_first
  have e2 := an_last
  have g1 := Cal.first_day.1
  have g2 := Cal.last_day.1
  have HN : Hid (146038 - Cal.an y m d + o < -719528 - Cal.num y m d ∨ 2932896 - Cal.num y m d < 146038 - Cal.an y m d + o) := by show _ ∨ _; unfold Cal.an at *; omega
  go_enter Ydgm.func5, Ydgm.ntmps5
  go_wp2_with (first | (go_at_call 15; refine (HD.out _).mono ?_; rintro e w' ⟨rfl, rfl⟩) | (go_at_call 18; refine (anum_any _ _ _ _ (by first | exact hv | exact g1 | exact g2)).mono ?_; rintro e w' ⟨rfl, rfl⟩))
  refine (add_out _ _ _ _ _ hv HN.out).mono ?_
  rintro e w1 ⟨rfl, hk⟩
  obtain ⟨hc, hf, hz⟩ := kept_facts hk
  simp at hz
  go_wp2
  go_ret
  refine ⟨rfl, ?_⟩
  repeat (first | with_reducible apply kept_alloc | with_reducible apply kept_drewN | with_reducible apply kept_drew)
  exact kept_trans (by repeat (first | with_reducible exact kept_refl _ | with_reducible apply kept_alloc | with_reducible apply kept_drewN | with_reducible apply kept_drew | (with_reducible refine kept_setCell ?_ (by simp) _))) hk

set_option maxHeartbeats 2000000 in
theorem aEdge_low_in (p q r f o y m d : Int) (w : World) (p0 : 0 ≤ p) (p1 : p ≤ 65535) (q0 : 0 ≤ q) (q1 : q ≤ 255) (r0 : 0 ≤ r) (r1 : r ≤ 255) (f0 : -128 ≤ f) (f1 : f ≤ 127) (eo : f.tmod 31 = o) (o1 : -30 ≤ o) (o2 : o ≤ 30) (c : ¬ o < 0)
    (HD : Hid (∀ w, Calls Ydgm.prog 15 #[.int .u16 p, .int .u8 q, .int .u8 r] w fun e w' => e = .returned (.agg #[.int .i64 y, .int .i64 m, .int .i64 d]) ∧ w' = w.alloc (.cells #[.int .i64 y, .int .i64 m, .int .i64 d] 23))) (hv : Cal.vldB y m d = true) :
    Calls Ydgm.prog 5 #[.int .u16 p, .int .u8 q, .int .u8 r, .bool false, .int .i8 f] w fun e w' => e = .returned (.bool true) ∧ Kept w w' := by
  obtain ⟨b1, b2⟩ := an_bd hv
  have e1 := an_first
  have e2 := an_last
  have g1 := Cal.first_day.1
  have g2 := Cal.last_day.1
  have T := low_day (o := o) (by omega) (by omega)
  have h2 := T.1
  have HN : Hid (Cal.num 0 1 (1 + o) = Cal.num y m d + (146038 - Cal.an y m d + o)) := by show _ = _; have := T.2; unfold Cal.an at *; omega
  clear T
  go_enter Ydgm.func5, Ydgm.ntmps5
  go_wp2_with (first | (go_at_call 15; refine (HD.out _).mono ?_; rintro e w' ⟨rfl, rfl⟩) | (go_at_call 18; refine (anum_any _ _ _ _ (by first | exact hv | exact g1 | exact g2)).mono ?_; rintro e w' ⟨rfl, rfl⟩))
  refine (add_yes _ _ _ _ 0 1 (1 + o) _ hv h2 HN.out).mono ?_
  rintro e w1 ⟨rfl, hk⟩
  obtain ⟨hc, hf, hz⟩ := kept_facts hk
  simp at hz
  go_wp2
  go_ret
  refine ⟨rfl, ?_⟩
  repeat (first | with_reducible apply kept_alloc | with_reducible apply kept_drewN | with_reducible apply kept_drew)
  exact kept_trans (by repeat (first | with_reducible exact kept_refl _ | with_reducible apply kept_alloc | with_reducible apply kept_drewN | with_reducible apply kept_drew | (with_reducible refine kept_setCell ?_ (by simp) _))) hk

theorem tmod_bd (n k : Int) (h : 0 < k) : -k < n.tmod k ∧ n.tmod k < k := by
  have a := Int.tmod_lt_of_pos n h
  have b := Int.tmod_lt_of_pos (-n) h
  rw [Int.neg_tmod] at b; omega
theorem aEdge_any (t : Bool) (p q r f : Int) (w : World) (p0 : 0 ≤ p) (p1 : p ≤ 65535) (q0 : 0 ≤ q) (q1 : q ≤ 255) (r0 : 0 ≤ r) (r1 : r ≤ 255) (f0 : -128 ≤ f) (f1 : f ≤ 127) :
    Calls Ydgm.prog 5 #[.int .u16 p, .int .u8 q, .int .u8 r, .bool t, .int .i8 f] w fun e w' => e = .returned (.bool true) ∧ Kept w w' := by
  obtain ⟨y, m, d, hv, HD⟩ := adate_any p q r p0 p1 q0 q1 r0 r1
  obtain ⟨o1, o2⟩ := tmod_bd f 31 (by decide)
  cases t
  · by_cases c : f.tmod 31 < 0
    · exact aEdge_low_out p q r f _ y m d w p0 p1 q0 q1 r0 r1 f0 f1 rfl (by omega) (by omega) c HD hv
    · exact aEdge_low_in p q r f _ y m d w p0 p1 q0 q1 r0 r1 f0 f1 rfl (by omega) (by omega) c HD hv
  · by_cases c : 0 < f.tmod 31
    · exact aEdge_top_out p q r f _ y m d w p0 p1 q0 q1 r0 r1 f0 f1 rfl (by omega) (by omega) c HD hv
    · exact aEdge_top_in p q r f _ y m d w p0 p1 q0 q1 r0 r1 f0 f1 rfl (by omega) (by omega) c HD hv
end Go.Proofs.Ymbrdg
