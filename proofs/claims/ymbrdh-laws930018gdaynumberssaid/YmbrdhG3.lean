/-
  THE G LAWS' WALKS: LawS930018GDayNumbers.
-/
import Derived.Test.YmbrdhG2
import Derived.Test.YmbrdhFrom
namespace Go.Proofs.Ymbrdh
open Go.RowKit
set_option linter.unusedVariables false
theorem cmp_num {y m d y2 m2 d2 : Int} (h : Cal.vldB y m d = true) (h2 : Cal.vldB y2 m2 d2 = true) : Cal.cmp y m d y2 m2 d2 = Cal.sgn (Cal.num y m d) (Cal.num y2 m2 d2) := by
  rcases cmp_cases y m d y2 m2 d2 with ⟨e, k⟩ | ⟨e, rfl, rfl, rfl⟩ | ⟨e, k⟩
  · rw [e, sgn_lt (Cal.num_lt h h2 k)]
  · rw [e, sgn_eq rfl]
  · rw [e, sgn_gt (Cal.num_lt h2 h k)]
set_option maxHeartbeats 1000000 in
theorem gDays_core (a b p q y m d y2 m2 d2 : Int) (w : World) (ha0 : 0 ≤ a) (ha1 : a ≤ 4294967295) (hb0 : 0 ≤ b) (hb1 : b ≤ 4294967295)
    (ea : a % 3652425 = p) (eb : b % 3652425 = q) (p1 : 0 ≤ p) (p2 : p ≤ 3652424) (q1 : 0 ≤ q) (q2 : q ≤ 3652424)
    (hv : Cal.vldB y m d = true) (hn : Cal.num y m d = -719528 + p) (hv2 : Cal.vldB y2 m2 d2 = true) (hn2 : Cal.num y2 m2 d2 = -719528 + q) :
    Calls Ydhm.prog 11 #[.int .u32 a, .int .u32 b] w fun e w' => e = .returned (.bool true) ∧ Grown w w' := by
  have hc := cmp_num hv hv2
  rw [hn, hn2] at hc
  go_enter Ydhm.func11, Ydhm.ntmps11
  go_wp2_with fail
  refine (from_at _ y m d _ hv hn).mono ?_
  rintro e w' ⟨rfl, rfl⟩
  go_wp2_with fail
  refine (from_at _ y2 m2 d2 _ hv2 hn2).mono ?_
  rintro e w' ⟨rfl, rfl⟩
  go_wp2_with (first | (go_at_call 21; refine (compare_any _ _ _ _ _ _ _).mono ?_; rintro e w' ⟨rfl, rfl⟩) | (go_at_call 20; refine (gsign_any _ _ _).mono ?_; rintro e w' ⟨rfl, rfl⟩))
  go_ret
  exact ⟨rfl, by repeat (first | with_reducible apply Grown.alloc | with_reducible apply grown_drewN | with_reducible apply Grown.drew | with_reducible exact Grown.refl _)⟩
theorem gDays_any (a b : Int) (w : World) (ha0 : 0 ≤ a) (ha1 : a ≤ 4294967295) (hb0 : 0 ≤ b) (hb1 : b ≤ 4294967295) :
    Calls Ydhm.prog 11 #[.int .u32 a, .int .u32 b] w fun e w' => e = .returned (.bool true) ∧ Grown w w' := by
  obtain ⟨y, m, d, hv, hn⟩ := Cal.date_of (-719528 + a % 3652425) (by omega) (by omega)
  obtain ⟨y2, m2, d2, hv2, hn2⟩ := Cal.date_of (-719528 + b % 3652425) (by omega) (by omega)
  exact gDays_core a b _ _ y m d y2 m2 d2 w ha0 ha1 hb0 hb1 rfl rfl (by omega) (by omega) (by omega) (by omega) hv hn hv2 hn2
end Go.Proofs.Ymbrdh
