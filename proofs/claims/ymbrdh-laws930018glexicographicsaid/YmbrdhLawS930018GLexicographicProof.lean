/-
  The proof of 'Rows.LawS930018GLexicographicSaid': the walk is taken from the walks' text; the frame is the guide's, with a struct by value among the parameters.
-/
import Derived.Test.YmbrdhRows
import Derived.Test.YmbrdhG2
import Derived.WalkKit
import Derived.ProofKit
import Derived.OpenShut
import Derived.ShutString
import Derived.Lib.SmallJoins
namespace Go.Proofs.Ymbrdh.lawS930018GLexicographic
open Go.ChangeShapes Go.WideShapes Go.ChangeAt Go.RowKit Go.Joins
set_option linter.unusedVariables false

theorem own : ownKnob Ydhm.prog.godebug = none := by kernel_rfl
theorem cellsD : Ydhm.prog.cellsOf 25 = 3 := by kernel_rfl

theorem walk (y0 m0 d0 : Int) (y1 m1 d1 : Int) (a2 : Int) (wy0 : (Lit.int .i64 y0).wf = true) (wm0 : (Lit.int .i64 m0).wf = true) (wd0 : (Lit.int .i64 d0).wf = true) (wy1 : (Lit.int .i64 y1).wf = true) (wm1 : (Lit.int .i64 m1).wf = true) (wd1 : (Lit.int .i64 d1).wf = true) (w2 : (Lit.int .u8 a2).wf = true) (w : World) :
    Calls Ydhm.prog 9 #[.agg #[.int .i64 y0, .int .i64 m0, .int .i64 d0], .agg #[.int .i64 y1, .int .i64 m1, .int .i64 d1], .int .u8 a2] w fun e w' => e = .returned (.bool true) ∧ Grown w w' := by
  exact lex_any y0 m0 d0 y1 m1 d1 a2 w

set_option maxRecDepth 100000 in
theorem lifted (os : Os) (started : os.Started) (H : Type) (enc : TypeId × Value → H) :
    ReturnsInHanded {} Ydhm.checked os 9 .any (Rows.lawS930018GLexicographicSpec.pre6 enc Ydhm.prog Ydhm.f9 Rows.lawS930018GLexicographicRow.domain false) (Rows.lawS930018GLexicographicSpec.post enc Ydhm.prog Ydhm.f9 false true false false) := by
  refine returnsInHanded_of_change (C := Ydhm.checked) own started (by kernel_rfl) Ydhm.func9
    (ChangeSpec.witness6 (enc := enc) (C := Ydhm.checked) false ⟨#[], #[.agg #[.int .i64 0, .int .i64 0, .int .i64 0], .agg #[.int .i64 0, .int .i64 0, .int .i64 0], .int .u8 0], []⟩ 8 (by kernel_rfl) (by kernel_rfl) (by kernel_rfl) (by kernel_rfl)) ?_
  intro W base args ds gs before hval0 hW hcnd _
  have hval : ∀ (j : Nat) t v, Ydhm.f9.params[j]? = some t → args[j]? = some v → Value.okWide Ydhm.prog W .any base t v := hval0
  have hW' := hW
  obtain ⟨p, q, hA0, hV, rfl, hfz, hnd⟩ := hW
  have hA : DataW.TrodAll enc Ydhm.prog W 0 (fun _ => true) true Ydhm.f9.params.toList args.toList ds p := hA0
  rw [Ydhm.params9] at hA hval
  obtain ⟨v0, vs0, e0, ds0, p0, q0, hargs, rfl, rfl, h0, r0⟩ := trodAll_cons hA
  obtain ⟨v1, vs1, e1, ds1, p1, q1, rfl, rfl, rfl, h1, r1⟩ := trodAll_cons r0
  obtain ⟨v2, vs2, e2, ds2, p2, q2, rfl, rfl, rfl, h2, r2⟩ := trodAll_cons r1
  obtain ⟨rfl, rfl, rfl⟩ := trodAll_nil r2
  obtain rfl : args = #[v0, v1, v2] := by cases args; simp_all
  obtain ⟨rfl, rfl⟩ := trodVars_none hV
  obtain ⟨c00, c01, c02, x00, x01, x02, n0, rfl, rfl, rfl, k00, k01, k02⟩ := open_agg3 Ydhm.underlying25 (by kernel_rfl) cellsD (hval 0 25 v0 rfl rfl) h0
  obtain ⟨y0, ey0, rfl, wy0⟩ := DataW.trod_int Ydhm.underlying3 k00
  obtain ⟨m0, em0, rfl, wm0⟩ := DataW.trod_int Ydhm.underlying3 k01
  obtain ⟨d0, ed0, rfl, wd0⟩ := DataW.trod_int Ydhm.underlying3 k02
  simp at ey0 em0 ed0
  subst ey0 em0 ed0
  have reads0 : ∀ (W' : World) (sp : Nat → Bool), DataW.Trod enc Ydhm.prog W' 0 sp true 25 (.agg #[.int .i64 y0, .int .i64 m0, .int .i64 d0]) (.agg [.lit (.int .i64 y0), .lit (.int .i64 m0), .lit (.int .i64 d0)]) [] := fun W' sp =>
    shut_agg3 (y0 := (.lit (.int .i64 y0), [])) (y1 := (.lit (.int .i64 m0), [])) (y2 := (.lit (.int .i64 d0), [])) Ydhm.underlying25 (by kernel_rfl) cellsD ⟨1, by simp [DataW.trod, Ydhm.underlying3, wy0]⟩ ⟨1, by simp [DataW.trod, Ydhm.underlying3, wm0]⟩ ⟨1, by simp [DataW.trod, Ydhm.underlying3, wd0]⟩
  obtain ⟨c10, c11, c12, x10, x11, x12, n1, rfl, rfl, rfl, k10, k11, k12⟩ := open_agg3 Ydhm.underlying25 (by kernel_rfl) cellsD (hval 1 25 v1 rfl rfl) h1
  obtain ⟨y1, ey1, rfl, wy1⟩ := DataW.trod_int Ydhm.underlying3 k10
  obtain ⟨m1, em1, rfl, wm1⟩ := DataW.trod_int Ydhm.underlying3 k11
  obtain ⟨d1, ed1, rfl, wd1⟩ := DataW.trod_int Ydhm.underlying3 k12
  simp at ey1 em1 ed1
  subst ey1 em1 ed1
  have reads1 : ∀ (W' : World) (sp : Nat → Bool), DataW.Trod enc Ydhm.prog W' 0 sp true 25 (.agg #[.int .i64 y1, .int .i64 m1, .int .i64 d1]) (.agg [.lit (.int .i64 y1), .lit (.int .i64 m1), .lit (.int .i64 d1)]) [] := fun W' sp =>
    shut_agg3 (y0 := (.lit (.int .i64 y1), [])) (y1 := (.lit (.int .i64 m1), [])) (y2 := (.lit (.int .i64 d1), [])) Ydhm.underlying25 (by kernel_rfl) cellsD ⟨1, by simp [DataW.trod, Ydhm.underlying3, wy1]⟩ ⟨1, by simp [DataW.trod, Ydhm.underlying3, wm1]⟩ ⟨1, by simp [DataW.trod, Ydhm.underlying3, wd1]⟩
  obtain ⟨a2, rfl, rfl, rfl, w2⟩ := open_int Ydhm.underlying5 (hval 2 5 v2 rfl rfl) h2
  clear hA0 hval0
  simp only [List.append_nil] at hW'
  refine (walk y0 m0 d0 y1 m1 d1 a2 wy0 wm0 wd0 wy1 wm1 wd1 w2 W).mono fun e W' ⟨he, hg⟩ => ?_
  subst he
  exact ⟨_, rfl, post_of_same (pa := []) (pv := []) hW' (fun _ _ _ => (trodAll_cons_mk (shut_bool Ydhm.underlying4 _) trodAll_mk0)) (fun sp _ => (trodAll_cons_mk (reads0 _ sp) (trodAll_cons_mk (reads1 _ sp) (trodAll_cons_mk (shut_int Ydhm.underlying5 w2) trodAll_mk0)))) (fun _ _ => rfl) rfl
    (hg.frame _) hg.2.1 (ok_one (by kernel_rfl) rfl (okWide_bool_mk Ydhm.underlying4 _))⟩

theorem over : Rows.lawS930018GLexicographicRow.holds Ydhm.pinned (OpenSpec.ofChange Rows.lawS930018GLexicographicSpec) :=
  OpenClaim.holds_of_wide 9 Ydhm.f9 rfl rfl rfl rfl rfl rfl rfl ⟨rfl, rfl, rfl, rfl, rfl⟩ rfl rfl rfl rfl rfl (by kernel_rfl) Ydhm.func9 (by kernel_rfl)
    (of_decide_eq_true (by kernel_rfl)) (by unfold Func.isWrapper; first | (rw [if_pos (by decide +kernel)]; kernel_rfl) | (rw [if_neg (by decide +kernel)]; exact ⟨rfl, rfl⟩))
    (fun os started H enc _ => lifted os started H enc)

theorem proved : Rows.LawS930018GLexicographicSaid :=
  over
#print axioms proved
end Go.Proofs.Ymbrdh.lawS930018GLexicographic
