/-
  The proof of 'Rows.LawS930018EEverySaid': the walk is taken from the walks' text; the frame is the guide's.
-/
import Derived.Test.YmbrdhRows
import Derived.Test.YmbrdhE
import Derived.WalkKit
import Derived.ProofKit
import Derived.OpenShut
import Derived.ShutString
namespace Go.Proofs.Ymbrdh.lawS930018EEvery
open Go.ChangeShapes Go.WideShapes Go.ChangeAt Go.RowKit
open Go.ChangeMaps (open_string shut_string)
set_option linter.unusedVariables false      -- a walk need not use every 'w<i>' (that an integer argument fits its kind)

theorem own : ownKnob Ydhm.prog.godebug = none := by kernel_rfl

/-! ### The walk: the Go text returns true. -/
theorem walk (a0 : Int) (w0 : (Lit.int .i64 a0).wf = true) (w : World) :
    Calls Ydhm.prog 4 #[.int .i64 a0] w fun e w' => e = .returned (.bool true) ∧ Grown w w' := by
  exact eEvery_any a0 w

/-! ### THE ROW's STEP: WRITTEN OUT: LEAVE IT -/
set_option maxRecDepth 100000 in
theorem lifted (os : Os) (started : os.Started) (H : Type) (enc : TypeId × Value → H) :
    ReturnsInHanded {} Ydhm.checked os 4 .any (Rows.lawS930018EEverySpec.pre6 enc Ydhm.prog Ydhm.f4 Rows.lawS930018EEveryRow.domain false) (Rows.lawS930018EEverySpec.post enc Ydhm.prog Ydhm.f4 false true false false) := by
  refine returnsInHanded_of_change (C := Ydhm.checked) own started (by kernel_rfl) Ydhm.func4
    (ChangeSpec.witness6 (enc := enc) (C := Ydhm.checked) false ⟨#[], #[.int .i64 0], []⟩ 8 (by kernel_rfl) (by kernel_rfl) (by kernel_rfl) (by kernel_rfl)) ?_
  intro W base args ds gs before hval0 hW hcnd _
  have hval : ∀ (j : Nat) t v, Ydhm.f4.params[j]? = some t → args[j]? = some v → Value.okWide Ydhm.prog W .any base t v := hval0
  have hW' := hW
  obtain ⟨p, q, hA0, hV, rfl, hfz, hnd⟩ := hW
  have hA : DataW.TrodAll enc Ydhm.prog W 0 (fun _ => true) true Ydhm.f4.params.toList args.toList ds p := hA0
  rw [Ydhm.params4] at hA hval
  obtain ⟨v0, vs0, d0, ds0, p0, q0, hargs, rfl, rfl, h0, r0⟩ := trodAll_cons hA
  obtain ⟨rfl, rfl, rfl⟩ := trodAll_nil r0
  obtain rfl : args = #[v0] := by cases args; simp_all
  obtain ⟨rfl, rfl⟩ := trodVars_none hV
  obtain ⟨a0, rfl, rfl, rfl, w0⟩ := open_int Ydhm.underlying3 (hval 0 3 v0 rfl rfl) h0
  clear hA0 hval0
  simp only [List.append_nil] at hW'
  refine (walk a0 w0 W).mono fun e W' ⟨he, hg⟩ => ?_
  subst he
  exact ⟨_, rfl, post_of_same (pa := []) (pv := []) hW' (fun _ _ _ => (trodAll_cons_mk (shut_bool Ydhm.underlying4 _) trodAll_mk0)) (fun sp _ => (trodAll_cons_mk (shut_int Ydhm.underlying3 w0) trodAll_mk0)) (fun _ _ => rfl) rfl
    (hg.frame _) hg.2.1 (ok_one (by kernel_rfl) rfl (okWide_bool_mk Ydhm.underlying4 _))⟩

theorem over : Rows.lawS930018EEveryRow.holds Ydhm.pinned (OpenSpec.ofChange Rows.lawS930018EEverySpec) :=
  OpenClaim.holds_of_wide 4 Ydhm.f4 rfl rfl rfl rfl rfl rfl rfl ⟨rfl, rfl, rfl, rfl, rfl⟩ rfl rfl rfl rfl rfl (by kernel_rfl) Ydhm.func4 (by kernel_rfl)
    (of_decide_eq_true (by kernel_rfl)) (by unfold Func.isWrapper; first | (rw [if_pos (by decide +kernel)]; kernel_rfl) | (rw [if_neg (by decide +kernel)]; exact ⟨rfl, rfl⟩))
    (fun os started H enc _ => lifted os started H enc)

/-- ████ THE STATEMENT ████ -/
theorem proved : Rows.LawS930018EEverySaid :=
  over
#print axioms proved
end Go.Proofs.Ymbrdh.lawS930018EEvery
