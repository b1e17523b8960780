/-
  The proof of 'Rows.LawS930018JFromDaysSaid': the walk is taken from the walks' text; the frame is the guide's.
-/
import Derived.Test.YmbrdiRows
import Derived.Test.YmbrdiJ2
import Derived.WalkKit
import Derived.ProofKit
import Derived.OpenShut
import Derived.ShutString
namespace Go.Proofs.Ymbrdi.lawS930018JFromDays
open Go.ChangeShapes Go.WideShapes Go.ChangeAt Go.RowKit
open Go.ChangeMaps (open_string shut_string)
set_option linter.unusedVariables false      -- a walk need not use every 'w<i>' (that an integer argument fits its kind)

theorem own : ownKnob Ydim.prog.godebug = none := by kernel_rfl

/-! ### The walk: the Go text returns true. -/
theorem walk (a0 : Int) (w0 : (Lit.int .u32 a0).wf = true) (w : World) :
    Calls Ydim.prog 8 #[.int .u32 a0] w fun e w' => e = .returned (.bool true) ∧ Grown w w' := by
  exact (jFrom_any a0 w (bounds_u32 w0).1 (bounds_u32 w0).2).mono (fun e w' h => ⟨h.1, kept_grown h.2⟩)

/-! ### THE ROW's STEP: WRITTEN OUT: LEAVE IT -/
set_option maxRecDepth 100000 in
theorem lifted (os : Os) (started : os.Started) (H : Type) (enc : TypeId × Value → H) :
    ReturnsInHanded {} Ydim.checked os 8 .any (Rows.lawS930018JFromDaysSpec.pre6 enc Ydim.prog Ydim.f8 Rows.lawS930018JFromDaysRow.domain false) (Rows.lawS930018JFromDaysSpec.post enc Ydim.prog Ydim.f8 false true false false) := by
  refine returnsInHanded_of_change (C := Ydim.checked) own started (by kernel_rfl) Ydim.func8
    (ChangeSpec.witness6 (enc := enc) (C := Ydim.checked) false ⟨#[], #[.int .u32 0], []⟩ 8 (by kernel_rfl) (by kernel_rfl) (by kernel_rfl) (by kernel_rfl)) ?_
  intro W base args ds gs before hval0 hW hcnd _
  have hval : ∀ (j : Nat) t v, Ydim.f8.params[j]? = some t → args[j]? = some v → Value.okWide Ydim.prog W .any base t v := hval0
  have hW' := hW
  obtain ⟨p, q, hA0, hV, rfl, hfz, hnd⟩ := hW
  have hA : DataW.TrodAll enc Ydim.prog W 0 (fun _ => true) true Ydim.f8.params.toList args.toList ds p := hA0
  rw [Ydim.params8] at hA hval
  obtain ⟨v0, vs0, d0, ds0, p0, q0, hargs, rfl, rfl, h0, r0⟩ := trodAll_cons hA
  obtain ⟨rfl, rfl, rfl⟩ := trodAll_nil r0
  obtain rfl : args = #[v0] := by cases args; simp_all
  obtain ⟨rfl, rfl⟩ := trodVars_none hV
  obtain ⟨a0, rfl, rfl, rfl, w0⟩ := open_int Ydim.underlying33 (hval 0 33 v0 rfl rfl) h0
  clear hA0 hval0
  simp only [List.append_nil] at hW'
  refine (walk a0 w0 W).mono fun e W' ⟨he, hg⟩ => ?_
  subst he
  exact ⟨_, rfl, post_of_same (pa := []) (pv := []) hW' (fun _ _ _ => (trodAll_cons_mk (shut_bool Ydim.underlying4 _) trodAll_mk0)) (fun sp _ => (trodAll_cons_mk (shut_int Ydim.underlying33 w0) trodAll_mk0)) (fun _ _ => rfl) rfl
    (hg.frame _) hg.2.1 (ok_one (by kernel_rfl) rfl (okWide_bool_mk Ydim.underlying4 _))⟩

theorem over : Rows.lawS930018JFromDaysRow.holds Ydim.pinned (OpenSpec.ofChange Rows.lawS930018JFromDaysSpec) :=
  OpenClaim.holds_of_wide 8 Ydim.f8 rfl rfl rfl rfl rfl rfl rfl ⟨rfl, rfl, rfl, rfl, rfl⟩ rfl rfl rfl rfl rfl (by kernel_rfl) Ydim.func8 (by kernel_rfl)
    (of_decide_eq_true (by kernel_rfl)) (by unfold Func.isWrapper; first | (rw [if_pos (by decide +kernel)]; kernel_rfl) | (rw [if_neg (by decide +kernel)]; exact ⟨rfl, rfl⟩))
    (fun os started H enc _ => lifted os started H enc)

/-- ████ THE STATEMENT ████ -/
theorem proved : Rows.LawS930018JFromDaysSaid :=
  over
#print axioms proved
end Go.Proofs.Ymbrdi.lawS930018JFromDays
