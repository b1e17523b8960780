/-
  No cell of these rows narrows 'for every input' (looked for: loops, veiled, ifaces, maps, wideKeys, modest, calm, conditions, laid).
  DERIVED. THE GIVEN ROWS OF THIS SEAT. 12 by the template 'for every input the law returns true; each argument reads behind the call as it read before'; 0 by the template 'total and deterministic' (their statements: YmbrdgTotals.lean).
  GIVEN WITH THE SEED: the statements are not yours to turn. If you find one false, say at which input.
  Laid BY PROGRAM, IN A SANDBOX (cutbox-rows.mjs): the forced cells as the released guide's own fill.sh prints them over the translation 05e858bea764eb61… (all of the seat's roots in one cut). By AI agents, Wed Nov 11 2026. No macro, syntax, notation, axiom, sorry.
-/
import Derived.Test.YmbrdgChecked
import GoSem.Claim
import GoSem.ClaimJoined
import GoSem.ClaimMapViews
import Derived.JoinedTies
import Derived.KernelRfl
namespace Go.Proofs.Ymbrdg
/- THE CELL 'sum', in the pinned program and in every row, IS THE sha256 OF THE DUMP (.gsa) THAT YmbrdgProg.lean LOADS. Nothing in Lean hashes anything: it is a label: what it is worth is what the hold of that sum in a sandbox is worth. -/
noncomputable def Ydgm.pinned : Pinned := { name := "ymbrdg", sum := "05e858bea764eb618fbfc2bb20656fcf26fa97d2ccbef22bef7ca8f48fbecbc1", checked := Ydgm.checked }
namespace Rows
def none {H : Type} : Left H := { results := [], args := [] }

/-- 'calendar.LawS930018AExact': WHATEVER THE INPUT: true; the input reads as it did. -/
def lawS930018AExactSpec : ChangeSpec := { name := "lawS930018AExact", fn := fun _ => fun
  | [d1, d2, d3, d4, d5] => { results := [.lit (.bool true)], args := [d1, d2, d3, d4, d5] }
  | _ => none }
def lawS930018AExactRow : OpenClaim := { program := "ymbrdg", sum := "05e858bea764eb618fbfc2bb20656fcf26fa97d2ccbef22bef7ca8f48fbecbc1", func := "example.com/own/calendar.LawS930018AExact", spec := "lawS930018AExact", apart := false }
def LawS930018AExactSaid : Prop := lawS930018AExactRow.holds Ydgm.pinned (OpenSpec.ofChange lawS930018AExactSpec)

/-- ITS FALSE NEIGHBOUR: 'it returns false'. Refute it at one input. -/
def lawS930018AExactWrong : ChangeSpec := { name := "lawS930018AExact", fn := fun _ => fun
  | [d1, d2, d3, d4, d5] => { results := [.lit (.bool false)], args := [d1, d2, d3, d4, d5] }
  | _ => none }
def LawS930018AExactWrongFalsely : Prop := lawS930018AExactRow.holds Ydgm.pinned (OpenSpec.ofChange lawS930018AExactWrong)

/-- 'calendar.LawS930018AWalk': WHATEVER THE INPUT: true; the input reads as it did. -/
def lawS930018AWalkSpec : ChangeSpec := { name := "lawS930018AWalk", fn := fun _ => fun
  | [d1, d2, d3, d4] => { results := [.lit (.bool true)], args := [d1, d2, d3, d4] }
  | _ => none }
def lawS930018AWalkRow : OpenClaim := { program := "ymbrdg", sum := "05e858bea764eb618fbfc2bb20656fcf26fa97d2ccbef22bef7ca8f48fbecbc1", func := "example.com/own/calendar.LawS930018AWalk", spec := "lawS930018AWalk", apart := false }
def LawS930018AWalkSaid : Prop := lawS930018AWalkRow.holds Ydgm.pinned (OpenSpec.ofChange lawS930018AWalkSpec)

/-- ITS FALSE NEIGHBOUR: 'it returns false'. Refute it at one input. -/
def lawS930018AWalkWrong : ChangeSpec := { name := "lawS930018AWalk", fn := fun _ => fun
  | [d1, d2, d3, d4] => { results := [.lit (.bool false)], args := [d1, d2, d3, d4] }
  | _ => none }
def LawS930018AWalkWrongFalsely : Prop := lawS930018AWalkRow.holds Ydgm.pinned (OpenSpec.ofChange lawS930018AWalkWrong)

/-- 'calendar.LawS930018AEdge': WHATEVER THE INPUT: true; the input reads as it did. -/
def lawS930018AEdgeSpec : ChangeSpec := { name := "lawS930018AEdge", fn := fun _ => fun
  | [d1, d2, d3, d4, d5] => { results := [.lit (.bool true)], args := [d1, d2, d3, d4, d5] }
  | _ => none }
def lawS930018AEdgeRow : OpenClaim := { program := "ymbrdg", sum := "05e858bea764eb618fbfc2bb20656fcf26fa97d2ccbef22bef7ca8f48fbecbc1", func := "example.com/own/calendar.LawS930018AEdge", spec := "lawS930018AEdge", apart := false }
def LawS930018AEdgeSaid : Prop := lawS930018AEdgeRow.holds Ydgm.pinned (OpenSpec.ofChange lawS930018AEdgeSpec)

/-- ITS FALSE NEIGHBOUR: 'it returns false'. Refute it at one input. -/
def lawS930018AEdgeWrong : ChangeSpec := { name := "lawS930018AEdge", fn := fun _ => fun
  | [d1, d2, d3, d4, d5] => { results := [.lit (.bool false)], args := [d1, d2, d3, d4, d5] }
  | _ => none }
def LawS930018AEdgeWrongFalsely : Prop := lawS930018AEdgeRow.holds Ydgm.pinned (OpenSpec.ofChange lawS930018AEdgeWrong)

/-- 'calendar.LawS930018BRender': WHATEVER THE INPUT: true; the input reads as it did. -/
def lawS930018BRenderSpec : ChangeSpec := { name := "lawS930018BRender", fn := fun _ => fun
  | [d1, d2, d3] => { results := [.lit (.bool true)], args := [d1, d2, d3] }
  | _ => none }
def lawS930018BRenderRow : OpenClaim := { program := "ymbrdg", sum := "05e858bea764eb618fbfc2bb20656fcf26fa97d2ccbef22bef7ca8f48fbecbc1", func := "example.com/own/calendar.LawS930018BRender", spec := "lawS930018BRender", apart := false }
def LawS930018BRenderSaid : Prop := lawS930018BRenderRow.holds Ydgm.pinned (OpenSpec.ofChange lawS930018BRenderSpec)

/-- ITS FALSE NEIGHBOUR: 'it returns false'. Refute it at one input. -/
def lawS930018BRenderWrong : ChangeSpec := { name := "lawS930018BRender", fn := fun _ => fun
  | [d1, d2, d3] => { results := [.lit (.bool false)], args := [d1, d2, d3] }
  | _ => none }
def LawS930018BRenderWrongFalsely : Prop := lawS930018BRenderRow.holds Ydgm.pinned (OpenSpec.ofChange lawS930018BRenderWrong)

/-- 'calendar.LawS930018BEdit': WHATEVER THE INPUT: true; the input reads as it did. -/
def lawS930018BEditSpec : ChangeSpec := { name := "lawS930018BEdit", fn := fun _ => fun
  | [d1, d2, d3, d4, d5] => { results := [.lit (.bool true)], args := [d1, d2, d3, d4, d5] }
  | _ => none }
def lawS930018BEditRow : OpenClaim := { program := "ymbrdg", sum := "05e858bea764eb618fbfc2bb20656fcf26fa97d2ccbef22bef7ca8f48fbecbc1", func := "example.com/own/calendar.LawS930018BEdit", spec := "lawS930018BEdit", apart := false }
def LawS930018BEditSaid : Prop := lawS930018BEditRow.holds Ydgm.pinned (OpenSpec.ofChange lawS930018BEditSpec)

/-- ITS FALSE NEIGHBOUR: 'it returns false'. Refute it at one input. -/
def lawS930018BEditWrong : ChangeSpec := { name := "lawS930018BEdit", fn := fun _ => fun
  | [d1, d2, d3, d4, d5] => { results := [.lit (.bool false)], args := [d1, d2, d3, d4, d5] }
  | _ => none }
def LawS930018BEditWrongFalsely : Prop := lawS930018BEditRow.holds Ydgm.pinned (OpenSpec.ofChange lawS930018BEditWrong)

/-- 'calendar.LawS930018BTail': WHATEVER THE INPUT: true; the input reads as it did. -/
def lawS930018BTailSpec : ChangeSpec := { name := "lawS930018BTail", fn := fun _ => fun
  | [d1, d2, d3, d4] => { results := [.lit (.bool true)], args := [d1, d2, d3, d4] }
  | _ => none }
def lawS930018BTailRow : OpenClaim := { program := "ymbrdg", sum := "05e858bea764eb618fbfc2bb20656fcf26fa97d2ccbef22bef7ca8f48fbecbc1", func := "example.com/own/calendar.LawS930018BTail", spec := "lawS930018BTail", apart := false }
def LawS930018BTailSaid : Prop := lawS930018BTailRow.holds Ydgm.pinned (OpenSpec.ofChange lawS930018BTailSpec)

/-- ITS FALSE NEIGHBOUR: 'it returns false'. Refute it at one input. -/
def lawS930018BTailWrong : ChangeSpec := { name := "lawS930018BTail", fn := fun _ => fun
  | [d1, d2, d3, d4] => { results := [.lit (.bool false)], args := [d1, d2, d3, d4] }
  | _ => none }
def LawS930018BTailWrongFalsely : Prop := lawS930018BTailRow.holds Ydgm.pinned (OpenSpec.ofChange lawS930018BTailWrong)

/-- 'calendar.LawS930018CDigits': WHATEVER THE INPUT: true; the input reads as it did. -/
def lawS930018CDigitsSpec : ChangeSpec := { name := "lawS930018CDigits", fn := fun _ => fun
  | [d1, d2, d3, d4, d5, d6] => { results := [.lit (.bool true)], args := [d1, d2, d3, d4, d5, d6] }
  | _ => none }
def lawS930018CDigitsRow : OpenClaim := { program := "ymbrdg", sum := "05e858bea764eb618fbfc2bb20656fcf26fa97d2ccbef22bef7ca8f48fbecbc1", func := "example.com/own/calendar.LawS930018CDigits", spec := "lawS930018CDigits", apart := false }
def LawS930018CDigitsSaid : Prop := lawS930018CDigitsRow.holds Ydgm.pinned (OpenSpec.ofChange lawS930018CDigitsSpec)

/-- ITS FALSE NEIGHBOUR: 'it returns false'. Refute it at one input. -/
def lawS930018CDigitsWrong : ChangeSpec := { name := "lawS930018CDigits", fn := fun _ => fun
  | [d1, d2, d3, d4, d5, d6] => { results := [.lit (.bool false)], args := [d1, d2, d3, d4, d5, d6] }
  | _ => none }
def LawS930018CDigitsWrongFalsely : Prop := lawS930018CDigitsRow.holds Ydgm.pinned (OpenSpec.ofChange lawS930018CDigitsWrong)

/-- 'calendar.LawS930018CAnyDate': WHATEVER THE INPUT: true; the input reads as it did. -/
def lawS930018CAnyDateSpec : ChangeSpec := { name := "lawS930018CAnyDate", fn := fun _ => fun
  | [d1, d2, d3] => { results := [.lit (.bool true)], args := [d1, d2, d3] }
  | _ => none }
def lawS930018CAnyDateRow : OpenClaim := { program := "ymbrdg", sum := "05e858bea764eb618fbfc2bb20656fcf26fa97d2ccbef22bef7ca8f48fbecbc1", func := "example.com/own/calendar.LawS930018CAnyDate", spec := "lawS930018CAnyDate", apart := false }
def LawS930018CAnyDateSaid : Prop := lawS930018CAnyDateRow.holds Ydgm.pinned (OpenSpec.ofChange lawS930018CAnyDateSpec)

/-- ITS FALSE NEIGHBOUR: 'it returns false'. Refute it at one input. -/
def lawS930018CAnyDateWrong : ChangeSpec := { name := "lawS930018CAnyDate", fn := fun _ => fun
  | [d1, d2, d3] => { results := [.lit (.bool false)], args := [d1, d2, d3] }
  | _ => none }
def LawS930018CAnyDateWrongFalsely : Prop := lawS930018CAnyDateRow.holds Ydgm.pinned (OpenSpec.ofChange lawS930018CAnyDateWrong)

/-- 'calendar.LawS930018COrder': WHATEVER THE INPUT: true; the input reads as it did. -/
def lawS930018COrderSpec : ChangeSpec := { name := "lawS930018COrder", fn := fun _ => fun
  | [d1, d2, d3, d4, d5, d6] => { results := [.lit (.bool true)], args := [d1, d2, d3, d4, d5, d6] }
  | _ => none }
def lawS930018COrderRow : OpenClaim := { program := "ymbrdg", sum := "05e858bea764eb618fbfc2bb20656fcf26fa97d2ccbef22bef7ca8f48fbecbc1", func := "example.com/own/calendar.LawS930018COrder", spec := "lawS930018COrder", apart := false }
def LawS930018COrderSaid : Prop := lawS930018COrderRow.holds Ydgm.pinned (OpenSpec.ofChange lawS930018COrderSpec)

/-- ITS FALSE NEIGHBOUR: 'it returns false'. Refute it at one input. -/
def lawS930018COrderWrong : ChangeSpec := { name := "lawS930018COrder", fn := fun _ => fun
  | [d1, d2, d3, d4, d5, d6] => { results := [.lit (.bool false)], args := [d1, d2, d3, d4, d5, d6] }
  | _ => none }
def LawS930018COrderWrongFalsely : Prop := lawS930018COrderRow.holds Ydgm.pinned (OpenSpec.ofChange lawS930018COrderWrong)

/-- 'calendar.LawS930018DExact': WHATEVER THE INPUT: true; the input reads as it did. -/
def lawS930018DExactSpec : ChangeSpec := { name := "lawS930018DExact", fn := fun _ => fun
  | [d1, d2, d3] => { results := [.lit (.bool true)], args := [d1, d2, d3] }
  | _ => none }
def lawS930018DExactRow : OpenClaim := { program := "ymbrdg", sum := "05e858bea764eb618fbfc2bb20656fcf26fa97d2ccbef22bef7ca8f48fbecbc1", func := "example.com/own/calendar.LawS930018DExact", spec := "lawS930018DExact", apart := false }
def LawS930018DExactSaid : Prop := lawS930018DExactRow.holds Ydgm.pinned (OpenSpec.ofChange lawS930018DExactSpec)

/-- ITS FALSE NEIGHBOUR: 'it returns false'. Refute it at one input. -/
def lawS930018DExactWrong : ChangeSpec := { name := "lawS930018DExact", fn := fun _ => fun
  | [d1, d2, d3] => { results := [.lit (.bool false)], args := [d1, d2, d3] }
  | _ => none }
def LawS930018DExactWrongFalsely : Prop := lawS930018DExactRow.holds Ydgm.pinned (OpenSpec.ofChange lawS930018DExactWrong)

/-- 'calendar.LawS930018DNear': WHATEVER THE INPUT: true; the input reads as it did. -/
def lawS930018DNearSpec : ChangeSpec := { name := "lawS930018DNear", fn := fun _ => fun
  | [d1, d2, d3] => { results := [.lit (.bool true)], args := [d1, d2, d3] }
  | _ => none }
def lawS930018DNearRow : OpenClaim := { program := "ymbrdg", sum := "05e858bea764eb618fbfc2bb20656fcf26fa97d2ccbef22bef7ca8f48fbecbc1", func := "example.com/own/calendar.LawS930018DNear", spec := "lawS930018DNear", apart := false }
def LawS930018DNearSaid : Prop := lawS930018DNearRow.holds Ydgm.pinned (OpenSpec.ofChange lawS930018DNearSpec)

/-- ITS FALSE NEIGHBOUR: 'it returns false'. Refute it at one input. -/
def lawS930018DNearWrong : ChangeSpec := { name := "lawS930018DNear", fn := fun _ => fun
  | [d1, d2, d3] => { results := [.lit (.bool false)], args := [d1, d2, d3] }
  | _ => none }
def LawS930018DNearWrongFalsely : Prop := lawS930018DNearRow.holds Ydgm.pinned (OpenSpec.ofChange lawS930018DNearWrong)

/-- 'calendar.LawS930018DOrder': WHATEVER THE INPUT: true; the input reads as it did. -/
def lawS930018DOrderSpec : ChangeSpec := { name := "lawS930018DOrder", fn := fun _ => fun
  | [d1, d2, d3, d4, d5] => { results := [.lit (.bool true)], args := [d1, d2, d3, d4, d5] }
  | _ => none }
def lawS930018DOrderRow : OpenClaim := { program := "ymbrdg", sum := "05e858bea764eb618fbfc2bb20656fcf26fa97d2ccbef22bef7ca8f48fbecbc1", func := "example.com/own/calendar.LawS930018DOrder", spec := "lawS930018DOrder", apart := false }
def LawS930018DOrderSaid : Prop := lawS930018DOrderRow.holds Ydgm.pinned (OpenSpec.ofChange lawS930018DOrderSpec)

/-- ITS FALSE NEIGHBOUR: 'it returns false'. Refute it at one input. -/
def lawS930018DOrderWrong : ChangeSpec := { name := "lawS930018DOrder", fn := fun _ => fun
  | [d1, d2, d3, d4, d5] => { results := [.lit (.bool false)], args := [d1, d2, d3, d4, d5] }
  | _ => none }
def LawS930018DOrderWrongFalsely : Prop := lawS930018DOrderRow.holds Ydgm.pinned (OpenSpec.ofChange lawS930018DOrderWrong)

end Rows
end Go.Proofs.Ymbrdg
