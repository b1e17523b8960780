/-
  No cell of these rows narrows 'for every input' (looked for: loops, veiled, ifaces, maps, wideKeys, modest, calm, conditions, laid).
  DERIVED. THE GIVEN ROWS OF THIS SEAT. 11 by the template 'for every input the law returns true; each argument reads behind the call as it read before'; 0 by the template 'total and deterministic' (their statements: YmbrdiTotals.lean).
  GIVEN WITH THE SEED: the statements are not yours to turn. If you find one false, say at which input.
  Laid BY PROGRAM, IN A SANDBOX (cutbox-rows.mjs): the forced cells as the released guide's own fill.sh prints them over the translation c90a84347982578f… (all of the seat's roots in one cut). By AI agents, Wed Nov 11 2026. No macro, syntax, notation, axiom, sorry.
-/
import Derived.Test.YmbrdiChecked
import GoSem.Claim
import GoSem.ClaimJoined
import GoSem.ClaimMapViews
import Derived.JoinedTies
import Derived.KernelRfl
namespace Go.Proofs.Ymbrdi
/- THE CELL 'sum', in the pinned program and in every row, IS THE sha256 OF THE DUMP (.gsa) THAT YmbrdiProg.lean LOADS. Nothing in Lean hashes anything: it is a label: what it is worth is what the hold of that sum in a sandbox is worth. -/
noncomputable def Ydim.pinned : Pinned := { name := "ymbrdi", sum := "c90a84347982578f1b676d256775663142d12ee75ec4a7bea544fcbfcdda8a88", checked := Ydim.checked }
namespace Rows
def none {H : Type} : Left H := { results := [], args := [] }

/-- 'calendar.LawS930018IExact': WHATEVER THE INPUT: true; the input reads as it did. -/
def lawS930018IExactSpec : ChangeSpec := { name := "lawS930018IExact", fn := fun _ => fun
  | [d] => { results := [.lit (.bool true)], args := [d] }
  | _ => none }
def lawS930018IExactRow : OpenClaim := { program := "ymbrdi", sum := "c90a84347982578f1b676d256775663142d12ee75ec4a7bea544fcbfcdda8a88", func := "example.com/own/calendar.LawS930018IExact", spec := "lawS930018IExact", apart := false }
def LawS930018IExactSaid : Prop := lawS930018IExactRow.holds Ydim.pinned (OpenSpec.ofChange lawS930018IExactSpec)

/-- ITS FALSE NEIGHBOUR: 'it returns false'. Refute it at one input. -/
def lawS930018IExactWrong : ChangeSpec := { name := "lawS930018IExact", fn := fun _ => fun
  | [d] => { results := [.lit (.bool false)], args := [d] }
  | _ => none }
def LawS930018IExactWrongFalsely : Prop := lawS930018IExactRow.holds Ydim.pinned (OpenSpec.ofChange lawS930018IExactWrong)

/-- 'calendar.LawS930018IStep': WHATEVER THE INPUT: true; the input reads as it did. -/
def lawS930018IStepSpec : ChangeSpec := { name := "lawS930018IStep", fn := fun _ => fun
  | [d] => { results := [.lit (.bool true)], args := [d] }
  | _ => none }
def lawS930018IStepRow : OpenClaim := { program := "ymbrdi", sum := "c90a84347982578f1b676d256775663142d12ee75ec4a7bea544fcbfcdda8a88", func := "example.com/own/calendar.LawS930018IStep", spec := "lawS930018IStep", apart := false }
def LawS930018IStepSaid : Prop := lawS930018IStepRow.holds Ydim.pinned (OpenSpec.ofChange lawS930018IStepSpec)

/-- ITS FALSE NEIGHBOUR: 'it returns false'. Refute it at one input. -/
def lawS930018IStepWrong : ChangeSpec := { name := "lawS930018IStep", fn := fun _ => fun
  | [d] => { results := [.lit (.bool false)], args := [d] }
  | _ => none }
def LawS930018IStepWrongFalsely : Prop := lawS930018IStepRow.holds Ydim.pinned (OpenSpec.ofChange lawS930018IStepWrong)

/-- 'calendar.LawS930018IPeriod': WHATEVER THE INPUT: true; the input reads as it did. -/
def lawS930018IPeriodSpec : ChangeSpec := { name := "lawS930018IPeriod", fn := fun _ => fun
  | [d1, d2] => { results := [.lit (.bool true)], args := [d1, d2] }
  | _ => none }
def lawS930018IPeriodRow : OpenClaim := { program := "ymbrdi", sum := "c90a84347982578f1b676d256775663142d12ee75ec4a7bea544fcbfcdda8a88", func := "example.com/own/calendar.LawS930018IPeriod", spec := "lawS930018IPeriod", apart := false }
def LawS930018IPeriodSaid : Prop := lawS930018IPeriodRow.holds Ydim.pinned (OpenSpec.ofChange lawS930018IPeriodSpec)

/-- ITS FALSE NEIGHBOUR: 'it returns false'. Refute it at one input. -/
def lawS930018IPeriodWrong : ChangeSpec := { name := "lawS930018IPeriod", fn := fun _ => fun
  | [d1, d2] => { results := [.lit (.bool false)], args := [d1, d2] }
  | _ => none }
def LawS930018IPeriodWrongFalsely : Prop := lawS930018IPeriodRow.holds Ydim.pinned (OpenSpec.ofChange lawS930018IPeriodWrong)

/-- 'calendar.LawS930018JExact': WHATEVER THE INPUT: true; the input reads as it did. -/
def lawS930018JExactSpec : ChangeSpec := { name := "lawS930018JExact", fn := fun _ => fun
  | [d1, d2, d3] => { results := [.lit (.bool true)], args := [d1, d2, d3] }
  | _ => none }
def lawS930018JExactRow : OpenClaim := { program := "ymbrdi", sum := "c90a84347982578f1b676d256775663142d12ee75ec4a7bea544fcbfcdda8a88", func := "example.com/own/calendar.LawS930018JExact", spec := "lawS930018JExact", apart := false }
def LawS930018JExactSaid : Prop := lawS930018JExactRow.holds Ydim.pinned (OpenSpec.ofChange lawS930018JExactSpec)

/-- ITS FALSE NEIGHBOUR: 'it returns false'. Refute it at one input. -/
def lawS930018JExactWrong : ChangeSpec := { name := "lawS930018JExact", fn := fun _ => fun
  | [d1, d2, d3] => { results := [.lit (.bool false)], args := [d1, d2, d3] }
  | _ => none }
def LawS930018JExactWrongFalsely : Prop := lawS930018JExactRow.holds Ydim.pinned (OpenSpec.ofChange lawS930018JExactWrong)

/-- 'calendar.LawS930018JEdges': WHATEVER THE INPUT: true; the input reads as it did. -/
def lawS930018JEdgesSpec : ChangeSpec := { name := "lawS930018JEdges", fn := fun _ => fun
  | [d1, d2, d3] => { results := [.lit (.bool true)], args := [d1, d2, d3] }
  | _ => none }
def lawS930018JEdgesRow : OpenClaim := { program := "ymbrdi", sum := "c90a84347982578f1b676d256775663142d12ee75ec4a7bea544fcbfcdda8a88", func := "example.com/own/calendar.LawS930018JEdges", spec := "lawS930018JEdges", apart := false }
def LawS930018JEdgesSaid : Prop := lawS930018JEdgesRow.holds Ydim.pinned (OpenSpec.ofChange lawS930018JEdgesSpec)

/-- ITS FALSE NEIGHBOUR: 'it returns false'. Refute it at one input. -/
def lawS930018JEdgesWrong : ChangeSpec := { name := "lawS930018JEdges", fn := fun _ => fun
  | [d1, d2, d3] => { results := [.lit (.bool false)], args := [d1, d2, d3] }
  | _ => none }
def LawS930018JEdgesWrongFalsely : Prop := lawS930018JEdgesRow.holds Ydim.pinned (OpenSpec.ofChange lawS930018JEdgesWrong)

/-- 'calendar.LawS930018JFromDays': WHATEVER THE INPUT: true; the input reads as it did. -/
def lawS930018JFromDaysSpec : ChangeSpec := { name := "lawS930018JFromDays", fn := fun _ => fun
  | [d] => { results := [.lit (.bool true)], args := [d] }
  | _ => none }
def lawS930018JFromDaysRow : OpenClaim := { program := "ymbrdi", sum := "c90a84347982578f1b676d256775663142d12ee75ec4a7bea544fcbfcdda8a88", func := "example.com/own/calendar.LawS930018JFromDays", spec := "lawS930018JFromDays", apart := false }
def LawS930018JFromDaysSaid : Prop := lawS930018JFromDaysRow.holds Ydim.pinned (OpenSpec.ofChange lawS930018JFromDaysSpec)

/-- ITS FALSE NEIGHBOUR: 'it returns false'. Refute it at one input. -/
def lawS930018JFromDaysWrong : ChangeSpec := { name := "lawS930018JFromDays", fn := fun _ => fun
  | [d] => { results := [.lit (.bool false)], args := [d] }
  | _ => none }
def LawS930018JFromDaysWrongFalsely : Prop := lawS930018JFromDaysRow.holds Ydim.pinned (OpenSpec.ofChange lawS930018JFromDaysWrong)

/-- 'calendar.LawS930018KCivil': WHATEVER THE INPUT: true; the input reads as it did. -/
def lawS930018KCivilSpec : ChangeSpec := { name := "lawS930018KCivil", fn := fun _ => fun
  | [d1, d2, d3, d4, d5] => { results := [.lit (.bool true)], args := [d1, d2, d3, d4, d5] }
  | _ => none }
def lawS930018KCivilRow : OpenClaim := { program := "ymbrdi", sum := "c90a84347982578f1b676d256775663142d12ee75ec4a7bea544fcbfcdda8a88", func := "example.com/own/calendar.LawS930018KCivil", spec := "lawS930018KCivil", apart := false }
def LawS930018KCivilSaid : Prop := lawS930018KCivilRow.holds Ydim.pinned (OpenSpec.ofChange lawS930018KCivilSpec)

/-- ITS FALSE NEIGHBOUR: 'it returns false'. Refute it at one input. -/
def lawS930018KCivilWrong : ChangeSpec := { name := "lawS930018KCivil", fn := fun _ => fun
  | [d1, d2, d3, d4, d5] => { results := [.lit (.bool false)], args := [d1, d2, d3, d4, d5] }
  | _ => none }
def LawS930018KCivilWrongFalsely : Prop := lawS930018KCivilRow.holds Ydim.pinned (OpenSpec.ofChange lawS930018KCivilWrong)

/-- 'calendar.LawS930018KDayNumber': WHATEVER THE INPUT: true; the input reads as it did. -/
def lawS930018KDayNumberSpec : ChangeSpec := { name := "lawS930018KDayNumber", fn := fun _ => fun
  | [d1, d2, d3] => { results := [.lit (.bool true)], args := [d1, d2, d3] }
  | _ => none }
def lawS930018KDayNumberRow : OpenClaim := { program := "ymbrdi", sum := "c90a84347982578f1b676d256775663142d12ee75ec4a7bea544fcbfcdda8a88", func := "example.com/own/calendar.LawS930018KDayNumber", spec := "lawS930018KDayNumber", apart := false }
def LawS930018KDayNumberSaid : Prop := lawS930018KDayNumberRow.holds Ydim.pinned (OpenSpec.ofChange lawS930018KDayNumberSpec)

/-- ITS FALSE NEIGHBOUR: 'it returns false'. Refute it at one input. -/
def lawS930018KDayNumberWrong : ChangeSpec := { name := "lawS930018KDayNumber", fn := fun _ => fun
  | [d1, d2, d3] => { results := [.lit (.bool false)], args := [d1, d2, d3] }
  | _ => none }
def LawS930018KDayNumberWrongFalsely : Prop := lawS930018KDayNumberRow.holds Ydim.pinned (OpenSpec.ofChange lawS930018KDayNumberWrong)

/-- 'calendar.LawS930018LExact': WHATEVER THE INPUT: true; the input reads as it did. -/
def lawS930018LExactSpec : ChangeSpec := { name := "lawS930018LExact", fn := fun _ => fun
  | [d1, d2, d3] => { results := [.lit (.bool true)], args := [d1, d2, d3] }
  | _ => none }
def lawS930018LExactRow : OpenClaim := { program := "ymbrdi", sum := "c90a84347982578f1b676d256775663142d12ee75ec4a7bea544fcbfcdda8a88", func := "example.com/own/calendar.LawS930018LExact", spec := "lawS930018LExact", apart := false }
def LawS930018LExactSaid : Prop := lawS930018LExactRow.holds Ydim.pinned (OpenSpec.ofChange lawS930018LExactSpec)

/-- ITS FALSE NEIGHBOUR: 'it returns false'. Refute it at one input. -/
def lawS930018LExactWrong : ChangeSpec := { name := "lawS930018LExact", fn := fun _ => fun
  | [d1, d2, d3] => { results := [.lit (.bool false)], args := [d1, d2, d3] }
  | _ => none }
def LawS930018LExactWrongFalsely : Prop := lawS930018LExactRow.holds Ydim.pinned (OpenSpec.ofChange lawS930018LExactWrong)

/-- 'calendar.LawS930018LStep': WHATEVER THE INPUT: true; the input reads as it did. -/
def lawS930018LStepSpec : ChangeSpec := { name := "lawS930018LStep", fn := fun _ => fun
  | [d1, d2, d3, d4] => { results := [.lit (.bool true)], args := [d1, d2, d3, d4] }
  | _ => none }
def lawS930018LStepRow : OpenClaim := { program := "ymbrdi", sum := "c90a84347982578f1b676d256775663142d12ee75ec4a7bea544fcbfcdda8a88", func := "example.com/own/calendar.LawS930018LStep", spec := "lawS930018LStep", apart := false }
def LawS930018LStepSaid : Prop := lawS930018LStepRow.holds Ydim.pinned (OpenSpec.ofChange lawS930018LStepSpec)

/-- ITS FALSE NEIGHBOUR: 'it returns false'. Refute it at one input. -/
def lawS930018LStepWrong : ChangeSpec := { name := "lawS930018LStep", fn := fun _ => fun
  | [d1, d2, d3, d4] => { results := [.lit (.bool false)], args := [d1, d2, d3, d4] }
  | _ => none }
def LawS930018LStepWrongFalsely : Prop := lawS930018LStepRow.holds Ydim.pinned (OpenSpec.ofChange lawS930018LStepWrong)

/-- 'calendar.LawS930018LRound': WHATEVER THE INPUT: true; the input reads as it did. -/
def lawS930018LRoundSpec : ChangeSpec := { name := "lawS930018LRound", fn := fun _ => fun
  | [d1, d2] => { results := [.lit (.bool true)], args := [d1, d2] }
  | _ => none }
def lawS930018LRoundRow : OpenClaim := { program := "ymbrdi", sum := "c90a84347982578f1b676d256775663142d12ee75ec4a7bea544fcbfcdda8a88", func := "example.com/own/calendar.LawS930018LRound", spec := "lawS930018LRound", apart := false }
def LawS930018LRoundSaid : Prop := lawS930018LRoundRow.holds Ydim.pinned (OpenSpec.ofChange lawS930018LRoundSpec)

/-- ITS FALSE NEIGHBOUR: 'it returns false'. Refute it at one input. -/
def lawS930018LRoundWrong : ChangeSpec := { name := "lawS930018LRound", fn := fun _ => fun
  | [d1, d2] => { results := [.lit (.bool false)], args := [d1, d2] }
  | _ => none }
def LawS930018LRoundWrongFalsely : Prop := lawS930018LRoundRow.holds Ydim.pinned (OpenSpec.ofChange lawS930018LRoundWrong)

end Rows
end Go.Proofs.Ymbrdi
