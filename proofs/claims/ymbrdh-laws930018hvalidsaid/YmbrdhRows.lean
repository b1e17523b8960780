/-
  No cell of these rows narrows 'for every input' (looked for: loops, veiled, ifaces, maps, wideKeys, modest, calm, conditions, laid).
  DERIVED. THE GIVEN ROWS OF THIS SEAT. 12 by the template 'for every input the law returns true; each argument reads behind the call as it read before'; 0 by the template 'total and deterministic' (their statements: YmbrdhTotals.lean).
  GIVEN WITH THE SEED: the statements are not yours to turn. If you find one false, say at which input.
  Laid BY PROGRAM, IN A SANDBOX (cutbox-rows.mjs): the forced cells as the released guide's own fill.sh prints them over the translation 246258e59bd7fb0e… (all of the seat's roots in one cut). By AI agents, Wed Nov 11 2026. No macro, syntax, notation, axiom, sorry.
-/
import Derived.Test.YmbrdhChecked
import GoSem.Claim
import GoSem.ClaimJoined
import GoSem.ClaimMapViews
import Derived.JoinedTies
import Derived.KernelRfl
namespace Go.Proofs.Ymbrdh
/- THE CELL 'sum', in the pinned program and in every row, IS THE sha256 OF THE DUMP (.gsa) THAT YmbrdhProg.lean LOADS. Nothing in Lean hashes anything: it is a label: what it is worth is what the hold of that sum in a sandbox is worth. -/
noncomputable def Ydhm.pinned : Pinned := { name := "ymbrdh", sum := "246258e59bd7fb0ed626caae968af5f7d4fdaac350d32237c4568c3b4a92772a", checked := Ydhm.checked }
namespace Rows
def none {H : Type} : Left H := { results := [], args := [] }

/-- 'calendar.LawS930018EDate': WHATEVER THE INPUT: true; the input reads as it did. -/
def lawS930018EDateSpec : ChangeSpec := { name := "lawS930018EDate", fn := fun _ => fun
  | [d1, d2, d3] => { results := [.lit (.bool true)], args := [d1, d2, d3] }
  | _ => none }
def lawS930018EDateRow : OpenClaim := { program := "ymbrdh", sum := "246258e59bd7fb0ed626caae968af5f7d4fdaac350d32237c4568c3b4a92772a", func := "example.com/own/calendar.LawS930018EDate", spec := "lawS930018EDate", apart := false }
def LawS930018EDateSaid : Prop := lawS930018EDateRow.holds Ydhm.pinned (OpenSpec.ofChange lawS930018EDateSpec)

/-- ITS FALSE NEIGHBOUR: 'it returns false'. Refute it at one input. -/
def lawS930018EDateWrong : ChangeSpec := { name := "lawS930018EDate", fn := fun _ => fun
  | [d1, d2, d3] => { results := [.lit (.bool false)], args := [d1, d2, d3] }
  | _ => none }
def LawS930018EDateWrongFalsely : Prop := lawS930018EDateRow.holds Ydhm.pinned (OpenSpec.ofChange lawS930018EDateWrong)

/-- 'calendar.LawS930018EEvery': WHATEVER THE INPUT: true; the input reads as it did. -/
def lawS930018EEverySpec : ChangeSpec := { name := "lawS930018EEvery", fn := fun _ => fun
  | [d] => { results := [.lit (.bool true)], args := [d] }
  | _ => none }
def lawS930018EEveryRow : OpenClaim := { program := "ymbrdh", sum := "246258e59bd7fb0ed626caae968af5f7d4fdaac350d32237c4568c3b4a92772a", func := "example.com/own/calendar.LawS930018EEvery", spec := "lawS930018EEvery", apart := false }
def LawS930018EEverySaid : Prop := lawS930018EEveryRow.holds Ydhm.pinned (OpenSpec.ofChange lawS930018EEverySpec)

/-- ITS FALSE NEIGHBOUR: 'it returns false'. Refute it at one input. -/
def lawS930018EEveryWrong : ChangeSpec := { name := "lawS930018EEvery", fn := fun _ => fun
  | [d] => { results := [.lit (.bool false)], args := [d] }
  | _ => none }
def LawS930018EEveryWrongFalsely : Prop := lawS930018EEveryRow.holds Ydhm.pinned (OpenSpec.ofChange lawS930018EEveryWrong)

/-- 'calendar.LawS930018ENext': WHATEVER THE INPUT: true; the input reads as it did. -/
def lawS930018ENextSpec : ChangeSpec := { name := "lawS930018ENext", fn := fun _ => fun
  | [d] => { results := [.lit (.bool true)], args := [d] }
  | _ => none }
def lawS930018ENextRow : OpenClaim := { program := "ymbrdh", sum := "246258e59bd7fb0ed626caae968af5f7d4fdaac350d32237c4568c3b4a92772a", func := "example.com/own/calendar.LawS930018ENext", spec := "lawS930018ENext", apart := false }
def LawS930018ENextSaid : Prop := lawS930018ENextRow.holds Ydhm.pinned (OpenSpec.ofChange lawS930018ENextSpec)

/-- ITS FALSE NEIGHBOUR: 'it returns false'. Refute it at one input. -/
def lawS930018ENextWrong : ChangeSpec := { name := "lawS930018ENext", fn := fun _ => fun
  | [d] => { results := [.lit (.bool false)], args := [d] }
  | _ => none }
def LawS930018ENextWrongFalsely : Prop := lawS930018ENextRow.holds Ydhm.pinned (OpenSpec.ofChange lawS930018ENextWrong)

/-- 'calendar.LawS930018FTable': WHATEVER THE INPUT: true; the input reads as it did. -/
def lawS930018FTableSpec : ChangeSpec := { name := "lawS930018FTable", fn := fun _ => fun
  | [d1, d2] => { results := [.lit (.bool true)], args := [d1, d2] }
  | _ => none }
def lawS930018FTableRow : OpenClaim := { program := "ymbrdh", sum := "246258e59bd7fb0ed626caae968af5f7d4fdaac350d32237c4568c3b4a92772a", func := "example.com/own/calendar.LawS930018FTable", spec := "lawS930018FTable", apart := false }
def LawS930018FTableSaid : Prop := lawS930018FTableRow.holds Ydhm.pinned (OpenSpec.ofChange lawS930018FTableSpec)

/-- ITS FALSE NEIGHBOUR: 'it returns false'. Refute it at one input. -/
def lawS930018FTableWrong : ChangeSpec := { name := "lawS930018FTable", fn := fun _ => fun
  | [d1, d2] => { results := [.lit (.bool false)], args := [d1, d2] }
  | _ => none }
def LawS930018FTableWrongFalsely : Prop := lawS930018FTableRow.holds Ydhm.pinned (OpenSpec.ofChange lawS930018FTableWrong)

/-- 'calendar.LawS930018FAlternate': WHATEVER THE INPUT: true; the input reads as it did. -/
def lawS930018FAlternateSpec : ChangeSpec := { name := "lawS930018FAlternate", fn := fun _ => fun
  | [d1, d2, d3] => { results := [.lit (.bool true)], args := [d1, d2, d3] }
  | _ => none }
def lawS930018FAlternateRow : OpenClaim := { program := "ymbrdh", sum := "246258e59bd7fb0ed626caae968af5f7d4fdaac350d32237c4568c3b4a92772a", func := "example.com/own/calendar.LawS930018FAlternate", spec := "lawS930018FAlternate", apart := false }
def LawS930018FAlternateSaid : Prop := lawS930018FAlternateRow.holds Ydhm.pinned (OpenSpec.ofChange lawS930018FAlternateSpec)

/-- ITS FALSE NEIGHBOUR: 'it returns false'. Refute it at one input. -/
def lawS930018FAlternateWrong : ChangeSpec := { name := "lawS930018FAlternate", fn := fun _ => fun
  | [d1, d2, d3] => { results := [.lit (.bool false)], args := [d1, d2, d3] }
  | _ => none }
def LawS930018FAlternateWrongFalsely : Prop := lawS930018FAlternateRow.holds Ydhm.pinned (OpenSpec.ofChange lawS930018FAlternateWrong)

/-- 'calendar.LawS930018FYear': WHATEVER THE INPUT: true; the input reads as it did. -/
def lawS930018FYearSpec : ChangeSpec := { name := "lawS930018FYear", fn := fun _ => fun
  | [d1, d2] => { results := [.lit (.bool true)], args := [d1, d2] }
  | _ => none }
def lawS930018FYearRow : OpenClaim := { program := "ymbrdh", sum := "246258e59bd7fb0ed626caae968af5f7d4fdaac350d32237c4568c3b4a92772a", func := "example.com/own/calendar.LawS930018FYear", spec := "lawS930018FYear", apart := false }
def LawS930018FYearSaid : Prop := lawS930018FYearRow.holds Ydhm.pinned (OpenSpec.ofChange lawS930018FYearSpec)

/-- ITS FALSE NEIGHBOUR: 'it returns false'. Refute it at one input. -/
def lawS930018FYearWrong : ChangeSpec := { name := "lawS930018FYear", fn := fun _ => fun
  | [d1, d2] => { results := [.lit (.bool false)], args := [d1, d2] }
  | _ => none }
def LawS930018FYearWrongFalsely : Prop := lawS930018FYearRow.holds Ydhm.pinned (OpenSpec.ofChange lawS930018FYearWrong)

/-- 'calendar.LawS930018GLexicographic': WHATEVER THE INPUT: true; the input reads as it did. -/
def lawS930018GLexicographicSpec : ChangeSpec := { name := "lawS930018GLexicographic", fn := fun _ => fun
  | [d1, d2, d3] => { results := [.lit (.bool true)], args := [d1, d2, d3] }
  | _ => none }
def lawS930018GLexicographicRow : OpenClaim := { program := "ymbrdh", sum := "246258e59bd7fb0ed626caae968af5f7d4fdaac350d32237c4568c3b4a92772a", func := "example.com/own/calendar.LawS930018GLexicographic", spec := "lawS930018GLexicographic", apart := false }
def LawS930018GLexicographicSaid : Prop := lawS930018GLexicographicRow.holds Ydhm.pinned (OpenSpec.ofChange lawS930018GLexicographicSpec)

/-- ITS FALSE NEIGHBOUR: 'it returns false'. Refute it at one input. -/
def lawS930018GLexicographicWrong : ChangeSpec := { name := "lawS930018GLexicographic", fn := fun _ => fun
  | [d1, d2, d3] => { results := [.lit (.bool false)], args := [d1, d2, d3] }
  | _ => none }
def LawS930018GLexicographicWrongFalsely : Prop := lawS930018GLexicographicRow.holds Ydhm.pinned (OpenSpec.ofChange lawS930018GLexicographicWrong)

/-- 'calendar.LawS930018GTotalOrder': WHATEVER THE INPUT: true; the input reads as it did. -/
def lawS930018GTotalOrderSpec : ChangeSpec := { name := "lawS930018GTotalOrder", fn := fun _ => fun
  | [d1, d2, d3] => { results := [.lit (.bool true)], args := [d1, d2, d3] }
  | _ => none }
def lawS930018GTotalOrderRow : OpenClaim := { program := "ymbrdh", sum := "246258e59bd7fb0ed626caae968af5f7d4fdaac350d32237c4568c3b4a92772a", func := "example.com/own/calendar.LawS930018GTotalOrder", spec := "lawS930018GTotalOrder", apart := false }
def LawS930018GTotalOrderSaid : Prop := lawS930018GTotalOrderRow.holds Ydhm.pinned (OpenSpec.ofChange lawS930018GTotalOrderSpec)

/-- ITS FALSE NEIGHBOUR: 'it returns false'. Refute it at one input. -/
def lawS930018GTotalOrderWrong : ChangeSpec := { name := "lawS930018GTotalOrder", fn := fun _ => fun
  | [d1, d2, d3] => { results := [.lit (.bool false)], args := [d1, d2, d3] }
  | _ => none }
def LawS930018GTotalOrderWrongFalsely : Prop := lawS930018GTotalOrderRow.holds Ydhm.pinned (OpenSpec.ofChange lawS930018GTotalOrderWrong)

/-- 'calendar.LawS930018GDayNumbers': WHATEVER THE INPUT: true; the input reads as it did. -/
def lawS930018GDayNumbersSpec : ChangeSpec := { name := "lawS930018GDayNumbers", fn := fun _ => fun
  | [d1, d2] => { results := [.lit (.bool true)], args := [d1, d2] }
  | _ => none }
def lawS930018GDayNumbersRow : OpenClaim := { program := "ymbrdh", sum := "246258e59bd7fb0ed626caae968af5f7d4fdaac350d32237c4568c3b4a92772a", func := "example.com/own/calendar.LawS930018GDayNumbers", spec := "lawS930018GDayNumbers", apart := false }
def LawS930018GDayNumbersSaid : Prop := lawS930018GDayNumbersRow.holds Ydhm.pinned (OpenSpec.ofChange lawS930018GDayNumbersSpec)

/-- ITS FALSE NEIGHBOUR: 'it returns false'. Refute it at one input. -/
def lawS930018GDayNumbersWrong : ChangeSpec := { name := "lawS930018GDayNumbers", fn := fun _ => fun
  | [d1, d2] => { results := [.lit (.bool false)], args := [d1, d2] }
  | _ => none }
def LawS930018GDayNumbersWrongFalsely : Prop := lawS930018GDayNumbersRow.holds Ydhm.pinned (OpenSpec.ofChange lawS930018GDayNumbersWrong)

/-- 'calendar.LawS930018HExact': WHATEVER THE INPUT: true; the input reads as it did. -/
def lawS930018HExactSpec : ChangeSpec := { name := "lawS930018HExact", fn := fun _ => fun
  | [d1, d2, d3, d4] => { results := [.lit (.bool true)], args := [d1, d2, d3, d4] }
  | _ => none }
def lawS930018HExactRow : OpenClaim := { program := "ymbrdh", sum := "246258e59bd7fb0ed626caae968af5f7d4fdaac350d32237c4568c3b4a92772a", func := "example.com/own/calendar.LawS930018HExact", spec := "lawS930018HExact", apart := false }
def LawS930018HExactSaid : Prop := lawS930018HExactRow.holds Ydhm.pinned (OpenSpec.ofChange lawS930018HExactSpec)

/-- ITS FALSE NEIGHBOUR: 'it returns false'. Refute it at one input. -/
def lawS930018HExactWrong : ChangeSpec := { name := "lawS930018HExact", fn := fun _ => fun
  | [d1, d2, d3, d4] => { results := [.lit (.bool false)], args := [d1, d2, d3, d4] }
  | _ => none }
def LawS930018HExactWrongFalsely : Prop := lawS930018HExactRow.holds Ydhm.pinned (OpenSpec.ofChange lawS930018HExactWrong)

/-- 'calendar.LawS930018HValid': WHATEVER THE INPUT: true; the input reads as it did. -/
def lawS930018HValidSpec : ChangeSpec := { name := "lawS930018HValid", fn := fun _ => fun
  | [d1, d2, d3, d4, d5] => { results := [.lit (.bool true)], args := [d1, d2, d3, d4, d5] }
  | _ => none }
def lawS930018HValidRow : OpenClaim := { program := "ymbrdh", sum := "246258e59bd7fb0ed626caae968af5f7d4fdaac350d32237c4568c3b4a92772a", func := "example.com/own/calendar.LawS930018HValid", spec := "lawS930018HValid", apart := false }
def LawS930018HValidSaid : Prop := lawS930018HValidRow.holds Ydhm.pinned (OpenSpec.ofChange lawS930018HValidSpec)

/-- ITS FALSE NEIGHBOUR: 'it returns false'. Refute it at one input. -/
def lawS930018HValidWrong : ChangeSpec := { name := "lawS930018HValid", fn := fun _ => fun
  | [d1, d2, d3, d4, d5] => { results := [.lit (.bool false)], args := [d1, d2, d3, d4, d5] }
  | _ => none }
def LawS930018HValidWrongFalsely : Prop := lawS930018HValidRow.holds Ydhm.pinned (OpenSpec.ofChange lawS930018HValidWrong)

/-- 'calendar.LawS930018HThereAndBack': WHATEVER THE INPUT: true; the input reads as it did. -/
def lawS930018HThereAndBackSpec : ChangeSpec := { name := "lawS930018HThereAndBack", fn := fun _ => fun
  | [d1, d2, d3, d4, d5] => { results := [.lit (.bool true)], args := [d1, d2, d3, d4, d5] }
  | _ => none }
def lawS930018HThereAndBackRow : OpenClaim := { program := "ymbrdh", sum := "246258e59bd7fb0ed626caae968af5f7d4fdaac350d32237c4568c3b4a92772a", func := "example.com/own/calendar.LawS930018HThereAndBack", spec := "lawS930018HThereAndBack", apart := false }
def LawS930018HThereAndBackSaid : Prop := lawS930018HThereAndBackRow.holds Ydhm.pinned (OpenSpec.ofChange lawS930018HThereAndBackSpec)

/-- ITS FALSE NEIGHBOUR: 'it returns false'. Refute it at one input. -/
def lawS930018HThereAndBackWrong : ChangeSpec := { name := "lawS930018HThereAndBack", fn := fun _ => fun
  | [d1, d2, d3, d4, d5] => { results := [.lit (.bool false)], args := [d1, d2, d3, d4, d5] }
  | _ => none }
def LawS930018HThereAndBackWrongFalsely : Prop := lawS930018HThereAndBackRow.holds Ydhm.pinned (OpenSpec.ofChange lawS930018HThereAndBackWrong)

end Rows
end Go.Proofs.Ymbrdh
