/-
  SMALL AIDS for the laws' walks: a world that has at most grown, behind draws; a walk's end.
-/
import Derived.Test.YmbrdgBase
namespace Go.Proofs.Ymbrdg
open Go.RowKit
theorem grown_drewN {W w : World} (h : Grown W w) (n : Nat) : Grown W (w.drewN n) := h
theorem grown_trans {a b c : World} (h : Grown a b) (k : Grown b c) : Grown a c :=
  ⟨World.keptBut_trans h.1 k.1, fun x => (k.2.1 x).trans (h.2.1 x), Nat.le_trans h.2.2 k.2.2⟩
end Go.Proofs.Ymbrdg
