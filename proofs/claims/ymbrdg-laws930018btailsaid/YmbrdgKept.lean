/-
  'Kept w w'': all that was there is as it was, and no cell's mark has turned. For a callee that makes blocks and writes into those.
-/
import Derived.Test.YmbrdgAid
namespace Go.Proofs.Ymbrdg
open Go.RowKit
def Kept (w w' : World) : Prop := Below w.heap.size w w' ∧ ∀ a, w'.frozen? a = w.frozen? a
theorem kept_refl (w : World) : Kept w w := ⟨Below.refl _ _, fun _ => rfl⟩
theorem kept_trans {a b c : World} (h : Kept a b) (k : Kept b c) : Kept a c :=
  ⟨h.1.trans (k.1.mono h.1.size), fun x => (k.2 x).trans (h.2 x)⟩
theorem kept_alloc {w w' : World} (h : Kept w w') (c : Array Value) (t : TypeId) : Kept w (w'.alloc (.cells c t)) :=
  ⟨h.1.alloc h.1.size _, fun x => (frozen?_alloc_cells _ _ _ x).trans (h.2 x)⟩
theorem kept_setCell {w w' : World} (h : Kept w w') {a : Addr} (ha : w.heap.size ≤ a.block) (v : Value) : Kept w (w'.setCell a v) :=
  ⟨h.1.setCell ha _, fun x => (World.frozen?_setCell _ _ _ _).trans (h.2 x)⟩
theorem kept_drew {w w' : World} (h : Kept w w') : Kept w w'.drew := ⟨h.1.drew, h.2⟩
theorem kept_drewN {w w' : World} (h : Kept w w') (n : Nat) : Kept w (w'.drewN n) := ⟨h.1.trans ⟨rfl, rfl, rfl, Nat.le_refl _, fun _ _ => rfl⟩, h.2⟩
theorem kept_grown {w w' : World} (h : Kept w w') : Grown w w' := ⟨h.1.frame _, h.2, h.1.size⟩
/-- What the walk wants of a world of which only 'Kept' is known. -/
theorem kept_facts {w w' : World} (h : Kept w w') : (∀ b o, b < w.heap.size → w'.cell? ⟨b, o, none⟩ = w.cell? ⟨b, o, none⟩) ∧ (∀ a, w'.frozen? a = w.frozen? a) ∧ w.heap.size ≤ w'.heap.size :=
  ⟨fun b o hb => h.1.cell (p := ⟨b, o, none⟩) hb, h.2, h.1.size⟩
end Go.Proofs.Ymbrdg
