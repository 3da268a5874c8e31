/- What the package-level table of op holds, as a premise on a world. -/
import Derived.Test.YtciilgcinicdiaaDoorX0
namespace Go.Proofs.YtciilgcinicdiaaDoor.X
open Go.RowKit Go.Proofs.YtciilgcinicdiaaDoorW.PrintWords Go.Proofs.YtciilgcinicdiaaDoorW.PrintLast Go.Proofs.YtciilgcinicdiaaDoorW.PrintMore
set_option linter.unusedVariables false

/-- the operands of each operation: the block in which they lie is the table's. -/
def opShapes : List ByteArray := [⟨#[]⟩, ⟨#[]⟩, ⟨#[97, 107]⟩, ⟨#[97]⟩, ⟨#[97, 98]⟩, ⟨#[97, 98, 99, 114]⟩, ⟨#[116]⟩, ⟨#[98, 116]⟩, ⟨#[98, 116]⟩, ⟨#[97, 67]⟩, ⟨#[97, 98]⟩, ⟨#[97, 98, 67]⟩, ⟨#[97, 98]⟩, ⟨#[97, 98, 99]⟩, ⟨#[97, 98, 99]⟩, ⟨#[97, 98, 70]⟩, ⟨#[98, 99, 70]⟩, ⟨#[97, 70]⟩, ⟨#[99, 70]⟩, ⟨#[97, 77, 118]⟩, ⟨#[97, 77, 118]⟩, ⟨#[97, 77, 118]⟩, ⟨#[98]⟩, ⟨#[]⟩, ⟨#[97, 98, 67]⟩, ⟨#[97, 98, 67]⟩, ⟨#[97]⟩, ⟨#[98]⟩, ⟨#[97, 98]⟩, ⟨#[97, 98]⟩, ⟨#[107]⟩, ⟨#[98]⟩, ⟨#[67]⟩]
theorem opShapes_len : opShapes.length = 33 := by decide
def shapesAt : Nat := 0
def GOk (w : World) : Prop := ∀ i : Nat, i < 33 → w.cell? ⟨shapesAt, i, none⟩ = some (.string (rdOf ByteArray.empty opShapes (i : Int)))
theorem GOk.lt {w : World} (h : GOk w) : shapesAt < w.heap.size := World.block_lt_of_cell? w _ (h 0 (by decide))
theorem GOk.below {w w' : World} (h : GOk w) (hb : Below w.heap.size w w') : GOk w' := fun i hi => (hb.cell (p := ⟨shapesAt, i, none⟩) h.lt).trans (h i hi)
theorem GOk.drewN {w : World} (h : GOk w) (n : Nat) : GOk (w.drewN n) := h
theorem GOk.drew {w : World} (h : GOk w) : GOk w.drew := h
theorem GOk.int {w : World} (h : GOk w) (i : Int) (h0 : 0 ≤ i) (h1 : i < 33) : w.cell? ⟨shapesAt, i.toNat, none⟩ = some (.string (rdOf ByteArray.empty opShapes i)) := by
  have := h i.toNat (by omega)
  rwa [show ((i.toNat : Nat) : Int) = i by omega] at this
end Go.Proofs.YtciilgcinicdiaaDoor.X
