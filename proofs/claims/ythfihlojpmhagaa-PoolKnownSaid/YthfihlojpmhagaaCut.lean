/- A part of a slice, x[a:b], as one equation. Over any program. -/
import Derived.Test.YthfihlojpmhagaaBase
namespace Go.Proofs.Ythfihlojpmhagaa
open Go.RowKit

theorem run_cut {P : Program} {t : TypeId} (ht : P.underlying t = some (.slice (P.elem t))) {sz : Nat} (hs : ∀ W : World, (sizeOf (P.elem t)).run P W = .ok sz W) (g off len cap a b : Nat) (hab : a ≤ b) (hb : b ≤ cap) (hac : a < cap) {x y : Int} (hx : x = a) (hy : y = b) (W : World) :
    (Instr.slice t (.slice (some ⟨g, off, none⟩) len cap) (some (.int .i64 x)) (some (.int .i64 y)) none).run P W = .ok (.slice (some ⟨g, off + a * sz, none⟩) (b - a) (cap - a)) W := by
  subst hx hy
  rw [run_slice_lh (P := P) W t (some ⟨g, off, none⟩) len cap ht .i64 .i64 a b (by omega) (by omega) (by omega), hs]
  have hne : ¬ (cap = a) := by omega
  simp [Result.andThen, sliced, hne, Addr.add]
end Go.Proofs.Ythfihlojpmhagaa
