/-
  Moves that are handed in.
-/
import Derived.Test.YtgocjpcmjljeoaaArgR
import Derived.Test.YtgocjpcmjljeoaaMa
namespace Go.Proofs.Ytgocjpcmjljeoaa
open Go.ChangeShapes Go.WideShapes Go.ChangeAt Go.RowKit Go.Joins

section
variable {H : Type} {enc : TypeId × Value → H} {W : World} {cs : List Value}
theorem rdt_vs {t : TypeId} (h : Rdt enc Try.prog W t cs) (ht : Try.prog.underlying t = some (.slice 36)) : ∃ u x, cs = [u] ∧ Vs 0 W.heap.size W u x :=
  h.flat (f := V8.cellsL) ht (by kernel_rfl) (by omega) (fun _ => rfl) (fun _ h => rdt_v8 h)
theorem rdt_mv (h : Rdt enc Try.prog W 31 cs) : ∃ (m : Mv) (v : Value) (x : List V8), cs = (m.cells v).toList ∧ Vs 0 W.heap.size W v x := by
  have hl := h.len_struct Try.underlying31
  rw [show Try.prog.cellsOf 31 = 9 by kernel_rfl] at hl
  match cs, hl with
  | [c0, c1, c2, c3, c4, c5, c6, c7, c8], _ =>
    have k1 : Try.prog.cellsOf 3 = 1 := by kernel_rfl
    obtain ⟨z0, e0, -⟩ := (show Rdt enc Try.prog W 28 [c0] from h.field Try.underlying31 0 rfl (k := 1) (by kernel_rfl)).int Try.underlying28
    obtain ⟨n, e1⟩ := rdt_nm (show Rdt enc Try.prog W 25 [c1, c2, c3] from h.field Try.underlying31 1 rfl (k := 3) (by kernel_rfl))
    have hc := (show Rdt enc Try.prog W 23 [c4, c5] from h.field Try.underlying31 2 rfl (k := 2) (by kernel_rfl))
    obtain ⟨z4, e4, -⟩ := (show Rdt enc Try.prog W 3 [c4] from hc.field Try.underlying23 0 rfl k1).i64 Try.underlying3
    obtain ⟨z5, e5, -⟩ := (show Rdt enc Try.prog W 3 [c5] from hc.field Try.underlying23 1 rfl k1).i64 Try.underlying3
    obtain ⟨z6, e6, -⟩ := (show Rdt enc Try.prog W 3 [c6] from h.field Try.underlying31 3 rfl k1).i64 Try.underlying3
    obtain ⟨z7, e7, -⟩ := (show Rdt enc Try.prog W 3 [c7] from h.field Try.underlying31 4 rfl k1).i64 Try.underlying3
    obtain ⟨u, x, e8, hw⟩ := rdt_vs (show Rdt enc Try.prog W 29 [c8] from h.field Try.underlying31 5 rfl (k := 1) (by kernel_rfl)) Try.underlying29
    have e1' : c1 = .int .i64 n.stamp ∧ c2 = .int .i64 n.inc ∧ c3 = .int .i64 n.try_ := by simpa using e1
    obtain ⟨rfl, rfl, rfl⟩ := e1'
    cases e0; cases e4; cases e5; cases e6; cases e7; cases e8
    exact ⟨⟨z0, n, z4, z5, z6, z7⟩, c8, x, rfl, hw⟩
end

end Go.Proofs.Ytgocjpcmjljeoaa
