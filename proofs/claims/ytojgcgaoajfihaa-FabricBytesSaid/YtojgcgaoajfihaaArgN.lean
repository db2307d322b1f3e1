/-
  Messages that are handed in.
-/
import Derived.Test.YtojgcgaoajfihaaArgR
import Derived.Test.YtojgcgaoajfihaaMs
namespace Go.Proofs.Ytojgcgaoajfihaa
open Go.ChangeShapes Go.WideShapes Go.ChangeAt Go.RowKit Go.Joins

section
variable {H : Type} {enc : TypeId × Value → H} {W : World} {cs : List Value}
theorem rdt_msg (h : Rdt enc Try.prog W 42 cs) : ∃ (m : Msg) (v : Value) (x : List Wr), cs = (m.cells v).toList ∧ Ws 0 W.heap.size W v x := by
  have hl := h.len_struct Try.underlying42
  rw [show Try.prog.cellsOf 42 = 24 by kernel_rfl] at hl
  match cs, hl with
  | [c0, c1, c2, c3, c4, c5, c6, c7, c8, c9, c10, c11, c12, c13, c14, c15, c16, c17, c18, c19, c20, c21, c22, c23], _ =>
    have k1 : Try.prog.cellsOf 3 = 1 := by kernel_rfl
    obtain ⟨z0, e0, -⟩ := (show Rdt enc Try.prog W 35 [c0] from h.field Try.underlying42 0 rfl (k := 1) (by kernel_rfl)).int Try.underlying35
    obtain ⟨z1, e1, -⟩ := (show Rdt enc Try.prog W 3 [c1] from h.field Try.underlying42 1 rfl k1).i64 Try.underlying3
    obtain ⟨z2, e2, -⟩ := (show Rdt enc Try.prog W 3 [c2] from h.field Try.underlying42 2 rfl k1).i64 Try.underlying3
    obtain ⟨z3, e3, -⟩ := (show Rdt enc Try.prog W 3 [c3] from h.field Try.underlying42 3 rfl k1).i64 Try.underlying3
    obtain ⟨z4, e4, -⟩ := (show Rdt enc Try.prog W 3 [c4] from h.field Try.underlying42 4 rfl k1).i64 Try.underlying3
    obtain ⟨n, e5⟩ := rdt_nm (show Rdt enc Try.prog W 37 [c5, c6, c7] from h.field Try.underlying42 5 rfl (k := 3) (by kernel_rfl))
    obtain ⟨z8, e8, -⟩ := (show Rdt enc Try.prog W 3 [c8] from h.field Try.underlying42 6 rfl k1).i64 Try.underlying3
    obtain ⟨z9, e9, -⟩ := (show Rdt enc Try.prog W 35 [c9] from h.field Try.underlying42 7 rfl (k := 1) (by kernel_rfl)).int Try.underlying35
    obtain ⟨z10, e10, -⟩ := (show Rdt enc Try.prog W 3 [c10] from h.field Try.underlying42 8 rfl k1).i64 Try.underlying3
    obtain ⟨vv, e11⟩ := rdt_v8 (show Rdt enc Try.prog W 39 [c11, c12, c13, c14, c15, c16, c17, c18] from h.field Try.underlying42 9 rfl (k := 8) (by kernel_rfl))
    obtain ⟨z19, e19, -⟩ := (show Rdt enc Try.prog W 28 [c19] from h.field Try.underlying42 10 rfl (k := 1) (by kernel_rfl)).i64 Try.underlying28
    obtain ⟨y, e20⟩ := (show Rdt enc Try.prog W 4 [c20] from h.field Try.underlying42 11 rfl (k := 1) (by kernel_rfl)).bool Try.underlying4
    obtain ⟨z21, e21, -⟩ := (show Rdt enc Try.prog W 3 [c21] from h.field Try.underlying42 12 rfl k1).i64 Try.underlying3
    obtain ⟨z22, e22, -⟩ := (show Rdt enc Try.prog W 3 [c22] from h.field Try.underlying42 13 rfl k1).i64 Try.underlying3
    obtain ⟨u, x, e23, hw⟩ := rdt_ws (show Rdt enc Try.prog W 40 [c23] from h.field Try.underlying42 14 rfl (k := 1) (by kernel_rfl)) Try.underlying40
    have e5' : c5 = .int .i64 n.stamp ∧ c6 = .int .i64 n.inc ∧ c7 = .int .i64 n.try_ := by simpa using e5
    obtain ⟨rfl, rfl, rfl⟩ := e5'
    cases e11
    cases e0; cases e1; cases e2; cases e3; cases e4; cases e8; cases e9; cases e10; cases e19; cases e20; cases e21; cases e22; cases e23
    exact ⟨⟨z0, z1, z2, z3, z4, n, z8, z9, z10, vv, z19, y, z21, z22⟩, c23, x, rfl, hw⟩
theorem rdt_ms {t : TypeId} (h : Rdt enc Try.prog W t cs) (ht : Try.prog.underlying t = some (.slice 42)) : ∃ u css ms, cs = [u] ∧ MsC css 0 W.heap.size W u ms := by
  obtain ⟨u, css, xs, e, hR, hx⟩ := h.rows (α := Msg × List Wr) (Φ := fun q cs => ∃ lv, cs = (q.1.cells lv).toList ∧ Ws 0 W.heap.size W lv q.2) (sz := 24) ht (by kernel_rfl) (by omega) (fun q cs ⟨lv, e, _⟩ => by rw [e]; rfl) (fun cs h => by
    obtain ⟨m, v, x, e, hw⟩ := rdt_msg h
    exact ⟨(m, x), v, e, hw⟩)
  exact ⟨u, css, xs, e, hR, hx⟩
end

end Go.Proofs.Ytojgcgaoajfihaa
