/-
  Names, values, writes, records that are handed in.
-/
import Derived.Test.YtidpeojkkfmgeaaGL
import Derived.Test.YtidpeojkkfmgeaaWs
namespace Go.Proofs.Ytidpeojkkfmgeaa
open Go.ChangeShapes Go.WideShapes Go.ChangeAt Go.RowKit Go.Joins

section
variable {H : Type} {enc : TypeId × Value → H} {W : World} {cs : List Value}
theorem rdt_nm (h : Rdt enc Try.prog W 26 cs) : ∃ n : Nm, cs = n.cells.toList := by
  have hl := h.len_struct Try.underlying26
  rw [show Try.prog.cellsOf 26 = 3 by kernel_rfl] at hl
  match cs, hl with
  | [c0, c1, c2], _ =>
    have k1 : Try.prog.cellsOf 3 = 1 := by kernel_rfl
    obtain ⟨z0, e0, -⟩ := (show Rdt enc Try.prog W 3 [c0] from h.field Try.underlying26 0 rfl k1).i64 Try.underlying3
    obtain ⟨z1, e1, -⟩ := (show Rdt enc Try.prog W 3 [c1] from h.field Try.underlying26 1 rfl k1).i64 Try.underlying3
    obtain ⟨z2, e2, -⟩ := (show Rdt enc Try.prog W 3 [c2] from h.field Try.underlying26 2 rfl k1).i64 Try.underlying3
    cases e0; cases e1; cases e2
    exact ⟨⟨z0, z1, z2⟩, rfl⟩
theorem rdt_v8 (h : Rdt enc Try.prog W 33 cs) : ∃ v : V8, cs = v.cellsL := by
  have hl := h.len_array Try.underlying33
  rw [show Try.prog.cellsOf 33 = 8 by kernel_rfl] at hl
  match cs, hl with
  | [c0, c1, c2, c3, c4, c5, c6, c7], _ =>
    have k1 : Try.prog.cellsOf 5 = 1 := by kernel_rfl
    obtain ⟨z0, e0⟩ := (show Rdt enc Try.prog W 5 [c0] from h.elem Try.underlying33 k1 0 (by omega)).u8 Try.underlying5
    obtain ⟨z1, e1⟩ := (show Rdt enc Try.prog W 5 [c1] from h.elem Try.underlying33 k1 1 (by omega)).u8 Try.underlying5
    obtain ⟨z2, e2⟩ := (show Rdt enc Try.prog W 5 [c2] from h.elem Try.underlying33 k1 2 (by omega)).u8 Try.underlying5
    obtain ⟨z3, e3⟩ := (show Rdt enc Try.prog W 5 [c3] from h.elem Try.underlying33 k1 3 (by omega)).u8 Try.underlying5
    obtain ⟨z4, e4⟩ := (show Rdt enc Try.prog W 5 [c4] from h.elem Try.underlying33 k1 4 (by omega)).u8 Try.underlying5
    obtain ⟨z5, e5⟩ := (show Rdt enc Try.prog W 5 [c5] from h.elem Try.underlying33 k1 5 (by omega)).u8 Try.underlying5
    obtain ⟨z6, e6⟩ := (show Rdt enc Try.prog W 5 [c6] from h.elem Try.underlying33 k1 6 (by omega)).u8 Try.underlying5
    obtain ⟨z7, e7⟩ := (show Rdt enc Try.prog W 5 [c7] from h.elem Try.underlying33 k1 7 (by omega)).u8 Try.underlying5
    cases e0; cases e1; cases e2; cases e3; cases e4; cases e5; cases e6; cases e7
    exact ⟨⟨z0, z1, z2, z3, z4, z5, z6, z7⟩, rfl⟩
theorem rdt_wr (h : Rdt enc Try.prog W 80 cs) : ∃ x : Wr, cs = x.cellsL := by
  have hl := h.len_struct Try.underlying80
  rw [show Try.prog.cellsOf 80 = 9 by kernel_rfl] at hl
  match cs, hl with
  | [c0, c1, c2, c3, c4, c5, c6, c7, c8], _ =>
    obtain ⟨z0, e0, -⟩ := (show Rdt enc Try.prog W 3 [c0] from h.field Try.underlying80 0 rfl (k := 1) (by kernel_rfl)).i64 Try.underlying3
    obtain ⟨v, e1⟩ := rdt_v8 (show Rdt enc Try.prog W 33 [c1, c2, c3, c4, c5, c6, c7, c8] from h.field Try.underlying80 1 rfl (k := 8) (by kernel_rfl))
    cases e0
    exact ⟨⟨z0, v⟩, by rw [e1]⟩
theorem rdt_ws {t : TypeId} (h : Rdt enc Try.prog W t cs) (ht : Try.prog.underlying t = some (.slice 80)) : ∃ u x, cs = [u] ∧ Ws 0 W.heap.size W u x :=
  h.flat (f := Wr.cellsL) ht (by kernel_rfl) (by omega) (fun _ => rfl) (fun _ h => rdt_wr h)
theorem rdt_rec (h : Rdt enc Try.prog W 97 cs) : ∃ (r : Rc) (v : Value) (x : List Wr), cs = (r.cells v).toList ∧ Ws 0 W.heap.size W v x ∧ (-128 ≤ r.kind ∧ r.kind ≤ 127) ∧ r.shards ≤ 9223372036854775807 := by
  have hl := h.len_struct Try.underlying97
  rw [show Try.prog.cellsOf 97 = 12 by kernel_rfl] at hl
  match cs, hl with
  | [c0, c1, c2, c3, c4, c5, c6, c7, c8, c9, c10, c11], _ =>
    have k1 : Try.prog.cellsOf 3 = 1 := by kernel_rfl
    obtain ⟨z0, e0, hz0⟩ := (show Rdt enc Try.prog W 31 [c0] from h.field Try.underlying97 0 rfl (k := 1) (by kernel_rfl)).int Try.underlying31
    obtain ⟨n, e1⟩ := rdt_nm (show Rdt enc Try.prog W 26 [c1, c2, c3] from h.field Try.underlying97 1 rfl (k := 3) (by kernel_rfl))
    obtain ⟨y, e4⟩ := (show Rdt enc Try.prog W 4 [c4] from h.field Try.underlying97 2 rfl (k := 1) (by kernel_rfl)).bool Try.underlying4
    obtain ⟨u, x, e5, hw⟩ := rdt_ws (show Rdt enc Try.prog W 34 [c5] from h.field Try.underlying97 3 rfl (k := 1) (by kernel_rfl)) Try.underlying34
    obtain ⟨z6, e6, -⟩ := (show Rdt enc Try.prog W 3 [c6] from h.field Try.underlying97 4 rfl k1).i64 Try.underlying3
    obtain ⟨z7, e7, -⟩ := (show Rdt enc Try.prog W 3 [c7] from h.field Try.underlying97 5 rfl k1).i64 Try.underlying3
    obtain ⟨z8, e8, hz8⟩ := (show Rdt enc Try.prog W 3 [c8] from h.field Try.underlying97 6 rfl k1).i64 Try.underlying3
    have hc := (show Rdt enc Try.prog W 52 [c9, c10] from h.field Try.underlying97 7 rfl (k := 2) (by kernel_rfl))
    obtain ⟨z9, e9, -⟩ := (show Rdt enc Try.prog W 3 [c9] from hc.field Try.underlying52 0 rfl k1).i64 Try.underlying3
    obtain ⟨z10, e10, -⟩ := (show Rdt enc Try.prog W 3 [c10] from hc.field Try.underlying52 1 rfl k1).i64 Try.underlying3
    obtain ⟨z11, e11, -⟩ := (show Rdt enc Try.prog W 3 [c11] from h.field Try.underlying97 8 rfl k1).i64 Try.underlying3
    have e1' : c1 = .int .i64 n.stamp ∧ c2 = .int .i64 n.inc ∧ c3 = .int .i64 n.try_ := by simpa using e1
    obtain ⟨rfl, rfl, rfl⟩ := e1'
    cases e0; cases e4; cases e5; cases e6; cases e7; cases e8; cases e9; cases e10; cases e11
    have m1 : IntKind.i8.min = -128 := rfl
    have m2 : IntKind.i8.max = 127 := rfl
    exact ⟨⟨z0, n, y, z6, z7, z8, z9, z10, z11⟩, c5, x, rfl, hw, by simp only; omega, hz8.2⟩
end

end Go.Proofs.Ytidpeojkkfmgeaa
