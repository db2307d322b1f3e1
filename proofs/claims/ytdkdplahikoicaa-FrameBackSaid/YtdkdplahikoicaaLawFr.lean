/-
  A frame that is handed in.
-/
import Derived.Test.YtdkdplahikoicaaLawC
import Derived.Test.YtdkdplahikoicaaFrA
namespace Go.Proofs.Ytdkdplahikoicaa
open Go.ChangeShapes Go.WideShapes Go.ChangeAt Go.RowKit Go.Joins

theorem list6 {α : Type} {l : List α} (h : l.length = 6) : ∃ a b c d e f, l = [a, b, c, d, e, f] := by
  match l, h with
  | [a, b, c, d, e, f], _ => exact ⟨a, b, c, d, e, f, rfl⟩

theorem arg_frame {H : Type} {enc : TypeId × Value → H} {W : World} {base : Nat} {v : Value} {d : DataW H} {ps : List MemPlace} (hv : Value.okWide Try.prog W .any base 33 v) (h : DataW.Trod enc Try.prog W 0 (fun _ => true) true 33 v d ps) :
    ∃ (f : Fr) (fv : Value) (fl : List UInt8), v = .agg (f.cells fv).toArray ∧ Bs 0 W.heap.size W fv fl := by
  obtain ⟨cs, n, rfl, hl, hf⟩ := arg_struct Try.underlying33 hv h
  rw [show Try.prog.cellsOf 33 = 6 by kernel_rfl] at hl
  obtain ⟨c0, c1, c2, c3, c4, c5, rfl⟩ := list6 hl
  have e1 : Try.prog.cellsOf 3 = 1 := by kernel_rfl
  have e2 : Try.prog.cellsOf 28 = 1 := by kernel_rfl
  have e3 : Try.prog.cellsOf 22 = 1 := by kernel_rfl
  have h0 : ∃ x, DataW.trod enc Try.prog W 0 (fun _ => true) true n 3 (([c0, c1, c2, c3, c4, c5].drop 0).take (Try.prog.cellsOf 3)) = some x := hf 0 _ rfl
  have h1 : ∃ x, DataW.trod enc Try.prog W 0 (fun _ => true) true n 3 (([c0, c1, c2, c3, c4, c5].drop 1).take (Try.prog.cellsOf 3)) = some x := hf 1 _ rfl
  have h2 : ∃ x, DataW.trod enc Try.prog W 0 (fun _ => true) true n 3 (([c0, c1, c2, c3, c4, c5].drop 2).take (Try.prog.cellsOf 3)) = some x := hf 2 _ rfl
  have h3 : ∃ x, DataW.trod enc Try.prog W 0 (fun _ => true) true n 3 (([c0, c1, c2, c3, c4, c5].drop 3).take (Try.prog.cellsOf 3)) = some x := hf 3 _ rfl
  have h4 : ∃ x, DataW.trod enc Try.prog W 0 (fun _ => true) true n 28 (([c0, c1, c2, c3, c4, c5].drop 4).take (Try.prog.cellsOf 28)) = some x := hf 4 _ rfl
  have h5 : ∃ x, DataW.trod enc Try.prog W 0 (fun _ => true) true n 22 (([c0, c1, c2, c3, c4, c5].drop 5).take (Try.prog.cellsOf 22)) = some x := hf 5 _ rfl
  rw [e1] at h0 h1 h2 h3
  rw [e2] at h4
  rw [e3] at h5
  obtain ⟨z0, rfl, -, -⟩ := field_int (c := c0) Try.underlying3 h0
  obtain ⟨z1, rfl, -, -⟩ := field_int (c := c1) Try.underlying3 h1
  obtain ⟨z2, rfl, -, -⟩ := field_int (c := c2) Try.underlying3 h2
  obtain ⟨z3, rfl, -, -⟩ := field_int (c := c3) Try.underlying3 h3
  obtain ⟨z4, rfl⟩ := field_u32 (c := c4) Try.underlying28 h4
  obtain ⟨bs, hb⟩ := field_bytes (c := c5) Try.underlying22 Try.underlying5 (by kernel_rfl) h5
  exact ⟨⟨z0, z1, z2, z3, z4⟩, c5, bs, rfl, hb⟩

end Go.Proofs.Ytdkdplahikoicaa
