/-
  Rows of rows of bytes that are handed in; plans of a crash.
-/
import Derived.Test.YtafejnbfgkkjkaaJk
import Derived.Test.YtafejnbfgkkjkaaGL
namespace Go.Proofs.Ytafejnbfgkkjkaa
open Go.ChangeShapes Go.WideShapes Go.ChangeAt Go.RowKit Go.Joins

section
variable {H : Type} {enc : TypeId × Value → H} {W : World} {cs : List Value}
theorem bytes_flat (bs : List UInt8) : bs.flatMap (fun b => [Value.int .u8 (b.toNat : Int)]) = bcells bs := by
  induction bs with
  | nil => rfl
  | cons z zs ih => rw [List.flatMap_cons, ih]; rfl
theorem rdt_bytes (h : Rdt enc Try.prog W 32 cs) : ∃ u bs, cs = [u] ∧ Bs 0 W.heap.size W u bs := by
  obtain ⟨u, bs, e, hR⟩ := h.flat (f := fun b : UInt8 => [Value.int .u8 (b.toNat : Int)]) (sz := 1) Try.underlying32 (by kernel_rfl) (by omega) (fun _ => rfl) (fun cs h => h.u8 Try.underlying5)
  rw [bytes_flat] at hR
  exact ⟨u, bs, e, hR⟩
theorem rdt_rowsB (h : Rdt enc Try.prog W 22 cs) : ∃ u xs, cs = [u] ∧ BRows W u xs := by
  obtain ⟨u, css, xs, e, hR, hx⟩ := h.rows (α := List UInt8) (Φ := fun bs cs => ∃ x, cs = [x] ∧ Bs 0 W.heap.size W x bs) (sz := 1) Try.underlying22 (by kernel_rfl) (by omega) (fun a cs ⟨x, e, _⟩ => by rw [e]; rfl) (fun cs h => by
    obtain ⟨u, bs, e, hB⟩ := rdt_bytes h
    exact ⟨bs, u, e, hB⟩)
  refine ⟨u, xs, e, css, hR, fun i x bs h1 h2 => ?_⟩
  obtain ⟨y, e1, hB⟩ := hx i bs h2
  have h3 : ((css.drop (i * 1)).take 1)[0]? = some x := by rw [List.getElem?_take_of_lt (by omega), List.getElem?_drop]; simpa using h1
  rw [e1] at h3
  cases h3
  exact hB
theorem rdt_kept (h : Rdt enc Try.prog W 37 cs) : ∃ pa pc plan, cs = [.slice pa plan.length pc] ∧ Rd 0 W.heap.size W 2 (.slice pa plan.length pc) plan.length (kcells plan) := by
  obtain ⟨u, plan, e, hR⟩ := h.flat (f := kcellsL) (sz := 2) Try.underlying37 (by kernel_rfl) (by omega) (fun _ => rfl) (fun cs h => by
    have hl := h.len_struct Try.underlying99
    rw [show Try.prog.cellsOf 99 = 2 by kernel_rfl] at hl
    match cs, hl with
    | [c0, c1], _ =>
      have k1 : Try.prog.cellsOf 3 = 1 := by kernel_rfl
      obtain ⟨z0, e0, -⟩ := (show Rdt enc Try.prog W 3 [c0] from h.field Try.underlying99 0 rfl k1).i64 Try.underlying3
      obtain ⟨z1, e1, -⟩ := (show Rdt enc Try.prog W 3 [c1] from h.field Try.underlying99 1 rfl k1).i64 Try.underlying3
      cases e0; cases e1
      exact ⟨(z0, z1), rfl⟩)
  obtain ⟨va, vc, rfl, -, -⟩ := hR.form
  exact ⟨va, vc, plan, e, hR⟩
end

end Go.Proofs.Ytafejnbfgkkjkaa
