/-
  Machines that are handed in.
-/
import Derived.Test.YtidpeojkkfmgeaaArgR
import Derived.Test.YtidpeojkkfmgeaaCo
namespace Go.Proofs.Ytidpeojkkfmgeaa
open Go.ChangeShapes Go.WideShapes Go.ChangeAt Go.RowKit Go.Joins

section
variable {H : Type} {enc : TypeId × Value → H} {W : World} {cs : List Value}
theorem rdt_dr (h : Rdt enc Try.prog W 59 cs) : ∃ (d : Dr) (v : Value) (x : List Wr), cs = (d.cells v).toList ∧ Ws 0 W.heap.size W v x ∧ d.shards ≤ 9223372036854775807 ∧ (-9223372036854775808 ≤ d.yes ∧ d.yes ≤ 9223372036854775807) ∧ (-9223372036854775808 ≤ d.acks ∧ d.acks ≤ 9223372036854775807) := by
  have hl := h.len_struct Try.underlying59
  rw [show Try.prog.cellsOf 59 = 10 by kernel_rfl] at hl
  match cs, hl with
  | [c0, c1, c2, c3, c4, c5, c6, c7, c8, c9], _ =>
    have k1 : Try.prog.cellsOf 3 = 1 := by kernel_rfl
    obtain ⟨n, e0⟩ := rdt_nm (show Rdt enc Try.prog W 26 [c0, c1, c2] from h.field Try.underlying59 0 rfl (k := 3) (by kernel_rfl))
    obtain ⟨z3, e3, -⟩ := (show Rdt enc Try.prog W 31 [c3] from h.field Try.underlying59 1 rfl (k := 1) (by kernel_rfl)).int Try.underlying31
    obtain ⟨z4, e4, hz4⟩ := (show Rdt enc Try.prog W 3 [c4] from h.field Try.underlying59 2 rfl k1).i64 Try.underlying3
    obtain ⟨z5, e5, hz5⟩ := (show Rdt enc Try.prog W 3 [c5] from h.field Try.underlying59 3 rfl k1).i64 Try.underlying3
    obtain ⟨z6, e6, hz6⟩ := (show Rdt enc Try.prog W 3 [c6] from h.field Try.underlying59 4 rfl k1).i64 Try.underlying3
    have hc := (show Rdt enc Try.prog W 52 [c7, c8] from h.field Try.underlying59 5 rfl (k := 2) (by kernel_rfl))
    obtain ⟨z7, e7, -⟩ := (show Rdt enc Try.prog W 3 [c7] from hc.field Try.underlying52 0 rfl k1).i64 Try.underlying3
    obtain ⟨z8, e8, -⟩ := (show Rdt enc Try.prog W 3 [c8] from hc.field Try.underlying52 1 rfl k1).i64 Try.underlying3
    obtain ⟨u, x, e9, hw⟩ := rdt_ws (show Rdt enc Try.prog W 34 [c9] from h.field Try.underlying59 6 rfl (k := 1) (by kernel_rfl)) Try.underlying34
    have e0' : c0 = .int .i64 n.stamp ∧ c1 = .int .i64 n.inc ∧ c2 = .int .i64 n.try_ := by simpa using e0
    obtain ⟨rfl, rfl, rfl⟩ := e0'
    cases e3; cases e4; cases e5; cases e6; cases e7; cases e8; cases e9
    exact ⟨⟨n, z3, z4, z5, z6, z7, z8⟩, c9, x, rfl, hw, hz4.2, hz5, hz6⟩
theorem rdt_drs {t : TypeId} (h : Rdt enc Try.prog W t cs) (ht : Try.prog.underlying t = some (.slice 59)) : ∃ u css l, cs = [u] ∧ RowC drS css 0 W.heap.size W u l ∧ DlZ l := by
  obtain ⟨u, css, xs, e, hR, hx⟩ := h.rows (α := Dr × List Wr) (Φ := fun q cs => (∃ lv, cs = (q.1.cells lv).toList ∧ Ws 0 W.heap.size W lv q.2) ∧ q.1.shards ≤ 9223372036854775807 ∧ (-9223372036854775808 ≤ q.1.yes ∧ q.1.yes ≤ 9223372036854775807) ∧ (-9223372036854775808 ≤ q.1.acks ∧ q.1.acks ≤ 9223372036854775807)) (sz := 10) ht (by kernel_rfl) (by omega) (fun q cs ⟨⟨lv, e, _⟩, _⟩ => by rw [e]; rfl) (fun cs h => by
    obtain ⟨r, v, x, e, hw, hs⟩ := rdt_dr h
    exact ⟨(r, x), ⟨v, e, hw⟩, hs⟩)
  exact ⟨u, css, xs, e, ⟨hR, fun i q hq => (hx i q hq).1⟩, fun q hq => let ⟨i, hi⟩ := List.getElem?_of_mem hq; (hx i q hi).2⟩
theorem rdt_co (h : Rdt enc Try.prog W 24 cs) : ∃ va vc css l, cs = [.slice va l.length vc] ∧ RowC drS css 0 W.heap.size W (.slice va l.length vc) l ∧ DlZ l := by
  have hl := h.len_struct Try.underlying24
  rw [show Try.prog.cellsOf 24 = 1 by kernel_rfl] at hl
  match cs, hl with
  | [c0], _ =>
    obtain ⟨u, css, l, e, hR, hs⟩ := rdt_drs (show Rdt enc Try.prog W 22 [c0] from h.field Try.underlying24 0 rfl (k := 1) (by kernel_rfl)) Try.underlying22
    obtain ⟨va, vc, rfl, -, -⟩ := hR.1.form
    exact ⟨va, vc, css, l, e, hR, hs⟩
end

end Go.Proofs.Ytidpeojkkfmgeaa
