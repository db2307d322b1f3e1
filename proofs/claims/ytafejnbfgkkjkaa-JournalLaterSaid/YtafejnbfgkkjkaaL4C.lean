/-
  FrameLoads.
-/
import Derived.Test.YtafejnbfgkkjkaaL4A
namespace Go.Proofs.Ytafejnbfgkkjkaa
open Go.RowKit Go.Sort

theorem cutE_zero {bs : List UInt8} {seq inc : Int} : cutE bs seq inc = 0 ↔ cutOk bs seq inc := by
  unfold cutE
  by_cases h : cutOk bs seq inc
  · simp [h]
  · rw [if_neg h]; split <;> simp [h]
theorem cutR_get {bs : List UInt8} {seq inc : Int} (h : cutOk bs seq inc) {i : Nat} (hi : i < nOf bs.length) : (cutR bs seq inc)[i]? = some (frOf bs seq inc i) := by
  unfold cutR; rw [if_pos h]; simp [cutF, hi]
theorem cutR_length {bs : List UInt8} {seq inc : Int} (h : cutOk bs seq inc) : (cutR bs seq inc).length = nOf bs.length := by
  unfold cutR; rw [if_pos h]; simp [cutF]
theorem frOf_may {bs : List UInt8} {seq inc : Int} (h : cutOk bs seq inc) {i : Nat} (hi : i < nOf bs.length) : (frOf bs seq inc i).1.may (frOf bs seq inc i).2.length = true := by
  obtain ⟨h1, h2, h3, h4, h5⟩ := h
  unfold nOf at *
  have h0 : 0 < bs.length := List.length_pos_iff.2 h1
  simp only [Fr.may, frOf, decide_eq_true_eq, List.length_take, List.length_drop, nOf]
  omega

end Go.Proofs.Ytafejnbfgkkjkaa
