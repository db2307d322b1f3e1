/-
  What a law is handed: structs.
-/
import Derived.Test.YtcpobgjoicadjaaLawB
namespace Go.Proofs.Ytcpobgjoicadjaa
open Go.ChangeShapes Go.WideShapes Go.ChangeAt Go.RowKit Go.Joins

section
variable {H : Type} {enc : TypeId × Value → H} {P : Program} {W : World} {base : Nat} {t : TypeId} {v : Value} {d : DataW H} {ps : List MemPlace}

/-- a struct that is handed in: its cells, and each field's read -/
theorem arg_struct {fs : Array Field} (ht : P.underlying t = some (.struct fs)) (hv : Value.okWide P W .any base t v) (h : DataW.Trod enc P W 0 (fun _ => true) true t v d ps) :
    ∃ (cs : List Value) (n : Nat), v = .agg cs.toArray ∧ cs.length = P.cellsOf t ∧ ∀ (i : Nat) (f : Field), fs[i]? = some f → ∃ x, DataW.trod enc P W 0 (fun _ => true) true n f.type ((cs.drop f.offset).take (P.cellsOf f.type)) = some x := by
  obtain ⟨fuel, h⟩ := h
  unfold Value.okWide at hv
  simp only [ht] at hv
  obtain ⟨cs, rfl, -, -⟩ := hv
  obtain ⟨xs, n, -, -, hl, hlen, hf⟩ := DataW.trod_struct ht h
  refine ⟨cs.toList, n, rfl, hl, fun i f hi => ?_⟩
  have hlt : i < xs.length := by rw [hlen]; exact (Array.getElem?_eq_some_iff.1 hi).1
  exact ⟨xs[i], by rw [← List.getElem?_eq_getElem hlt]; exact hf i f hi⟩
theorem field_int {k : IntKind} {n : Nat} {c : Value} (ht : P.underlying t = some (.int k)) (h : ∃ x, DataW.trod enc P W 0 (fun _ => true) true n t [c] = some x) : ∃ z, c = .int k z ∧ k.min ≤ z ∧ z ≤ k.max := by
  obtain ⟨x, h⟩ := h
  obtain ⟨z, e, -, hw⟩ := DataW.trod_int ht h
  simp only [Lit.wf, Bool.and_eq_true, decide_eq_true_eq] at hw
  exact ⟨z, (List.cons.inj e).1, hw⟩
theorem field_u32 {n : Nat} {c : Value} (ht : P.underlying t = some (.int .u32)) (h : ∃ x, DataW.trod enc P W 0 (fun _ => true) true n t [c] = some x) : ∃ z : BitVec 32, c = .int .u32 (z.toNat : Int) := by
  obtain ⟨z, rfl, h1, h2⟩ := field_int ht h
  have e1 : IntKind.u32.min = 0 := rfl
  have e2 : IntKind.u32.max = 4294967295 := rfl
  refine ⟨BitVec.ofNat 32 z.toNat, ?_⟩
  rw [BitVec.toNat_ofNat, Nat.mod_eq_of_lt (by omega)]; congr 1; omega
theorem field_bytes {e n : Nat} {c : Value} (ht : P.underlying t = some (.slice e)) (he : P.underlying e = some (.int .u8)) (hc : P.cellsOf e = 1) (h : ∃ x, DataW.trod enc P W 0 (fun _ => true) true n t [c] = some x) : ∃ bs, Bs 0 W.heap.size W c bs := by
  obtain ⟨x, h⟩ := h
  obtain ⟨u, bs, e1, hb⟩ := cells_bytes ht he hc h
  rw [(List.cons.inj e1).1]; exact ⟨bs, hb⟩
end

end Go.Proofs.Ytcpobgjoicadjaa
