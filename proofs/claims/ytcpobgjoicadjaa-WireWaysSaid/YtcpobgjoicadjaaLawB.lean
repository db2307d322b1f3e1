/-
  What a law is handed: numbers, rows of bytes.
-/
import Derived.Test.YtcpobgjoicadjaaLawKit
import Derived.Test.YtcpobgjoicadjaaV9
namespace Go.Proofs.Ytcpobgjoicadjaa
open Go.ChangeShapes Go.WideShapes Go.ChangeAt Go.RowKit Go.Joins

section
variable {H : Type} {enc : TypeId × Value → H} {P : Program} {W : World} {base : Nat} {t : TypeId} {v : Value} {d : DataW H} {ps : List MemPlace}

theorem cells_one {x : Value} (h : v.cells.toList = [x]) (hna : ∀ cs, v ≠ .agg cs) : v = x := by
  cases v <;> first | exact absurd rfl (hna _) | (simp [Value.cells] at h; exact h)

theorem arg_int {k : IntKind} (ht : P.underlying t = some (.int k)) (hv : Value.okWide P W .any base t v) (h : DataW.Trod enc P W 0 (fun _ => true) true t v d ps) : ∃ n, v = .int k n ∧ k.min ≤ n ∧ n ≤ k.max := by
  obtain ⟨fuel, h⟩ := h
  obtain ⟨n, e, _, _⟩ := DataW.trod_int ht h
  unfold Value.okWide at hv
  simp only [ht] at hv
  have hv' : Cell.okWide P W .any base t v := hv
  unfold Cell.okWide at hv'
  simp only [ht] at hv'
  have hna : ∀ cs, v ≠ .agg cs := fun cs hc => by subst hc; simp [Cell.ok, ht] at hv'
  have := cells_one e hna
  subst this
  simp only [Cell.ok, ht] at hv'
  exact ⟨n, rfl, hv'.2⟩
theorem arg_i64 (ht : P.underlying t = some (.int .i64)) (hv : Value.okWide P W .any base t v) (h : DataW.Trod enc P W 0 (fun _ => true) true t v d ps) : ∃ n, v = .int .i64 n ∧ -9223372036854775808 ≤ n ∧ n ≤ 9223372036854775807 := by
  obtain ⟨n, rfl, h1, h2⟩ := arg_int ht hv h
  have e1 : IntKind.i64.min = -9223372036854775808 := rfl
  have e2 : IntKind.i64.max = 9223372036854775807 := rfl
  exact ⟨n, rfl, by omega, by omega⟩

theorem bytes_of_ints : ∀ zs : List Int, (∀ n ∈ zs, (Lit.int .u8 n).wf = true) → ∃ bs : List UInt8, zs = bs.map fun b => (b.toNat : Int)
  | [], _ => ⟨[], rfl⟩
  | z :: zs, h => by
    obtain ⟨bs, rfl⟩ := bytes_of_ints zs (fun n hn => h n (List.mem_cons_of_mem _ hn))
    have hz := h z (List.mem_cons_self ..)
    have e1 : IntKind.u8.min = 0 := rfl
    have e2 : IntKind.u8.max = 255 := rfl
    have hr : 0 ≤ z ∧ z ≤ 255 := by simpa [Lit.wf, e1, e2] using hz
    exact ⟨UInt8.ofNat z.toNat :: bs, by simp; omega⟩

/-- cells that read as bytes, behind a slice -/
theorem cells_bytes {e fuel : Nat} {cs : List Value} {x : DataW H × List MemPlace} (ht : P.underlying t = some (.slice e)) (he : P.underlying e = some (.int .u8)) (hc : P.cellsOf e = 1) (h : DataW.trod enc P W 0 (fun _ => true) true fuel t cs = some x) :
    ∃ u bs, cs = [u] ∧ Bs 0 W.heap.size W u bs := by
  rcases open_ints ht he hc h with ⟨rfl, _⟩ | ⟨ad, len, cap, zs, rfl, _, hlc, hcm, hzl, _, hcell, hwf⟩
  · exact ⟨_, [], rfl, Rd.nil _ _ _ _⟩
  · obtain ⟨bs, rfl⟩ := bytes_of_ints zs hwf
    simp only [if_true, List.length_map] at hzl
    have hlen : (bs.take len).length = len := by rw [List.length_take]; omega
    refine ⟨_, bs.take len, rfl, ?_⟩
    unfold Bs
    rw [hlen]
    have hsp : 0 < len → ad.spot = none ∧ ad.block < W.heap.size := fun h0 => by
      have h1 := hcell 0 (by simp; omega)
      rw [show ad.add 0 = ad from rfl] at h1
      refine ⟨?_, block_lt_of_cell h1⟩
      unfold World.cell? at h1
      split at h1
      · split at h1
        · cases h1
        · rename_i hs; simpa using hs
      · cases h1
    refine ⟨by simp [bcells]; omega, by omega, .inr ⟨ad, cap, rfl, hlc, hcm, fun j hj => ?_, fun h0 => ⟨(hsp h0).1, Nat.zero_le _, (hsp h0).2⟩⟩⟩
    simp only [bcells, List.length_map, hlen] at hj
    have h1 := hcell j (by simp; omega)
    obtain ⟨b, o, sp⟩ := ad
    have : sp = none := (hsp (by omega)).1
    subst this
    rw [addr_add] at h1
    rw [h1]
    simp [bcells, List.getElem?_take_of_lt hj, List.getD_eq_getElem?_getD]
    rw [List.getElem?_eq_getElem (by omega)]
    simp
theorem arg_bytes {e : Nat} (ht : P.underlying t = some (.slice e)) (he : P.underlying e = some (.int .u8)) (hc : P.cellsOf e = 1) (hv : Value.okWide P W .any base t v) (h : DataW.Trod enc P W 0 (fun _ => true) true t v d ps) : ∃ bs, Bs 0 W.heap.size W v bs := by
  obtain ⟨fuel, h⟩ := h
  obtain ⟨u, bs, e1, hb⟩ := cells_bytes ht he hc h
  unfold Value.okWide at hv
  simp only [ht] at hv
  have hv' : Cell.okWide P W .any base t v := hv
  have hna : ∀ cs, v ≠ .agg cs := fun cs hc => by subst hc; simp [Cell.okWide, Cell.ok, ht] at hv'
  have := cells_one e1 hna
  subst this
  exact ⟨bs, hb⟩
end

end Go.Proofs.Ytcpobgjoicadjaa
