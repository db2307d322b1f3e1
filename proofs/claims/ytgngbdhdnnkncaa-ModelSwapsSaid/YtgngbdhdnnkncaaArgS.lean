/-
  The blocks' values, and the steps of a transaction, that are handed in.
-/
import Derived.Test.YtgngbdhdnnkncaaGL
import Derived.Test.YtgngbdhdnnkncaaNa
namespace Go.Proofs.Ytgngbdhdnnkncaa
open Go.ChangeShapes Go.WideShapes Go.ChangeAt Go.RowKit Go.Joins

section
variable {H : Type} {enc : TypeId × Value → H} {W : World} {cs : List Value}
theorem rdt_nm (h : Rdt enc Try.prog W 34 cs) : ∃ n : Nm, cs = n.cells.toList := by
  have hl := h.len_struct Try.underlying34
  rw [show Try.prog.cellsOf 34 = 3 by kernel_rfl] at hl
  match cs, hl with
  | [c0, c1, c2], _ =>
    have k1 : Try.prog.cellsOf 3 = 1 := by kernel_rfl
    obtain ⟨z0, e0, -⟩ := (show Rdt enc Try.prog W 3 [c0] from h.field Try.underlying34 0 rfl k1).i64 Try.underlying3
    obtain ⟨z1, e1, -⟩ := (show Rdt enc Try.prog W 3 [c1] from h.field Try.underlying34 1 rfl k1).i64 Try.underlying3
    obtain ⟨z2, e2, -⟩ := (show Rdt enc Try.prog W 3 [c2] from h.field Try.underlying34 2 rfl k1).i64 Try.underlying3
    cases e0; cases e1; cases e2
    exact ⟨⟨z0, z1, z2⟩, rfl⟩
theorem rdt_v8 (h : Rdt enc Try.prog W 23 cs) : ∃ v : V8, cs = v.cellsL := by
  have hl := h.len_array Try.underlying23
  rw [show Try.prog.cellsOf 23 = 8 by kernel_rfl] at hl
  match cs, hl with
  | [c0, c1, c2, c3, c4, c5, c6, c7], _ =>
    have k1 : Try.prog.cellsOf 5 = 1 := by kernel_rfl
    obtain ⟨z0, e0⟩ := (show Rdt enc Try.prog W 5 [c0] from h.elem Try.underlying23 k1 0 (by omega)).u8 Try.underlying5
    obtain ⟨z1, e1⟩ := (show Rdt enc Try.prog W 5 [c1] from h.elem Try.underlying23 k1 1 (by omega)).u8 Try.underlying5
    obtain ⟨z2, e2⟩ := (show Rdt enc Try.prog W 5 [c2] from h.elem Try.underlying23 k1 2 (by omega)).u8 Try.underlying5
    obtain ⟨z3, e3⟩ := (show Rdt enc Try.prog W 5 [c3] from h.elem Try.underlying23 k1 3 (by omega)).u8 Try.underlying5
    obtain ⟨z4, e4⟩ := (show Rdt enc Try.prog W 5 [c4] from h.elem Try.underlying23 k1 4 (by omega)).u8 Try.underlying5
    obtain ⟨z5, e5⟩ := (show Rdt enc Try.prog W 5 [c5] from h.elem Try.underlying23 k1 5 (by omega)).u8 Try.underlying5
    obtain ⟨z6, e6⟩ := (show Rdt enc Try.prog W 5 [c6] from h.elem Try.underlying23 k1 6 (by omega)).u8 Try.underlying5
    obtain ⟨z7, e7⟩ := (show Rdt enc Try.prog W 5 [c7] from h.elem Try.underlying23 k1 7 (by omega)).u8 Try.underlying5
    cases e0; cases e1; cases e2; cases e3; cases e4; cases e5; cases e6; cases e7
    exact ⟨⟨z0, z1, z2, z3, z4, z5, z6, z7⟩, rfl⟩
theorem rdt_arr {m : Nat} {e t : TypeId} {base : Nat} {v : Value} {d : DataW H} {ps : List MemPlace} (ht : Try.prog.underlying t = some (.array m e)) (hv : Value.okWide Try.prog W .any base t v) (h : DataW.Trod enc Try.prog W 0 (fun _ => true) true t v d ps) : ∃ cs : List Value, v = .agg cs.toArray ∧ Rdt enc Try.prog W t cs := by
  obtain ⟨fuel, h⟩ := h
  unfold Value.okWide at hv
  simp only [ht] at hv
  obtain ⟨cs, rfl, -, -⟩ := hv
  exact ⟨cs.toList, rfl, fuel, _, h⟩
theorem home_of : ∀ (n : Nat) (cs : List Value), cs.length = n * 8 → (∀ i, i < n → ∃ v : V8, (cs.drop (i * 8)).take 8 = v.cellsL) → ∃ home : List V8, home.length = n ∧ cs = hcells home
  | 0, cs, hl, _ => ⟨[], rfl, List.eq_nil_of_length_eq_zero (by omega)⟩
  | n + 1, cs, hl, h => by
    obtain ⟨v, hv⟩ := h 0 (by omega)
    obtain ⟨home, h1, h2⟩ := home_of n (cs.drop 8) (by rw [List.length_drop]; omega) fun i hi => by
      obtain ⟨u, hu⟩ := h (i + 1) (by omega)
      exact ⟨u, by rw [List.drop_drop, show 8 + i * 8 = (i + 1) * 8 by omega]; exact hu⟩
    refine ⟨v :: home, by simp [h1], ?_⟩
    rw [Nat.zero_mul, List.drop_zero] at hv
    show cs = v.cellsL ++ hcells home
    rw [← hv, ← h2, List.take_append_drop]
theorem rdt_home (h : Rdt enc Try.prog W 24 cs) : ∃ home : List V8, home.length = 32 ∧ cs = hcells home := by
  have hl := h.len_array Try.underlying24
  rw [show Try.prog.cellsOf 24 = 256 by kernel_rfl] at hl
  have k8 : Try.prog.cellsOf 23 = 8 := by kernel_rfl
  exact home_of 32 cs (by omega) fun i hi => rdt_v8 (h.elem Try.underlying24 k8 i hi)
theorem rdt_sn (h : Rdt enc Try.prog W 36 cs) : ∃ x : Sn, cs = x.cellsL := by
  have hl := h.len_struct Try.underlying36
  rw [show Try.prog.cellsOf 36 = 14 by kernel_rfl] at hl
  match cs, hl with
  | [c0, c1, c2, c3, c4, c5, c6, c7, c8, c9, c10, c11, c12, c13], _ =>
    have k1 : Try.prog.cellsOf 3 = 1 := by kernel_rfl
    obtain ⟨z0, e0, -⟩ := (show Rdt enc Try.prog W 32 [c0] from h.field Try.underlying36 0 rfl (k := 1) (by kernel_rfl)).int Try.underlying32
    obtain ⟨n, e1⟩ := rdt_nm (show Rdt enc Try.prog W 34 [c1, c2, c3] from h.field Try.underlying36 1 rfl (k := 3) (by kernel_rfl))
    obtain ⟨z4, e4, -⟩ := (show Rdt enc Try.prog W 3 [c4] from h.field Try.underlying36 2 rfl k1).i64 Try.underlying3
    obtain ⟨v, e5⟩ := rdt_v8 (show Rdt enc Try.prog W 23 [c5, c6, c7, c8, c9, c10, c11, c12] from h.field Try.underlying36 3 rfl (k := 8) (by kernel_rfl))
    obtain ⟨z13, e13, -⟩ := (show Rdt enc Try.prog W 27 [c13] from h.field Try.underlying36 4 rfl (k := 1) (by kernel_rfl)).i64 Try.underlying27
    have e1' : c1 = .int .i64 n.stamp ∧ c2 = .int .i64 n.inc ∧ c3 = .int .i64 n.try_ := by simpa using e1
    have e5' : c5 = .int .u8 (v.v0.toNat : Int) ∧ c6 = .int .u8 (v.v1.toNat : Int) ∧ c7 = .int .u8 (v.v2.toNat : Int) ∧ c8 = .int .u8 (v.v3.toNat : Int) ∧ c9 = .int .u8 (v.v4.toNat : Int) ∧ c10 = .int .u8 (v.v5.toNat : Int) ∧ c11 = .int .u8 (v.v6.toNat : Int) ∧ c12 = .int .u8 (v.v7.toNat : Int) := by simpa using e5
    obtain ⟨rfl, rfl, rfl⟩ := e1'
    obtain ⟨rfl, rfl, rfl, rfl, rfl, rfl, rfl, rfl⟩ := e5'
    cases e0; cases e4; cases e13
    exact ⟨⟨z0, n, z4, v, z13⟩, rfl⟩
theorem rdt_seens {t : TypeId} (h : Rdt enc Try.prog W t cs) (ht : Try.prog.underlying t = some (.slice 36)) : ∃ va vc l, cs = [.slice va l.length vc] ∧ Ss 0 W.heap.size W (.slice va l.length vc) l := by
  obtain ⟨u, l, e, hR⟩ := h.flat (f := Sn.cellsL) (sz := 14) ht (by kernel_rfl) (by omega) (fun _ => rfl) (fun _ h => rdt_sn h)
  obtain ⟨va, vc, rfl, -, -⟩ := Rd.form hR
  exact ⟨va, vc, l, e, hR⟩
end

end Go.Proofs.Ytgngbdhdnnkncaa
