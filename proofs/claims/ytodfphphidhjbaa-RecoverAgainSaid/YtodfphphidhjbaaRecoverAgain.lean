/-
  PROVED HERE: for all blocks' values and every row of records that are handed in, RecoverAgain returns true, and what was handed in reads as it did. No condition.
-/
import Derived.Test.YtodfphphidhjbaaRag
import Derived.Test.YtodfphphidhjbaaArgR
namespace Go.Proofs.Ytodfphphidhjbaa
open Go.ChangeShapes Go.WideShapes Go.ChangeAt Go.RowKit Go.Joins

section
variable {H : Type} {enc : TypeId × Value → H} {W : World} {cs : List Value}
theorem rdt_arr {m : Nat} {e t : TypeId} {base : Nat} {v : Value} {d : DataW H} {ps : List MemPlace} (ht : Try.prog.underlying t = some (.array m e)) (hv : Value.okWide Try.prog W .any base t v) (h : DataW.Trod enc Try.prog W 0 (fun _ => true) true t v d ps) : ∃ cs : List Value, v = .agg cs.toArray ∧ Rdt enc Try.prog W t cs := by
  obtain ⟨fuel, h⟩ := h
  unfold Value.okWide at hv
  simp only [ht] at hv
  obtain ⟨cs, rfl, -, -⟩ := hv
  exact ⟨cs.toList, rfl, fuel, _, h⟩
theorem home_of : ∀ (n : Nat) (cs : List Value), cs.length = n * 8 → (∀ i, i < n → ∃ v : V8, (cs.drop (i * 8)).take 8 = v.cellsL) → ∃ home : List V8, home.length = n ∧ cs = hcells home
  | 0, cs, hl, _ => ⟨[], rfl, List.eq_nil_of_length_eq_zero (by omega)⟩
  | n + 1, cs, hl, h => by
    obtain ⟨v, hv⟩ := h 0 (by omega)
    obtain ⟨home, h1, h2⟩ := home_of n (cs.drop 8) (by rw [List.length_drop]; omega) fun i hi => by
      obtain ⟨u, hu⟩ := h (i + 1) (by omega)
      exact ⟨u, by rw [List.drop_drop, show 8 + i * 8 = (i + 1) * 8 by omega]; exact hu⟩
    refine ⟨v :: home, by simp [h1], ?_⟩
    rw [Nat.zero_mul, List.drop_zero] at hv
    show cs = v.cellsL ++ hcells home
    rw [← hv, ← h2, List.take_append_drop]
theorem rdt_home (h : Rdt enc Try.prog W 24 cs) : ∃ home : List V8, home.length = 32 ∧ cs = hcells home := by
  have hl := h.len_array Try.underlying24
  rw [show Try.prog.cellsOf 24 = 256 by kernel_rfl] at hl
  have k8 : Try.prog.cellsOf 23 = 8 := by kernel_rfl
  exact home_of 32 cs (by omega) fun i hi => rdt_v8 (h.elem Try.underlying24 k8 i hi)
theorem rdt_rcs {t : TypeId} (h : Rdt enc Try.prog W t cs) (ht : Try.prog.underlying t = some (.slice 43)) : ∃ u css l, cs = [u] ∧ RcC css 0 W.heap.size W u l ∧ ∀ (i : Nat) (q : Rc × List Wr), l[i]? = some q → q.1.shards ≤ 9223372036854775807 := by
  obtain ⟨u, css, xs, e, hR, hx⟩ := h.rows (α := Rc × List Wr) (Φ := fun q cs => (∃ lv, cs = (q.1.cells lv).toList ∧ Ws 0 W.heap.size W lv q.2) ∧ q.1.shards ≤ 9223372036854775807) (sz := 12) ht (by kernel_rfl) (by omega) (fun q cs ⟨⟨lv, e, _⟩, _⟩ => by rw [e]; rfl) (fun cs h => by
    obtain ⟨r, v, x, e, hw, -, hs⟩ := rdt_rec h
    exact ⟨(r, x), ⟨v, e, hw⟩, hs⟩)
  exact ⟨u, css, xs, e, ⟨hR, fun i q hq => (hx i q hq).1⟩, fun i q hq => (hx i q hq).2⟩
end

set_option maxRecDepth 100000 in
theorem recoverAgain_lifted (os : Os) (started : os.Started) (H : Type) (enc : TypeId × Value → H) :
    ReturnsInHanded {} Try.checked os 3 .any (Rows.recoverAgainSpec.pre6 enc Try.prog Try.f3 Rows.recoverAgainRow.domain false) (Rows.recoverAgainSpec.post enc Try.prog Try.f3 false true false false) := by
  refine returnsInHanded_of_change (C := Try.checked) Try.own started (by kernel_rfl) Try.func3
    (ChangeSpec.witness6 (enc := enc) (C := Try.checked) false ⟨#[], #[.agg #[.int .u8 0, .int .u8 0, .int .u8 0, .int .u8 0, .int .u8 0, .int .u8 0, .int .u8 0, .int .u8 0, .int .u8 0, .int .u8 0, .int .u8 0, .int .u8 0, .int .u8 0, .int .u8 0, .int .u8 0, .int .u8 0, .int .u8 0, .int .u8 0, .int .u8 0, .int .u8 0, .int .u8 0, .int .u8 0, .int .u8 0, .int .u8 0, .int .u8 0, .int .u8 0, .int .u8 0, .int .u8 0, .int .u8 0, .int .u8 0, .int .u8 0, .int .u8 0, .int .u8 0, .int .u8 0, .int .u8 0, .int .u8 0, .int .u8 0, .int .u8 0, .int .u8 0, .int .u8 0, .int .u8 0, .int .u8 0, .int .u8 0, .int .u8 0, .int .u8 0, .int .u8 0, .int .u8 0, .int .u8 0, .int .u8 0, .int .u8 0, .int .u8 0, .int .u8 0, .int .u8 0, .int .u8 0, .int .u8 0, .int .u8 0, .int .u8 0, .int .u8 0, .int .u8 0, .int .u8 0, .int .u8 0, .int .u8 0, .int .u8 0, .int .u8 0, .int .u8 0, .int .u8 0, .int .u8 0, .int .u8 0, .int .u8 0, .int .u8 0, .int .u8 0, .int .u8 0, .int .u8 0, .int .u8 0, .int .u8 0, .int .u8 0, .int .u8 0, .int .u8 0, .int .u8 0, .int .u8 0, .int .u8 0, .int .u8 0, .int .u8 0, .int .u8 0, .int .u8 0, .int .u8 0, .int .u8 0, .int .u8 0, .int .u8 0, .int .u8 0, .int .u8 0, .int .u8 0, .int .u8 0, .int .u8 0, .int .u8 0, .int .u8 0, .int .u8 0, .int .u8 0, .int .u8 0, .int .u8 0, .int .u8 0, .int .u8 0, .int .u8 0, .int .u8 0, .int .u8 0, .int .u8 0, .int .u8 0, .int .u8 0, .int .u8 0, .int .u8 0, .int .u8 0, .int .u8 0, .int .u8 0, .int .u8 0, .int .u8 0, .int .u8 0, .int .u8 0, .int .u8 0, .int .u8 0, .int .u8 0, .int .u8 0, .int .u8 0, .int .u8 0, .int .u8 0, .int .u8 0, .int .u8 0, .int .u8 0, .int .u8 0, .int .u8 0, .int .u8 0, .int .u8 0, .int .u8 0, .int .u8 0, .int .u8 0, .int .u8 0, .int .u8 0, .int .u8 0, .int .u8 0, .int .u8 0, .int .u8 0, .int .u8 0, .int .u8 0, .int .u8 0, .int .u8 0, .int .u8 0, .int .u8 0, .int .u8 0, .int .u8 0, .int .u8 0, .int .u8 0, .int .u8 0, .int .u8 0, .int .u8 0, .int .u8 0, .int .u8 0, .int .u8 0, .int .u8 0, .int .u8 0, .int .u8 0, .int .u8 0, .int .u8 0, .int .u8 0, .int .u8 0, .int .u8 0, .int .u8 0, .int .u8 0, .int .u8 0, .int .u8 0, .int .u8 0, .int .u8 0, .int .u8 0, .int .u8 0, .int .u8 0, .int .u8 0, .int .u8 0, .int .u8 0, .int .u8 0, .int .u8 0, .int .u8 0, .int .u8 0, .int .u8 0, .int .u8 0, .int .u8 0, .int .u8 0, .int .u8 0, .int .u8 0, .int .u8 0, .int .u8 0, .int .u8 0, .int .u8 0, .int .u8 0, .int .u8 0, .int .u8 0, .int .u8 0, .int .u8 0, .int .u8 0, .int .u8 0, .int .u8 0, .int .u8 0, .int .u8 0, .int .u8 0, .int .u8 0, .int .u8 0, .int .u8 0, .int .u8 0, .int .u8 0, .int .u8 0, .int .u8 0, .int .u8 0, .int .u8 0, .int .u8 0, .int .u8 0, .int .u8 0, .int .u8 0, .int .u8 0, .int .u8 0, .int .u8 0, .int .u8 0, .int .u8 0, .int .u8 0, .int .u8 0, .int .u8 0, .int .u8 0, .int .u8 0, .int .u8 0, .int .u8 0, .int .u8 0, .int .u8 0, .int .u8 0, .int .u8 0, .int .u8 0, .int .u8 0, .int .u8 0, .int .u8 0, .int .u8 0, .int .u8 0, .int .u8 0, .int .u8 0, .int .u8 0, .int .u8 0, .int .u8 0, .int .u8 0, .int .u8 0, .int .u8 0, .int .u8 0, .int .u8 0, .int .u8 0, .int .u8 0, .int .u8 0, .int .u8 0, .int .u8 0, .int .u8 0, .int .u8 0, .int .u8 0, .int .u8 0, .int .u8 0], .slice none 0 0], []⟩ 8 (by kernel_rfl) (by kernel_rfl) (by kernel_rfl) (by kernel_rfl)) ?_
  intro W base args ds gs before hval0 hW hcnd _
  have hval : ∀ (j : Nat) t v, Try.f3.params[j]? = some t → args[j]? = some v → Value.okWide Try.prog W .any base t v := hval0
  have hW' := hW
  obtain ⟨p, q, hA0, hV, rfl, hfz, hnd⟩ := hW
  have hA : DataW.TrodAll enc Try.prog W 0 (fun _ => true) true Try.f3.params.toList args.toList ds p := hA0
  rw [Try.params3] at hA hval
  obtain ⟨v0, r0, d0, s0, p0, q0, e0, rfl, rfl, h0, hA⟩ := trodAll_cons hA
  obtain ⟨v1, r1, d1, s1, p1, q1, rfl, rfl, rfl, h1, hA⟩ := trodAll_cons hA
  obtain ⟨rfl, rfl, rfl⟩ := trodAll_nil hA
  obtain rfl : args = #[v0, v1] := by rw [← Array.toArray_toList (xs := args), e0]
  have hv0 := hval 0 24 v0 rfl rfl
  have hv1 := hval 1 25 v1 rfl rfl
  obtain ⟨cs0, rfl, R0⟩ := rdt_arr Try.underlying24 hv0 h0
  obtain ⟨home, hh, rfl⟩ := rdt_home R0
  obtain ⟨cs1, R1, hu⟩ := rdt_slice Try.underlying25 hv1 h1
  obtain ⟨u, css, l, e1, hR, hs⟩ := rdt_rcs R1 Try.underlying25
  obtain ⟨va, vc, rfl, -, -⟩ := hR.1.form
  obtain rfl := hu _ e1
  refine (again_any home hh va _ vc css l W hR hs).mono fun e W' ⟨he, hb⟩ => ?_
  subst he
  exact ⟨_, rfl, law_post Try.laidOut (by rw [Try.params3]; decide +kernel) rfl rfl Try.underlying4 (fun ds h => by match ds, h with | [_, _], _ => rfl) hW' hb⟩

theorem recoverAgain_holds : Rows.RecoverAgainSaid :=
  OpenClaim.holds_of_wide 3 Try.f3 rfl rfl rfl rfl rfl rfl rfl ⟨rfl, rfl, rfl, rfl, rfl⟩ rfl rfl rfl rfl rfl (by kernel_rfl) Try.func3 (by kernel_rfl)
    (of_decide_eq_true (by kernel_rfl)) (by unfold Func.isWrapper; first | (rw [if_pos (by decide +kernel)]; kernel_rfl) | (rw [if_neg (by decide +kernel)]; exact ⟨rfl, rfl⟩))
    (fun os started H enc _ => recoverAgain_lifted os started H enc)

#print axioms recoverAgain_holds

end Go.Proofs.Ytodfphphidhjbaa
