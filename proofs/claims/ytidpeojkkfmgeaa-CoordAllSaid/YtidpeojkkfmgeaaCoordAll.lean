/-
  PROVED HERE: for all bits, and all rows of numbers that are handed in, CoordAll returns true, and what was handed in reads as it did. No condition.
-/
import Derived.Test.YtidpeojkkfmgeaaCr
import Derived.Test.YtidpeojkkfmgeaaGL
namespace Go.Proofs.Ytidpeojkkfmgeaa
open Go.ChangeShapes Go.WideShapes Go.ChangeAt Go.RowKit Go.Joins

section
variable {H : Type} {enc : TypeId × Value → H} {W : World} {cs : List Value}
theorem icells_flat (zs : List Int) : zs.flatMap (fun z => [Value.int .i64 z]) = icells zs := by
  induction zs with
  | nil => rfl
  | cons z zs ih => rw [List.flatMap_cons, ih]; rfl
theorem rdt_ints {t : TypeId} (h : Rdt enc Try.prog W t cs) (ht : Try.prog.underlying t = some (.slice 3)) : ∃ va vc zs, cs = [.slice va zs.length vc] ∧ Rd 0 W.heap.size W 1 (.slice va zs.length vc) zs.length (icells zs) := by
  obtain ⟨u, zs, e, hR⟩ := h.flat (f := fun z : Int => [Value.int .i64 z]) (sz := 1) ht (by kernel_rfl) (by omega) (fun _ => rfl) (fun cs h => by
    obtain ⟨z, e, -⟩ := h.i64 Try.underlying3
    exact ⟨z, e⟩)
  rw [icells_flat] at hR
  obtain ⟨va, vc, rfl, -, -⟩ := hR.form
  exact ⟨va, vc, zs, e, hR⟩
end

set_option maxRecDepth 100000 in
theorem coordAll_lifted (os : Os) (started : os.Started) (H : Type) (enc : TypeId × Value → H) :
    ReturnsInHanded {} Try.checked os 4 .any (Rows.coordAllSpec.pre6 enc Try.prog Try.f4 Rows.coordAllRow.domain false) (Rows.coordAllSpec.post enc Try.prog Try.f4 false true false false) := by
  refine returnsInHanded_of_change (C := Try.checked) Try.own started (by kernel_rfl) Try.func4
    (ChangeSpec.witness6 (enc := enc) (C := Try.checked) false ⟨#[], #[.int .i64 0, .slice none 0 0, .slice none 0 0], []⟩ 8 (by kernel_rfl) (by kernel_rfl) (by kernel_rfl) (by kernel_rfl)) ?_
  intro W base args ds gs before hval0 hW hcnd _
  have hval : ∀ (j : Nat) t v, Try.f4.params[j]? = some t → args[j]? = some v → Value.okWide Try.prog W .any base t v := hval0
  have hW' := hW
  obtain ⟨p, q, hA0, hV, rfl, hfz, hnd⟩ := hW
  have hA : DataW.TrodAll enc Try.prog W 0 (fun _ => true) true Try.f4.params.toList args.toList ds p := hA0
  rw [Try.params4] at hA hval
  obtain ⟨v0, r0, d0, s0, p0, q0, e0, rfl, rfl, h0, hA⟩ := trodAll_cons hA
  obtain ⟨v1, r1, d1, s1, p1, q1, rfl, rfl, rfl, h1, hA⟩ := trodAll_cons hA
  obtain ⟨v2, r2, d2, s2, p2, q2, rfl, rfl, rfl, h2, hA⟩ := trodAll_cons hA
  obtain ⟨rfl, rfl, rfl⟩ := trodAll_nil hA
  obtain rfl : args = #[v0, v1, v2] := by rw [← Array.toArray_toList (xs := args), e0]
  have hv0 := hval 0 3 v0 rfl rfl
  have hv1 := hval 1 48 v1 rfl rfl
  have hv2 := hval 2 48 v2 rfl rfl
  obtain ⟨n, rfl, hn⟩ := arg_i64 Try.underlying3 hv0 h0
  obtain ⟨cs1, R1, hu1⟩ := rdt_slice Try.underlying48 hv1 h1
  obtain ⟨va, vc, zs, e1, hR1⟩ := rdt_ints R1 Try.underlying48
  obtain rfl := hu1 _ e1
  obtain ⟨cs2, R2, hu2⟩ := rdt_slice Try.underlying48 hv2 h2
  obtain ⟨vb, vd, ys, e2, hR2⟩ := rdt_ints R2 Try.underlying48
  obtain rfl := hu2 _ e2
  refine (all21_any n va vb vc vd zs ys W hn.2 hR1 hR2).mono fun e W' ⟨he, hb⟩ => ?_
  subst he
  exact ⟨_, rfl, law_post Try.laidOut (by rw [Try.params4]; decide +kernel) rfl rfl Try.underlying4 (fun ds h => by match ds, h with | [_, _, _], _ => rfl) hW' hb⟩

theorem coordAll_holds : Rows.CoordAllSaid :=
  OpenClaim.holds_of_wide 4 Try.f4 rfl rfl rfl rfl rfl rfl rfl ⟨rfl, rfl, rfl, rfl, rfl⟩ rfl rfl rfl rfl rfl (by kernel_rfl) Try.func4 (by kernel_rfl)
    (of_decide_eq_true (by kernel_rfl)) (by unfold Func.isWrapper; first | (rw [if_pos (by decide +kernel)]; kernel_rfl) | (rw [if_neg (by decide +kernel)]; exact ⟨rfl, rfl⟩))
    (fun os started H enc _ => coordAll_lifted os started H enc)

#print axioms coordAll_holds

end Go.Proofs.Ytidpeojkkfmgeaa
