/-
  PROVED HERE: for all acts, all plans and both ways of save that are handed in, ShardAgain returns true, and what was handed in reads as it did. No condition.
-/
import Derived.Test.YtndabhdepjnbcaaGreatP8
namespace Go.Proofs.YtndabhdepjnbcaaGreat
open Go.ChangeShapes Go.WideShapes Go.ChangeAt Go.RowKit Go.Joins
section
variable {H : Type} {enc : TypeId × Value → H} {W : World}
theorem arg_bool {P : Program} {base : Nat} {t : TypeId} {v : Value} {d : DataW H} {ps : List MemPlace} (ht : P.underlying t = some .bool) (hv : Value.okWide P W .any base t v) (h : DataW.Trod enc P W 0 (fun _ => true) true t v d ps) : ∃ b, v = .bool b := by
  obtain ⟨fuel, h⟩ := h
  obtain ⟨n, e, -⟩ := DataW.trod_bool ht h
  unfold Value.okWide at hv
  simp only [ht] at hv
  have hv' : Cell.okWide P W .any base t v := hv
  unfold Cell.okWide at hv'
  simp only [ht] at hv'
  have hna : ∀ cs, v ≠ .agg cs := fun cs hc => by subst hc; simp [Cell.ok, ht] at hv'
  have h9 := cells_one e hna
  subst h9
  exact ⟨n, rfl⟩
end
set_option maxRecDepth 100000 in
theorem shardAgain_lifted (os : Os) (started : os.Started) (H : Type) (enc : TypeId × Value → H) :
    ReturnsInHanded {} Tryz.checked os 5 .any (Rows.shardAgainSpec.pre6 enc Tryz.prog Tryz.f5 Rows.shardAgainRow.domain false) (Rows.shardAgainSpec.post enc Tryz.prog Tryz.f5 false true false false) := by
  refine returnsInHanded_of_change (C := Tryz.checked) Tryz.own started (by kernel_rfl) Tryz.func5
    (ChangeSpec.witness6 (enc := enc) (C := Tryz.checked) false ⟨#[], #[.slice none 0 0, .slice none 0 0, .bool false], []⟩ 8 (by kernel_rfl) (by kernel_rfl) (by kernel_rfl) (by kernel_rfl)) ?_
  intro W base args ds gs before hval0 hW hcnd _
  have hval : ∀ (j : Nat) t v, Tryz.f5.params[j]? = some t → args[j]? = some v → Value.okWide Tryz.prog W .any base t v := hval0
  have hW' := hW
  obtain ⟨p, q, hA0, hV, rfl, hfz, hnd⟩ := hW
  have hA : DataW.TrodAll enc Tryz.prog W 0 (fun _ => true) true Tryz.f5.params.toList args.toList ds p := hA0
  rw [Tryz.params5] at hA hval
  obtain ⟨v0, r0, d0, s0, p0, q0, e0, rfl, rfl, h0, hA⟩ := trodAll_cons hA
  obtain ⟨v1, r1, d1, s1, p1, q1, rfl, rfl, rfl, h1, hA⟩ := trodAll_cons hA
  obtain ⟨v2, r2, d2, s2, p2, q2, rfl, rfl, rfl, h2, hA⟩ := trodAll_cons hA
  obtain ⟨rfl, rfl, rfl⟩ := trodAll_nil hA
  obtain rfl : args = #[v0, v1, v2] := by rw [← Array.toArray_toList (xs := args), e0]
  have hv0 := hval 0 22 v0 rfl rfl
  have hv1 := hval 1 42 v1 rfl rfl
  have hv2 := hval 2 4 v2 rfl rfl
  obtain ⟨cs0, R0, hu0⟩ := rdt_slice Tryz.underlying22 hv0 h0
  obtain ⟨va, vc, css, l, e1, hR⟩ := rdt_acts11 R0 Tryz.underlying22
  obtain rfl := hu0 _ e1
  obtain ⟨cs1, R1, hu1⟩ := rdt_slice Tryz.underlying42 hv1 h1
  obtain ⟨pa, pc, plan, e2, hP⟩ := rdt_kept R1
  obtain rfl := hu1 _ e2
  obtain ⟨sv, rfl⟩ := arg_bool Tryz.underlying4 hv2 h2
  refine (shardAgain_any va vc css l pa pc plan sv W hR hP).mono fun e W' ⟨he, hb⟩ => ?_
  subst he
  exact ⟨_, rfl, law_post Tryz.laidOut (by rw [Tryz.params5]; decide +kernel) rfl rfl Tryz.underlying4 (fun ds h => by match ds, h with | [_, _, _], _ => rfl) hW' hb⟩
theorem shardAgain_holds : Rows.ShardAgainSaid :=
  OpenClaim.holds_of_wide 5 Tryz.f5 rfl rfl rfl rfl rfl rfl rfl ⟨rfl, rfl, rfl, rfl, rfl⟩ rfl rfl rfl rfl rfl (by kernel_rfl) Tryz.func5 (by kernel_rfl)
    (of_decide_eq_true (by kernel_rfl)) (by unfold Func.isWrapper; first | (rw [if_pos (by decide +kernel)]; kernel_rfl) | (rw [if_neg (by decide +kernel)]; exact ⟨rfl, rfl⟩))
    (fun os started H enc _ => shardAgain_lifted os started H enc)
#print axioms shardAgain_holds
end Go.Proofs.YtndabhdepjnbcaaGreat
