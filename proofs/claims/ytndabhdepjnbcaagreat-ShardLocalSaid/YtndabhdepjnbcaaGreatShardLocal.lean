/-
  PROVED HERE: for all acts and every record that are handed in, ShardLocal returns true, and what was handed in reads as it did. No condition.
-/
import Derived.Test.YtndabhdepjnbcaaGreatP8
namespace Go.Proofs.YtndabhdepjnbcaaGreat
open Go.ChangeShapes Go.WideShapes Go.ChangeAt Go.RowKit Go.Joins
set_option maxRecDepth 100000 in
theorem shardLocal_lifted (os : Os) (started : os.Started) (H : Type) (enc : TypeId × Value → H) :
    ReturnsInHanded {} Tryz.checked os 3 .any (Rows.shardLocalSpec.pre6 enc Tryz.prog Tryz.f3 Rows.shardLocalRow.domain false) (Rows.shardLocalSpec.post enc Tryz.prog Tryz.f3 false true false false) := by
  refine returnsInHanded_of_change (C := Tryz.checked) Tryz.own started (by kernel_rfl) Tryz.func3
    (ChangeSpec.witness6 (enc := enc) (C := Tryz.checked) false ⟨#[], #[.slice none 0 0, .agg #[.int .i8 0, .int .i64 0, .int .i64 0, .int .i64 0, .bool false, .slice none 0 0, .int .i64 0, .int .i64 0, .int .i64 0, .int .i64 0, .int .i64 0, .int .i64 0]], []⟩ 8 (by kernel_rfl) (by kernel_rfl) (by kernel_rfl) (by kernel_rfl)) ?_
  intro W base args ds gs before hval0 hW hcnd _
  have hval : ∀ (j : Nat) t v, Tryz.f3.params[j]? = some t → args[j]? = some v → Value.okWide Tryz.prog W .any base t v := hval0
  have hW' := hW
  obtain ⟨p, q, hA0, hV, rfl, hfz, hnd⟩ := hW
  have hA : DataW.TrodAll enc Tryz.prog W 0 (fun _ => true) true Tryz.f3.params.toList args.toList ds p := hA0
  rw [Tryz.params3] at hA hval
  obtain ⟨v0, r0, d0, s0, p0, q0, e0, rfl, rfl, h0, hA⟩ := trodAll_cons hA
  obtain ⟨v1, r1, d1, s1, p1, q1, rfl, rfl, rfl, h1, hA⟩ := trodAll_cons hA
  obtain ⟨rfl, rfl, rfl⟩ := trodAll_nil hA
  obtain rfl : args = #[v0, v1] := by rw [← Array.toArray_toList (xs := args), e0]
  have hv0 := hval 0 22 v0 rfl rfl
  have hv1 := hval 1 30 v1 rfl rfl
  obtain ⟨cs0, R0, hu0⟩ := rdt_slice Tryz.underlying22 hv0 h0
  obtain ⟨va, vc, css, l, e1, hR⟩ := rdt_acts11 R0 Tryz.underlying22
  obtain rfl := hu0 _ e1
  obtain ⟨cs1, rfl, R1⟩ := rdt_agg Tryz.underlying30 hv1 h1
  obtain ⟨r, v, x, rfl, hw, -, hs⟩ := rdt_rec R1
  obtain ⟨ad, cp, rfl, -, -⟩ := hw.form
  refine (shardLocal_any va vc css l r ad cp x W hR hs hw).mono fun e W' ⟨he, hb⟩ => ?_
  subst he
  exact ⟨_, rfl, law_post Tryz.laidOut (by rw [Tryz.params3]; decide +kernel) rfl rfl Tryz.underlying4 (fun ds h => by match ds, h with | [_, _], _ => rfl) hW' hb⟩
theorem shardLocal_holds : Rows.ShardLocalSaid :=
  OpenClaim.holds_of_wide 3 Tryz.f3 rfl rfl rfl rfl rfl rfl rfl ⟨rfl, rfl, rfl, rfl, rfl⟩ rfl rfl rfl rfl rfl (by kernel_rfl) Tryz.func3 (by kernel_rfl)
    (of_decide_eq_true (by kernel_rfl)) (by unfold Func.isWrapper; first | (rw [if_pos (by decide +kernel)]; kernel_rfl) | (rw [if_neg (by decide +kernel)]; exact ⟨rfl, rfl⟩))
    (fun os started H enc _ => shardLocal_lifted os started H enc)
#print axioms shardLocal_holds
end Go.Proofs.YtndabhdepjnbcaaGreat
