/-
  PROVED HERE: for every two things that are known and every message that are handed in, EpochMeets returns true, and what was handed in reads as it did. No condition.
-/
import Derived.Test.YtdcihmdchabcnaaEd
import Derived.Test.YtdcihmdchabcnaaArgM
namespace Go.Proofs.Ytdcihmdchabcnaa
open Go.ChangeShapes Go.WideShapes Go.ChangeAt Go.RowKit Go.Joins

set_option maxRecDepth 100000 in
theorem epochMeets_lifted (os : Os) (started : os.Started) (H : Type) (enc : TypeId × Value → H) :
    ReturnsInHanded {} Try.checked os 5 .any (Rows.epochMeetsSpec.pre6 enc Try.prog Try.f5 Rows.epochMeetsRow.domain false) (Rows.epochMeetsSpec.post enc Try.prog Try.f5 false true false false) := by
  refine returnsInHanded_of_change (C := Try.checked) Try.own started (by kernel_rfl) Try.func5
    (ChangeSpec.witness6 (enc := enc) (C := Try.checked) false ⟨#[], #[.agg #[.int .i64 0, .int .i64 0, .int .i64 0, .int .i64 0, .int .i64 0, .int .i64 0, .int .i64 0], .agg #[.int .i64 0, .int .i64 0, .int .i64 0, .int .i64 0, .int .i64 0, .int .i64 0, .int .i64 0], .agg #[.int .i8 0, .int .i64 0, .int .i64 0, .int .i64 0, .int .i64 0, .int .i64 0, .int .i64 0, .int .i64 0, .int .i64 0, .int .i8 0, .int .i64 0, .int .u8 0, .int .u8 0, .int .u8 0, .int .u8 0, .int .u8 0, .int .u8 0, .int .u8 0, .int .u8 0, .int .i64 0, .bool false, .int .i64 0, .int .i64 0, .slice none 0 0]], []⟩ 8 (by kernel_rfl) (by kernel_rfl) (by kernel_rfl) (by kernel_rfl)) ?_
  intro W base args ds gs before hval0 hW hcnd _
  have hval : ∀ (j : Nat) t v, Try.f5.params[j]? = some t → args[j]? = some v → Value.okWide Try.prog W .any base t v := hval0
  have hW' := hW
  obtain ⟨p, q, hA0, hV, rfl, hfz, hnd⟩ := hW
  have hA : DataW.TrodAll enc Try.prog W 0 (fun _ => true) true Try.f5.params.toList args.toList ds p := hA0
  rw [Try.params5] at hA hval
  obtain ⟨v0, r0, d0, s0, p0, q0, e0, rfl, rfl, h0, hA⟩ := trodAll_cons hA
  obtain ⟨v1, r1, d1, s1, p1, q1, rfl, rfl, rfl, h1, hA⟩ := trodAll_cons hA
  obtain ⟨v2, r2, d2, s2, p2, q2, rfl, rfl, rfl, h2, hA⟩ := trodAll_cons hA
  obtain ⟨rfl, rfl, rfl⟩ := trodAll_nil hA
  obtain rfl : args = #[v0, v1, v2] := by rw [← Array.toArray_toList (xs := args), e0]
  have hv0 := hval 0 24 v0 rfl rfl
  have hv1 := hval 1 24 v1 rfl rfl
  have hv2 := hval 2 36 v2 rfl rfl
  obtain ⟨cs0, rfl, R0⟩ := rdt_agg Try.underlying24 hv0 h0
  obtain ⟨p, rfl⟩ := rdt_kn R0
  obtain ⟨cs1, rfl, R1⟩ := rdt_agg Try.underlying24 hv1 h1
  obtain ⟨q, rfl⟩ := rdt_kn R1
  obtain ⟨cs2, rfl, R2⟩ := rdt_agg Try.underlying36 hv2 h2
  obtain ⟨m, v, x, rfl, hw⟩ := rdt_msg R2
  obtain ⟨ad, cp, rfl, -, -⟩ := hw.form
  refine (meets_any p q m ad x.length cp x W hw).mono fun e W' ⟨he, hb⟩ => ?_
  subst he
  exact ⟨_, rfl, law_post Try.laidOut (by rw [Try.params5]; decide +kernel) rfl rfl Try.underlying4 (fun ds h => by match ds, h with | [_, _, _], _ => rfl) hW' hb⟩

theorem epochMeets_holds : Rows.EpochMeetsSaid :=
  OpenClaim.holds_of_wide 5 Try.f5 rfl rfl rfl rfl rfl rfl rfl ⟨rfl, rfl, rfl, rfl, rfl⟩ rfl rfl rfl rfl rfl (by kernel_rfl) Try.func5 (by kernel_rfl)
    (of_decide_eq_true (by kernel_rfl)) (by unfold Func.isWrapper; first | (rw [if_pos (by decide +kernel)]; kernel_rfl) | (rw [if_neg (by decide +kernel)]; exact ⟨rfl, rfl⟩))
    (fun os started H enc _ => epochMeets_lifted os started H enc)

#print axioms epochMeets_holds

end Go.Proofs.Ytdcihmdchabcnaa
