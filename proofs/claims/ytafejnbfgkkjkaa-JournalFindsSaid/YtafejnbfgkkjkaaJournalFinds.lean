/-
  PROVED HERE: for every tail, all rows of bytes, every number and every plan that are handed in, JournalFinds returns true, and what was handed in reads as it did. No condition.
-/
import Derived.Test.YtafejnbfgkkjkaaJo
import Derived.Test.YtafejnbfgkkjkaaArgB
namespace Go.Proofs.Ytafejnbfgkkjkaa
open Go.ChangeShapes Go.WideShapes Go.ChangeAt Go.RowKit Go.Joins

set_option maxRecDepth 100000 in
theorem journalFinds_lifted (os : Os) (started : os.Started) (H : Type) (enc : TypeId × Value → H) :
    ReturnsInHanded {} Try.checked os 5 .any (Rows.journalFindsSpec.pre6 enc Try.prog Try.f5 Rows.journalFindsRow.domain false) (Rows.journalFindsSpec.post enc Try.prog Try.f5 false true false false) := by
  refine returnsInHanded_of_change (C := Try.checked) Try.own started (by kernel_rfl) Try.func5
    (ChangeSpec.witness6 (enc := enc) (C := Try.checked) false ⟨#[], #[.int .i64 0, .slice none 0 0, .int .i64 0, .slice none 0 0], []⟩ 8 (by kernel_rfl) (by kernel_rfl) (by kernel_rfl) (by kernel_rfl)) ?_
  intro W base args ds gs before hval0 hW hcnd _
  have hval : ∀ (j : Nat) t v, Try.f5.params[j]? = some t → args[j]? = some v → Value.okWide Try.prog W .any base t v := hval0
  have hW' := hW
  obtain ⟨p, q, hA0, hV, rfl, hfz, hnd⟩ := hW
  have hA : DataW.TrodAll enc Try.prog W 0 (fun _ => true) true Try.f5.params.toList args.toList ds p := hA0
  rw [Try.params5] at hA hval
  obtain ⟨v0, r0, d0, s0, p0, q0, e0, rfl, rfl, h0, hA⟩ := trodAll_cons hA
  obtain ⟨v1, r1, d1, s1, p1, q1, rfl, rfl, rfl, h1, hA⟩ := trodAll_cons hA
  obtain ⟨v2, r2, d2, s2, p2, q2, rfl, rfl, rfl, h2, hA⟩ := trodAll_cons hA
  obtain ⟨v3, r3, d3, s3, p3, q3, rfl, rfl, rfl, h3, hA⟩ := trodAll_cons hA
  obtain ⟨rfl, rfl, rfl⟩ := trodAll_nil hA
  obtain rfl : args = #[v0, v1, v2, v3] := by rw [← Array.toArray_toList (xs := args), e0]
  have hv0 := hval 0 3 v0 rfl rfl
  have hv1 := hval 1 22 v1 rfl rfl
  have hv2 := hval 2 3 v2 rfl rfl
  have hv3 := hval 3 37 v3 rfl rfl
  obtain ⟨t, rfl, -, -⟩ := arg_i64 Try.underlying3 hv0 h0
  obtain ⟨cs1, R1, hu1⟩ := rdt_slice Try.underlying22 hv1 h1
  obtain ⟨u, xs, e1, hB⟩ := rdt_rowsB R1
  obtain rfl := hu1 _ e1
  obtain ⟨fl, rfl, -, -⟩ := arg_i64 Try.underlying3 hv2 h2
  obtain ⟨cs3, R3, hu3⟩ := rdt_slice Try.underlying37 hv3 h3
  obtain ⟨pa, pc, plan, e3, hp⟩ := rdt_kept R3
  obtain rfl := hu3 _ e3
  refine (finds_any t v1 xs fl pa pc plan W hB hp).mono fun e W' ⟨he, hb⟩ => ?_
  subst he
  exact ⟨_, rfl, law_post Try.laidOut (by rw [Try.params5]; decide +kernel) rfl rfl Try.underlying4 (fun ds h => by match ds, h with | [_, _, _, _], _ => rfl) hW' hb⟩

theorem journalFinds_holds : Rows.JournalFindsSaid :=
  OpenClaim.holds_of_wide 5 Try.f5 rfl rfl rfl rfl rfl rfl rfl ⟨rfl, rfl, rfl, rfl, rfl⟩ rfl rfl rfl rfl rfl (by kernel_rfl) Try.func5 (by kernel_rfl)
    (of_decide_eq_true (by kernel_rfl)) (by unfold Func.isWrapper; first | (rw [if_pos (by decide +kernel)]; kernel_rfl) | (rw [if_neg (by decide +kernel)]; exact ⟨rfl, rfl⟩))
    (fun os started H enc _ => journalFinds_lifted os started H enc)

#print axioms journalFinds_holds

end Go.Proofs.Ytafejnbfgkkjkaa
