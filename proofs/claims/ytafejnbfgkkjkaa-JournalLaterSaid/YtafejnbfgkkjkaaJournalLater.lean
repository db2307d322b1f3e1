/-
  PROVED HERE: for all rows of bytes and all plans that are handed in, JournalLater returns true, and what was handed in reads as it did. No condition.
-/
import Derived.Test.YtafejnbfgkkjkaaJs
import Derived.Test.YtafejnbfgkkjkaaArgB
namespace Go.Proofs.Ytafejnbfgkkjkaa
open Go.ChangeShapes Go.WideShapes Go.ChangeAt Go.RowKit Go.Joins

set_option maxRecDepth 100000 in
theorem journalLater_lifted (os : Os) (started : os.Started) (H : Type) (enc : TypeId × Value → H) :
    ReturnsInHanded {} Try.checked os 4 .any (Rows.journalLaterSpec.pre6 enc Try.prog Try.f4 Rows.journalLaterRow.domain false) (Rows.journalLaterSpec.post enc Try.prog Try.f4 false true false false) := by
  refine returnsInHanded_of_change (C := Try.checked) Try.own started (by kernel_rfl) Try.func4
    (ChangeSpec.witness6 (enc := enc) (C := Try.checked) false ⟨#[], #[.slice none 0 0, .slice none 0 0, .slice none 0 0, .slice none 0 0], []⟩ 8 (by kernel_rfl) (by kernel_rfl) (by kernel_rfl) (by kernel_rfl)) ?_
  intro W base args ds gs before hval0 hW hcnd _
  have hval : ∀ (j : Nat) t v, Try.f4.params[j]? = some t → args[j]? = some v → Value.okWide Try.prog W .any base t v := hval0
  have hW' := hW
  obtain ⟨p, q, hA0, hV, rfl, hfz, hnd⟩ := hW
  have hA : DataW.TrodAll enc Try.prog W 0 (fun _ => true) true Try.f4.params.toList args.toList ds p := hA0
  rw [Try.params4] at hA hval
  obtain ⟨v0, r0, d0, s0, p0, q0, e0, rfl, rfl, h0, hA⟩ := trodAll_cons hA
  obtain ⟨v1, r1, d1, s1, p1, q1, rfl, rfl, rfl, h1, hA⟩ := trodAll_cons hA
  obtain ⟨v2, r2, d2, s2, p2, q2, rfl, rfl, rfl, h2, hA⟩ := trodAll_cons hA
  obtain ⟨v3, r3, d3, s3, p3, q3, rfl, rfl, rfl, h3, hA⟩ := trodAll_cons hA
  obtain ⟨rfl, rfl, rfl⟩ := trodAll_nil hA
  obtain rfl : args = #[v0, v1, v2, v3] := by rw [← Array.toArray_toList (xs := args), e0]
  have hv0 := hval 0 22 v0 rfl rfl
  have hv1 := hval 1 22 v1 rfl rfl
  have hv2 := hval 2 37 v2 rfl rfl
  have hv3 := hval 3 37 v3 rfl rfl
  obtain ⟨cs0, R0, hu0⟩ := rdt_slice Try.underlying22 hv0 h0
  obtain ⟨u, xs, e0', hB⟩ := rdt_rowsB R0
  obtain rfl := hu0 _ e0'
  obtain ⟨cs1, R1, hu1⟩ := rdt_slice Try.underlying22 hv1 h1
  obtain ⟨u1, ys, e1, hB1⟩ := rdt_rowsB R1
  obtain rfl := hu1 _ e1
  obtain ⟨cs2, R2, hu2⟩ := rdt_slice Try.underlying37 hv2 h2
  obtain ⟨pa, pc, plan, e2, hp⟩ := rdt_kept R2
  obtain rfl := hu2 _ e2
  obtain ⟨cs3, R3, hu3⟩ := rdt_slice Try.underlying37 hv3 h3
  obtain ⟨qa, qc, late, e3, hq⟩ := rdt_kept R3
  obtain rfl := hu3 _ e3
  refine (laterLaw_any v0 v1 xs ys pa pc plan qa qc late W hB hB1 hp hq).mono fun e W' ⟨he, hb⟩ => ?_
  subst he
  exact ⟨_, rfl, law_post Try.laidOut (by rw [Try.params4]; decide +kernel) rfl rfl Try.underlying4 (fun ds h => by match ds, h with | [_, _, _, _], _ => rfl) hW' hb⟩

theorem journalLater_holds : Rows.JournalLaterSaid :=
  OpenClaim.holds_of_wide 4 Try.f4 rfl rfl rfl rfl rfl rfl rfl ⟨rfl, rfl, rfl, rfl, rfl⟩ rfl rfl rfl rfl rfl (by kernel_rfl) Try.func4 (by kernel_rfl)
    (of_decide_eq_true (by kernel_rfl)) (by unfold Func.isWrapper; first | (rw [if_pos (by decide +kernel)]; kernel_rfl) | (rw [if_neg (by decide +kernel)]; exact ⟨rfl, rfl⟩))
    (fun os started H enc _ => journalLater_lifted os started H enc)

#print axioms journalLater_holds

end Go.Proofs.Ytafejnbfgkkjkaa
