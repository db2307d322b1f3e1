/-
  PROVED HERE: for every fabric, every message and every number that are handed in, FabricBack returns true, and what was handed in reads as it did. No condition.
-/
import Derived.Test.YtojgcgaoajfihaaHf
import Derived.Test.YtojgcgaoajfihaaArgN
namespace Go.Proofs.Ytojgcgaoajfihaa
open Go.ChangeShapes Go.WideShapes Go.ChangeAt Go.RowKit Go.Joins

section
variable {H : Type} {enc : TypeId × Value → H} {W : World} {cs : List Value}
theorem rdt_mail (h : Rdt enc Try.prog W 24 cs) : ∃ va vn vc css ms, cs = [.slice va vn vc] ∧ MsC css 0 W.heap.size W (.slice va vn vc) ms := by
  have hl := h.len_struct Try.underlying24
  rw [show Try.prog.cellsOf 24 = 1 by kernel_rfl] at hl
  match cs, hl with
  | [c0], _ =>
    obtain ⟨u, css, ms, e, hm⟩ := rdt_ms (show Rdt enc Try.prog W 22 [c0] from h.field Try.underlying24 0 rfl (k := 1) (by kernel_rfl)) Try.underlying22
    obtain ⟨va, vc, rfl, -, -⟩ := hm.1.form
    exact ⟨va, _, vc, css, ms, e, hm⟩
end

set_option maxRecDepth 100000 in
theorem fabricBack_lifted (os : Os) (started : os.Started) (H : Type) (enc : TypeId × Value → H) :
    ReturnsInHanded {} Try.checked os 4 .any (Rows.fabricBackSpec.pre6 enc Try.prog Try.f4 Rows.fabricBackRow.domain false) (Rows.fabricBackSpec.post enc Try.prog Try.f4 false true false false) := by
  refine returnsInHanded_of_change (C := Try.checked) Try.own started (by kernel_rfl) Try.func4
    (ChangeSpec.witness6 (enc := enc) (C := Try.checked) false ⟨#[], #[.agg #[.slice none 0 0], .agg #[.int .i8 0, .int .i64 0, .int .i64 0, .int .i64 0, .int .i64 0, .int .i64 0, .int .i64 0, .int .i64 0, .int .i64 0, .int .i8 0, .int .i64 0, .int .u8 0, .int .u8 0, .int .u8 0, .int .u8 0, .int .u8 0, .int .u8 0, .int .u8 0, .int .u8 0, .int .i64 0, .bool false, .int .i64 0, .int .i64 0, .slice none 0 0], .int .i64 0], []⟩ 8 (by kernel_rfl) (by kernel_rfl) (by kernel_rfl) (by kernel_rfl)) ?_
  intro W base args ds gs before hval0 hW hcnd _
  have hval : ∀ (j : Nat) t v, Try.f4.params[j]? = some t → args[j]? = some v → Value.okWide Try.prog W .any base t v := hval0
  have hW' := hW
  obtain ⟨p, q, hA0, hV, rfl, hfz, hnd⟩ := hW
  have hA : DataW.TrodAll enc Try.prog W 0 (fun _ => true) true Try.f4.params.toList args.toList ds p := hA0
  rw [Try.params4] at hA hval
  obtain ⟨v0, r0, d0, s0, p0, q0, e0, rfl, rfl, h0, hA⟩ := trodAll_cons hA
  obtain ⟨v1, r1, d1, s1, p1, q1, rfl, rfl, rfl, h1, hA⟩ := trodAll_cons hA
  obtain ⟨v2, r2, d2, s2, p2, q2, rfl, rfl, rfl, h2, hA⟩ := trodAll_cons hA
  obtain ⟨rfl, rfl, rfl⟩ := trodAll_nil hA
  obtain rfl : args = #[v0, v1, v2] := by rw [← Array.toArray_toList (xs := args), e0]
  have hv0 := hval 0 24 v0 rfl rfl
  have hv1 := hval 1 42 v1 rfl rfl
  have hv2 := hval 2 3 v2 rfl rfl
  obtain ⟨cs0, rfl, R0⟩ := rdt_agg Try.underlying24 hv0 h0
  obtain ⟨va, vn, vc, css, ms, rfl, hms⟩ := rdt_mail R0
  obtain ⟨cs1, rfl, R1⟩ := rdt_agg Try.underlying42 hv1 h1
  obtain ⟨m, v, x, rfl, hw⟩ := rdt_msg R1
  obtain ⟨ad, cp, rfl, -, -⟩ := hw.form
  obtain ⟨n, rfl, -, -⟩ := arg_int Try.underlying3 hv2 h2
  refine (fback_any va vn vc css ms m ad cp x n W hms hw).mono fun e W' ⟨he, hb⟩ => ?_
  subst he
  exact ⟨_, rfl, law_post Try.laidOut (by rw [Try.params4]; decide +kernel) rfl rfl Try.underlying4 (fun ds h => by match ds, h with | [_, _, _], _ => rfl) hW' hb⟩

theorem fabricBack_holds : Rows.FabricBackSaid :=
  OpenClaim.holds_of_wide 4 Try.f4 rfl rfl rfl rfl rfl rfl rfl ⟨rfl, rfl, rfl, rfl, rfl⟩ rfl rfl rfl rfl rfl (by kernel_rfl) Try.func4 (by kernel_rfl)
    (of_decide_eq_true (by kernel_rfl)) (by unfold Func.isWrapper; first | (rw [if_pos (by decide +kernel)]; kernel_rfl) | (rw [if_neg (by decide +kernel)]; exact ⟨rfl, rfl⟩))
    (fun os started H enc _ => fabricBack_lifted os started H enc)

#print axioms fabricBack_holds

end Go.Proofs.Ytojgcgaoajfihaa
