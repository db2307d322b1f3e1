/-
  PROVED HERE: for every fabric and every row of bytes that are handed in, FabricBytes returns true, and what was handed in reads as it did. No condition.
-/
import Derived.Test.YtojgcgaoajfihaaHh
import Derived.Test.YtojgcgaoajfihaaArgN
namespace Go.Proofs.Ytojgcgaoajfihaa
open Go.ChangeShapes Go.WideShapes Go.ChangeAt Go.RowKit Go.Joins

section
variable {H : Type} {enc : TypeId × Value → H} {W : World} {cs : List Value}
theorem rdt_mail (h : Rdt enc Try.prog W 24 cs) : ∃ va vn vc css ms, cs = [.slice va vn vc] ∧ MsC css 0 W.heap.size W (.slice va vn vc) ms := by
  have hl := h.len_struct Try.underlying24
  rw [show Try.prog.cellsOf 24 = 1 by kernel_rfl] at hl
  match cs, hl with
  | [c0], _ =>
    obtain ⟨u, css, ms, e, hm⟩ := rdt_ms (show Rdt enc Try.prog W 22 [c0] from h.field Try.underlying24 0 rfl (k := 1) (by kernel_rfl)) Try.underlying22
    obtain ⟨va, vc, rfl, -, -⟩ := hm.1.form
    exact ⟨va, _, vc, css, ms, e, hm⟩
end

set_option maxRecDepth 100000 in
theorem fabricBytes_lifted (os : Os) (started : os.Started) (H : Type) (enc : TypeId × Value → H) :
    ReturnsInHanded {} Try.checked os 3 .any (Rows.fabricBytesSpec.pre6 enc Try.prog Try.f3 Rows.fabricBytesRow.domain false) (Rows.fabricBytesSpec.post enc Try.prog Try.f3 false true false false) := by
  refine returnsInHanded_of_change (C := Try.checked) Try.own started (by kernel_rfl) Try.func3
    (ChangeSpec.witness6 (enc := enc) (C := Try.checked) false ⟨#[], #[.agg #[.slice none 0 0], .slice none 0 0], []⟩ 8 (by kernel_rfl) (by kernel_rfl) (by kernel_rfl) (by kernel_rfl)) ?_
  intro W base args ds gs before hval0 hW hcnd _
  have hval : ∀ (j : Nat) t v, Try.f3.params[j]? = some t → args[j]? = some v → Value.okWide Try.prog W .any base t v := hval0
  have hW' := hW
  obtain ⟨p, q, hA0, hV, rfl, hfz, hnd⟩ := hW
  have hA : DataW.TrodAll enc Try.prog W 0 (fun _ => true) true Try.f3.params.toList args.toList ds p := hA0
  rw [Try.params3] at hA hval
  obtain ⟨v0, r0, d0, s0, p0, q0, e0, rfl, rfl, h0, hA⟩ := trodAll_cons hA
  obtain ⟨v1, r1, d1, s1, p1, q1, rfl, rfl, rfl, h1, hA⟩ := trodAll_cons hA
  obtain ⟨rfl, rfl, rfl⟩ := trodAll_nil hA
  obtain rfl : args = #[v0, v1] := by rw [← Array.toArray_toList (xs := args), e0]
  have hv0 := hval 0 24 v0 rfl rfl
  have hv1 := hval 1 25 v1 rfl rfl
  obtain ⟨cs0, rfl, R0⟩ := rdt_agg Try.underlying24 hv0 h0
  obtain ⟨va, vn, vc, css, ms, rfl, hms⟩ := rdt_mail R0
  obtain ⟨bs, hb⟩ := arg_bytes Try.underlying25 Try.underlying5 (by kernel_rfl) hv1 h1
  refine (fbytesLaw_any va vn vc css ms v1 bs W hms hb).mono fun e W' ⟨he, hb⟩ => ?_
  subst he
  exact ⟨_, rfl, law_post Try.laidOut (by rw [Try.params3]; decide +kernel) rfl rfl Try.underlying4 (fun ds h => by match ds, h with | [_, _], _ => rfl) hW' hb⟩

theorem fabricBytes_holds : Rows.FabricBytesSaid :=
  OpenClaim.holds_of_wide 3 Try.f3 rfl rfl rfl rfl rfl rfl rfl ⟨rfl, rfl, rfl, rfl, rfl⟩ rfl rfl rfl rfl rfl (by kernel_rfl) Try.func3 (by kernel_rfl)
    (of_decide_eq_true (by kernel_rfl)) (by unfold Func.isWrapper; first | (rw [if_pos (by decide +kernel)]; kernel_rfl) | (rw [if_neg (by decide +kernel)]; exact ⟨rfl, rfl⟩))
    (fun os started H enc _ => fabricBytes_lifted os started H enc)

#print axioms fabricBytes_holds

end Go.Proofs.Ytojgcgaoajfihaa
