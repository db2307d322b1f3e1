/-
  PROVED HERE: for every number, log and row of bytes that is handed in, JournalSays returns true, and what was handed in reads as it did. No condition.
-/
import Derived.Test.YtafejnbfgkkjkaaJj
import Derived.Test.YtafejnbfgkkjkaaGL
namespace Go.Proofs.Ytafejnbfgkkjkaa
open Go.ChangeShapes Go.WideShapes Go.ChangeAt Go.RowKit Go.Joins

section
variable {H : Type} {enc : TypeId × Value → H} {W : World} {cs : List Value}
theorem rdt_log (h : Rdt enc Try.prog W 27 cs) : ∃ t n : Int, cs = [.int .i64 t, .int .i64 n] := by
  have hl := h.len_struct Try.underlying27
  rw [show Try.prog.cellsOf 27 = 2 by kernel_rfl] at hl
  match cs, hl with
  | [c0, c1], _ =>
    have k1 : Try.prog.cellsOf 3 = 1 := by kernel_rfl
    obtain ⟨z0, e0, -⟩ := (show Rdt enc Try.prog W 3 [c0] from h.field Try.underlying27 0 rfl k1).i64 Try.underlying3
    obtain ⟨z1, e1, -⟩ := (show Rdt enc Try.prog W 3 [c1] from h.field Try.underlying27 1 rfl k1).i64 Try.underlying3
    cases e0; cases e1
    exact ⟨z0, z1, rfl⟩
end

set_option maxRecDepth 100000 in
theorem journalSays_lifted (os : Os) (started : os.Started) (H : Type) (enc : TypeId × Value → H) :
    ReturnsInHanded {} Try.checked os 6 .any (Rows.journalSaysSpec.pre6 enc Try.prog Try.f6 Rows.journalSaysRow.domain false) (Rows.journalSaysSpec.post enc Try.prog Try.f6 false true false false) := by
  refine returnsInHanded_of_change (C := Try.checked) Try.own started (by kernel_rfl) Try.func6
    (ChangeSpec.witness6 (enc := enc) (C := Try.checked) false ⟨#[], #[.int .i64 0, .agg #[.int .i64 0, .int .i64 0], .slice none 0 0], []⟩ 8 (by kernel_rfl) (by kernel_rfl) (by kernel_rfl) (by kernel_rfl)) ?_
  intro W base args ds gs before hval0 hW hcnd _
  have hval : ∀ (j : Nat) t v, Try.f6.params[j]? = some t → args[j]? = some v → Value.okWide Try.prog W .any base t v := hval0
  have hW' := hW
  obtain ⟨p, q, hA0, hV, rfl, hfz, hnd⟩ := hW
  have hA : DataW.TrodAll enc Try.prog W 0 (fun _ => true) true Try.f6.params.toList args.toList ds p := hA0
  rw [Try.params6] at hA hval
  obtain ⟨v0, r0, d0, s0, p0, q0, e0, rfl, rfl, h0, hA⟩ := trodAll_cons hA
  obtain ⟨v1, r1, d1, s1, p1, q1, rfl, rfl, rfl, h1, hA⟩ := trodAll_cons hA
  obtain ⟨v2, r2, d2, s2, p2, q2, rfl, rfl, rfl, h2, hA⟩ := trodAll_cons hA
  obtain ⟨rfl, rfl, rfl⟩ := trodAll_nil hA
  obtain rfl : args = #[v0, v1, v2] := by rw [← Array.toArray_toList (xs := args), e0]
  have hv0 := hval 0 3 v0 rfl rfl
  have hv1 := hval 1 27 v1 rfl rfl
  have hv2 := hval 2 32 v2 rfl rfl
  obtain ⟨n, rfl, -, -⟩ := arg_i64 Try.underlying3 hv0 h0
  obtain ⟨cs1, rfl, R1⟩ := rdt_agg Try.underlying27 hv1 h1
  obtain ⟨t, nx, rfl⟩ := rdt_log R1
  obtain ⟨bs, hb⟩ := arg_bytes Try.underlying32 Try.underlying5 (by kernel_rfl) hv2 h2
  refine (says_any n t nx v2 bs W hb).mono fun e W' ⟨he, hb⟩ => ?_
  subst he
  exact ⟨_, rfl, law_post Try.laidOut (by rw [Try.params6]; decide +kernel) rfl rfl Try.underlying4 (fun ds h => by match ds, h with | [_, _, _], _ => rfl) hW' hb⟩

theorem journalSays_holds : Rows.JournalSaysSaid :=
  OpenClaim.holds_of_wide 6 Try.f6 rfl rfl rfl rfl rfl rfl rfl ⟨rfl, rfl, rfl, rfl, rfl⟩ rfl rfl rfl rfl rfl (by kernel_rfl) Try.func6 (by kernel_rfl)
    (of_decide_eq_true (by kernel_rfl)) (by unfold Func.isWrapper; first | (rw [if_pos (by decide +kernel)]; kernel_rfl) | (rw [if_neg (by decide +kernel)]; exact ⟨rfl, rfl⟩))
    (fun os started H enc _ => journalSays_lifted os started H enc)

#print axioms journalSays_holds

end Go.Proofs.Ytafejnbfgkkjkaa
