/-
  PROVED HERE: for every change, shard, name and row of messages that are handed in, MoveAsks returns true, and what was handed in reads as it did. No condition.
-/
import Derived.Test.YtgocjpcmjljeoaaMg
import Derived.Test.YtgocjpcmjljeoaaArgN
namespace Go.Proofs.Ytgocjpcmjljeoaa
open Go.ChangeShapes Go.WideShapes Go.ChangeAt Go.RowKit Go.Joins

theorem rdt_ch {H : Type} {enc : TypeId × Value → H} {W : World} {cs : List Value} (h : Rdt enc Try.prog W 23 cs) : ∃ s t : Int, cs = [.int .i64 s, .int .i64 t] := by
  have hl := h.len_struct Try.underlying23
  rw [show Try.prog.cellsOf 23 = 2 by kernel_rfl] at hl
  match cs, hl with
  | [c0, c1], _ =>
    have k1 : Try.prog.cellsOf 3 = 1 := by kernel_rfl
    obtain ⟨z0, e0, -⟩ := (show Rdt enc Try.prog W 3 [c0] from h.field Try.underlying23 0 rfl k1).i64 Try.underlying3
    obtain ⟨z1, e1, -⟩ := (show Rdt enc Try.prog W 3 [c1] from h.field Try.underlying23 1 rfl k1).i64 Try.underlying3
    cases e0; cases e1
    exact ⟨z0, z1, rfl⟩

set_option maxRecDepth 100000 in
theorem moveAsks_lifted (os : Os) (started : os.Started) (H : Type) (enc : TypeId × Value → H) :
    ReturnsInHanded {} Try.checked os 3 .any (Rows.moveAsksSpec.pre6 enc Try.prog Try.f3 Rows.moveAsksRow.domain false) (Rows.moveAsksSpec.post enc Try.prog Try.f3 false true false false) := by
  refine returnsInHanded_of_change (C := Try.checked) Try.own started (by kernel_rfl) Try.func3
    (ChangeSpec.witness6 (enc := enc) (C := Try.checked) false ⟨#[], #[.agg #[.int .i64 0, .int .i64 0], .int .i64 0, .agg #[.int .i64 0, .int .i64 0, .int .i64 0], .slice none 0 0], []⟩ 8 (by kernel_rfl) (by kernel_rfl) (by kernel_rfl) (by kernel_rfl)) ?_
  intro W base args ds gs before hval0 hW hcnd _
  have hval : ∀ (j : Nat) t v, Try.f3.params[j]? = some t → args[j]? = some v → Value.okWide Try.prog W .any base t v := hval0
  have hW' := hW
  obtain ⟨p, q, hA0, hV, rfl, hfz, hnd⟩ := hW
  have hA : DataW.TrodAll enc Try.prog W 0 (fun _ => true) true Try.f3.params.toList args.toList ds p := hA0
  rw [Try.params3] at hA hval
  obtain ⟨v0, r0, d0, s0, p0, q0, e0, rfl, rfl, h0, hA⟩ := trodAll_cons hA
  obtain ⟨v1, r1, d1, s1, p1, q1, rfl, rfl, rfl, h1, hA⟩ := trodAll_cons hA
  obtain ⟨v2, r2, d2, s2, p2, q2, rfl, rfl, rfl, h2, hA⟩ := trodAll_cons hA
  obtain ⟨v3, r3, d3, s3, p3, q3, rfl, rfl, rfl, h3, hA⟩ := trodAll_cons hA
  obtain ⟨rfl, rfl, rfl⟩ := trodAll_nil hA
  obtain rfl : args = #[v0, v1, v2, v3] := by rw [← Array.toArray_toList (xs := args), e0]
  have hv0 := hval 0 23 v0 rfl rfl
  have hv1 := hval 1 3 v1 rfl rfl
  have hv2 := hval 2 25 v2 rfl rfl
  have hv3 := hval 3 26 v3 rfl rfl
  obtain ⟨cs0, rfl, R0⟩ := rdt_agg Try.underlying23 hv0 h0
  obtain ⟨s, t, rfl⟩ := rdt_ch R0
  obtain ⟨f, rfl, -⟩ := arg_i64 Try.underlying3 hv1 h1
  obtain ⟨cs2, rfl, R2⟩ := rdt_agg Try.underlying25 hv2 h2
  obtain ⟨n, rfl⟩ := rdt_nm R2
  obtain ⟨cs3, R3, hu⟩ := rdt_slice Try.underlying26 hv3 h3
  obtain ⟨u, css, ms, e3, hm⟩ := rdt_ms R3 Try.underlying26
  obtain rfl := hu u e3
  refine (asksL_any s t f n v3 css ms W hm).mono fun e W' ⟨he, hb⟩ => ?_
  subst he
  exact ⟨_, rfl, law_post Try.laidOut (by rw [Try.params3]; decide +kernel) rfl rfl Try.underlying4 (fun ds h => by match ds, h with | [_, _, _, _], _ => rfl) hW' hb⟩

theorem moveAsks_holds : Rows.MoveAsksSaid :=
  OpenClaim.holds_of_wide 3 Try.f3 rfl rfl rfl rfl rfl rfl rfl ⟨rfl, rfl, rfl, rfl, rfl⟩ rfl rfl rfl rfl rfl (by kernel_rfl) Try.func3 (by kernel_rfl)
    (of_decide_eq_true (by kernel_rfl)) (by unfold Func.isWrapper; first | (rw [if_pos (by decide +kernel)]; kernel_rfl) | (rw [if_neg (by decide +kernel)]; exact ⟨rfl, rfl⟩))
    (fun os started H enc _ => moveAsks_lifted os started H enc)

#print axioms moveAsks_holds

end Go.Proofs.Ytgocjpcmjljeoaa
