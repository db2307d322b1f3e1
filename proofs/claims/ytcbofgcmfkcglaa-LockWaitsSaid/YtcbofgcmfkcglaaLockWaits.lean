/-
  PROVED HERE: for every row of acts that is handed in, LockWaits returns true, and what was handed in reads as it did. No condition.
-/
import Derived.Test.YtcbofgcmfkcglaaLt
import Derived.Test.YtcbofgcmfkcglaaGL
namespace Go.Proofs.Ytcbofgcmfkcglaa
open Go.ChangeShapes Go.WideShapes Go.ChangeAt Go.RowKit Go.Joins

section
variable {H : Type} {enc : TypeId × Value → H} {W : World} {cs : List Value}
theorem rdt_nm (h : Rdt enc Try.prog W 23 cs) : ∃ n : Nm, cs = n.cells.toList := by
  have hl := h.len_struct Try.underlying23
  rw [show Try.prog.cellsOf 23 = 3 by kernel_rfl] at hl
  match cs, hl with
  | [c0, c1, c2], _ =>
    have k1 : Try.prog.cellsOf 3 = 1 := by kernel_rfl
    obtain ⟨z0, e0, -⟩ := (show Rdt enc Try.prog W 3 [c0] from h.field Try.underlying23 0 rfl k1).i64 Try.underlying3
    obtain ⟨z1, e1, -⟩ := (show Rdt enc Try.prog W 3 [c1] from h.field Try.underlying23 1 rfl k1).i64 Try.underlying3
    obtain ⟨z2, e2, -⟩ := (show Rdt enc Try.prog W 3 [c2] from h.field Try.underlying23 2 rfl k1).i64 Try.underlying3
    cases e0; cases e1; cases e2
    exact ⟨⟨z0, z1, z2⟩, rfl⟩
theorem rdt_ac (h : Rdt enc Try.prog W 45 cs) : ∃ x : Ac, cs = x.cellsL := by
  have hl := h.len_struct Try.underlying45
  rw [show Try.prog.cellsOf 45 = 6 by kernel_rfl] at hl
  match cs, hl with
  | [c0, c1, c2, c3, c4, c5], _ =>
    have k1 : Try.prog.cellsOf 3 = 1 := by kernel_rfl
    obtain ⟨z0, e0, -⟩ := (show Rdt enc Try.prog W 3 [c0] from h.field Try.underlying45 0 rfl k1).i64 Try.underlying3
    have hk := (show Rdt enc Try.prog W 37 [c1, c2, c3, c4, c5] from h.field Try.underlying45 1 rfl (k := 5) (by kernel_rfl))
    obtain ⟨n, e1⟩ := rdt_nm (show Rdt enc Try.prog W 23 [c1, c2, c3] from hk.field Try.underlying37 0 rfl (k := 3) (by kernel_rfl))
    obtain ⟨z4, e4, -⟩ := (show Rdt enc Try.prog W 3 [c4] from hk.field Try.underlying37 1 rfl k1).i64 Try.underlying3
    obtain ⟨b5, e5⟩ := (show Rdt enc Try.prog W 4 [c5] from hk.field Try.underlying37 2 rfl (k := 1) (by kernel_rfl)).bool Try.underlying4
    have e1' : c1 = .int .i64 n.stamp ∧ c2 = .int .i64 n.inc ∧ c3 = .int .i64 n.try_ := by simpa using e1
    obtain ⟨rfl, rfl, rfl⟩ := e1'
    cases e0; cases e4; cases e5
    exact ⟨⟨z0, ⟨n, z4, b5⟩⟩, rfl⟩
end

set_option maxRecDepth 100000 in
theorem lockWaits_lifted (os : Os) (started : os.Started) (H : Type) (enc : TypeId × Value → H) :
    ReturnsInHanded {} Try.checked os 4 .any (Rows.lockWaitsSpec.pre6 enc Try.prog Try.f4 Rows.lockWaitsRow.domain false) (Rows.lockWaitsSpec.post enc Try.prog Try.f4 false true false false) := by
  refine returnsInHanded_of_change (C := Try.checked) Try.own started (by kernel_rfl) Try.func4
    (ChangeSpec.witness6 (enc := enc) (C := Try.checked) false ⟨#[], #[.slice none 0 0], []⟩ 8 (by kernel_rfl) (by kernel_rfl) (by kernel_rfl) (by kernel_rfl)) ?_
  intro W base args ds gs before hval0 hW hcnd _
  have hval : ∀ (j : Nat) t v, Try.f4.params[j]? = some t → args[j]? = some v → Value.okWide Try.prog W .any base t v := hval0
  have hW' := hW
  obtain ⟨p, q, hA0, hV, rfl, hfz, hnd⟩ := hW
  have hA : DataW.TrodAll enc Try.prog W 0 (fun _ => true) true Try.f4.params.toList args.toList ds p := hA0
  rw [Try.params4] at hA hval
  obtain ⟨v0, r0, d0, s0, p0, q0, e0, rfl, rfl, h0, hA⟩ := trodAll_cons hA
  obtain ⟨rfl, rfl, rfl⟩ := trodAll_nil hA
  obtain rfl : args = #[v0] := by rw [← Array.toArray_toList (xs := args), e0]
  have hv0 := hval 0 42 v0 rfl rfl
  obtain ⟨cs0, R0, hu0⟩ := rdt_slice Try.underlying42 hv0 h0
  obtain ⟨u, l, e0', hR0⟩ := R0.flat (f := Ac.cellsL) (sz := 6) Try.underlying42 (by kernel_rfl) (by omega) (fun _ => rfl) (fun cs h => rdt_ac h)
  obtain ⟨va, vc, rfl, -, -⟩ := hR0.form
  obtain rfl := hu0 _ e0'
  refine (waits13_any va vc l W hR0).mono fun e W' ⟨he, hb⟩ => ?_
  subst he
  exact ⟨_, rfl, law_post Try.laidOut (by rw [Try.params4]; decide +kernel) rfl rfl Try.underlying4 (fun ds h => by match ds, h with | [_], _ => rfl) hW' hb⟩

theorem lockWaits_holds : Rows.LockWaitsSaid :=
  OpenClaim.holds_of_wide 4 Try.f4 rfl rfl rfl rfl rfl rfl rfl ⟨rfl, rfl, rfl, rfl, rfl⟩ rfl rfl rfl rfl rfl (by kernel_rfl) Try.func4 (by kernel_rfl)
    (of_decide_eq_true (by kernel_rfl)) (by unfold Func.isWrapper; first | (rw [if_pos (by decide +kernel)]; kernel_rfl) | (rw [if_neg (by decide +kernel)]; exact ⟨rfl, rfl⟩))
    (fun os started H enc _ => lockWaits_lifted os started H enc)

#print axioms lockWaits_holds

end Go.Proofs.Ytcbofgcmfkcglaa
