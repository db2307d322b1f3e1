/-
  PROVED HERE: for every name, and all rows of numbers and of bits that are handed in, LockAlone returns true, and what was handed in reads as it did. No condition.
-/
import Derived.Test.YtcbofgcmfkcglaaLl
import Derived.Test.YtcbofgcmfkcglaaGL
namespace Go.Proofs.Ytcbofgcmfkcglaa
open Go.ChangeShapes Go.WideShapes Go.ChangeAt Go.RowKit Go.Joins

section
variable {H : Type} {enc : TypeId × Value → H} {W : World} {cs : List Value}
theorem rdt_nm (h : Rdt enc Try.prog W 23 cs) : ∃ n : Nm, cs = n.cells.toList := by
  have hl := h.len_struct Try.underlying23
  rw [show Try.prog.cellsOf 23 = 3 by kernel_rfl] at hl
  match cs, hl with
  | [c0, c1, c2], _ =>
    have k1 : Try.prog.cellsOf 3 = 1 := by kernel_rfl
    obtain ⟨z0, e0, -⟩ := (show Rdt enc Try.prog W 3 [c0] from h.field Try.underlying23 0 rfl k1).i64 Try.underlying3
    obtain ⟨z1, e1, -⟩ := (show Rdt enc Try.prog W 3 [c1] from h.field Try.underlying23 1 rfl k1).i64 Try.underlying3
    obtain ⟨z2, e2, -⟩ := (show Rdt enc Try.prog W 3 [c2] from h.field Try.underlying23 2 rfl k1).i64 Try.underlying3
    cases e0; cases e1; cases e2
    exact ⟨⟨z0, z1, z2⟩, rfl⟩
theorem icells_flat (zs : List Int) : zs.flatMap (fun z => [Value.int .i64 z]) = icells zs := by
  induction zs with
  | nil => rfl
  | cons z zs ih => rw [List.flatMap_cons, ih]; rfl
theorem rdt_ints {t : TypeId} (h : Rdt enc Try.prog W t cs) (ht : Try.prog.underlying t = some (.slice 3)) : ∃ va vc zs, cs = [.slice va zs.length vc] ∧ Rd 0 W.heap.size W 1 (.slice va zs.length vc) zs.length (icells zs) := by
  obtain ⟨u, zs, e, hR⟩ := h.flat (f := fun z : Int => [Value.int .i64 z]) (sz := 1) ht (by kernel_rfl) (by omega) (fun _ => rfl) (fun cs h => by
    obtain ⟨z, e, -⟩ := h.i64 Try.underlying3
    exact ⟨z, e⟩)
  rw [icells_flat] at hR
  obtain ⟨va, vc, rfl, -, -⟩ := hR.form
  exact ⟨va, vc, zs, e, hR⟩
theorem bcells_flat (bs : List Bool) : bs.flatMap (fun b => [Value.bool b]) = bs.map Value.bool := by
  induction bs with
  | nil => rfl
  | cons z zs ih => rw [List.flatMap_cons, ih]; rfl
theorem rdt_bools {t : TypeId} (h : Rdt enc Try.prog W t cs) (ht : Try.prog.underlying t = some (.slice 4)) : ∃ (va : Option Addr) (vc : Nat) (bs : List Bool), cs = [.slice va bs.length vc] ∧ Rd 0 W.heap.size W 1 (.slice va bs.length vc) bs.length (bs.map Value.bool) := by
  obtain ⟨u, bs, e, hR⟩ := h.flat (f := fun b : Bool => [Value.bool b]) (sz := 1) ht (by kernel_rfl) (by omega) (fun _ => rfl) (fun cs h => by
    obtain ⟨z, e⟩ := h.bool Try.underlying4
    exact ⟨z, e⟩)
  rw [bcells_flat] at hR
  obtain ⟨va, vc, rfl, -, -⟩ := hR.form
  exact ⟨va, vc, bs, e, hR⟩
end

set_option maxRecDepth 100000 in
theorem lockAlone_lifted (os : Os) (started : os.Started) (H : Type) (enc : TypeId × Value → H) :
    ReturnsInHanded {} Try.checked os 3 .any (Rows.lockAloneSpec.pre6 enc Try.prog Try.f3 Rows.lockAloneRow.domain false) (Rows.lockAloneSpec.post enc Try.prog Try.f3 false true false false) := by
  refine returnsInHanded_of_change (C := Try.checked) Try.own started (by kernel_rfl) Try.func3
    (ChangeSpec.witness6 (enc := enc) (C := Try.checked) false ⟨#[], #[.agg #[.int .i64 0, .int .i64 0, .int .i64 0], .slice none 0 0, .slice none 0 0], []⟩ 8 (by kernel_rfl) (by kernel_rfl) (by kernel_rfl) (by kernel_rfl)) ?_
  intro W base args ds gs before hval0 hW hcnd _
  have hval : ∀ (j : Nat) t v, Try.f3.params[j]? = some t → args[j]? = some v → Value.okWide Try.prog W .any base t v := hval0
  have hW' := hW
  obtain ⟨p, q, hA0, hV, rfl, hfz, hnd⟩ := hW
  have hA : DataW.TrodAll enc Try.prog W 0 (fun _ => true) true Try.f3.params.toList args.toList ds p := hA0
  rw [Try.params3] at hA hval
  obtain ⟨v0, r0, d0, s0, p0, q0, e0, rfl, rfl, h0, hA⟩ := trodAll_cons hA
  obtain ⟨v1, r1, d1, s1, p1, q1, rfl, rfl, rfl, h1, hA⟩ := trodAll_cons hA
  obtain ⟨v2, r2, d2, s2, p2, q2, rfl, rfl, rfl, h2, hA⟩ := trodAll_cons hA
  obtain ⟨rfl, rfl, rfl⟩ := trodAll_nil hA
  obtain rfl : args = #[v0, v1, v2] := by rw [← Array.toArray_toList (xs := args), e0]
  have hv0 := hval 0 23 v0 rfl rfl
  have hv1 := hval 1 24 v1 rfl rfl
  have hv2 := hval 2 25 v2 rfl rfl
  obtain ⟨cs0, rfl, R0⟩ := rdt_agg Try.underlying23 hv0 h0
  obtain ⟨n, rfl⟩ := rdt_nm R0
  obtain ⟨cs1, R1, hu1⟩ := rdt_slice Try.underlying24 hv1 h1
  obtain ⟨va, vc, zs, e1, hR1⟩ := rdt_ints R1 Try.underlying24
  obtain rfl := hu1 _ e1
  obtain ⟨cs2, R2, hu2⟩ := rdt_slice Try.underlying25 hv2 h2
  obtain ⟨vb, vd, bs, e2, hR2⟩ := rdt_bools R2 Try.underlying25
  obtain rfl := hu2 _ e2
  refine (alone13_any n va vb vc vd zs bs W hR1 hR2).mono fun e W' ⟨he, hb⟩ => ?_
  subst he
  exact ⟨_, rfl, law_post Try.laidOut (by rw [Try.params3]; decide +kernel) rfl rfl Try.underlying4 (fun ds h => by match ds, h with | [_, _, _], _ => rfl) hW' hb⟩

theorem lockAlone_holds : Rows.LockAloneSaid :=
  OpenClaim.holds_of_wide 3 Try.f3 rfl rfl rfl rfl rfl rfl rfl ⟨rfl, rfl, rfl, rfl, rfl⟩ rfl rfl rfl rfl rfl (by kernel_rfl) Try.func3 (by kernel_rfl)
    (of_decide_eq_true (by kernel_rfl)) (by unfold Func.isWrapper; first | (rw [if_pos (by decide +kernel)]; kernel_rfl) | (rw [if_neg (by decide +kernel)]; exact ⟨rfl, rfl⟩))
    (fun os started H enc _ => lockAlone_lifted os started H enc)

#print axioms lockAlone_holds

end Go.Proofs.Ytcbofgcmfkcglaa
