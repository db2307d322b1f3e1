/-
  PROVED HERE: for every superblock and all rows of bytes that are handed in, RecoverParts returns true, and what was handed in reads as it did. No condition.
-/
import Derived.Test.YtodfphphidhjbaaGreatP8
namespace Go.Proofs.YtodfphphidhjbaaGreat
open Go.ChangeShapes Go.WideShapes Go.ChangeAt Go.RowKit Go.Joins
section
variable {H : Type} {enc : TypeId × Value → H} {W : World} {cs : List Value}
theorem rdt_su (h : Rdt enc Tryz.prog W 24 cs) : ∃ s : Su, cs = s.cellsL := by
  have hl := h.len_struct Tryz.underlying24
  rw [show Tryz.prog.cellsOf 24 = 13 by kernel_rfl] at hl
  match cs, hl with
  | [c0, c1, c2, c3, c4, c5, c6, c7, c8, c9, c10, c11, c12], _ =>
    have k1 : Tryz.prog.cellsOf 3 = 1 := by kernel_rfl
    obtain ⟨z0, e0, -⟩ := (show Rdt enc Tryz.prog W 3 [c0] from h.field Tryz.underlying24 0 rfl k1).i64 Tryz.underlying3
    obtain ⟨z1, e1, -⟩ := (show Rdt enc Tryz.prog W 3 [c1] from h.field Tryz.underlying24 1 rfl k1).i64 Tryz.underlying3
    obtain ⟨z2, e2, -⟩ := (show Rdt enc Tryz.prog W 3 [c2] from h.field Tryz.underlying24 2 rfl k1).i64 Tryz.underlying3
    obtain ⟨z3, e3, -⟩ := (show Rdt enc Tryz.prog W 3 [c3] from h.field Tryz.underlying24 3 rfl k1).i64 Tryz.underlying3
    obtain ⟨z4, e4, -⟩ := (show Rdt enc Tryz.prog W 3 [c4] from h.field Tryz.underlying24 4 rfl k1).i64 Tryz.underlying3
    have hm : Rdt enc Tryz.prog W 22 [c5, c6, c7, c8, c9, c10, c11, c12] := h.field Tryz.underlying24 5 rfl (k := 8) (by kernel_rfl)
    obtain ⟨z5, e5, -⟩ := (show Rdt enc Tryz.prog W 3 [c5] from hm.elem Tryz.underlying22 k1 0 (by omega)).i64 Tryz.underlying3
    obtain ⟨z6, e6, -⟩ := (show Rdt enc Tryz.prog W 3 [c6] from hm.elem Tryz.underlying22 k1 1 (by omega)).i64 Tryz.underlying3
    obtain ⟨z7, e7, -⟩ := (show Rdt enc Tryz.prog W 3 [c7] from hm.elem Tryz.underlying22 k1 2 (by omega)).i64 Tryz.underlying3
    obtain ⟨z8, e8, -⟩ := (show Rdt enc Tryz.prog W 3 [c8] from hm.elem Tryz.underlying22 k1 3 (by omega)).i64 Tryz.underlying3
    obtain ⟨z9, e9, -⟩ := (show Rdt enc Tryz.prog W 3 [c9] from hm.elem Tryz.underlying22 k1 4 (by omega)).i64 Tryz.underlying3
    obtain ⟨z10, e10, -⟩ := (show Rdt enc Tryz.prog W 3 [c10] from hm.elem Tryz.underlying22 k1 5 (by omega)).i64 Tryz.underlying3
    obtain ⟨z11, e11, -⟩ := (show Rdt enc Tryz.prog W 3 [c11] from hm.elem Tryz.underlying22 k1 6 (by omega)).i64 Tryz.underlying3
    obtain ⟨z12, e12, -⟩ := (show Rdt enc Tryz.prog W 3 [c12] from hm.elem Tryz.underlying22 k1 7 (by omega)).i64 Tryz.underlying3
    cases e0; cases e1; cases e2; cases e3; cases e4; cases e5; cases e6; cases e7; cases e8; cases e9; cases e10; cases e11; cases e12
    exact ⟨⟨z0, z1, z2, z3, z4, z5, z6, z7, z8, z9, z10, z11, z12⟩, rfl⟩
end
set_option maxRecDepth 100000 in
theorem recoverParts_lifted (os : Os) (started : os.Started) (H : Type) (enc : TypeId × Value → H) :
    ReturnsInHanded {} Tryz.checked os 3 .any (Rows.recoverPartsSpec.pre6 enc Tryz.prog Tryz.f3 Rows.recoverPartsRow.domain false) (Rows.recoverPartsSpec.post enc Tryz.prog Tryz.f3 false true false false) := by
  refine returnsInHanded_of_change (C := Tryz.checked) Tryz.own started (by kernel_rfl) Tryz.func3
    (ChangeSpec.witness6 (enc := enc) (C := Tryz.checked) false ⟨#[], #[.agg #[.int .i64 0, .int .i64 0, .int .i64 0, .int .i64 0, .int .i64 0, .int .i64 0, .int .i64 0, .int .i64 0, .int .i64 0, .int .i64 0, .int .i64 0, .int .i64 0, .int .i64 0], .slice none 0 0], []⟩ 8 (by kernel_rfl) (by kernel_rfl) (by kernel_rfl) (by kernel_rfl)) ?_
  intro W base args ds gs before hval0 hW hcnd _
  have hval : ∀ (j : Nat) t v, Tryz.f3.params[j]? = some t → args[j]? = some v → Value.okWide Tryz.prog W .any base t v := hval0
  have hW' := hW
  obtain ⟨p, q, hA0, hV, rfl, hfz, hnd⟩ := hW
  have hA : DataW.TrodAll enc Tryz.prog W 0 (fun _ => true) true Tryz.f3.params.toList args.toList ds p := hA0
  rw [Tryz.params3] at hA hval
  obtain ⟨v0, r0, d0, s0, p0, q0, e0, rfl, rfl, h0, hA⟩ := trodAll_cons hA
  obtain ⟨v1, r1, d1, s1, p1, q1, rfl, rfl, rfl, h1, hA⟩ := trodAll_cons hA
  obtain ⟨rfl, rfl, rfl⟩ := trodAll_nil hA
  obtain rfl : args = #[v0, v1] := by rw [← Array.toArray_toList (xs := args), e0]
  have hv0 := hval 0 24 v0 rfl rfl
  have hv1 := hval 1 25 v1 rfl rfl
  obtain ⟨cs0, rfl, R0⟩ := rdt_agg Tryz.underlying24 hv0 h0
  obtain ⟨s, rfl⟩ := rdt_su R0
  obtain ⟨cs1, R1, hu1⟩ := rdt_slice Tryz.underlying25 hv1 h1
  obtain ⟨u, xs, e1, hB⟩ := rdt_rowsB R1
  obtain rfl := hu1 _ e1
  refine (parts_any s v1 xs W hB).mono fun e W' ⟨he, hb⟩ => ?_
  subst he
  exact ⟨_, rfl, law_post Tryz.laidOut (by rw [Tryz.params3]; decide +kernel) rfl rfl Tryz.underlying4 (fun ds h => by match ds, h with | [_, _], _ => rfl) hW' hb⟩
theorem recoverParts_holds : Rows.RecoverPartsSaid :=
  OpenClaim.holds_of_wide 3 Tryz.f3 rfl rfl rfl rfl rfl rfl rfl ⟨rfl, rfl, rfl, rfl, rfl⟩ rfl rfl rfl rfl rfl (by kernel_rfl) Tryz.func3 (by kernel_rfl)
    (of_decide_eq_true (by kernel_rfl)) (by unfold Func.isWrapper; first | (rw [if_pos (by decide +kernel)]; kernel_rfl) | (rw [if_neg (by decide +kernel)]; exact ⟨rfl, rfl⟩))
    (fun os started H enc _ => recoverParts_lifted os started H enc)
#print axioms recoverParts_holds
end Go.Proofs.YtodfphphidhjbaaGreat
