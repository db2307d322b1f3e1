/-
  law16: FabricBytes.
-/
import Derived.Test.YtojgcgaoajfihaaHg
import Derived.Test.YtojgcgaoajfihaaHe
namespace Go.Proofs.Ytojgcgaoajfihaa
open Go.RowKit Go.Sort

theorem okB_len (ms : Ml) : (ifL (ms.ok = true) (mlB ms)).length ≤ 20000000 := by
  by_cases h : ms.ok = true
  · rw [ifL_pos h]
    obtain ⟨h1, h2⟩ := Ml.ok_iff.1 h
    have := mlB_len h2; omega
  · rw [ifL_neg h]; simp
set_option maxHeartbeats 1000000 in
theorem fbytesLaw_any (va : Option Addr) (vn vc : Nat) (cs : List Value) (ms : Ml) (vb : Value) (bs : List UInt8) (w : World) (hv : MsC cs 0 w.heap.size w (.slice va vn vc) ms) (hb : Bs 0 w.heap.size w vb bs) :
    Calls Try.prog 3 #[.agg #[.slice va vn vc], vb] w fun e w' => e = .returned (.bool true) ∧ Below w.heap.size w w' := by
  have M := Mem.start w
  obtain rfl : vn = ms.length := by
    obtain ⟨_, _, hf, -, -⟩ := hv.1.form
    simp only [Value.slice.injEq] at hf; exact hf.2.1
  have hlen := okB_len ms
  generalize hcc : (if ms.ok = true then (0 : Int) else 2) = c at *
  refine calls_enter Try.func3 rfl 64 rfl rfl ?_; intro a S
  refine nxD ?_
  refine st_box S M rfl rfl rfl #[_] rfl ?_; clear S M a; intro a w1 bF S M hB
  refine st_go [1] S rfl (by kernel_rfl) ?_; clear S a; intro a S
  refine nxC ?_
  refine wp_seq ?_
  refine nxD ?_
  refine st_y S rfl rfl rfl (y_loadAgg (cs := [_]) S (by kernel_rfl) rfl rfl (M.cellsAt (k := 1) 0 rfl rfl)) ?_; clear S a; intro a S
  refine st_call (xs := [(Operand.tmp 13)]) S (enters_of Try.func5 (by decide) rfl) rfl rfl rfl (great16_any va _ vc cs ms _ (M.msW hv)) ?_
  rintro _ w2 ⟨b1, rfl, hK⟩; refine ⟨_, rfl, ?_⟩; clear S a; intro a S; replace M := M.grow hK
  refine st_go [1] S rfl (by kernel_rfl) ?_; clear S a; intro a S
  refine st_if (t := 15) S rfl ?_ ?_
  · clear S; intro h15 S
    refine st_go [0, 0, 0, 1] S rfl (by kernel_rfl) ?_; clear S a; intro a S
    refine nxC ?_
    refine st_condT S rfl ?_
    refine nxD ?_
    refine st_call (xs := []) S (enters_of Try.func6 (by decide) rfl) rfl rfl rfl (wakes16_any _) ?_
    rintro _ w3 ⟨rfl, hK⟩; refine ⟨_, rfl, ?_⟩; clear S a; intro a S; replace M := M.grow hK
    refine st_go [1] S rfl (by kernel_rfl) ?_; clear S a; intro a S
    refine nxC ?_
    refine wp_ret ?_
    refine then_ret ?_
    refine end_one S rfl (res_tmp rfl) ?_
    exact ⟨rfl, M.below⟩
  clear S; intro h15 S
  refine st_go [1] S rfl (by kernel_rfl) ?_; clear S a; intro a S
  refine st_y S rfl rfl rfl (y_lenR (E := 5) S rfl (M.arg hb) (by kernel_rfl)) ?_; clear S a; intro a S
  refine st_go [1, 1] S rfl (by kernel_rfl) ?_; clear S a; intro a S
  refine nxC ?_
  refine st_if (t := 19) S rfl ?_ ?_
  · clear S; intro h19 S
    refine st_condT S rfl ?_
    refine nxD ?_
    refine st_call (xs := []) S (enters_of Try.func6 (by decide) rfl) rfl rfl rfl (wakes16_any _) ?_
    rintro _ w4 ⟨rfl, hK⟩; refine ⟨_, rfl, ?_⟩; clear S a; intro a S; replace M := M.grow hK
    refine st_go [1] S rfl (by kernel_rfl) ?_; clear S a; intro a S
    refine nxC ?_
    refine wp_ret ?_
    refine then_ret ?_
    refine end_one S rfl (res_tmp rfl) ?_
    exact ⟨rfl, M.below⟩
  clear S; intro h19 S
  refine st_condF S rfl ?_
  refine wp_skip ?_
  refine nxE ?_
  refine st_y S rfl rfl rfl (y_loadAgg (cs := [_]) S (by kernel_rfl) rfl rfl (M.cellsAt (k := 1) 0 rfl rfl)) ?_; clear S a; intro a S
  refine st_call (xs := [(Operand.tmp 22)]) S (enters_of Try.func7 (by decide) rfl) rfl rfl rfl (bytes16_any _ cs ms _ (M.msW hv)) ?_
  rintro _ w5 ⟨v1, rfl, hF⟩; refine ⟨_, rfl, ?_⟩; clear S a; intro a S; rw [hcc] at S
  obtain ⟨lo1, hi1, -, M⟩ := M.pushFresh hF
  refine st_go [1, 1, 1, 1, 1] S rfl (by kernel_rfl) ?_; clear S a; intro a S
  refine nxA ?_
  refine st_y S rfl rfl rfl (y_loadAgg (cs := [_]) S (by kernel_rfl) rfl rfl (M.cellsAt (k := 1) 1 rfl rfl)) ?_; clear S a; intro a S
  refine st_call (xs := [(Operand.tmp 27)]) S (enters_of Try.func8 (by decide) rfl) rfl rfl rfl (fbytes16_any va vc cs ms _ (M.msW hv)) ?_
  rintro _ w6 ⟨v2, rfl, hF⟩; refine ⟨_, rfl, ?_⟩; clear S a; intro a S; rw [hcc] at S
  obtain ⟨lo2, hi2, -, M⟩ := M.pushFresh hF
  refine st_go [1, 1, 1, 1, 1] S rfl (by kernel_rfl) ?_; clear S a; intro a S
  replace S := S.sub [(0, _), (1, _), (2, _), (4, _), (19, _), (5, _), (6, _), (7, _), (8, _)] rfl
  refine nxA ?_
  refine st_go [1] S rfl (by kernel_rfl) ?_; clear S a; intro a S
  refine st_call (xs := [(Operand.tmp 32)]) S (enters_of Try.func9 (by decide) rfl) rfl rfl rfl (readF_any' vb bs _ (M.argW hb) (by omega)) ?_
  rintro _ w7 ⟨l, c1, ⟨ad3, cp3, cs3, rfl, hK, hMs⟩, hl⟩; refine ⟨_, rfl, ?_⟩; clear S a; intro a S
  obtain ⟨lo3, hi3, M⟩ := M.pushMs hK hMs
  refine st_go [1, 1, 1] S rfl (by kernel_rfl) ?_; clear S a; intro a S
  refine st_alloc S M rfl rfl #[.slice none 0 0] (by kernel_rfl) ?_; clear S M a; intro a w8 b1 S M hB
  refine st_store (sz := 1) (us := [_]) S M 0 rfl (by kernel_rfl) rfl rfl rfl rfl rfl rfl (by first | decide | (simp; done) | (simp; omega)) ?_; clear M; intro w9 M
  simp only [putL, List.set_cons_zero, List.set_cons_succ, Nat.reduceAdd] at M
  refine st_go [1] S rfl (by kernel_rfl) ?_; clear S a; intro a S
  refine nxA ?_
  refine st_go [1] S rfl (by kernel_rfl) ?_; clear S a; intro a S
  refine st_call (xs := [(Operand.tmp 37)]) S (enters_of Try.func10 (by decide) rfl) rfl rfl rfl (freadF_any vb bs _ (M.argW hb) (by omega)) ?_
  rintro _ w10 ⟨l', c1', ⟨ad4, cp4, cs4, rfl, hK, hMs⟩, hl'⟩; refine ⟨_, rfl, ?_⟩; clear S a; intro a S
  obtain ⟨rfl, rfl⟩ := hl.one hl'
  obtain ⟨lo4, hi4, M⟩ := M.pushMs hK hMs
  refine st_go [1, 1, 1] S rfl (by kernel_rfl) ?_; clear S a; intro a S
  refine st_alloc S M rfl rfl #[.slice none 0 0] (by kernel_rfl) ?_; clear S M a; intro a w11 b2 S M hB
  refine st_store (sz := 1) (us := [_]) S M 0 rfl (by kernel_rfl) rfl rfl rfl rfl rfl rfl (by first | decide | (simp; done) | (simp; omega)) ?_; clear M; intro w12 M
  simp only [putL, List.set_cons_zero, List.set_cons_succ, Nat.reduceAdd] at M
  refine st_go [1] S rfl (by kernel_rfl) ?_; clear S a; intro a S
  refine nxA ?_
  refine st_go [1] S rfl (by kernel_rfl) ?_; clear S a; intro a S
  refine st_y S rfl rfl rfl (y_bytesStr (e := 5) S rfl (by kernel_rfl) (by kernel_rfl) (by kernel_rfl) (M.readAll 5 rfl (by unfold maxLen; omega))) ?_; clear S a; intro a S
  refine st_go [1] S rfl (by kernel_rfl) ?_; clear S a; intro a S
  refine st_y S rfl rfl rfl (y_bytesStr (e := 5) S rfl (by kernel_rfl) (by kernel_rfl) (by kernel_rfl) (M.readAll 4 rfl (by unfold maxLen; omega))) ?_; clear S a; intro a S
  refine st_y S rfl rfl rfl (y_eqlStr S rfl rfl) ?_; clear S a; intro a S
  refine st_go [1] S rfl (by kernel_rfl) ?_; clear S a; intro a S
  refine st_fi (t := 46) S rfl ?_ ?_
  · clear S; intro h46 S
    simp at h46
  clear S; intro h46 S
  refine st_go [1, 1, 1, 1, 1] S rfl (by kernel_rfl) ?_; clear S a; intro a S
  refine st_fi (t := 51) S rfl ?_ ?_
  · clear S; intro h51 S
    simp at h51
  clear S; intro h51 S
  refine st_y S rfl rfl rfl (y_loadAgg (cs := [_]) S (by kernel_rfl) rfl rfl (M.cellsAt (k := 1) 2 rfl rfl)) ?_; clear S a; intro a S
  refine st_y S rfl rfl rfl (y_loadAgg (cs := [_]) S (by kernel_rfl) rfl rfl (M.cellsAt (k := 1) 0 rfl rfl)) ?_; clear S a; intro a S
  refine st_call (xs := [(Operand.tmp 52), (Operand.tmp 53)]) S (enters_of Try.func11 (by decide) rfl) rfl rfl rfl (same16_any _ _ _ _ _ _ cs3 cs4 l _ (M.msAll 3 rfl) (M.msAll 1 rfl)) ?_
  rintro _ w13 ⟨rfl, hK⟩; refine ⟨_, rfl, ?_⟩; clear S a; intro a S; replace M := M.grow hK
  refine st_go [1, 1] S rfl (by kernel_rfl) ?_; clear S a; intro a S
  refine st_fi (t := 56) S rfl ?_ ?_
  · clear S; intro h56 S
    simp at h56
  clear S; intro h56 S
  refine st_go [1, 1, 1, 1, 1] S rfl (by kernel_rfl) ?_; clear S a; intro a S
  refine st_fi (t := 61) S rfl ?_ ?_
  · clear S; intro h61 S
    simp at h61
  clear S; intro h61 S
  refine st_call (xs := []) S (enters_of Try.func6 (by decide) rfl) rfl rfl rfl (wakes16_any _) ?_
  rintro _ w14 ⟨rfl, hK⟩; refine ⟨_, rfl, ?_⟩; clear S a; intro a S; replace M := M.grow hK
  refine st_go [1, 1] S rfl (by kernel_rfl) ?_; clear S a; intro a S
  replace S := S.sub [(0, _), (1, _), (2, _), (19, _), (5, _), (6, _), (7, _), (8, _), (9, _), (10, _), (11, _), (12, _), (4, _)] rfl
  refine nxC ?_
  refine wp_ret ?_
  refine end_one S rfl (res_tmp rfl) ?_
  exact ⟨rfl, M.below⟩

end Go.Proofs.Ytojgcgaoajfihaa
