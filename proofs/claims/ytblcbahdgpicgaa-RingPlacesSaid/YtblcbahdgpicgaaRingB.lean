/-
  Package ring: how many sectors a log has, how many are free, whether a sequence is its own.
-/
import Derived.Test.YtblcbahdgpicgaaRingA
namespace Go.Proofs.Ytblcbahdgpicgaa
open Go.RowKit Go.Sort

set_option maxHeartbeats 400000 in
theorem Used_yes (t n : Int) (w : World) (h1 : 1 ≤ t) (h2 : t ≤ 1099511627776) (h3 : t ≤ n) (h4 : n ≤ t + 24) :
    Calls Try.prog 5 #[.agg #[.int .i64 t, .int .i64 n]] w fun e w' => e = .returned (.int .i64 (n - t)) ∧ Below w.heap.size w w' := by
  go_enter Try.func5, Try.ntmps5
  go_wp2_with fail
  refine (may_yes t n _ h1 h2 h3 h4).mono ?_
  rintro e w1 ⟨rfl, hb1⟩
  have k0 := hb1.cell (p := ⟨w.heap.size, 0, none⟩) (by simp)
  have k1 := hb1.cell (p := ⟨w.heap.size, 1, none⟩) (by simp)
  go_wp2_with fail
  go_ret
  exact ⟨rfl, ext_trans (ext_alloc (ext_refl _) _) hb1⟩

set_option maxHeartbeats 400000 in
theorem Used_no (t n : Int) (w : World) (h : ¬ MayL t n) :
    Calls Try.prog 5 #[.agg #[.int .i64 t, .int .i64 n]] w fun e w' => e = .returned (.int .i64 0) ∧ Below w.heap.size w w' := by
  go_enter Try.func5, Try.ntmps5
  go_wp2_with fail
  refine (may_no t n _ h).mono ?_
  rintro e w1 ⟨rfl, hb1⟩
  go_wp2_with fail
  go_ret
  exact ⟨rfl, ext_trans (ext_alloc (ext_refl _) _) hb1⟩

set_option maxHeartbeats 400000 in
theorem Free_yes (t n : Int) (w : World) (h1 : 1 ≤ t) (h2 : t ≤ 1099511627776) (h3 : t ≤ n) (h4 : n ≤ t + 24) :
    Calls Try.prog 6 #[.agg #[.int .i64 t, .int .i64 n]] w fun e w' => e = .returned (.int .i64 (24 - (n - t))) ∧ Below w.heap.size w w' := by
  go_enter Try.func6, Try.ntmps6
  go_wp2_with fail
  refine (may_yes t n _ h1 h2 h3 h4).mono ?_
  rintro e w1 ⟨rfl, hb1⟩
  have k0 := hb1.cell (p := ⟨w.heap.size, 0, none⟩) (by simp)
  have k1 := hb1.cell (p := ⟨w.heap.size, 1, none⟩) (by simp)
  go_wp2_with fail
  refine (Used_yes t n _ h1 h2 h3 h4).mono ?_
  rintro e w2 ⟨rfl, hb2⟩
  go_wp2_with fail
  go_ret
  exact ⟨rfl, ext_trans (ext_trans (ext_alloc (ext_refl _) _) hb1) hb2⟩

set_option maxHeartbeats 400000 in
theorem Free_no (t n : Int) (w : World) (h : ¬ MayL t n) :
    Calls Try.prog 6 #[.agg #[.int .i64 t, .int .i64 n]] w fun e w' => e = .returned (.int .i64 0) ∧ Below w.heap.size w w' := by
  go_enter Try.func6, Try.ntmps6
  go_wp2_with fail
  refine (may_no t n _ h).mono ?_
  rintro e w1 ⟨rfl, hb1⟩
  go_wp2_with fail
  go_ret
  exact ⟨rfl, ext_trans (ext_alloc (ext_refl _) _) hb1⟩

set_option maxHeartbeats 400000 in
theorem Has_yes (t n s : Int) (w : World) (h1 : 1 ≤ t) (h2 : t ≤ 1099511627776) (h3 : t ≤ n) (h4 : n ≤ t + 24) (h5 : t ≤ s) (h6 : s < n) :
    Calls Try.prog 9 #[.agg #[.int .i64 t, .int .i64 n], .int .i64 s] w fun e w' => e = .returned (.bool true) ∧ Below w.heap.size w w' := by
  go_enter Try.func9, Try.ntmps9
  go_wp2_with fail
  refine (may_yes t n _ h1 h2 h3 h4).mono ?_
  rintro e w1 ⟨rfl, hb1⟩
  have k0 := hb1.cell (p := ⟨w.heap.size, 0, none⟩) (by simp)
  have k1 := hb1.cell (p := ⟨w.heap.size, 1, none⟩) (by simp)
  go_wp2_with fail
  refine (have_yes t (n - 1) s (by omega) (by omega) _).mono ?_
  rintro e w2 ⟨rfl, hb2⟩
  go_wp2_with fail
  go_ret
  exact ⟨rfl, ext_trans (ext_trans (ext_alloc (ext_refl _) _) hb1) hb2⟩

set_option maxHeartbeats 400000 in
theorem Has_no (t n s : Int) (w : World) (h1 : 1 ≤ t) (h2 : t ≤ 1099511627776) (h3 : t ≤ n) (h4 : n ≤ t + 24) (h5 : s < t ∨ n ≤ s) :
    Calls Try.prog 9 #[.agg #[.int .i64 t, .int .i64 n], .int .i64 s] w fun e w' => e = .returned (.bool false) ∧ Below w.heap.size w w' := by
  go_enter Try.func9, Try.ntmps9
  go_wp2_with fail
  refine (may_yes t n _ h1 h2 h3 h4).mono ?_
  rintro e w1 ⟨rfl, hb1⟩
  have k0 := hb1.cell (p := ⟨w.heap.size, 0, none⟩) (by simp)
  have k1 := hb1.cell (p := ⟨w.heap.size, 1, none⟩) (by simp)
  go_wp2_with fail
  refine (have_no t (n - 1) s (by omega) _).mono ?_
  rintro e w2 ⟨rfl, hb2⟩
  go_wp2_with fail
  go_ret
  exact ⟨rfl, ext_trans (ext_trans (ext_alloc (ext_refl _) _) hb1) hb2⟩

end Go.Proofs.Ytblcbahdgpicgaa
