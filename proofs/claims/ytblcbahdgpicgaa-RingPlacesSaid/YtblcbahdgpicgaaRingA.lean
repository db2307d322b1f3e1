/-
  The functions of package ring, each by its contract.
-/
import Derived.Test.YtblcbahdgpicgaaKit
namespace Go.Proofs.Ytblcbahdgpicgaa
open Go.RowKit Go.Sort

set_option maxHeartbeats 400000 in
theorem have_any (a b n : Int) (w : World) :
    Calls Try.prog 11 #[.agg #[.int .i64 a, .int .i64 b], .int .i64 n] w fun e w' => e = .returned (.bool (decide (a ≤ n) && decide (n ≤ b))) ∧ Below w.heap.size w w' := by
  by_cases h : a ≤ n
  · have hd : decide (a ≤ n) = true := by simpa using h
    go_enter Try.func11, Try.ntmps11
    go_wp2
    go_ret
    exact ⟨by simp [hd], ext_alloc (ext_refl _) _⟩
  · have hd : decide (a ≤ n) = false := by simpa using h
    go_enter Try.func11, Try.ntmps11
    go_wp2
    go_ret
    exact ⟨by simp [hd], ext_alloc (ext_refl _) _⟩

set_option maxHeartbeats 400000 in
theorem sequences_any (w : World) :
    Calls Try.prog 10 #[] w fun e w' => e = .returned (.agg #[.int .i64 1, .int .i64 1099511627776]) ∧ Below w.heap.size w w' := by
  go_enter Try.func10, Try.ntmps10
  go_wp2
  exact bodyPost_ret (v := .agg #[.int .i64 1, .int .i64 1099511627776]) (by simp [results, Try.results10, go_sem]) rfl ⟨rfl, ext_alloc (ext_refl _) _⟩

theorem have_yes (a b n : Int) (h1 : a ≤ n) (h2 : n ≤ b) (w : World) :
    Calls Try.prog 11 #[.agg #[.int .i64 a, .int .i64 b], .int .i64 n] w fun e w' => e = .returned (.bool true) ∧ Below w.heap.size w w' := by
  have := have_any a b n w
  rwa [show (decide (a ≤ n) && decide (n ≤ b)) = true from by simp [h1, h2]] at this
theorem have_no (a b n : Int) (h : n < a ∨ b < n) (w : World) :
    Calls Try.prog 11 #[.agg #[.int .i64 a, .int .i64 b], .int .i64 n] w fun e w' => e = .returned (.bool false) ∧ Below w.heap.size w w' := by
  have := have_any a b n w
  rwa [show (decide (a ≤ n) && decide (n ≤ b)) = false from by rcases h with h | h <;> simp <;> omega] at this

/-- a log that may be -/
def MayL (t n : Int) : Prop := 1 ≤ t ∧ t ≤ 1099511627776 ∧ t ≤ n ∧ n ≤ t + 24

set_option maxHeartbeats 400000 in
theorem may_yes (t n : Int) (w : World) (h1 : 1 ≤ t) (h2 : t ≤ 1099511627776) (h3 : t ≤ n) (h4 : n ≤ t + 24) :
    Calls Try.prog 4 #[.agg #[.int .i64 t, .int .i64 n]] w fun e w' => e = .returned (.bool true) ∧ Below w.heap.size w w' := by
  have k0 := cell_regrown (w := w.alloc (.cells #[.int .i64 t, .int .i64 n] 23)) (a := ⟨w.heap.size, 0, none⟩) (v := .int .i64 t) (by simp [go_sem])
  have k1 := cell_regrown (w := w.alloc (.cells #[.int .i64 t, .int .i64 n] 23)) (a := ⟨w.heap.size, 1, none⟩) (v := .int .i64 n) (by simp [go_sem])
  go_enter Try.func4, Try.ntmps4
  go_wp2
  refine wp_region_quiet_below (by kernel_rfl) (by kernel_rfl) ?_; (repeat (go_big_quiet_step (first | (go_at_call 10; exact regrown_call (fun W _ => sequences_any W) _ _) | (go_at_call 11; exact regrown_call (fun W _ => have_yes _ _ _ (by omega) (by omega) W) _ _)))); refine wpQuiet_nil ?_; intro W2 hb; replace hb := below_of_regrown hb
  go_wp2
  go_ret
  exact ⟨rfl, ext_trans (ext_alloc (ext_refl _) _) hb⟩

set_option maxHeartbeats 400000 in
theorem may_no (t n : Int) (w : World) (h : ¬ MayL t n) :
    Calls Try.prog 4 #[.agg #[.int .i64 t, .int .i64 n]] w fun e w' => e = .returned (.bool false) ∧ Below w.heap.size w w' := by
  have k0 := cell_regrown (w := w.alloc (.cells #[.int .i64 t, .int .i64 n] 23)) (a := ⟨w.heap.size, 0, none⟩) (v := .int .i64 t) (by simp [go_sem])
  have k1 := cell_regrown (w := w.alloc (.cells #[.int .i64 t, .int .i64 n] 23)) (a := ⟨w.heap.size, 1, none⟩) (v := .int .i64 n) (by simp [go_sem])
  unfold MayL at h
  by_cases h1 : 1 ≤ t ∧ t ≤ 1099511627776
  · obtain ⟨h1, h2⟩ := h1
    have h3 : n < t ∨ t + 24 < n := by omega
    clear h
    go_enter Try.func4, Try.ntmps4
    go_wp2
    refine wp_region_quiet_below (by kernel_rfl) (by kernel_rfl) ?_; (repeat (go_big_quiet_step (first | (go_at_call 10; exact regrown_call (fun W _ => sequences_any W) _ _) | (go_at_call 11; exact regrown_call (fun W _ => have_yes _ _ _ (by omega) (by omega) W) _ _) | (go_at_call 11; exact regrown_call (fun W _ => have_no _ _ _ (by omega) W) _ _)))); refine wpQuiet_nil ?_; intro W2 hb; replace hb := below_of_regrown hb
    go_wp2
    go_ret
    exact ⟨rfl, ext_trans (ext_alloc (ext_refl _) _) hb⟩
  · have h2 : t < 1 ∨ 1099511627776 < t := by omega
    clear h h1
    go_enter Try.func4, Try.ntmps4
    go_wp2
    refine wp_region_quiet_below (by kernel_rfl) (by kernel_rfl) ?_; (repeat (go_big_quiet_step (first | (go_at_call 10; exact regrown_call (fun W _ => sequences_any W) _ _) | (go_at_call 11; exact regrown_call (fun W _ => have_yes _ _ _ (by omega) (by omega) W) _ _) | (go_at_call 11; exact regrown_call (fun W _ => have_no _ _ _ (by omega) W) _ _)))); refine wpQuiet_nil ?_; intro W2 hb; replace hb := below_of_regrown hb
    go_wp2
    go_ret
    exact ⟨rfl, ext_trans (ext_alloc (ext_refl _) _) hb⟩

set_option maxHeartbeats 400000 in
theorem place_any (n : Int) (w : World) (h1 : 1 ≤ n) (h2 : n ≤ 1099511627776) :
    Calls Try.prog 13 #[.int .i64 n] w fun e w' => e = .returned (.int .i64 (2 + n % 24)) ∧ Below w.heap.size w w' := by
  go_enter Try.func13, Try.ntmps13
  go_wp2
  go_ret
  exact ⟨rfl, ext_refl _⟩

set_option maxHeartbeats 400000 in
theorem Place_yes (n : Int) (w : World) (h1 : 1 ≤ n) (h2 : n ≤ 1099511627776) :
    Calls Try.prog 8 #[.int .i64 n] w fun e w' => e = .returned (.tuple #[.int .i64 (2 + n % 24), .int .i64 0]) ∧ Below w.heap.size w w' := by
  go_enter Try.func8, Try.ntmps8
  go_wp2_with fail
  refine (sequences_any _).mono ?_
  rintro e w1 ⟨rfl, hb1⟩
  go_wp2_with fail
  refine (have_yes 1 1099511627776 n h1 h2 _).mono ?_
  rintro e w2 ⟨rfl, hb2⟩
  go_wp2_with fail
  refine (place_any n _ h1 h2).mono ?_
  rintro e w3 ⟨rfl, hb3⟩
  go_wp2_with fail
  go_ret2
  exact ⟨rfl, ext_trans (ext_trans hb1 hb2) hb3⟩

set_option maxHeartbeats 400000 in
theorem Place_no (n : Int) (w : World) (h : n < 1 ∨ 1099511627776 < n) :
    Calls Try.prog 8 #[.int .i64 n] w fun e w' => e = .returned (.tuple #[.int .i64 0, .int .i64 2]) ∧ Below w.heap.size w w' := by
  go_enter Try.func8, Try.ntmps8
  go_wp2_with fail
  refine (sequences_any _).mono ?_
  rintro e w1 ⟨rfl, hb1⟩
  go_wp2_with fail
  refine (have_no 1 1099511627776 n h _).mono ?_
  rintro e w2 ⟨rfl, hb2⟩
  go_wp2_with fail
  go_ret2
  exact ⟨rfl, ext_trans hb1 hb2⟩

end Go.Proofs.Ytblcbahdgpicgaa
