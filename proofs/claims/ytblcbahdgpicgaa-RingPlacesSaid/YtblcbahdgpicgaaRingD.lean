/-
  The statement on the places of a log's sequences: its walk.
-/
import Derived.Test.YtblcbahdgpicgaaRingC
import Derived.Test.YtblcbahdgpicgaaMapKit
namespace Go.Proofs.Ytblcbahdgpicgaa
open Go.RowKit Go.Sort

set_option maxRecDepth 100000 in
set_option maxHeartbeats 1000000 in
theorem wakes_any (w : World) :
    Calls Try.prog 7 #[] w fun e w' => e = .returned (.bool true) ∧ Below w.heap.size w w' := by
  go_enter Try.func7, Try.ntmps7
  go_wp2_with fail
  refine (Take_yes 1 1 3 _ (by omega) (by omega) (by omega) (by omega) (by omega) (by omega)).mono ?_
  rintro e w1 ⟨v, rfl, hr, hb1⟩
  go_wp2_with fail
  refine (Take_full 5 28 3 _ (by omega) (by omega) (by omega) (by omega) (by omega) (by omega) (by omega)).mono ?_
  rintro e w2 ⟨rfl, hb2⟩
  obtain ⟨g, cap, rfl, hg0, hg, _, hcs⟩ := ownsRow_get hr (by omega)
  have hc2 : w2.cell? ⟨g, 2, none⟩ = some (.int .i64 3) := (hb2.cell (p := ⟨g, 2, none⟩) (by simp; omega)).trans (((ext_alloc (ext_refl w1) _).cell (p := ⟨g, 2, none⟩) hg).trans (hcs 2 (by omega)))
  have B := (Blk.new w1 #[.int .i64 1, .int .i64 4] 23).ext hb2
  have c := B.cells
  have l := B.lt
  have l2 : g < w2.heap.size := by omega
  clear hr hcs
  go_wp2_with fail
  go_ret
  exact ⟨rfl, ext_alloc (ext_trans (ext_alloc hb1 _) hb2) _⟩

/-- the places that the first k sequences from t on have -/
def placed (t : Int) (k : Nat) : List Int := (List.range k).map fun (i : Nat) => 2 + (t + (i : Int)) % 24
theorem placed_succ (t : Int) (k : Nat) : placed t (k + 1) = placed t k ++ [2 + (t + (k : Int)) % 24] := by simp [placed, List.range_succ]
theorem placed_length (t : Int) (k : Nat) : (placed t k).length = k := by simp [placed]
theorem placed_new (t : Int) (k : Nat) (hk : k < 24) : 2 + (t + (k : Int)) % 24 ∉ placed t k := by
  simp only [placed, List.mem_map, List.mem_range, not_exists, not_and]
  intro i hi
  omega

theorem zeroBool (w : World) : (zeroValue 4).run Try.prog w = .ok (.bool false) w := by kernel_rfl

set_option maxRecDepth 100000 in
set_option maxHeartbeats 1000000 in
theorem law_no (t n : Int) (w : World) (h : ¬ MayL t n) :
    Calls Try.prog 3 #[.agg #[.int .i64 t, .int .i64 n]] w fun e w' => e = .returned (.bool true) ∧ Below w.heap.size w w' := by
  have B0 := Blk.new w #[.int .i64 t, .int .i64 n] 23
  go_enter Try.func3, Try.ntmps3
  go_wp2_with fail
  refine (may_no t n _ h).mono ?_
  rintro e w1 ⟨rfl, hb1⟩
  replace B0 := B0.ext hb1
  have c0 := B0.cells
  go_wp2_with fail
  refine (Used_no t n _ h).mono ?_
  rintro e w2 ⟨rfl, hb2⟩
  replace B0 := B0.ext hb2
  replace c0 := B0.cells
  go_wp2_with fail
  refine (Free_no t n _ h).mono ?_
  rintro e w3 ⟨rfl, hb3⟩
  go_wp2_with fail
  refine (wakes_any _).mono ?_
  rintro e w4 ⟨rfl, hb4⟩
  go_wp2_with fail
  go_ret
  exact ⟨rfl, ext_trans (ext_trans (ext_trans (ext_trans (ext_alloc (ext_refl _) _) hb1) hb2) hb3) hb4⟩

set_option maxRecDepth 100000 in
set_option maxHeartbeats 1000000 in
theorem law_yes (t n : Int) (w : World) (h1 : 1 ≤ t) (h2 : t ≤ 1099511627776) (h3 : t ≤ n) (h4 : n ≤ t + 24) :
    Calls Try.prog 3 #[.agg #[.int .i64 t, .int .i64 n]] w fun e w' => e = .returned (.bool true) ∧ Below w.heap.size w w' := by
  have B0 := Blk.new w #[.int .i64 t, .int .i64 n] 23
  have hmm := @run_makeMap Try.prog
  go_enter Try.func3, Try.ntmps3
  go_wp2_with fail
  refine (may_yes t n _ h1 h2 h3 h4).mono ?_
  rintro e w1 ⟨rfl, hb1⟩
  replace B0 := B0.ext hb1
  have c0 := B0.cells
  have l0 := B0.lt
  go_wp2_with fail
  have hset := IntSet.made w1 Try.prog 3 4
  replace B0 := B0.alloc (.map #[] 0)
  have hbe : Below w.heap.size w (w1.alloc (.map #[] 0)) := ext_alloc (ext_trans (ext_alloc (ext_refl _) _) hb1) _
  obtain ⟨m, hm⟩ : ∃ m, w1.heap.size = m := ⟨_, rfl⟩
  obtain ⟨W1, hW1⟩ : ∃ W1, w1.alloc (.map #[] 0) = W1 := ⟨_, rfl⟩
  rw [hm] at hset l0
  have hml : w.heap.size < m := l0
  rw [hW1] at hset B0 hbe
  rw [hm, hW1]
  clear c0 l0 hW1 hm hb1 hmm
  go_loopw [4] (fun s wr => ∃ k : Nat, s = .int .i64 (t + k) ∧ t + k ≤ n ∧ IntSet wr Try.prog 3 4 m (placed t k) ∧ Blk wr w.heap.size #[.int .i64 t, .int .i64 n] 23 ∧ Below w.heap.size w wr) (fun s _ => (n - intOf s).toNat)
  case atStart => exact ⟨0, by simp, by omega, hset, B0, hbe⟩
  case round =>
    obtain ⟨k, rfl, hk, hset, B0, hbe⟩ := hrel
    have c0 := B0.cells
    by_cases hlt : t + k < n
    · by_cases hmax : t + k ≤ 1099511627776
      · have hw : (Lit.int .i64 (2 + (t + k) % 24)).wf = true := WalkArith.wf_i64 (by omega)
        have hk24 : k < 24 := by omega
        go_wp2_with fail
        refine (Place_yes (t + k) _ (by omega) hmax).mono ?_
        rintro e w2 ⟨rfl, hb2⟩
        replace hset := hset.ext hb2
        replace B0 := B0.ext hb2
        replace c0 := B0.cells
        have hmiss := hset.miss (t := 27) Try.underlying3 Try.underlying4 Try.underlying27 zeroBool hw (placed_new t k hk24)
        go_wp2_with fail
        refine (Has_yes t n (t + k) _ h1 h2 h3 h4 (by omega) hlt).mono ?_
        rintro e w3 ⟨rfl, hb3⟩
        clear hmiss
        replace hset := hset.ext hb3
        replace B0 := B0.ext hb3
        replace c0 := B0.cells
        obtain ⟨w4, hup, hset4, hg4⟩ := hset.add (t := 27) Try.underlying3 Try.underlying4 Try.underlying27 (by rw [placed_length]; unfold maxLen; omega) hw (placed_new t k hk24)
        go_wp2_with fail
        go_roundw
        case rel => exact ⟨k + 1, by simp; omega, by simp; omega, by rw [placed_succ]; exact hset4, B0.kept hg4 (by simp; omega), (ext_trans (ext_trans hbe hb2) hb3).grown hg4 (ext_trans (ext_trans hbe hb2) hb3).size (by simp; omega)⟩
        case measure => simp [intOf]; omega
      · go_wp2_with fail
        refine (Place_no (t + k) _ (by omega)).mono ?_
        rintro e w2 ⟨rfl, hb2⟩
        go_wp2_with fail
        refine (wakes_any _).mono ?_
        rintro e w3 ⟨rfl, hb3⟩
        go_wp2_with fail
        go_ret
        exact ⟨rfl, ext_trans (ext_trans hbe hb2) hb3⟩
    · obtain rfl : n = t + k := by omega
      have k0 := cell_regrown (c0 0)
      have k1 := cell_regrown (c0 1)
      have kl : ∀ d os, (Builtin.len_ #[27] 3 #[.map (some m)]).run Try.prog (grow (redrawn wr d) os) = .ok (.int .i64 k) (grow (redrawn wr d) os) := fun d os => by
        rw [(hset.ext (below_regrown wr d os)).len Try.underlying27, placed_length]
      have he : ((k : Int) == t + k - t) = true := by simp; omega
      have he2 : (t + k - t + (24 - (t + k - t)) == 24) = true := by simp; omega
      go_wp2_with fail
      refine wp_region_quiet_below (by kernel_rfl) (by kernel_rfl) ?_; (repeat (go_big_quiet_step (first | (go_at_call 5; exact regrown_call (fun W _ => Used_yes t (t + k) W h1 h2 h3 h4) _ _) | (go_at_call 6; exact regrown_call (fun W _ => Free_yes t (t + k) W h1 h2 h3 h4) _ _) | (go_at_call 9; exact regrown_call (fun W _ => Has_no t (t + k) _ W h1 h2 h3 h4 (by omega)) _ _) | (go_at_call 7; exact regrown_call (fun W _ => wakes_any W) _ _)))); refine wpQuiet_nil ?_; intro W2 hb2; replace hb2 := below_of_regrown hb2
      go_wp2_with fail
      go_ret
      exact ⟨rfl, ext_trans hbe hb2⟩

end Go.Proofs.Ytblcbahdgpicgaa
