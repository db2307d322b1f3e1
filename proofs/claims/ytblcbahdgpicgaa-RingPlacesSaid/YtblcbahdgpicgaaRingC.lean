/-
  Package ring: Take, which ranges over a function.
-/
import Derived.Test.YtblcbahdgpicgaaRingB
import Derived.RangeFuncNested
import Derived.RangeFuncBound
import Derived.RangeFuncCalls
import Derived.RangeFuncLeaves
import Derived.RangeFuncBox
import Derived.Shelf.Abstract
import Derived.Shelf.RegionOpen
import Derived.OwnWalkIn
import Derived.TacticsInMore
import Derived.LoopNIn
import Derived.LoopIn
import Derived.Maps.AppendAt
namespace Go.Proofs.Ytblcbahdgpicgaa
open Go.RowKit Go.Sort Go.Shelf

attribute [local go_sem] Oper.semAt_some

theorem ownFrom_blk {β : Type} (B b : Nat) (c : Array Value) (t : TypeId) : OwnFrom B (fun (_ : β) W => Blk W b c t) := fun _ A _ row hs hg hr =>
  hs.kept hg (fun e => by
    obtain ⟨_, o, ho, hc⟩ := hr b e.symm
    rw [show A.heap[b]? = _ from hs] at ho
    cases ho
    cases hc)

theorem Blk.putObj {W : World} {b D : Nat} {c : Array Value} {t : TypeId} (h : Blk W b c t) (o : Obj) (hne : b ≠ D) : Blk (W.putObj D o) b c t := (World.putObj_heap_other hne).trans h

/-- the first k sequences from f on -/
def seqs (f : Int) (k : Nat) : List Int := (List.range k).map fun (i : Nat) => f + (i : Int)
theorem seqs_succ (f : Int) (k : Nat) : seqs f (k + 1) = seqs f k ++ [f + (k : Int)] := by simp [seqs, List.range_succ]
theorem seqs_length (f : Int) (k : Nat) : (seqs f k).length = k := by simp [seqs]

set_option maxRecDepth 100000 in
set_option maxHeartbeats 1000000 in
theorem following1_in (l bn bf n : Nat) (f : Int) (hf0 : 0 ≤ f) (hf1 : f ≤ 2199023255552) (hn1 : n ≤ 1000) (J Jx : List Int → World → Prop)
    (hY : ∀ pre x W, J pre W → pre.length < n → YieldAt Fence.wide 4 Try.prog l #[.int .i64 x] W fun e W' =>
      (e = .returned (.bool true) ∧ J (pre ++ [x]) W' ∧ SameBlk bf W W') ∨ (e = .returned (.bool false) ∧ Jx (pre ++ [x]) W'))
    (W : World) (hcn : W.cell? ⟨bn, 0, none⟩ = some (.int .i64 n)) (hcf : W.cell? ⟨bf, 0, none⟩ = some (.int .i64 f)) (h0 : J [] W) :
    CallsIn Fence.wide 5 Try.prog 15 #[.func (.yield l) #[] #[], .pointer (some ⟨bn, 0, none⟩), .pointer (some ⟨bf, 0, none⟩)] W fun e W' => (∃ v, e = .returned v) ∧
      ((∃ ys, ys = seqs f n ∧ J ys W') ∨ (∃ pre, (∃ k, k ≤ n ∧ pre = seqs f k) ∧ Jx pre W')) := by
  refine callsIn_of_wp Try.func15 rfl trivial ?_ rfl
  simp only [Try.ntmps15, List.size_toArray, List.length_cons, List.length_nil, Nat.reduceAdd, Nat.reduceSub, Array.replicate_succ, Array.replicate_zero, List.push_toArray, List.append_toArray, List.nil_append, List.cons_append]
  gi_wp2
  gi_loopw [6] (fun i wr => ∃ k : Nat, k ≤ n ∧ i = .int .i64 k ∧ J (seqs f k) wr ∧ SameBlk bf W wr) (fun i _ => n - (intOf i).toNat)
  case atStart => exact ⟨0, Nat.zero_le _, rfl, h0, rfl⟩
  case round =>
    obtain ⟨k, hk, rfl, hJs, hnx⟩ := hrel
    have hcx : wr.cell? ⟨bf, 0, none⟩ = some (.int .i64 f) := (hnx.cell 0).trans hcf
    by_cases hlt : k < n
    · obtain ⟨fn, tmps, assign, body, hy, hR⟩ := hY _ (f + (k : Int)) wr hJs (by rw [seqs_length]; exact hlt)
      gi_wp2
      refine hR.mono ?_
      rintro e W3 (⟨rfl, hJ3, hk3⟩ | ⟨rfl, hJx3⟩)
      · gi_wp2
        go_roundw
        case rel => exact ⟨k + 1, by omega, by simp, by rw [seqs_succ]; exact hJ3, hnx.t hk3⟩
        case measure => simp [intOf]; omega
      · gi_wp2
        refine bodyPost_ret (results_none rfl _ _ _) rfl ?_
        exact ⟨⟨_, rfl⟩, .inr ⟨_, ⟨k + 1, by omega, (seqs_succ _ _).symm⟩, hJx3⟩⟩
    · obtain rfl : k = n := by omega
      gi_wp2
      go_end0
      exact ⟨⟨_, rfl⟩, .inl ⟨_, rfl, hJs⟩⟩

set_option maxHeartbeats 400000 in
theorem following_any (f n : Int) (w : World) :
    Calls Try.prog 14 #[.int .i64 f, .int .i64 n] w fun e w' => e = .returned (.func (.func 15) #[] #[.pointer (some ⟨w.heap.size + 1, 0, none⟩), .pointer (some ⟨w.heap.size, 0, none⟩)]) ∧ w' = (w.alloc (.cells #[.int .i64 f] 3)).alloc (.cells #[.int .i64 n] 3) := by
  go_enter Try.func14, Try.ntmps14
  go_wp2
  go_ret
  exact ⟨rfl, rfl⟩

theorem following_stops (bn bf n : Nat) (f : Int) (hf0 : 0 ≤ f) (hf1 : f ≤ 2199023255552) (hn1 : n ≤ 1000) (w : World) (hn : bn < w.heap.size) (hf : bf < w.heap.size)
    (hcn : w.cell? ⟨bn, 0, none⟩ = some (.int .i64 n)) (hcf : w.cell? ⟨bf, 0, none⟩ = some (.int .i64 f)) :
    SeqStopsK Fence.wide 5 Try.prog 15 #[.pointer (some ⟨bn, 0, none⟩), .pointer (some ⟨bf, 0, none⟩)] (fun x : Int => #[Value.int .i64 x]) (SameBlk bf) (fun ys => ys = seqs f n) (fun pre => ∃ k, k ≤ n ∧ pre = seqs f k) n w := fun l J Jx W hW _ _ hY h0 =>
  following1_in l bn bf n f hf0 hf1 hn1 J Jx hY W ((hW.cell (p := ⟨bn, 0, none⟩) hn).trans hcn) ((hW.cell (p := ⟨bf, 0, none⟩) hf).trans hcf) h0

theorem Try.infoInt : (Try.prog.info? 3).map (fun i => (i.zero, i.size, i.bytes)) = some (some (.int .i64 0), 1, 8) := by kernel_rfl

set_option maxRecDepth 100000 in
set_option maxHeartbeats 1000000 in
theorem Take_yes (t n : Int) (k : Nat) (w : World) (h1 : 1 ≤ t) (h2 : t ≤ 1099511627776) (h3 : t ≤ n) (h4 : n ≤ t + 24) (h5 : (k : Int) ≤ 24 - (n - t)) (h6 : n + k ≤ 1099511627776) :
    Calls Try.prog 12 #[.agg #[.int .i64 t, .int .i64 n], .int .i64 k] w fun e w' => ∃ v, e = .returned (.tuple #[.agg #[.int .i64 t, .int .i64 (n + k)], v, .int .i64 0]) ∧ w'.ownsRow w.heap.size 3 1 v k ((seqs n k).map (Value.int .i64)) ∧ Below w.heap.size w w' := by
  obtain ⟨i0, hi, hz0, hz1, hz2⟩ := info_parts Try.infoInt
  refine callsIn_wide.1 (callsIn_of_wp_marks (n := 6) Try.func12 rfl trivial (wpIn_wide.2 ?_) rfl)
  simp only [Try.ntmps12, List.size_toArray, List.length_cons, List.length_nil, Nat.reduceAdd, Nat.reduceSub, Array.replicate_succ, Array.replicate_zero, List.push_toArray, List.append_toArray, List.nil_append, List.cons_append]
  have B0 := (Blk.new w #[.int .i64 t, .int .i64 n] 23).alloc (.cells #[.int .i64 0, .int .i64 0] 23)
  have B1 := Blk.new (w.alloc (.cells #[.int .i64 t, .int .i64 n] 23)) #[.int .i64 0, .int .i64 0] 23
  rw [World.size_alloc] at B1
  go_wp2_with fail
  refine (may_yes t n _ h1 h2 h3 h4).mono ?_
  rintro e w1 ⟨rfl, hb1⟩
  replace B0 := B0.ext hb1
  replace B1 := B1.ext hb1
  have c0 := B0.cells
  go_wp2_with fail
  refine (have_yes 0 24 k (by omega) (by omega) _).mono ?_
  rintro e w2 ⟨rfl, hb2⟩
  replace B0 := B0.ext hb2
  replace B1 := B1.ext hb2
  replace c0 := B0.cells
  go_wp2_with fail
  refine (Free_yes t n _ h1 h2 h3 h4).mono ?_
  rintro e w3 ⟨rfl, hb3⟩
  replace B0 := B0.ext hb3
  replace B1 := B1.ext hb3
  replace c0 := B0.cells
  have hbe : Below w.heap.size w w3 := ext_trans (ext_trans (ext_trans (ext_alloc (ext_alloc (ext_refl _) _) _) hb1) hb2) hb3
  clear hb1 hb2 hb3
  have hl3 := B1.lt
  have hd1 : decide (24 - (n - t) < (k : Int)) = false := by simp; omega
  have hd2 : decide (1099511627776 < n + (k : Int)) = false := by simp; omega
  go_wp2_with (at_make; refine wpList_make_own _ rfl _ _ 36 rfl w.heap.size 3 i0 (.int .i64 0) 1 Try.underlying36 hi hz0 hz1 _ _ _ k rfl rfl rfl (by rw [hz2]; omega) (by unfold maxLen; omega) hbe.size ?_; intro w4 hrow hg4; replace B0 := B0.kept hg4 (by simp); replace B1 := B1.kept hg4 (by simp); replace c0 := B0.cells; have l0 := B0.lt; replace hbe := hbe.grown hg4 hbe.size (by simp); go_wp2_with fail)
  refine (following_any n k _).mono ?_
  rintro e w5 ⟨rfl, rfl⟩
  obtain ⟨W0, hW0⟩ : ∃ W0, ((w4.alloc (.cells #[.slice (some ⟨w3.heap.size, 0, none⟩) 0 k] 36)).alloc (.cells #[.int .i64 n] 3)).alloc (.cells #[.int .i64 k] 3) = W0 := ⟨_, rfl⟩
  have hs0 : W0.heap.size = w4.heap.size + 3 := by rw [← hW0]; simp
  have bT : Boxed W0 w4.heap.size 36 (.slice (some ⟨w3.heap.size, 0, none⟩) 0 k) := by rw [← hW0]; exact ((Boxed.new _ _ _).alloc _).alloc _
  have bF : Boxed W0 (w4.heap.size + 1) 3 (.int .i64 n) := by rw [← hW0]; exact (Blk.newAt _ _ _ _ (by simp)).alloc _
  have bK : Boxed W0 (w4.heap.size + 2) 3 (.int .i64 k) := by rw [← hW0]; exact Blk.newAt _ _ _ _ (by simp)
  replace B0 : Blk W0 w.heap.size #[.int .i64 t, .int .i64 n] 23 := by rw [← hW0]; exact ((B0.alloc _).alloc _).alloc _
  replace B1 : Blk W0 (w.heap.size + 1) #[.int .i64 0, .int .i64 0] 23 := by rw [← hW0]; exact ((B1.alloc _).alloc _).alloc _
  replace hbe : Below w.heap.size w W0 := by rw [← hW0]; exact ext_alloc (ext_alloc (ext_alloc hbe _) _) _
  have hgl0 := ownsRow_lt hrow
  replace hrow : W0.ownsRow w.heap.size 3 1 (.slice (some ⟨w3.heap.size, 0, none⟩) 0 k) 0 [] := by rw [← hW0]; exact ((hrow.alloc _).alloc _).alloc _
  rw [hW0]
  have hgl : w3.heap.size < w4.heap.size := hgl0
  clear hW0 hg4 c0 l0
  go_wp2_with fail
  refine wpIn_wide.1 (wpIn_rangeFunc_ownG (n := 6) rfl (by omega) (gf := 15) (lb := #[.pointer (some ⟨w4.heap.size + 2, 0, none⟩), .pointer (some ⟨w4.heap.size + 1, 0, none⟩)]) rfl trivial (enters_of Try.func15 (by kernel_rfl) rfl)
    (following_stops (w4.heap.size + 2) (w4.heap.size + 1) k n (by omega) (by omega) (by omega) W0 (by omega) (by omega) bK.cell bF.cell) (fun h k => h.t k) ?hKb (ext_refl _) (fun _ => rfl)
    (fun pre W => (∃ v, Boxed W w4.heap.size 36 v ∧ W.ownsRow w.heap.size 3 1 v pre.length (pre.map (Value.int .i64)) ∧ v = .slice (some ⟨w3.heap.size, 0, none⟩) pre.length k) ∧ Below w.heap.size w W ∧ W0.heap.size ≤ W.heap.size ∧ Blk W w.heap.size #[.int .i64 t, .int .i64 n] 23 ∧ Blk W (w.heap.size + 1) #[.int .i64 0, .int .i64 0] 23)
    (fun _ _ _ => False)
    (OwnFrom.and (Own.from (holdsRow_own w.heap.size w4.heap.size 36 3 1 (fun pre : List Int => pre.length) (fun pre : List Int => pre.map (Value.int .i64)) (fun (pre : List Int) v => v = .slice (some ⟨w3.heap.size, 0, none⟩) pre.length k)) _) (OwnFrom.and (ownFrom_below (Nat.le_refl _) hbe.size) (OwnFrom.and (fun _ _ _ _ hs hg _ => Nat.le_trans hs hg.size) (OwnFrom.and (ownFrom_blk _ _ _ _) (ownFrom_blk _ _ _ _)))))
    (fun _ _ _ _ _ hs _ _ => hs)
    ⟨⟨_, bT, hrow, rfl⟩, hbe, Nat.le_refl _, B0, B1⟩
    _ (fun l x W K hK => by gi_wp2; exact hK) ?body ?done ?stop)
  case hKb =>
    intro W l o o' hl h ho hw
    exact World.putObj_heap_other (by omega)
  case body =>
    rintro l pre x W ⟨⟨v, hv, hr, rfl⟩, hB, hW0, b0, b1⟩ hlt
    have hc := hv.cell
    have hsz := hB.size
    have hvl := hv.lt
    gi_wp2_with (gi_at_builtin; refine wpListIn_append_fits _ rfl _ _ 36 rfl w.heap.size 3 i0 1 Try.underlying36 hi hz1 w3.heap.size pre.length k (pre.map (Value.int .i64)) rfl (hr.alloc _) ⟨W.heap.size, 0, none⟩ 1 1 [.int .i64 x] rfl rfl (cell_one_new _ _ _) (by simp [Value.oneCell']) (by omega) ?_; intro w6 hr6 hg6; have hv6 := (hv.alloc _).kept hg6 (by simp; omega); have hc6 := hv6.cell; have hf6 := hv6.frozen)
    have hbl : ∀ j, j < W.heap.size → j ≠ w3.heap.size → j ≠ w4.heap.size → (w6.setCell ⟨w4.heap.size, 0, none⟩ (.slice (some ⟨w3.heap.size, 0, none⟩) (pre.length + 1) k)).heap[j]? = W.heap[j]? := fun j h1 h2 h3 =>
      (Below.heap_setCell _ _ _ _ h3).trans ((hg6.block j (by simp; omega) (by simpa using h2)).trans (Below.heap_alloc _ _ _ h1))
    have hz6 : W.heap.size ≤ (w6.setCell ⟨w4.heap.size, 0, none⟩ (.slice (some ⟨w3.heap.size, 0, none⟩) (pre.length + 1) k)).heap.size := by
      have := hg6.size; simp at this; simp [World.setCell]; omega
    refine ⟨⟨hz6, fun j o hj ho _ => (hbl j (Array.getElem?_eq_some_iff.1 ho).1 (by omega) (by omega)).trans ho⟩, hbl _ (by omega) (by omega) (by omega), ⟨_, hv6.set _, ?_, by simp⟩,
      hB.trans ⟨hg6.os, hg6.tape, hg6.output, hz6, fun j hj => hbl j (by omega) (by omega) (by omega)⟩, Nat.le_trans hW0 hz6, (hbl _ b0.lt (by omega) (by omega)).trans b0, (hbl _ b1.lt (by omega) (by omega)).trans b1⟩
    have := hr6.kept (grownBy_setCell' w6 w4.heap.size (.slice (some ⟨w3.heap.size, 0, none⟩) (pre.length + 1) k)) (.inr (by simp [Value.ownBlock]; omega))
    simpa using this
  case done =>
    rintro D ys W hD rfl ⟨⟨v, hv, hr, rfl⟩, hB, hW0, b0, b1⟩ hK
    have hc := hv.cell
    have hc0 := b0.cells
    have hc1 := b1.cells
    have hf1 := b1.frz
    go_wp2_with fail
    go_region
    go_wp2_with fail
    obtain ⟨Wf, hWf⟩ : ∃ Wf, ((W.setCell ⟨w.heap.size + 1, 0, none⟩ (Value.int .i64 t)).setCell ⟨w.heap.size + 1, 1, none⟩ (.int .i64 (n + k))).drew = Wf := ⟨_, rfl⟩
    have b2 : Blk Wf (w.heap.size + 1) #[.int .i64 t, .int .i64 (n + k)] 23 := by rw [← hWf]; exact ((b1.set 0 (.int .i64 t)).set 1 (.int .i64 (n + k)))
    have hKf : Wf.heap[D]? = some (.deferred (some [])) := by
      rw [← hWf]; exact ((Below.heap_setCell _ _ _ _ (by simp; omega)).trans (Below.heap_setCell _ _ _ _ (by simp; omega))).trans hK
    have hrf : Wf.ownsRow w.heap.size 3 1 (.slice (some ⟨w3.heap.size, 0, none⟩) (seqs n k).length k) (seqs n k).length ((seqs n k).map (Value.int .i64)) := by
      rw [← hWf]; exact (((hr.kept (grownBy_set _ _ _) (.inr (by simp [Value.ownBlock]; omega))).kept (grownBy_set _ _ _) (.inr (by simp [Value.ownBlock]; omega)))).drew
    have hbf : Below w.heap.size w Wf := by rw [← hWf]; exact ext_drew (ext_set (ext_set hB _ (by simp) _) _ (by simp) _)
    rw [hWf]
    clear hWf hc hc0 hc1 hf1
    refine ⟨by simp, .inl ⟨_, _, rfl, run_takeDeferred hKf, ?_⟩⟩
    have b3 := (b2.putObj (D := D) (.deferred none) (by omega)).cells
    refine ⟨.tuple #[.agg #[.int .i64 t, .int .i64 (n + k)], .slice (some ⟨w3.heap.size, 0, none⟩) (seqs n k).length k, .int .i64 0], ?_, _, rfl, ?_, ?_⟩
    · simp [results, Try.results12, go_sem, b3]
    · have := ownsRow_putObj hrf (.deferred none) hKf rfl
      rwa [seqs_length] at this ⊢
    · exact hbf.trans (belowK_b (w := w) (Nat.le_refl _) Wf D _ _ (by omega) hKf rfl rfl)
  case stop =>
    rintro D c pre W _ _ h _
    exact h.elim

set_option maxRecDepth 100000 in
set_option maxHeartbeats 1000000 in
theorem Take_full (t n k : Int) (w : World) (h1 : 1 ≤ t) (h2 : t ≤ 1099511627776) (h3 : t ≤ n) (h4 : n ≤ t + 24) (h5 : 0 ≤ k) (h6 : k ≤ 24) (h7 : 24 - (n - t) < k ∨ 1099511627776 < n + k) :
    Calls Try.prog 12 #[.agg #[.int .i64 t, .int .i64 n], .int .i64 k] w fun e w' => e = .returned (.tuple #[.agg #[.int .i64 0, .int .i64 0], .slice none 0 0, .int .i64 50]) ∧ Below w.heap.size w w' := by
  go_enter Try.func12, Try.ntmps12
  have B0 := (Blk.new w #[.int .i64 t, .int .i64 n] 23).alloc (.cells #[.int .i64 0, .int .i64 0] 23)
  have B1 := Blk.newAt (w.alloc (.cells #[.int .i64 t, .int .i64 n] 23)) #[.int .i64 0, .int .i64 0] 23 (w.heap.size + 1) (by simp)
  go_wp2_with fail
  refine (may_yes t n _ h1 h2 h3 h4).mono ?_
  rintro e w1 ⟨rfl, hb1⟩
  replace B0 := B0.ext hb1
  replace B1 := B1.ext hb1
  have c0 := B0.cells
  go_wp2_with fail
  refine (have_yes 0 24 k (by omega) (by omega) _).mono ?_
  rintro e w2 ⟨rfl, hb2⟩
  replace B0 := B0.ext hb2
  replace B1 := B1.ext hb2
  replace c0 := B0.cells
  go_wp2_with fail
  refine (Free_yes t n _ h1 h2 h3 h4).mono ?_
  rintro e w3 ⟨rfl, hb3⟩
  replace B0 := B0.ext hb3
  replace B1 := B1.ext hb3
  replace c0 := B0.cells
  have c1 := B1.cells
  have f1 := B1.frz
  have hbe : Below w.heap.size w w3 := ext_trans (ext_trans (ext_trans (ext_alloc (ext_alloc (ext_refl _) _) _) hb1) hb2) hb3
  clear hb1 hb2 hb3
  by_cases h8 : 24 - (n - t) < k
  · have hd1 : decide (24 - (n - t) < k) = true := by simp; omega
    go_wp2_with fail
    have b2 := ((B1.set 0 (.int .i64 0)).set 1 (.int .i64 0)).cells
    exact bodyPost_ret (v := .tuple #[.agg #[.int .i64 0, .int .i64 0], .slice none 0 0, .int .i64 50]) (by simp [results, Try.results12, go_sem, b2]) rfl ⟨rfl, ext_set (ext_set hbe _ (by simp) _) _ (by simp) _⟩
  · have hd1 : decide (24 - (n - t) < k) = false := by simp; omega
    have hd2 : decide (1099511627776 < n + k) = true := by simp; omega
    go_wp2_with fail
    have b2 := ((B1.set 0 (.int .i64 0)).set 1 (.int .i64 0)).cells
    exact bodyPost_ret (v := .tuple #[.agg #[.int .i64 0, .int .i64 0], .slice none 0 0, .int .i64 50]) (by simp [results, Try.results12, go_sem, b2]) rfl ⟨rfl, ext_set (ext_set hbe _ (by simp) _) _ (by simp) _⟩

end Go.Proofs.Ytblcbahdgpicgaa
