/-
  Package cashboxlaw17: EpochMeets; epoch.Stamp.
-/
import Derived.Test.YtdcihmdchabcnaaEc
import Derived.Test.YtdcihmdchabcnaaVL
namespace Go.Proofs.Ytdcihmdchabcnaa
open Go.RowKit Go.Sort

def stampM (k : Kn) (m : Msg) : Msg := { m with frm := k.node, inc := k.inc, your := k.of m.to.toNat }
theorem blk_cell {w : World} {b i : Nat} {c : Array Value} {t : TypeId} {v : Value} (B : Blk w b c t) (h : c[i]? = some v) : w.cell? ⟨b, i, none⟩ = some v := by rw [B.cells]; exact h
theorem stamp_any {wc w : World} {H : List Ent} {b : Nat} (k : Kn) (m : Msg) (va : Option Addr) (vn vc : Nat) (M : Mem wc w (.blk b (m.cells (.slice va vn vc)) 56 :: H)) (ht : 0 ≤ m.to ∧ m.to ≤ 4) :
    Calls Try.prog 23 #[.pointer (some ⟨b, 0, none⟩), .agg k.cells] w fun e w' => e = .returned (.tuple #[]) ∧ Mem wc w' (.blk b ((stampM k m).cells (.slice va vn vc)) 56 :: H) := by
  obtain ⟨mk, fr, mt, mi, my, mn, mnn, mop, mb, mv, me, mye, mg, mtk⟩ := m
  simp only at ht
  obtain ⟨T, rfl⟩ := Int.eq_ofNat_of_zero_le ht.1
  refine calls_enter Try.func23 rfl 28 rfl rfl ?_; intro a S
  refine wp_seq ?_
  -- region 0 epoch.go:67
  skip
  refine wp_region_lit ?_
  refine st_box S M rfl rfl rfl #[_, _, _, _, _, _, _] rfl ?_; clear S M a; intro a w1 bK S M hB
  refine wpList_nil ?_
  replace S := S.sub [(0, _), (1, _), (3, _)] rfl
  refine then_normal ?_
  -- region 1 epoch.go:68
  refine wp_regionKC (C := fun W => Blk W bK k.cells 24 ∧ W.cell? ⟨b, 2, none⟩ = some (.int .i64 (T : Int))) [18, 22, 26] #[false, false, false, false, false, false, false, false, false, false, false, false, false, false, false, false, false, false, false, false, false, false, false, false, false, false, false] rfl M (by kernel_rfl) ?_; clear M; intro w2 M; have hC := And.intro (M.blk 0 rfl) (M.cell (i := 2) 1 rfl rfl)
  refine kc_readC (listed' := #[true, false, false, false, false, false, false, false, false, false, false, false, false, false, false, false, false, false, false, false, false, false, false, false, false, false, false]) 0 S rfl rfl rfl rfl (by kernel_rfl) rfl (fun _ d _ _ _ h => by cases d <;> exact h) hC (fun w _ => y_move S rfl) ?_; clear S a; intro a S
  refine kc_readC (listed' := #[true, true, false, false, false, false, false, false, false, false, false, false, false, false, false, false, false, false, false, false, false, false, false, false, false, false, false]) 1 S rfl rfl rfl rfl (by kernel_rfl) rfl (fun _ d _ _ _ h => by cases d <;> exact h) hC (fun w _ => y_move S rfl) ?_; clear S a; intro a S
  refine kc_readC (listed' := #[true, true, true, false, false, false, false, false, false, false, false, false, false, false, false, false, false, false, false, false, false, false, false, false, false, false, false]) 2 S rfl rfl rfl rfl (by kernel_rfl) rfl (fun _ d _ _ _ h => by cases d <;> exact h) hC (fun w _ => y_move S rfl) ?_; clear S a; intro a S
  refine kc_readC (listed' := #[true, true, true, true, false, false, false, false, false, false, false, false, false, false, false, false, false, false, false, false, false, false, false, false, false, false, false]) 3 S rfl rfl rfl rfl (by kernel_rfl) rfl (fun _ d _ _ _ h => by cases d <;> exact h) hC (fun w _ => y_fieldAddr (k := 0) S (by kernel_rfl) rfl) ?_; clear S a; intro a S
  refine kc_readC (listed' := #[true, true, true, true, true, false, false, false, false, false, false, false, false, false, false, false, false, false, false, false, false, false, false, false, false, false, false]) 4 S rfl rfl rfl rfl (by kernel_rfl) rfl (fun _ d _ _ _ h => by cases d <;> exact h) hC (fun w hC => y_load S (by kernel_rfl) rfl (blk_cell hC.1 rfl)) ?_; clear S a; intro a S
  refine kc_readC (listed' := #[true, true, true, true, true, true, false, false, false, false, false, false, false, false, false, false, false, false, false, false, false, false, false, false, false, false, false]) 5 S rfl rfl rfl rfl (by kernel_rfl) rfl (fun _ d _ _ _ h => by cases d <;> exact h) hC (fun w _ => y_fieldAddr (k := 1) S (by kernel_rfl) rfl) ?_; clear S a; intro a S
  refine kc_readC (listed' := #[true, true, true, true, true, true, true, false, false, false, false, false, false, false, false, false, false, false, false, false, false, false, false, false, false, false, false]) 6 S rfl rfl rfl rfl (by kernel_rfl) rfl (fun _ d _ _ _ h => by cases d <;> exact h) hC (fun w hC => y_load S (by kernel_rfl) rfl (blk_cell hC.1 rfl)) ?_; clear S a; intro a S
  refine kc_readC (listed' := #[true, true, true, true, true, true, true, true, false, false, false, false, false, false, false, false, false, false, false, false, false, false, false, false, false, false, false]) 7 S rfl rfl rfl rfl (by kernel_rfl) rfl (fun _ d _ _ _ h => by cases d <;> exact h) hC (fun w _ => y_move S rfl) ?_; clear S a; intro a S
  refine kc_readC (listed' := #[true, true, true, true, true, true, true, true, true, false, false, false, false, false, false, false, false, false, false, false, false, false, false, false, false, false, false]) 8 S rfl rfl rfl rfl (by kernel_rfl) rfl (fun _ d _ _ _ h => by cases d <;> exact h) hC (fun w _ => y_nilCheck S rfl) ?_; clear S a; intro a S
  refine kc_readC (listed' := #[true, true, true, true, true, true, true, true, true, true, false, false, false, false, false, false, false, false, false, false, false, false, false, false, false, false, false]) 9 S rfl rfl rfl rfl (by kernel_rfl) rfl (fun _ d _ _ _ h => by cases d <;> exact h) hC (fun w _ => y_fieldAddr (k := 0) S (by kernel_rfl) rfl) ?_; clear S a; intro a S
  refine kc_readC (listed' := #[true, true, true, true, true, true, true, true, true, true, true, false, false, false, false, false, false, false, false, false, false, false, false, false, false, false, false]) 10 S rfl rfl rfl rfl (by kernel_rfl) rfl (fun _ d _ _ _ h => by cases d <;> exact h) hC (fun w _ => y_fieldAddr (k := 2) S (by kernel_rfl) rfl) ?_; clear S a; intro a S
  refine kc_readC (listed' := #[true, true, true, true, true, true, true, true, true, true, true, true, false, false, false, false, false, false, false, false, false, false, false, false, false, false, false]) 11 S rfl rfl rfl rfl (by kernel_rfl) rfl (fun _ d _ _ _ h => by cases d <;> exact h) hC (fun w hC => y_load S (by kernel_rfl) rfl (hC.2)) ?_; clear S a; intro a S
  refine kc_readC (listed' := #[true, true, true, true, true, true, true, true, true, true, true, true, true, false, false, false, false, false, false, false, false, false, false, false, false, false, false]) 12 S rfl rfl rfl rfl (by kernel_rfl) rfl (fun _ d _ _ _ h => by cases d <;> exact h) hC (fun w _ => y_fieldAddr (k := 2) S (by kernel_rfl) rfl) ?_; clear S a; intro a S
  refine kc_readC (listed' := #[true, true, true, true, true, true, true, true, true, true, true, true, true, true, false, false, false, false, false, false, false, false, false, false, false, false, false]) 13 S rfl rfl rfl rfl (by kernel_rfl) rfl (fun _ d _ _ _ h => by cases d <;> exact h) hC (fun w _ => y_indexA (m := 5) (sz := 1) S (by kernel_rfl) rfl rfl (by first | omega | (simp; done) | (simp; omega))) ?_; clear S a; intro a S
  try simp only [Int.toNat_natCast, Nat.mul_one, Nat.zero_add] at S
  refine kc_readC (listed' := #[true, true, true, true, true, true, true, true, true, true, true, true, true, true, true, false, false, false, false, false, false, false, false, false, false, false, false]) 14 S rfl rfl rfl rfl (by kernel_rfl) rfl (fun _ d _ _ _ h => by cases d <;> exact h) hC (fun w hC => y_load S (by kernel_rfl) rfl (blk_cell hC.1 (kn_get (k := k) (by omega)))) ?_; clear S a; intro a S
  refine kc_readC (listed' := #[true, true, true, true, true, true, true, true, true, true, true, true, true, true, true, true, false, false, false, false, false, false, false, false, false, false, false]) 15 S rfl rfl rfl rfl (by kernel_rfl) rfl (fun _ d _ _ _ h => by cases d <;> exact h) hC (fun w _ => y_nilCheck S rfl) ?_; clear S a; intro a S
  refine kc_readC (listed' := #[true, true, true, true, true, true, true, true, true, true, true, true, true, true, true, true, true, false, false, false, false, false, false, false, false, false, false]) 16 S rfl rfl rfl rfl (by kernel_rfl) rfl (fun _ d _ _ _ h => by cases d <;> exact h) hC (fun w _ => y_fieldAddr (k := 0) S (by kernel_rfl) rfl) ?_; clear S a; intro a S
  refine kc_readC (listed' := #[true, true, true, true, true, true, true, true, true, true, true, true, true, true, true, true, true, true, false, false, false, false, false, false, false, false, false]) 17 S rfl rfl rfl rfl (by kernel_rfl) rfl (fun _ d _ _ _ h => by cases d <;> exact h) hC (fun w _ => y_fieldAddr (k := 1) S (by kernel_rfl) rfl) ?_; clear S a; intro a S
  refine kc_one (listed' := #[true, true, true, true, true, true, true, true, true, true, true, true, true, true, true, true, true, true, true, false, false, false, false, false, false, false, false]) 18 rfl (by kernel_rfl) rfl ?_
  refine st_store (sz := 1) (us := [_]) S M 1 rfl (by kernel_rfl) rfl rfl rfl rfl rfl rfl (by first | decide | (simp; done) | (simp; omega)) ?_; clear M; intro w3 M
  simp only [putL, List.set_cons_zero, List.set_cons_succ, Nat.reduceAdd] at M
  replace hC := And.intro (M.blk 0 rfl) (M.cell (i := 2) 1 rfl rfl)
  refine wpList_nil ?_; refine then_normal ?_; refine ⟨fun h => absurd h (by decide), hC, ?_⟩
  refine kc_readC (listed' := #[true, true, true, true, true, true, true, true, true, true, true, true, true, true, true, true, true, true, true, true, false, false, false, false, false, false, false]) 19 S rfl rfl rfl rfl (by kernel_rfl) rfl (fun _ d _ _ _ h => by cases d <;> exact h) hC (fun w _ => y_nilCheck S rfl) ?_; clear S a; intro a S
  refine kc_readC (listed' := #[true, true, true, true, true, true, true, true, true, true, true, true, true, true, true, true, true, true, true, true, true, false, false, false, false, false, false]) 20 S rfl rfl rfl rfl (by kernel_rfl) rfl (fun _ d _ _ _ h => by cases d <;> exact h) hC (fun w _ => y_fieldAddr (k := 0) S (by kernel_rfl) rfl) ?_; clear S a; intro a S
  refine kc_readC (listed' := #[true, true, true, true, true, true, true, true, true, true, true, true, true, true, true, true, true, true, true, true, true, true, false, false, false, false, false]) 21 S rfl rfl rfl rfl (by kernel_rfl) rfl (fun _ d _ _ _ h => by cases d <;> exact h) hC (fun w _ => y_fieldAddr (k := 3) S (by kernel_rfl) rfl) ?_; clear S a; intro a S
  refine kc_one (listed' := #[true, true, true, true, true, true, true, true, true, true, true, true, true, true, true, true, true, true, true, true, true, true, true, false, false, false, false]) 22 rfl (by kernel_rfl) rfl ?_
  refine st_store (sz := 1) (us := [_]) S M 1 rfl (by kernel_rfl) rfl rfl rfl rfl rfl rfl (by first | decide | (simp; done) | (simp; omega)) ?_; clear M; intro w4 M
  simp only [putL, List.set_cons_zero, List.set_cons_succ, Nat.reduceAdd] at M
  replace hC := And.intro (M.blk 0 rfl) (M.cell (i := 2) 1 rfl rfl)
  refine wpList_nil ?_; refine then_normal ?_; refine ⟨fun h => absurd h (by decide), hC, ?_⟩
  refine kc_readC (listed' := #[true, true, true, true, true, true, true, true, true, true, true, true, true, true, true, true, true, true, true, true, true, true, true, true, false, false, false]) 23 S rfl rfl rfl rfl (by kernel_rfl) rfl (fun _ d _ _ _ h => by cases d <;> exact h) hC (fun w _ => y_nilCheck S rfl) ?_; clear S a; intro a S
  refine kc_readC (listed' := #[true, true, true, true, true, true, true, true, true, true, true, true, true, true, true, true, true, true, true, true, true, true, true, true, true, false, false]) 24 S rfl rfl rfl rfl (by kernel_rfl) rfl (fun _ d _ _ _ h => by cases d <;> exact h) hC (fun w _ => y_fieldAddr (k := 0) S (by kernel_rfl) rfl) ?_; clear S a; intro a S
  refine kc_readC (listed' := #[true, true, true, true, true, true, true, true, true, true, true, true, true, true, true, true, true, true, true, true, true, true, true, true, true, true, false]) 25 S rfl rfl rfl rfl (by kernel_rfl) rfl (fun _ d _ _ _ h => by cases d <;> exact h) hC (fun w _ => y_fieldAddr (k := 4) S (by kernel_rfl) rfl) ?_; clear S a; intro a S
  refine kc_one (listed' := #[true, true, true, true, true, true, true, true, true, true, true, true, true, true, true, true, true, true, true, true, true, true, true, true, true, true, true]) 26 rfl (by kernel_rfl) rfl ?_
  refine st_store (sz := 1) (us := [_]) S M 1 rfl (by kernel_rfl) rfl rfl rfl rfl rfl rfl (by first | decide | (simp; done) | (simp; omega)) ?_; clear M; intro w5 M
  simp only [putL, List.set_cons_zero, List.set_cons_succ, Nat.reduceAdd] at M
  replace hC := And.intro (M.blk 0 rfl) (M.cell (i := 2) 1 rfl rfl)
  refine wpList_nil ?_; refine then_normal ?_; refine ⟨fun h => absurd h (by decide), hC, ?_⟩
  refine kc_end (by kernel_rfl) ?_
  replace S := S.sub [(0, _), (1, _), (3, _)] rfl
  refine end_noneN S rfl ?_
  exact ⟨rfl, M.drop 0⟩
set_option maxHeartbeats 1000000 in
theorem stampF_any (k : Kn) (m : Msg) (va : Option Addr) (vn vc : Nat) (x : List Wr) (w : World) (hv : Ws 0 w.heap.size w (.slice va vn vc) x) (hx : x.length ≤ 1000) (hk : k.may = true) (ht : 0 ≤ m.to ∧ m.to ≤ 4) (hne : m.to ≠ k.node) :
    Calls Try.prog 11 #[.agg k.cells, .agg (m.cells (.slice va vn vc))] w fun e w' => ∃ ad cp, e = .returned (.tuple #[.agg ((stampM k m).cells (.slice ad x.length cp)), .int .i64 0]) ∧ Fresh w w' 59 9 (.slice ad x.length cp) x.length (wcells x) := by
  have M := Mem.start w
  refine calls_enter Try.func11 rfl 37 rfl rfl ?_; intro a S
  refine wp_seq ?_
  -- region 0 epoch.go:72
  refine wp_region_lit ?_
  refine st_box S M rfl rfl rfl #[_, _, _, _, _, _, _] rfl ?_; clear S M a; intro a w1 bK S M hB
  refine st_box S M rfl rfl rfl #[_, _, _, _, _, _, _, _, _, _, _, _, _, _, _, _, _, _, _, _, _, _, _, _] rfl ?_; clear S M a; intro a w2 bG S M hB
  refine st_alloc S M rfl rfl #[.int .i8 0, .int .i64 0, .int .i64 0, .int .i64 0, .int .i64 0, .int .i64 0, .int .i64 0, .int .i64 0, .int .i64 0, .int .i8 0, .int .i64 0, .int .u8 0, .int .u8 0, .int .u8 0, .int .u8 0, .int .u8 0, .int .u8 0, .int .u8 0, .int .u8 0, .int .i64 0, .bool false, .int .i64 0, .int .i64 0, .slice none 0 0] (by kernel_rfl) ?_; clear S M a; intro a w3 bO S M hB
  refine st_y S rfl rfl rfl (y_assign S rfl) ?_; clear S a; intro a S
  refine wpList_nil ?_
  replace S := S.sub [(0, _), (1, _), (2, _), (3, _), (4, _), (5, _)] rfl
  refine then_normal ?_
  refine wp_seq ?_
  refine wp_seq ?_
  -- region 1 epoch.go:73
  refine wp_region_lit ?_
  refine st_y S rfl rfl rfl (y_loadAgg (cs := [_, _, _, _, _, _, _]) S (by kernel_rfl) rfl rfl (M.cellsAt (k := 7) 2 rfl rfl)) ?_; clear S a; intro a S
  refine st_call (xs := [(Operand.tmp 8)]) S (enters_of Try.func6 (by decide) rfl) rfl rfl rfl (mayK_any k _) ?_
  rintro _ w4 ⟨rfl, hK⟩; refine ⟨_, rfl, ?_⟩; clear S a; intro a S; replace M := M.grow hK
  refine st_y S rfl rfl rfl (y_not S rfl) ?_; clear S a; intro a S
  refine st_y S rfl rfl rfl (y_move S rfl) ?_; clear S a; intro a S
  refine st_split (t := 11) S rfl ?_ ?_
  · clear S; intro h11 S
    rw [hk] at h11; simp at h11
  · clear S; intro h11 S
    refine st_y S rfl rfl rfl (y_fieldAddr (k := 2) S (by kernel_rfl) rfl) ?_; clear S a; intro a S
    refine st_y S rfl rfl rfl (y_load S (by kernel_rfl) rfl (M.cell 1 rfl rfl)) ?_; clear S a; intro a S
    refine st_call (xs := [(Operand.tmp 13)]) S (enters_of Try.func12 (by decide) rfl) rfl rfl rfl (there_any _ _) ?_
    rintro _ w5 ⟨rfl, hK⟩; refine ⟨_, rfl, ?_⟩; clear S a; intro a S; replace M := M.grow hK
    refine st_y S rfl rfl rfl (y_not S rfl) ?_; clear S a; intro a S
    refine st_y S rfl rfl rfl (y_pickF S rfl rfl) ?_; clear S a; intro a S
    refine st_y S rfl rfl rfl (y_move S rfl) ?_; clear S a; intro a S
    refine st_split (t := 17) S rfl ?_ ?_
    · clear S; intro h17 S
      exfalso; rw [show thereB m.to = true by unfold thereB; rw [decide_eq_true ht]] at h17; simp at h17
    · clear S; intro h17 S
      refine st_y S rfl rfl rfl (y_fieldAddr (k := 2) S (by kernel_rfl) rfl) ?_; clear S a; intro a S
      refine st_y S rfl rfl rfl (y_load S (by kernel_rfl) rfl (M.cell 1 rfl rfl)) ?_; clear S a; intro a S
      refine st_y S rfl rfl rfl (y_fieldAddr (k := 0) S (by kernel_rfl) rfl) ?_; clear S a; intro a S
      refine st_y S rfl rfl rfl (y_load S (by kernel_rfl) rfl (M.cell 2 rfl rfl)) ?_; clear S a; intro a S
      refine st_y S rfl rfl rfl (y_int S rfl rfl rfl) ?_; clear S a; intro a S
      refine st_y S rfl rfl rfl (y_pickF S rfl rfl) ?_; clear S a; intro a S
      refine wpList_nil ?_
      replace S := S.sub [(0, _), (1, _), (2, _), (3, _), (4, _), (5, _), (23, _)] rfl
      refine then_normal ?_
      refine st_split (t := 23) S rfl ?_ ?_
      · clear S; intro h23 S
        first | replace h23 := nrmA h23 | replace h23 := nrmB h23 | skip
        first | replace h23 := nrm1 h23 | replace h23 := nrm2 h23 | replace h23 := nrm3 h23 | replace h23 := nrm4 h23 | replace h23 := nrm5 h23 | replace h23 := nrm6 h23 | replace h23 := of_decide_eq_true h23 | replace h23 := of_decide_eq_false h23 | skip
        exact absurd h23 hne
      · clear S; intro h23 S
        first | replace h23 := nrmA h23 | replace h23 := nrmB h23 | skip
        first | replace h23 := nrm1 h23 | replace h23 := nrm2 h23 | replace h23 := nrm3 h23 | replace h23 := nrm4 h23 | replace h23 := nrm5 h23 | replace h23 := nrm6 h23 | replace h23 := of_decide_eq_true h23 | replace h23 := of_decide_eq_false h23 | skip
        refine st_condF S rfl ?_
        refine wp_skip ?_
        refine then_normal ?_
        refine wp_seq ?_
        -- region 3 epoch.go:76
        refine wp_region_lit ?_
        refine st_y S rfl rfl rfl (y_loadAgg (cs := [_, _, _, _, _, _, _, _, _, _, _, _, _, _, _, _, _, _, _, _, _, _, _, _]) S (by kernel_rfl) rfl rfl (M.cellsAt (k := 24) 1 rfl rfl)) ?_; clear S a; intro a S
        refine st_y S rfl rfl rfl (y_build (ps := [(0, (Operand.tmp 25))]) (pl := [(0, 24)]) (z := [.int .i8 0, .int .i64 0, .int .i64 0, .int .i64 0, .int .i64 0, .int .i64 0, .int .i64 0, .int .i64 0, .int .i64 0, .int .i8 0, .int .i64 0, .int .u8 0, .int .u8 0, .int .u8 0, .int .u8 0, .int .u8 0, .int .u8 0, .int .u8 0, .int .u8 0, .int .i64 0, .bool false, .int .i64 0, .int .i64 0, .slice none 0 0]) (cs := (m.cells (.slice va vn vc)).toList) S (by kernel_rfl) rfl (by first | kernel_rfl | (simp [fillL]; done))) ?_; clear S a; intro a S
        refine st_alloc S M rfl rfl #[.int .i8 0, .int .i64 0, .int .i64 0, .int .i64 0, .int .i64 0, .int .i64 0, .int .i64 0, .int .i64 0, .int .i64 0, .int .i8 0, .int .i64 0, .int .u8 0, .int .u8 0, .int .u8 0, .int .u8 0, .int .u8 0, .int .u8 0, .int .u8 0, .int .u8 0, .int .i64 0, .bool false, .int .i64 0, .int .i64 0, .slice none 0 0] (by kernel_rfl) ?_; clear S M a; intro a w6 bE S M hB
        refine st_store (sz := 24) (us := [_, _, _, _, _, _, _, _, _, _, _, _, _, _, _, _, _, _, _, _, _, _, _, _]) S M 0 rfl (by kernel_rfl) rfl rfl rfl rfl rfl rfl (by first | decide | (simp; done) | (simp; omega)) ?_; clear M; intro w7 M
        simp only [putL, List.set_cons_zero, List.set_cons_succ, Nat.reduceAdd] at M
        refine wpList_nil ?_
        replace S := S.sub [(0, _), (1, _), (2, _), (3, _), (4, _), (5, _), (23, _), (6, _)] rfl
        refine then_normal ?_
        refine wp_seq ?_
        -- region 4 epoch.go:77
        refine wp_region_lit ?_
        refine st_y S rfl rfl rfl (y_fieldAddr (k := 23) S (by kernel_rfl) rfl) ?_; clear S a; intro a S
        refine st_y S rfl rfl rfl (y_load S (by kernel_rfl) rfl (M.cell 2 rfl rfl)) ?_; clear S a; intro a S
        refine st_call (xs := [(Operand.tmp 28)]) S (enters_of Try.func22 (by decide) rfl) rfl rfl rfl (cloneW_any _ x _ (M.argW hv) (by omega)) ?_
        rintro _ w8 ⟨v', rfl, hF⟩; refine ⟨_, rfl, ?_⟩; clear S a; intro a S
        obtain ⟨ad', cap', hE, -, -⟩ := (hF.rd (by unfold maxLen; omega)).form
        obtain ⟨lo, hi, -, M⟩ := M.pushFresh hF
        subst hE
        refine st_y S rfl rfl rfl (y_fieldAddr (k := 0) S (by kernel_rfl) rfl) ?_; clear S a; intro a S
        refine st_y S rfl rfl rfl (y_fieldAddr (k := 23) S (by kernel_rfl) rfl) ?_; clear S a; intro a S
        refine st_store (sz := 1) (us := [_]) S M 1 rfl (by kernel_rfl) rfl rfl rfl rfl rfl rfl (by first | decide | (simp; done) | (simp; omega)) ?_; clear M; intro w9 M
        simp only [putL, List.set_cons_zero, List.set_cons_succ, Nat.reduceAdd] at M
        refine wpList_nil ?_
        replace S := S.sub [(0, _), (1, _), (2, _), (3, _), (4, _), (5, _), (23, _), (6, _)] rfl
        refine then_normal ?_
        refine wp_seq ?_
        -- region 5 epoch.go:78
        refine wp_region_lit ?_
        refine st_y S rfl rfl rfl (y_assign S rfl) ?_; clear S a; intro a S
        refine wpList_nil ?_
        replace S := S.sub [(0, _), (1, _), (2, _), (3, _), (4, _), (5, _), (23, _), (6, _), (7, _)] rfl
        refine then_normal ?_
        refine wp_seq ?_
        -- region 6 epoch.go:79
        refine wp_region_lit ?_
        refine st_y S rfl rfl rfl (y_move S rfl) ?_; clear S a; intro a S
        refine st_y S rfl rfl rfl (y_loadAgg (cs := [_, _, _, _, _, _, _]) S (by kernel_rfl) rfl rfl (M.cellsAt (k := 7) 4 rfl rfl)) ?_; clear S a; intro a S
        replace M := M.front 1 rfl
        simp only [List.eraseIdx_cons_succ, List.eraseIdx_cons_zero] at M
        refine st_callV (xs := [(Operand.tmp 6), (Operand.tmp 33)]) S (enters_of Try.func23 (by decide) rfl) rfl rfl rfl rfl (stamp_any k m ad' x.length cap' M ht) ?_
        rintro _ w10 ⟨rfl, M1⟩; refine ⟨_, rfl, ?_⟩; clear S a; intro a S; replace M := M1
        refine wpList_nil ?_
        replace S := S.sub [(0, _), (1, _), (2, _), (3, _), (4, _), (5, _), (23, _), (6, _), (7, _)] rfl
        refine then_normal ?_
        refine wp_seq ?_
        -- region 7 epoch.go:80
        refine wp_region_lit ?_
        refine st_y S rfl rfl rfl (y_fieldAddr (k := 0) S (by kernel_rfl) rfl) ?_; clear S a; intro a S
        refine st_y S rfl rfl rfl (y_loadAgg (cs := [_, _, _, _, _, _, _, _, _, _, _, _, _, _, _, _, _, _, _, _, _, _, _, _]) S (by kernel_rfl) rfl rfl (M.cellsAt (k := 24) 0 rfl rfl)) ?_; clear S a; intro a S
        refine st_store (sz := 24) (us := [_, _, _, _, _, _, _, _, _, _, _, _, _, _, _, _, _, _, _, _, _, _, _, _]) S M 2 rfl (by kernel_rfl) rfl rfl rfl rfl rfl rfl (by first | decide | (simp; done) | (simp; omega)) ?_; clear M; intro w11 M
        simp only [putL, List.set_cons_zero, List.set_cons_succ, Nat.reduceAdd] at M
        refine st_y S rfl rfl rfl (y_assign S rfl) ?_; clear S a; intro a S
        refine wpList_nil ?_
        replace S := S.sub [(0, _), (1, _), (2, _), (3, _), (4, _), (23, _), (6, _), (7, _), (5, _)] rfl
        refine then_normal ?_
        refine wp_ret ?_
        refine end_two S rfl (res_agg (cs := [_, _, _, _, _, _, _, _, _, _, _, _, _, _, _, _, _, _, _, _, _, _, _, _]) (by kernel_rfl) rfl rfl (M.cellsAt (k := 24) 2 rfl rfl)) (res_tmp rfl) ?_
        exact ⟨ad', cap', rfl, M.fresh 1 rfl⟩
set_option maxHeartbeats 1000000 in
theorem meets_any (p q : Kn) (m : Msg) (va : Option Addr) (vn vc : Nat) (x : List Wr) (w : World) (hv : Ws 0 w.heap.size w (.slice va vn vc) x) :
    Calls Try.prog 5 #[.agg p.cells, .agg q.cells, .agg (m.cells (.slice va vn vc))] w fun e w' => e = .returned (.bool true) ∧ Below w.heap.size w w' := by
  have M := Mem.start w
  have hvn : vn = x.length := by obtain ⟨ad, cp, e, -, -⟩ := hv.form; cases e; rfl
  refine calls_enter Try.func5 rfl 105 rfl rfl ?_; intro a S
  refine wp_seq ?_
  -- region 0 law.go:65
  refine wp_region_lit ?_
  refine st_box S M rfl rfl rfl #[_, _, _, _, _, _, _] rfl ?_; clear S M a; intro a w1 bA S M hB
  refine st_box S M rfl rfl rfl #[_, _, _, _, _, _, _] rfl ?_; clear S M a; intro a w2 bB S M hB
  refine st_box S M rfl rfl rfl #[_, _, _, _, _, _, _, _, _, _, _, _, _, _, _, _, _, _, _, _, _, _, _, _] rfl ?_; clear S M a; intro a w3 bG S M hB
  refine st_y S rfl rfl rfl (y_assign S rfl) ?_; clear S a; intro a S
  refine wpList_nil ?_
  replace S := S.sub [(0, _), (1, _), (2, _), (3, _), (4, _), (5, _), (6, _)] rfl
  refine then_normal ?_
  refine wp_seq ?_
  refine wp_seq ?_
  -- region 1 law.go:66
  refine wp_region_lit ?_
  refine st_y S rfl rfl rfl (y_loadAgg (cs := [_, _, _, _, _, _, _, _, _, _, _, _, _, _, _, _, _, _, _, _, _, _, _, _]) S (by kernel_rfl) rfl rfl (M.cellsAt (k := 24) 0 rfl rfl)) ?_; clear S a; intro a S
  refine st_call (xs := [(Operand.tmp 12)]) S (enters_of Try.func8 (by decide) rfl) rfl rfl rfl (great15_any m _ _ _ _) ?_
  rintro _ w4 ⟨rfl, hK⟩; refine ⟨_, rfl, ?_⟩; clear S a; intro a S; replace M := M.grow hK
  refine st_y S rfl rfl rfl (y_move S rfl) ?_; clear S a; intro a S
  refine st_split (t := 14) S rfl ?_ ?_
  · clear S; intro h14 S
    first | replace h14 := nrmA h14 | replace h14 := nrmB h14 | skip
    first | replace h14 := nrm1 h14 | replace h14 := nrm2 h14 | replace h14 := nrm3 h14 | replace h14 := nrm4 h14 | replace h14 := nrm5 h14 | replace h14 := nrm6 h14 | replace h14 := of_decide_eq_true h14 | replace h14 := of_decide_eq_false h14 | skip
    refine st_skip 3 S rfl ?_; clear S a; intro a S
    refine st_y S rfl rfl rfl (y_pickT S rfl rfl) ?_; clear S a; intro a S
    refine st_y S rfl rfl rfl (y_move S rfl) ?_; clear S a; intro a S
    refine st_skip 3 S rfl ?_; clear S a; intro a S
    refine st_y S rfl rfl rfl (y_pickT S rfl rfl) ?_; clear S a; intro a S
    refine st_y S rfl rfl rfl (y_move S rfl) ?_; clear S a; intro a S
    refine st_skip 5 S rfl ?_; clear S a; intro a S
    refine st_y S rfl rfl rfl (y_pickT S rfl rfl) ?_; clear S a; intro a S
    refine st_y S rfl rfl rfl (y_move S rfl) ?_; clear S a; intro a S
    refine st_skip 5 S rfl ?_; clear S a; intro a S
    refine st_y S rfl rfl rfl (y_pickT S rfl rfl) ?_; clear S a; intro a S
    refine wpList_nil ?_
    replace S := S.sub [(0, _), (1, _), (2, _), (3, _), (4, _), (5, _), (6, _), (37, _)] rfl
    refine then_normal ?_
    refine st_condT S rfl ?_
    refine wp_seq ?_
    -- region 2 law.go:67
    refine wp_region_lit ?_
    refine st_call (xs := []) S (enters_of Try.func7 (by decide) rfl) rfl rfl rfl (wakes_any _) ?_
    rintro _ w5 ⟨rfl, hK⟩; refine ⟨_, rfl, ?_⟩; clear S a; intro a S; replace M := M.grow hK
    refine st_y S rfl rfl rfl (y_assign S rfl) ?_; clear S a; intro a S
    refine wpList_nil ?_
    replace S := S.sub [(0, _), (1, _), (2, _), (3, _), (4, _), (5, _), (37, _), (6, _)] rfl
    refine then_normal ?_
    refine wp_ret ?_
    refine then_ret ?_
    refine end_one S rfl (res_tmp rfl) ?_
    exact ⟨rfl, M.below⟩
  · clear S; intro h14 S
    first | replace h14 := nrmA h14 | replace h14 := nrmB h14 | skip
    first | replace h14 := nrm1 h14 | replace h14 := nrm2 h14 | replace h14 := nrm3 h14 | replace h14 := nrm4 h14 | replace h14 := nrm5 h14 | replace h14 := nrm6 h14 | replace h14 := of_decide_eq_true h14 | replace h14 := of_decide_eq_false h14 | skip
    refine st_y S rfl rfl rfl (y_loadAgg (cs := [_, _, _, _, _, _, _]) S (by kernel_rfl) rfl rfl (M.cellsAt (k := 7) 2 rfl rfl)) ?_; clear S a; intro a S
    refine st_call (xs := [(Operand.tmp 15)]) S (enters_of Try.func6 (by decide) rfl) rfl rfl rfl (mayK_any p _) ?_
    rintro _ w6 ⟨rfl, hK⟩; refine ⟨_, rfl, ?_⟩; clear S a; intro a S; replace M := M.grow hK
    refine st_y S rfl rfl rfl (y_not S rfl) ?_; clear S a; intro a S
    refine st_y S rfl rfl rfl (y_pickF S rfl rfl) ?_; clear S a; intro a S
    refine st_y S rfl rfl rfl (y_move S rfl) ?_; clear S a; intro a S
    refine st_split (t := 19) S rfl ?_ ?_
    · clear S; intro h19 S
      refine st_skip 3 S rfl ?_; clear S a; intro a S
      refine st_y S rfl rfl rfl (y_pickT S rfl rfl) ?_; clear S a; intro a S
      refine st_y S rfl rfl rfl (y_move S rfl) ?_; clear S a; intro a S
      refine st_skip 5 S rfl ?_; clear S a; intro a S
      refine st_y S rfl rfl rfl (y_pickT S rfl rfl) ?_; clear S a; intro a S
      refine st_y S rfl rfl rfl (y_move S rfl) ?_; clear S a; intro a S
      refine st_skip 5 S rfl ?_; clear S a; intro a S
      refine st_y S rfl rfl rfl (y_pickT S rfl rfl) ?_; clear S a; intro a S
      refine wpList_nil ?_
      replace S := S.sub [(0, _), (1, _), (2, _), (3, _), (4, _), (5, _), (6, _), (37, _)] rfl
      refine then_normal ?_
      refine st_condT S rfl ?_
      refine wp_seq ?_
      -- region 2 law.go:67
      refine wp_region_lit ?_
      refine st_call (xs := []) S (enters_of Try.func7 (by decide) rfl) rfl rfl rfl (wakes_any _) ?_
      rintro _ w7 ⟨rfl, hK⟩; refine ⟨_, rfl, ?_⟩; clear S a; intro a S; replace M := M.grow hK
      refine st_y S rfl rfl rfl (y_assign S rfl) ?_; clear S a; intro a S
      refine wpList_nil ?_
      replace S := S.sub [(0, _), (1, _), (2, _), (3, _), (4, _), (5, _), (37, _), (6, _)] rfl
      refine then_normal ?_
      refine wp_ret ?_
      refine then_ret ?_
      refine end_one S rfl (res_tmp rfl) ?_
      exact ⟨rfl, M.below⟩
    · clear S; intro h19 S
      refine st_y S rfl rfl rfl (y_loadAgg (cs := [_, _, _, _, _, _, _]) S (by kernel_rfl) rfl rfl (M.cellsAt (k := 7) 1 rfl rfl)) ?_; clear S a; intro a S
      refine st_call (xs := [(Operand.tmp 20)]) S (enters_of Try.func6 (by decide) rfl) rfl rfl rfl (mayK_any q _) ?_
      rintro _ w8 ⟨rfl, hK⟩; refine ⟨_, rfl, ?_⟩; clear S a; intro a S; replace M := M.grow hK
      refine st_y S rfl rfl rfl (y_not S rfl) ?_; clear S a; intro a S
      refine st_y S rfl rfl rfl (y_pickF S rfl rfl) ?_; clear S a; intro a S
      refine st_y S rfl rfl rfl (y_move S rfl) ?_; clear S a; intro a S
      refine st_split (t := 24) S rfl ?_ ?_
      · clear S; intro h24 S
        refine st_skip 5 S rfl ?_; clear S a; intro a S
        refine st_y S rfl rfl rfl (y_pickT S rfl rfl) ?_; clear S a; intro a S
        refine st_y S rfl rfl rfl (y_move S rfl) ?_; clear S a; intro a S
        refine st_skip 5 S rfl ?_; clear S a; intro a S
        refine st_y S rfl rfl rfl (y_pickT S rfl rfl) ?_; clear S a; intro a S
        refine wpList_nil ?_
        replace S := S.sub [(0, _), (1, _), (2, _), (3, _), (4, _), (5, _), (6, _), (37, _)] rfl
        refine then_normal ?_
        refine st_condT S rfl ?_
        refine wp_seq ?_
        -- region 2 law.go:67
        refine wp_region_lit ?_
        refine st_call (xs := []) S (enters_of Try.func7 (by decide) rfl) rfl rfl rfl (wakes_any _) ?_
        rintro _ w9 ⟨rfl, hK⟩; refine ⟨_, rfl, ?_⟩; clear S a; intro a S; replace M := M.grow hK
        refine st_y S rfl rfl rfl (y_assign S rfl) ?_; clear S a; intro a S
        refine wpList_nil ?_
        replace S := S.sub [(0, _), (1, _), (2, _), (3, _), (4, _), (5, _), (37, _), (6, _)] rfl
        refine then_normal ?_
        refine wp_ret ?_
        refine then_ret ?_
        refine end_one S rfl (res_tmp rfl) ?_
        exact ⟨rfl, M.below⟩
      · clear S; intro h24 S
        refine st_y S rfl rfl rfl (y_fieldAddr (k := 2) S (by kernel_rfl) rfl) ?_; clear S a; intro a S
        refine st_y S rfl rfl rfl (y_load S (by kernel_rfl) rfl (M.cell 0 rfl rfl)) ?_; clear S a; intro a S
        refine st_y S rfl rfl rfl (y_fieldAddr (k := 0) S (by kernel_rfl) rfl) ?_; clear S a; intro a S
        refine st_y S rfl rfl rfl (y_load S (by kernel_rfl) rfl (M.cell 1 rfl rfl)) ?_; clear S a; intro a S
        refine st_y S rfl rfl rfl (y_int S rfl rfl rfl) ?_; clear S a; intro a S
        refine st_y S rfl rfl rfl (y_pickF S rfl rfl) ?_; clear S a; intro a S
        refine st_y S rfl rfl rfl (y_move S rfl) ?_; clear S a; intro a S
        refine st_split (t := 31) S rfl ?_ ?_
        · clear S; intro h31 S
          first | replace h31 := nrmA h31 | replace h31 := nrmB h31 | skip
          first | replace h31 := nrm1 h31 | replace h31 := nrm2 h31 | replace h31 := nrm3 h31 | replace h31 := nrm4 h31 | replace h31 := nrm5 h31 | replace h31 := nrm6 h31 | replace h31 := of_decide_eq_true h31 | replace h31 := of_decide_eq_false h31 | skip
          refine st_skip 5 S rfl ?_; clear S a; intro a S
          refine st_y S rfl rfl rfl (y_pickT S rfl rfl) ?_; clear S a; intro a S
          refine wpList_nil ?_
          replace S := S.sub [(0, _), (1, _), (2, _), (3, _), (4, _), (5, _), (6, _), (37, _)] rfl
          refine then_normal ?_
          refine st_condT S rfl ?_
          refine wp_seq ?_
          -- region 2 law.go:67
          refine wp_region_lit ?_
          refine st_call (xs := []) S (enters_of Try.func7 (by decide) rfl) rfl rfl rfl (wakes_any _) ?_
          rintro _ w10 ⟨rfl, hK⟩; refine ⟨_, rfl, ?_⟩; clear S a; intro a S; replace M := M.grow hK
          refine st_y S rfl rfl rfl (y_assign S rfl) ?_; clear S a; intro a S
          refine wpList_nil ?_
          replace S := S.sub [(0, _), (1, _), (2, _), (3, _), (4, _), (5, _), (37, _), (6, _)] rfl
          refine then_normal ?_
          refine wp_ret ?_
          refine then_ret ?_
          refine end_one S rfl (res_tmp rfl) ?_
          exact ⟨rfl, M.below⟩
        · clear S; intro h31 S
          first | replace h31 := nrmA h31 | replace h31 := nrmB h31 | skip
          first | replace h31 := nrm1 h31 | replace h31 := nrm2 h31 | replace h31 := nrm3 h31 | replace h31 := nrm4 h31 | replace h31 := nrm5 h31 | replace h31 := nrm6 h31 | replace h31 := of_decide_eq_true h31 | replace h31 := of_decide_eq_false h31 | skip
          refine st_y S rfl rfl rfl (y_fieldAddr (k := 0) S (by kernel_rfl) rfl) ?_; clear S a; intro a S
          refine st_y S rfl rfl rfl (y_load S (by kernel_rfl) rfl (M.cell 2 rfl rfl)) ?_; clear S a; intro a S
          refine st_y S rfl rfl rfl (y_fieldAddr (k := 0) S (by kernel_rfl) rfl) ?_; clear S a; intro a S
          refine st_y S rfl rfl rfl (y_load S (by kernel_rfl) rfl (M.cell 1 rfl rfl)) ?_; clear S a; intro a S
          refine st_y S rfl rfl rfl (y_int S rfl rfl rfl) ?_; clear S a; intro a S
          refine st_y S rfl rfl rfl (y_pickF S rfl rfl) ?_; clear S a; intro a S
          refine wpList_nil ?_
          replace S := S.sub [(0, _), (1, _), (2, _), (3, _), (4, _), (5, _), (6, _), (37, _)] rfl
          refine then_normal ?_
          refine st_split (t := 37) S rfl ?_ ?_
          · clear S; intro h37 S
            first | replace h37 := nrmA h37 | replace h37 := nrmB h37 | skip
            first | replace h37 := nrm1 h37 | replace h37 := nrm2 h37 | replace h37 := nrm3 h37 | replace h37 := nrm4 h37 | replace h37 := nrm5 h37 | replace h37 := nrm6 h37 | replace h37 := of_decide_eq_true h37 | replace h37 := of_decide_eq_false h37 | skip
            refine st_condT S rfl ?_
            refine wp_seq ?_
            -- region 2 law.go:67
            refine wp_region_lit ?_
            refine st_call (xs := []) S (enters_of Try.func7 (by decide) rfl) rfl rfl rfl (wakes_any _) ?_
            rintro _ w11 ⟨rfl, hK⟩; refine ⟨_, rfl, ?_⟩; clear S a; intro a S; replace M := M.grow hK
            refine st_y S rfl rfl rfl (y_assign S rfl) ?_; clear S a; intro a S
            refine wpList_nil ?_
            replace S := S.sub [(0, _), (1, _), (2, _), (3, _), (4, _), (5, _), (37, _), (6, _)] rfl
            refine then_normal ?_
            refine wp_ret ?_
            refine then_ret ?_
            refine end_one S rfl (res_tmp rfl) ?_
            exact ⟨rfl, M.below⟩
          · clear S; intro h37 S
            first | replace h37 := nrmA h37 | replace h37 := nrmB h37 | skip
            first | replace h37 := nrm1 h37 | replace h37 := nrm2 h37 | replace h37 := nrm3 h37 | replace h37 := nrm4 h37 | replace h37 := nrm5 h37 | replace h37 := nrm6 h37 | replace h37 := of_decide_eq_true h37 | replace h37 := of_decide_eq_false h37 | skip
            refine st_condF S rfl ?_
            refine wp_skip ?_
            refine then_normal ?_
            refine wp_seq ?_
            -- region 3 law.go:69
            have hp : p.may = true := by simpa using h19
            have hq : q.may = true := by simpa using h24
            have hqn := (Kn.may_iff.1 hq).1
            have hpn := (Kn.may_iff.1 hp).1
            refine wp_region_lit ?_
            refine st_y S rfl rfl rfl (y_loadAgg (cs := [_, _, _, _, _, _, _]) S (by kernel_rfl) rfl rfl (M.cellsAt (k := 7) 2 rfl rfl)) ?_; clear S a; intro a S
            refine st_y S rfl rfl rfl (y_loadAgg (cs := [_, _, _, _, _, _, _, _, _, _, _, _, _, _, _, _, _, _, _, _, _, _, _, _]) S (by kernel_rfl) rfl rfl (M.cellsAt (k := 24) 0 rfl rfl)) ?_; clear S a; intro a S
            refine st_call (xs := [(Operand.tmp 40), (Operand.tmp 41)]) S (enters_of Try.func11 (by decide) rfl) rfl rfl rfl (stampF_any p m va vn vc x _ (M.argW hv) (by omega) hp (by omega) (by omega)) ?_
            rintro _ w12 ⟨ad, cp, rfl, hF⟩; refine ⟨_, rfl, ?_⟩; clear S a; intro a S
            obtain ⟨lo, hi, -, M⟩ := M.pushFresh hF
            refine st_y S rfl rfl rfl (y_move S rfl) ?_; clear S a; intro a S
            refine st_y S rfl rfl rfl (y_extract S rfl rfl) ?_; clear S a; intro a S
            refine st_y S rfl rfl rfl (y_extract S rfl rfl) ?_; clear S a; intro a S
            refine st_alloc S M rfl rfl #[.int .i8 0, .int .i64 0, .int .i64 0, .int .i64 0, .int .i64 0, .int .i64 0, .int .i64 0, .int .i64 0, .int .i64 0, .int .i8 0, .int .i64 0, .int .u8 0, .int .u8 0, .int .u8 0, .int .u8 0, .int .u8 0, .int .u8 0, .int .u8 0, .int .u8 0, .int .i64 0, .bool false, .int .i64 0, .int .i64 0, .slice none 0 0] (by kernel_rfl) ?_; clear S M a; intro a w13 bZ S M hB
            refine st_store (sz := 24) (us := [_, _, _, _, _, _, _, _, _, _, _, _, _, _, _, _, _, _, _, _, _, _, _, _]) S M 0 rfl (by kernel_rfl) rfl rfl rfl rfl rfl rfl (by first | decide | (simp; done) | (simp; omega)) ?_; clear M; intro w14 M
            simp only [putL, List.set_cons_zero, List.set_cons_succ, Nat.reduceAdd] at M
            refine st_y S rfl rfl rfl (y_assign S rfl) ?_; clear S a; intro a S
            refine wpList_nil ?_
            replace S := S.sub [(0, _), (1, _), (2, _), (3, _), (4, _), (5, _), (6, _), (37, _), (7, _), (8, _)] rfl
            refine then_normal ?_
            refine wp_seq ?_
            refine wp_seq ?_
            -- region 4 law.go:70
            refine wp_region_lit ?_
            refine st_y S rfl rfl rfl (y_move S rfl) ?_; clear S a; intro a S
            refine st_y S rfl rfl rfl (y_int S rfl rfl rfl) ?_; clear S a; intro a S
            refine wpList_nil ?_
            replace S := S.sub [(0, _), (1, _), (2, _), (3, _), (4, _), (5, _), (6, _), (37, _), (7, _), (8, _), (46, _)] rfl
            refine then_normal ?_
            refine st_split (t := 46) S rfl ?_ ?_
            · clear S; intro h46 S
              first | replace h46 := nrmA h46 | replace h46 := nrmB h46 | skip
              first | replace h46 := nrm1 h46 | replace h46 := nrm2 h46 | replace h46 := nrm3 h46 | replace h46 := nrm4 h46 | replace h46 := nrm5 h46 | replace h46 := nrm6 h46 | replace h46 := of_decide_eq_true h46 | replace h46 := of_decide_eq_false h46 | skip
              simp at h46
            · clear S; intro h46 S
              first | replace h46 := nrmA h46 | replace h46 := nrmB h46 | skip
              first | replace h46 := nrm1 h46 | replace h46 := nrm2 h46 | replace h46 := nrm3 h46 | replace h46 := nrm4 h46 | replace h46 := nrm5 h46 | replace h46 := nrm6 h46 | replace h46 := of_decide_eq_true h46 | replace h46 := of_decide_eq_false h46 | skip
              refine st_condF S rfl ?_
              refine wp_skip ?_
              refine then_normal ?_
              refine wp_seq ?_
              refine wp_seq ?_
              -- region 6 law.go:73
              have hmt : m.to = q.node := by omega
              obtain ⟨PN, hPN⟩ := Int.eq_ofNat_of_zero_le hpn.1
              obtain ⟨QN, hQN⟩ := Int.eq_ofNat_of_zero_le hqn.1
              obtain ⟨pn, pinc, p0, p1, p2, p3, p4⟩ := p
              obtain ⟨qn, qinc, q0, q1, q2, q3, q4⟩ := q
              simp only at hPN hQN hpn hqn hmt
              subst hPN; subst hQN
              refine wp_regionK [] #[false, false, false, false, false, false, false, false, false, false, false, false, false, false, false, false, false, false, false, false, false, false, false, false, false, false, false, false, false, false, false] rfl M (by kernel_rfl) ?_; clear M; intro w15 M
              refine k_read (listed' := #[true, false, false, false, false, false, false, false, false, false, false, false, false, false, false, false, false, false, false, false, false, false, false, false, false, false, false, false, false, false, false]) 0 S rfl rfl rfl rfl (by kernel_rfl) rfl (fun _ d _ _ _ h => by cases d <;> exact h) (fun w hW => have M := M.grow hW; y_loadAgg (cs := [_, _, _, _, _, _, _, _, _, _, _, _, _, _, _, _, _, _, _, _, _, _, _, _]) S (by kernel_rfl) rfl rfl (M.cellsAt (k := 24) 0 rfl rfl)) ?_; clear S a; intro a S
              refine k_one (listed' := #[true, true, false, false, false, false, false, false, false, false, false, false, false, false, false, false, false, false, false, false, false, false, false, false, false, false, false, false, false, false, false]) 1 rfl (by kernel_rfl) rfl ?_
              refine st_call (xs := [(Operand.tmp 47)]) S (enters_of Try.func10 (by decide) rfl) rfl rfl rfl (fMay_any (stampM ⟨PN, pinc, p0, p1, p2, p3, p4⟩ m) ad x.length cp x _ (M.readAll 1 rfl (by unfold maxLen; omega))) ?_
              rintro _ w16 ⟨rfl, hK⟩; refine ⟨_, rfl, ?_⟩; clear S a; intro a S; replace M := M.grow hK
              refine wpList_nil ?_; refine then_normal ?_; refine ⟨fun _ => hK, ?_⟩
              refine k_pure (listed' := #[true, true, true, false, false, false, false, false, false, false, false, false, false, false, false, false, false, false, false, false, false, false, false, false, false, false, false, false, false, false, false]) 2 S rfl rfl rfl rfl (by kernel_rfl) rfl (fun _ d _ _ _ h => by cases d <;> exact h) (fun w => y_not S rfl) ?_; clear S a; intro a S
              refine k_pure (listed' := #[true, true, true, true, false, false, false, false, false, false, false, false, false, false, false, false, false, false, false, false, false, false, false, false, false, false, false, false, false, false, false]) 3 S rfl rfl rfl rfl (by kernel_rfl) rfl (fun _ d _ _ _ h => by cases d <;> exact h) (fun w => y_move S rfl) ?_; clear S a; intro a S
              refine st_split (t := 50) S rfl ?_ ?_
              · clear S; intro h50 S
                refine k_no (listed' := #[true, true, true, true, true, false, false, false, false, false, false, false, false, false, false, false, false, false, false, false, false, false, false, false, false, false, false, false, false, false, false]) 4 S rfl rfl rfl rfl (by kernel_rfl) rfl (fun _ d _ _ _ h => by cases d <;> exact h) ?_; clear S a; intro a S
                refine k_no (listed' := #[true, true, true, true, true, true, false, false, false, false, false, false, false, false, false, false, false, false, false, false, false, false, false, false, false, false, false, false, false, false, false]) 5 S rfl rfl rfl rfl (by kernel_rfl) rfl (fun _ d _ _ _ h => by cases d <;> exact h) ?_; clear S a; intro a S
                refine k_no (listed' := #[true, true, true, true, true, true, true, false, false, false, false, false, false, false, false, false, false, false, false, false, false, false, false, false, false, false, false, false, false, false, false]) 6 S rfl rfl rfl rfl (by kernel_rfl) rfl (fun _ d _ _ _ h => by cases d <;> exact h) ?_; clear S a; intro a S
                refine k_no (listed' := #[true, true, true, true, true, true, true, true, false, false, false, false, false, false, false, false, false, false, false, false, false, false, false, false, false, false, false, false, false, false, false]) 7 S rfl rfl rfl rfl (by kernel_rfl) rfl (fun _ d _ _ _ h => by cases d <;> exact h) ?_; clear S a; intro a S
                refine k_no (listed' := #[true, true, true, true, true, true, true, true, true, false, false, false, false, false, false, false, false, false, false, false, false, false, false, false, false, false, false, false, false, false, false]) 8 S rfl rfl rfl rfl (by kernel_rfl) rfl (fun _ d _ _ _ h => by cases d <;> exact h) ?_; clear S a; intro a S
                refine k_no (listed' := #[true, true, true, true, true, true, true, true, true, true, false, false, false, false, false, false, false, false, false, false, false, false, false, false, false, false, false, false, false, false, false]) 9 S rfl rfl rfl rfl (by kernel_rfl) rfl (fun _ d _ _ _ h => by cases d <;> exact h) ?_; clear S a; intro a S
                refine k_no (listed' := #[true, true, true, true, true, true, true, true, true, true, true, false, false, false, false, false, false, false, false, false, false, false, false, false, false, false, false, false, false, false, false]) 10 S rfl rfl rfl rfl (by kernel_rfl) rfl (fun _ d _ _ _ h => by cases d <;> exact h) ?_; clear S a; intro a S
                refine k_no (listed' := #[true, true, true, true, true, true, true, true, true, true, true, true, false, false, false, false, false, false, false, false, false, false, false, false, false, false, false, false, false, false, false]) 11 S rfl rfl rfl rfl (by kernel_rfl) rfl (fun _ d _ _ _ h => by cases d <;> exact h) ?_; clear S a; intro a S
                refine k_no (listed' := #[true, true, true, true, true, true, true, true, true, true, true, true, true, false, false, false, false, false, false, false, false, false, false, false, false, false, false, false, false, false, false]) 12 S rfl rfl rfl rfl (by kernel_rfl) rfl (fun _ d _ _ _ h => by cases d <;> exact h) ?_; clear S a; intro a S
                refine k_no (listed' := #[true, true, true, true, true, true, true, true, true, true, true, true, true, true, false, false, false, false, false, false, false, false, false, false, false, false, false, false, false, false, false]) 13 S rfl rfl rfl rfl (by kernel_rfl) rfl (fun _ d _ _ _ h => by cases d <;> exact h) ?_; clear S a; intro a S
                refine k_no (listed' := #[true, true, true, true, true, true, true, true, true, true, true, true, true, true, true, false, false, false, false, false, false, false, false, false, false, false, false, false, false, false, false]) 14 S rfl rfl rfl rfl (by kernel_rfl) rfl (fun _ d _ _ _ h => by cases d <;> exact h) ?_; clear S a; intro a S
                refine k_no (listed' := #[true, true, true, true, true, true, true, true, true, true, true, true, true, true, true, true, false, false, false, false, false, false, false, false, false, false, false, false, false, false, false]) 15 S rfl rfl rfl rfl (by kernel_rfl) rfl (fun _ d _ _ _ h => by cases d <;> exact h) ?_; clear S a; intro a S
                refine k_no (listed' := #[true, true, true, true, true, true, true, true, true, true, true, true, true, true, true, true, true, false, false, false, false, false, false, false, false, false, false, false, false, false, false]) 16 S rfl rfl rfl rfl (by kernel_rfl) rfl (fun _ d _ _ _ h => by cases d <;> exact h) ?_; clear S a; intro a S
                refine k_no (listed' := #[true, true, true, true, true, true, true, true, true, true, true, true, true, true, true, true, true, true, false, false, false, false, false, false, false, false, false, false, false, false, false]) 17 S rfl rfl rfl rfl (by kernel_rfl) rfl (fun _ d _ _ _ h => by cases d <;> exact h) ?_; clear S a; intro a S
                refine k_no (listed' := #[true, true, true, true, true, true, true, true, true, true, true, true, true, true, true, true, true, true, true, false, false, false, false, false, false, false, false, false, false, false, false]) 18 S rfl rfl rfl rfl (by kernel_rfl) rfl (fun _ d _ _ _ h => by cases d <;> exact h) ?_; clear S a; intro a S
                refine k_no (listed' := #[true, true, true, true, true, true, true, true, true, true, true, true, true, true, true, true, true, true, true, true, false, false, false, false, false, false, false, false, false, false, false]) 19 S rfl rfl rfl rfl (by kernel_rfl) rfl (fun _ d _ _ _ h => by cases d <;> exact h) ?_; clear S a; intro a S
                refine k_pure (listed' := #[true, true, true, true, true, true, true, true, true, true, true, true, true, true, true, true, true, true, true, true, true, false, false, false, false, false, false, false, false, false, false]) 20 S rfl rfl rfl rfl (by kernel_rfl) rfl (fun _ d _ _ _ h => by cases d <;> exact h) (fun w => y_pickT S rfl rfl) ?_; clear S a; intro a S
                refine k_pure (listed' := #[true, true, true, true, true, true, true, true, true, true, true, true, true, true, true, true, true, true, true, true, true, true, false, false, false, false, false, false, false, false, false]) 21 S rfl rfl rfl rfl (by kernel_rfl) rfl (fun _ d _ _ _ h => by cases d <;> exact h) (fun w => y_move S rfl) ?_; clear S a; intro a S
                refine k_no (listed' := #[true, true, true, true, true, true, true, true, true, true, true, true, true, true, true, true, true, true, true, true, true, true, true, false, false, false, false, false, false, false, false]) 22 S rfl rfl rfl rfl (by kernel_rfl) rfl (fun _ d _ _ _ h => by cases d <;> exact h) ?_; clear S a; intro a S
                refine k_no (listed' := #[true, true, true, true, true, true, true, true, true, true, true, true, true, true, true, true, true, true, true, true, true, true, true, true, false, false, false, false, false, false, false]) 23 S rfl rfl rfl rfl (by kernel_rfl) rfl (fun _ d _ _ _ h => by cases d <;> exact h) ?_; clear S a; intro a S
                refine k_no (listed' := #[true, true, true, true, true, true, true, true, true, true, true, true, true, true, true, true, true, true, true, true, true, true, true, true, true, false, false, false, false, false, false]) 24 S rfl rfl rfl rfl (by kernel_rfl) rfl (fun _ d _ _ _ h => by cases d <;> exact h) ?_; clear S a; intro a S
                refine k_no (listed' := #[true, true, true, true, true, true, true, true, true, true, true, true, true, true, true, true, true, true, true, true, true, true, true, true, true, true, false, false, false, false, false]) 25 S rfl rfl rfl rfl (by kernel_rfl) rfl (fun _ d _ _ _ h => by cases d <;> exact h) ?_; clear S a; intro a S
                refine k_no (listed' := #[true, true, true, true, true, true, true, true, true, true, true, true, true, true, true, true, true, true, true, true, true, true, true, true, true, true, true, false, false, false, false]) 26 S rfl rfl rfl rfl (by kernel_rfl) rfl (fun _ d _ _ _ h => by cases d <;> exact h) ?_; clear S a; intro a S
                refine k_no (listed' := #[true, true, true, true, true, true, true, true, true, true, true, true, true, true, true, true, true, true, true, true, true, true, true, true, true, true, true, true, false, false, false]) 27 S rfl rfl rfl rfl (by kernel_rfl) rfl (fun _ d _ _ _ h => by cases d <;> exact h) ?_; clear S a; intro a S
                refine k_no (listed' := #[true, true, true, true, true, true, true, true, true, true, true, true, true, true, true, true, true, true, true, true, true, true, true, true, true, true, true, true, true, false, false]) 28 S rfl rfl rfl rfl (by kernel_rfl) rfl (fun _ d _ _ _ h => by cases d <;> exact h) ?_; clear S a; intro a S
                refine k_no (listed' := #[true, true, true, true, true, true, true, true, true, true, true, true, true, true, true, true, true, true, true, true, true, true, true, true, true, true, true, true, true, true, false]) 29 S rfl rfl rfl rfl (by kernel_rfl) rfl (fun _ d _ _ _ h => by cases d <;> exact h) ?_; clear S a; intro a S
                refine k_pure (listed' := #[true, true, true, true, true, true, true, true, true, true, true, true, true, true, true, true, true, true, true, true, true, true, true, true, true, true, true, true, true, true, true]) 30 S rfl rfl rfl rfl (by kernel_rfl) rfl (fun _ d _ _ _ h => by cases d <;> exact h) (fun w => y_pickT S rfl rfl) ?_; clear S a; intro a S
                refine k_end (by kernel_rfl) ?_
                replace S := S.sub [(0, _), (1, _), (2, _), (3, _), (4, _), (5, _), (6, _), (37, _), (7, _), (8, _), (46, _), (77, _)] rfl
                refine then_normal ?_
                refine st_condT S rfl ?_
                refine wp_seq ?_
                -- region 7 law.go:74
                refine wp_region_lit ?_
                refine st_call (xs := []) S (enters_of Try.func7 (by decide) rfl) rfl rfl rfl (wakes_any _) ?_
                rintro _ w17 ⟨rfl, hK⟩; refine ⟨_, rfl, ?_⟩; clear S a; intro a S; replace M := M.grow hK
                refine st_y S rfl rfl rfl (y_assign S rfl) ?_; clear S a; intro a S
                refine wpList_nil ?_
                replace S := S.sub [(0, _), (1, _), (2, _), (3, _), (4, _), (5, _), (37, _), (7, _), (8, _), (46, _), (77, _), (6, _)] rfl
                refine then_normal ?_
                refine wp_ret ?_
                refine then_ret ?_
                refine end_one S rfl (res_tmp rfl) ?_
                exact ⟨rfl, M.below⟩
              · clear S; intro h50 S
                refine k_pure (listed' := #[true, true, true, true, true, false, false, false, false, false, false, false, false, false, false, false, false, false, false, false, false, false, false, false, false, false, false, false, false, false, false]) 4 S rfl rfl rfl rfl (by kernel_rfl) rfl (fun _ d _ _ _ h => by cases d <;> exact h) (fun w => y_fieldAddr (k := 0) S (by kernel_rfl) rfl) ?_; clear S a; intro a S
                refine k_read (listed' := #[true, true, true, true, true, true, false, false, false, false, false, false, false, false, false, false, false, false, false, false, false, false, false, false, false, false, false, false, false, false, false]) 5 S rfl rfl rfl rfl (by kernel_rfl) rfl (fun _ d _ _ _ h => by cases d <;> exact h) (fun w hW => have M := M.grow hW; y_load S (by kernel_rfl) rfl (M.cell 3 rfl rfl)) ?_; clear S a; intro a S
                refine k_pure (listed' := #[true, true, true, true, true, true, true, false, false, false, false, false, false, false, false, false, false, false, false, false, false, false, false, false, false, false, false, false, false, false, false]) 6 S rfl rfl rfl rfl (by kernel_rfl) rfl (fun _ d _ _ _ h => by cases d <;> exact h) (fun w => y_fieldAddr (k := 2) S (by kernel_rfl) rfl) ?_; clear S a; intro a S
                refine k_pure (listed' := #[true, true, true, true, true, true, true, true, false, false, false, false, false, false, false, false, false, false, false, false, false, false, false, false, false, false, false, false, false, false, false]) 7 S rfl rfl rfl rfl (by kernel_rfl) rfl (fun _ d _ _ _ h => by cases d <;> exact h) (fun w => y_indexA (m := 5) (sz := 1) S (by kernel_rfl) rfl rfl (by first | omega | (simp; done) | (simp; omega))) ?_; clear S a; intro a S
                try simp only [Int.toNat_natCast, Nat.mul_one, Nat.zero_add] at S
                refine k_read (listed' := #[true, true, true, true, true, true, true, true, true, false, false, false, false, false, false, false, false, false, false, false, false, false, false, false, false, false, false, false, false, false, false]) 8 S rfl rfl rfl rfl (by kernel_rfl) rfl (fun _ d _ _ _ h => by cases d <;> exact h) (fun w hW => have M := M.grow hW; y_load S (by kernel_rfl) rfl (M.cell 4 rfl (kn_get (k := ⟨PN, pinc, p0, p1, p2, p3, p4⟩) (by omega)))) ?_; clear S a; intro a S
                refine k_pure (listed' := #[true, true, true, true, true, true, true, true, true, true, false, false, false, false, false, false, false, false, false, false, false, false, false, false, false, false, false, false, false, false, false]) 9 S rfl rfl rfl rfl (by kernel_rfl) rfl (fun _ d _ _ _ h => by cases d <;> exact h) (fun w => y_int S rfl rfl rfl) ?_; clear S a; intro a S
                refine k_pure (listed' := #[true, true, true, true, true, true, true, true, true, true, true, false, false, false, false, false, false, false, false, false, false, false, false, false, false, false, false, false, false, false, false]) 10 S rfl rfl rfl rfl (by kernel_rfl) rfl (fun _ d _ _ _ h => by cases d <;> exact h) (fun w => y_move S rfl) ?_; clear S a; intro a S
                refine st_split (t := 57) S rfl ?_ ?_
                · clear S; intro h57 S
                  first | replace h57 := nrmA h57 | replace h57 := nrmB h57 | skip
                  first | replace h57 := nrm1 h57 | replace h57 := nrm2 h57 | replace h57 := nrm3 h57 | replace h57 := nrm4 h57 | replace h57 := nrm5 h57 | replace h57 := nrm6 h57 | replace h57 := of_decide_eq_true h57 | replace h57 := of_decide_eq_false h57 | skip
                  refine k_pure (listed' := #[true, true, true, true, true, true, true, true, true, true, true, true, false, false, false, false, false, false, false, false, false, false, false, false, false, false, false, false, false, false, false]) 11 S rfl rfl rfl rfl (by kernel_rfl) rfl (fun _ d _ _ _ h => by cases d <;> exact h) (fun w => y_fieldAddr (k := 0) S (by kernel_rfl) rfl) ?_; clear S a; intro a S
                  refine k_read (listed' := #[true, true, true, true, true, true, true, true, true, true, true, true, true, false, false, false, false, false, false, false, false, false, false, false, false, false, false, false, false, false, false]) 12 S rfl rfl rfl rfl (by kernel_rfl) rfl (fun _ d _ _ _ h => by cases d <;> exact h) (fun w hW => have M := M.grow hW; y_load S (by kernel_rfl) rfl (M.cell 3 rfl rfl)) ?_; clear S a; intro a S
                  refine k_pure (listed' := #[true, true, true, true, true, true, true, true, true, true, true, true, true, true, false, false, false, false, false, false, false, false, false, false, false, false, false, false, false, false, false]) 13 S rfl rfl rfl rfl (by kernel_rfl) rfl (fun _ d _ _ _ h => by cases d <;> exact h) (fun w => y_fieldAddr (k := 2) S (by kernel_rfl) rfl) ?_; clear S a; intro a S
                  refine k_pure (listed' := #[true, true, true, true, true, true, true, true, true, true, true, true, true, true, true, false, false, false, false, false, false, false, false, false, false, false, false, false, false, false, false]) 14 S rfl rfl rfl rfl (by kernel_rfl) rfl (fun _ d _ _ _ h => by cases d <;> exact h) (fun w => y_indexA (m := 5) (sz := 1) S (by kernel_rfl) rfl rfl (by first | omega | (simp; done) | (simp; omega))) ?_; clear S a; intro a S
                  try simp only [Int.toNat_natCast, Nat.mul_one, Nat.zero_add] at S
                  refine k_read (listed' := #[true, true, true, true, true, true, true, true, true, true, true, true, true, true, true, true, false, false, false, false, false, false, false, false, false, false, false, false, false, false, false]) 15 S rfl rfl rfl rfl (by kernel_rfl) rfl (fun _ d _ _ _ h => by cases d <;> exact h) (fun w hW => have M := M.grow hW; y_load S (by kernel_rfl) rfl (M.cell 4 rfl (kn_get (k := ⟨PN, pinc, p0, p1, p2, p3, p4⟩) (by omega)))) ?_; clear S a; intro a S
                  refine k_pure (listed' := #[true, true, true, true, true, true, true, true, true, true, true, true, true, true, true, true, true, false, false, false, false, false, false, false, false, false, false, false, false, false, false]) 16 S rfl rfl rfl rfl (by kernel_rfl) rfl (fun _ d _ _ _ h => by cases d <;> exact h) (fun w => y_fieldAddr (k := 1) S (by kernel_rfl) rfl) ?_; clear S a; intro a S
                  refine k_read (listed' := #[true, true, true, true, true, true, true, true, true, true, true, true, true, true, true, true, true, true, false, false, false, false, false, false, false, false, false, false, false, false, false]) 17 S rfl rfl rfl rfl (by kernel_rfl) rfl (fun _ d _ _ _ h => by cases d <;> exact h) (fun w hW => have M := M.grow hW; y_load S (by kernel_rfl) rfl (M.cell 3 rfl rfl)) ?_; clear S a; intro a S
                  refine k_pure (listed' := #[true, true, true, true, true, true, true, true, true, true, true, true, true, true, true, true, true, true, true, false, false, false, false, false, false, false, false, false, false, false, false]) 18 S rfl rfl rfl rfl (by kernel_rfl) rfl (fun _ d _ _ _ h => by cases d <;> exact h) (fun w => y_int S rfl rfl rfl) ?_; clear S a; intro a S
                  refine k_pure (listed' := #[true, true, true, true, true, true, true, true, true, true, true, true, true, true, true, true, true, true, true, true, false, false, false, false, false, false, false, false, false, false, false]) 19 S rfl rfl rfl rfl (by kernel_rfl) rfl (fun _ d _ _ _ h => by cases d <;> exact h) (fun w => y_pickT S rfl rfl) ?_; clear S a; intro a S
                  refine k_pure (listed' := #[true, true, true, true, true, true, true, true, true, true, true, true, true, true, true, true, true, true, true, true, true, false, false, false, false, false, false, false, false, false, false]) 20 S rfl rfl rfl rfl (by kernel_rfl) rfl (fun _ d _ _ _ h => by cases d <;> exact h) (fun w => y_pickF S rfl rfl) ?_; clear S a; intro a S
                  refine k_pure (listed' := #[true, true, true, true, true, true, true, true, true, true, true, true, true, true, true, true, true, true, true, true, true, true, false, false, false, false, false, false, false, false, false]) 21 S rfl rfl rfl rfl (by kernel_rfl) rfl (fun _ d _ _ _ h => by cases d <;> exact h) (fun w => y_move S rfl) ?_; clear S a; intro a S
                  refine st_split (t := 68) S rfl ?_ ?_
                  · clear S; intro h68 S
                    refine k_no (listed' := #[true, true, true, true, true, true, true, true, true, true, true, true, true, true, true, true, true, true, true, true, true, true, true, false, false, false, false, false, false, false, false]) 22 S rfl rfl rfl rfl (by kernel_rfl) rfl (fun _ d _ _ _ h => by cases d <;> exact h) ?_; clear S a; intro a S
                    refine k_no (listed' := #[true, true, true, true, true, true, true, true, true, true, true, true, true, true, true, true, true, true, true, true, true, true, true, true, false, false, false, false, false, false, false]) 23 S rfl rfl rfl rfl (by kernel_rfl) rfl (fun _ d _ _ _ h => by cases d <;> exact h) ?_; clear S a; intro a S
                    refine k_no (listed' := #[true, true, true, true, true, true, true, true, true, true, true, true, true, true, true, true, true, true, true, true, true, true, true, true, true, false, false, false, false, false, false]) 24 S rfl rfl rfl rfl (by kernel_rfl) rfl (fun _ d _ _ _ h => by cases d <;> exact h) ?_; clear S a; intro a S
                    refine k_no (listed' := #[true, true, true, true, true, true, true, true, true, true, true, true, true, true, true, true, true, true, true, true, true, true, true, true, true, true, false, false, false, false, false]) 25 S rfl rfl rfl rfl (by kernel_rfl) rfl (fun _ d _ _ _ h => by cases d <;> exact h) ?_; clear S a; intro a S
                    refine k_no (listed' := #[true, true, true, true, true, true, true, true, true, true, true, true, true, true, true, true, true, true, true, true, true, true, true, true, true, true, true, false, false, false, false]) 26 S rfl rfl rfl rfl (by kernel_rfl) rfl (fun _ d _ _ _ h => by cases d <;> exact h) ?_; clear S a; intro a S
                    refine k_no (listed' := #[true, true, true, true, true, true, true, true, true, true, true, true, true, true, true, true, true, true, true, true, true, true, true, true, true, true, true, true, false, false, false]) 27 S rfl rfl rfl rfl (by kernel_rfl) rfl (fun _ d _ _ _ h => by cases d <;> exact h) ?_; clear S a; intro a S
                    refine k_no (listed' := #[true, true, true, true, true, true, true, true, true, true, true, true, true, true, true, true, true, true, true, true, true, true, true, true, true, true, true, true, true, false, false]) 28 S rfl rfl rfl rfl (by kernel_rfl) rfl (fun _ d _ _ _ h => by cases d <;> exact h) ?_; clear S a; intro a S
                    refine k_no (listed' := #[true, true, true, true, true, true, true, true, true, true, true, true, true, true, true, true, true, true, true, true, true, true, true, true, true, true, true, true, true, true, false]) 29 S rfl rfl rfl rfl (by kernel_rfl) rfl (fun _ d _ _ _ h => by cases d <;> exact h) ?_; clear S a; intro a S
                    refine k_pure (listed' := #[true, true, true, true, true, true, true, true, true, true, true, true, true, true, true, true, true, true, true, true, true, true, true, true, true, true, true, true, true, true, true]) 30 S rfl rfl rfl rfl (by kernel_rfl) rfl (fun _ d _ _ _ h => by cases d <;> exact h) (fun w => y_pickT S rfl rfl) ?_; clear S a; intro a S
                    refine k_end (by kernel_rfl) ?_
                    replace S := S.sub [(0, _), (1, _), (2, _), (3, _), (4, _), (5, _), (6, _), (37, _), (7, _), (8, _), (46, _), (77, _)] rfl
                    refine then_normal ?_
                    refine st_condT S rfl ?_
                    refine wp_seq ?_
                    -- region 7 law.go:74
                    refine wp_region_lit ?_
                    refine st_call (xs := []) S (enters_of Try.func7 (by decide) rfl) rfl rfl rfl (wakes_any _) ?_
                    rintro _ w18 ⟨rfl, hK⟩; refine ⟨_, rfl, ?_⟩; clear S a; intro a S; replace M := M.grow hK
                    refine st_y S rfl rfl rfl (y_assign S rfl) ?_; clear S a; intro a S
                    refine wpList_nil ?_
                    replace S := S.sub [(0, _), (1, _), (2, _), (3, _), (4, _), (5, _), (37, _), (7, _), (8, _), (46, _), (77, _), (6, _)] rfl
                    refine then_normal ?_
                    refine wp_ret ?_
                    refine then_ret ?_
                    refine end_one S rfl (res_tmp rfl) ?_
                    exact ⟨rfl, M.below⟩
                  · clear S; intro h68 S
                    refine k_pure (listed' := #[true, true, true, true, true, true, true, true, true, true, true, true, true, true, true, true, true, true, true, true, true, true, true, false, false, false, false, false, false, false, false]) 22 S rfl rfl rfl rfl (by kernel_rfl) rfl (fun _ d _ _ _ h => by cases d <;> exact h) (fun w => y_fieldAddr (k := 0) S (by kernel_rfl) rfl) ?_; clear S a; intro a S
                    refine k_read (listed' := #[true, true, true, true, true, true, true, true, true, true, true, true, true, true, true, true, true, true, true, true, true, true, true, true, false, false, false, false, false, false, false]) 23 S rfl rfl rfl rfl (by kernel_rfl) rfl (fun _ d _ _ _ h => by cases d <;> exact h) (fun w hW => have M := M.grow hW; y_load S (by kernel_rfl) rfl (M.cell 4 rfl rfl)) ?_; clear S a; intro a S
                    refine k_pure (listed' := #[true, true, true, true, true, true, true, true, true, true, true, true, true, true, true, true, true, true, true, true, true, true, true, true, true, false, false, false, false, false, false]) 24 S rfl rfl rfl rfl (by kernel_rfl) rfl (fun _ d _ _ _ h => by cases d <;> exact h) (fun w => y_fieldAddr (k := 2) S (by kernel_rfl) rfl) ?_; clear S a; intro a S
                    refine k_pure (listed' := #[true, true, true, true, true, true, true, true, true, true, true, true, true, true, true, true, true, true, true, true, true, true, true, true, true, true, false, false, false, false, false]) 25 S rfl rfl rfl rfl (by kernel_rfl) rfl (fun _ d _ _ _ h => by cases d <;> exact h) (fun w => y_indexA (m := 5) (sz := 1) S (by kernel_rfl) rfl rfl (by first | omega | (simp; done) | (simp; omega))) ?_; clear S a; intro a S
                    try simp only [Int.toNat_natCast, Nat.mul_one, Nat.zero_add] at S
                    refine k_read (listed' := #[true, true, true, true, true, true, true, true, true, true, true, true, true, true, true, true, true, true, true, true, true, true, true, true, true, true, true, false, false, false, false]) 26 S rfl rfl rfl rfl (by kernel_rfl) rfl (fun _ d _ _ _ h => by cases d <;> exact h) (fun w hW => have M := M.grow hW; y_load S (by kernel_rfl) rfl (M.cell 3 rfl (kn_get (k := ⟨QN, qinc, q0, q1, q2, q3, q4⟩) (by omega)))) ?_; clear S a; intro a S
                    refine k_pure (listed' := #[true, true, true, true, true, true, true, true, true, true, true, true, true, true, true, true, true, true, true, true, true, true, true, true, true, true, true, true, false, false, false]) 27 S rfl rfl rfl rfl (by kernel_rfl) rfl (fun _ d _ _ _ h => by cases d <;> exact h) (fun w => y_fieldAddr (k := 1) S (by kernel_rfl) rfl) ?_; clear S a; intro a S
                    refine k_read (listed' := #[true, true, true, true, true, true, true, true, true, true, true, true, true, true, true, true, true, true, true, true, true, true, true, true, true, true, true, true, true, false, false]) 28 S rfl rfl rfl rfl (by kernel_rfl) rfl (fun _ d _ _ _ h => by cases d <;> exact h) (fun w hW => have M := M.grow hW; y_load S (by kernel_rfl) rfl (M.cell 4 rfl rfl)) ?_; clear S a; intro a S
                    refine k_pure (listed' := #[true, true, true, true, true, true, true, true, true, true, true, true, true, true, true, true, true, true, true, true, true, true, true, true, true, true, true, true, true, true, false]) 29 S rfl rfl rfl rfl (by kernel_rfl) rfl (fun _ d _ _ _ h => by cases d <;> exact h) (fun w => y_int S rfl rfl rfl) ?_; clear S a; intro a S
                    refine k_pure (listed' := #[true, true, true, true, true, true, true, true, true, true, true, true, true, true, true, true, true, true, true, true, true, true, true, true, true, true, true, true, true, true, true]) 30 S rfl rfl rfl rfl (by kernel_rfl) rfl (fun _ d _ _ _ h => by cases d <;> exact h) (fun w => y_pickF S rfl rfl) ?_; clear S a; intro a S
                    refine k_end (by kernel_rfl) ?_
                    replace S := S.sub [(0, _), (1, _), (2, _), (3, _), (4, _), (5, _), (6, _), (37, _), (7, _), (8, _), (46, _), (77, _)] rfl
                    refine then_normal ?_
                    refine st_split (t := 77) S rfl ?_ ?_
                    · clear S; intro h77 S
                      first | replace h77 := nrmA h77 | replace h77 := nrmB h77 | skip
                      first | replace h77 := nrm1 h77 | replace h77 := nrm2 h77 | replace h77 := nrm3 h77 | replace h77 := nrm4 h77 | replace h77 := nrm5 h77 | replace h77 := nrm6 h77 | replace h77 := of_decide_eq_true h77 | replace h77 := of_decide_eq_false h77 | skip
                      refine st_condT S rfl ?_
                      refine wp_seq ?_
                      -- region 7 law.go:74
                      refine wp_region_lit ?_
                      refine st_call (xs := []) S (enters_of Try.func7 (by decide) rfl) rfl rfl rfl (wakes_any _) ?_
                      rintro _ w19 ⟨rfl, hK⟩; refine ⟨_, rfl, ?_⟩; clear S a; intro a S; replace M := M.grow hK
                      refine st_y S rfl rfl rfl (y_assign S rfl) ?_; clear S a; intro a S
                      refine wpList_nil ?_
                      replace S := S.sub [(0, _), (1, _), (2, _), (3, _), (4, _), (5, _), (37, _), (7, _), (8, _), (46, _), (77, _), (6, _)] rfl
                      refine then_normal ?_
                      refine wp_ret ?_
                      refine then_ret ?_
                      refine end_one S rfl (res_tmp rfl) ?_
                      exact ⟨rfl, M.below⟩
                    · clear S; intro h77 S
                      first | replace h77 := nrmA h77 | replace h77 := nrmB h77 | skip
                      first | replace h77 := nrm1 h77 | replace h77 := nrm2 h77 | replace h77 := nrm3 h77 | replace h77 := nrm4 h77 | replace h77 := nrm5 h77 | replace h77 := nrm6 h77 | replace h77 := of_decide_eq_true h77 | replace h77 := of_decide_eq_false h77 | skip
                      refine st_condF S rfl ?_
                      refine wp_skip ?_
                      refine then_normal ?_
                      refine wp_seq ?_
                      -- region 8 law.go:76
                      have hm : (stampM ⟨PN, pinc, p0, p1, p2, p3, p4⟩ m).may x = true := by simpa using h50
                      obtain ⟨F, o, how, hFr, hF5, hh, Q1, Q2⟩ := hear_ok hq hm (by simp only [stampM]; omega)
                      have hFP : F = PN := by simp only [stampM] at hFr; omega
                      subst hFP
                      have hto : m.to.toNat = QN := by omega
                      have ho := Q2 (by
                        simp only [stampM, hto]
                        (try simp only at h77)
                        (try simp only at h57)
                        (try simp only at h68)
                        rintro (h | ⟨h1, h2⟩)
                        · omega
                        · first | omega | (simp at h68; omega))
                      refine wp_region_lit ?_
                      refine st_y S rfl rfl rfl (y_loadAgg (cs := [_, _, _, _, _, _, _]) S (by kernel_rfl) rfl rfl (M.cellsAt (k := 7) 3 rfl rfl)) ?_; clear S a; intro a S
                      refine st_y S rfl rfl rfl (y_loadAgg (cs := [_, _, _, _, _, _, _, _, _, _, _, _, _, _, _, _, _, _, _, _, _, _, _, _]) S (by kernel_rfl) rfl rfl (M.cellsAt (k := 24) 0 rfl rfl)) ?_; clear S a; intro a S
                      refine st_call (xs := [(Operand.tmp 80), (Operand.tmp 81)]) S (enters_of Try.func9 (by decide) rfl) rfl rfl rfl (hear_any ⟨QN, qinc, q0, q1, q2, q3, q4⟩ (stampM ⟨F, pinc, p0, p1, p2, p3, p4⟩ m) ad x.length cp x _ (M.readAll 1 rfl (by unfold maxLen; omega))) ?_
                      rintro _ w20 ⟨rfl, hK⟩; refine ⟨_, rfl, ?_⟩; clear S a; intro a S; replace M := M.grow hK
                      rw [hh] at S
                      refine st_y S rfl rfl rfl (y_move S rfl) ?_; clear S a; intro a S
                      refine st_y S rfl rfl rfl (y_extract S rfl rfl) ?_; clear S a; intro a S
                      refine st_y S rfl rfl rfl (y_extract S rfl rfl) ?_; clear S a; intro a S
                      refine st_y S rfl rfl rfl (y_extract S rfl rfl) ?_; clear S a; intro a S
                      refine st_alloc S M rfl rfl #[.int .i64 0, .int .i64 0, .int .i64 0, .int .i64 0, .int .i64 0, .int .i64 0, .int .i64 0] (by kernel_rfl) ?_; clear S M a; intro a w21 bY S M hB
                      refine st_store (sz := 7) (us := [_, _, _, _, _, _, _]) S M 0 rfl (by kernel_rfl) rfl rfl rfl rfl rfl rfl (by first | decide | (simp; done) | (simp; omega)) ?_; clear M; intro w22 M
                      simp only [putL, List.set_cons_zero, List.set_cons_succ, Nat.reduceAdd] at M
                      refine st_y S rfl rfl rfl (y_assign S rfl) ?_; clear S a; intro a S
                      refine st_y S rfl rfl rfl (y_assign S rfl) ?_; clear S a; intro a S
                      refine wpList_nil ?_
                      replace S := S.sub [(0, _), (1, _), (2, _), (3, _), (4, _), (5, _), (6, _), (37, _), (7, _), (8, _), (46, _), (77, _), (9, _), (10, _), (11, _)] rfl
                      refine then_normal ?_
                      refine wp_seq ?_
                      -- region 9 law.go:77
                      refine wp_regionK [] #[false, false, false, false, false, false, false, false, false, false, false, false, false, false, false, false, false, false, false, false] rfl M (by kernel_rfl) ?_; clear M; intro w23 M
                      refine k_pure (listed' := #[true, false, false, false, false, false, false, false, false, false, false, false, false, false, false, false, false, false, false, false]) 0 S rfl rfl rfl rfl (by kernel_rfl) rfl (fun _ d _ _ _ h => by cases d <;> exact h) (fun w => y_move S rfl) ?_; clear S a; intro a S
                      refine k_pure (listed' := #[true, true, false, false, false, false, false, false, false, false, false, false, false, false, false, false, false, false, false, false]) 1 S rfl rfl rfl rfl (by kernel_rfl) rfl (fun _ d _ _ _ h => by cases d <;> exact h) (fun w => y_int S rfl rfl rfl) ?_; clear S a; intro a S
                      refine k_pure (listed' := #[true, true, true, false, false, false, false, false, false, false, false, false, false, false, false, false, false, false, false, false]) 2 S rfl rfl rfl rfl (by kernel_rfl) rfl (fun _ d _ _ _ h => by cases d <;> exact h) (fun w => y_move S rfl) ?_; clear S a; intro a S
                      refine st_split (t := 88) S rfl ?_ ?_
                      · clear S; intro h88 S
                        first | replace h88 := nrmA h88 | replace h88 := nrmB h88 | skip
                        first | replace h88 := nrm1 h88 | replace h88 := nrm2 h88 | replace h88 := nrm3 h88 | replace h88 := nrm4 h88 | replace h88 := nrm5 h88 | replace h88 := nrm6 h88 | replace h88 := of_decide_eq_true h88 | replace h88 := of_decide_eq_false h88 | skip
                        refine k_pure (listed' := #[true, true, true, true, false, false, false, false, false, false, false, false, false, false, false, false, false, false, false, false]) 3 S rfl rfl rfl rfl (by kernel_rfl) rfl (fun _ d _ _ _ h => by cases d <;> exact h) (fun w => y_move S rfl) ?_; clear S a; intro a S
                        refine k_pure (listed' := #[true, true, true, true, true, false, false, false, false, false, false, false, false, false, false, false, false, false, false, false]) 4 S rfl rfl rfl rfl (by kernel_rfl) rfl (fun _ d _ _ _ h => by cases d <;> exact h) (fun w => y_int S rfl rfl rfl) ?_; clear S a; intro a S
                        refine k_pure (listed' := #[true, true, true, true, true, true, false, false, false, false, false, false, false, false, false, false, false, false, false, false]) 5 S rfl rfl rfl rfl (by kernel_rfl) rfl (fun _ d _ _ _ h => by cases d <;> exact h) (fun w => y_pickT S rfl rfl) ?_; clear S a; intro a S
                        refine k_pure (listed' := #[true, true, true, true, true, true, true, false, false, false, false, false, false, false, false, false, false, false, false, false]) 6 S rfl rfl rfl rfl (by kernel_rfl) rfl (fun _ d _ _ _ h => by cases d <;> exact h) (fun w => y_move S rfl) ?_; clear S a; intro a S
                        refine st_split (t := 92) S rfl ?_ ?_
                        · clear S; intro h92 S
                          first | replace h92 := nrmA h92 | replace h92 := nrmB h92 | skip
                          first | replace h92 := nrm1 h92 | replace h92 := nrm2 h92 | replace h92 := nrm3 h92 | replace h92 := nrm4 h92 | replace h92 := nrm5 h92 | replace h92 := nrm6 h92 | replace h92 := of_decide_eq_true h92 | replace h92 := of_decide_eq_false h92 | skip
                          refine k_pure (listed' := #[true, true, true, true, true, true, true, true, false, false, false, false, false, false, false, false, false, false, false, false]) 7 S rfl rfl rfl rfl (by kernel_rfl) rfl (fun _ d _ _ _ h => by cases d <;> exact h) (fun w => y_fieldAddr (k := 0) S (by kernel_rfl) rfl) ?_; clear S a; intro a S
                          refine k_read (listed' := #[true, true, true, true, true, true, true, true, true, false, false, false, false, false, false, false, false, false, false, false]) 8 S rfl rfl rfl rfl (by kernel_rfl) rfl (fun _ d _ _ _ h => by cases d <;> exact h) (fun w hW => have M := M.grow hW; y_load S (by kernel_rfl) rfl (M.cell 5 rfl rfl)) ?_; clear S a; intro a S
                          refine k_pure (listed' := #[true, true, true, true, true, true, true, true, true, true, false, false, false, false, false, false, false, false, false, false]) 9 S rfl rfl rfl rfl (by kernel_rfl) rfl (fun _ d _ _ _ h => by cases d <;> exact h) (fun w => y_fieldAddr (k := 2) S (by kernel_rfl) rfl) ?_; clear S a; intro a S
                          refine k_pure (listed' := #[true, true, true, true, true, true, true, true, true, true, true, false, false, false, false, false, false, false, false, false]) 10 S rfl rfl rfl rfl (by kernel_rfl) rfl (fun _ d _ _ _ h => by cases d <;> exact h) (fun w => y_indexA (m := 5) (sz := 1) S (by kernel_rfl) rfl rfl (by first | omega | (simp; done) | (simp; omega))) ?_; clear S a; intro a S
                          try simp only [Int.toNat_natCast, Nat.mul_one, Nat.zero_add] at S
                          refine k_read (listed' := #[true, true, true, true, true, true, true, true, true, true, true, true, false, false, false, false, false, false, false, false]) 11 S rfl rfl rfl rfl (by kernel_rfl) rfl (fun _ d _ _ _ h => by cases d <;> exact h) (fun w hW => have M := M.grow hW; y_load S (by kernel_rfl) rfl (M.cell 0 rfl (kn_get (k := o) (by omega)))) ?_; clear S a; intro a S
                          refine k_pure (listed' := #[true, true, true, true, true, true, true, true, true, true, true, true, true, false, false, false, false, false, false, false]) 12 S rfl rfl rfl rfl (by kernel_rfl) rfl (fun _ d _ _ _ h => by cases d <;> exact h) (fun w => y_fieldAddr (k := 1) S (by kernel_rfl) rfl) ?_; clear S a; intro a S
                          refine k_read (listed' := #[true, true, true, true, true, true, true, true, true, true, true, true, true, true, false, false, false, false, false, false]) 13 S rfl rfl rfl rfl (by kernel_rfl) rfl (fun _ d _ _ _ h => by cases d <;> exact h) (fun w hW => have M := M.grow hW; y_load S (by kernel_rfl) rfl (M.cell 5 rfl rfl)) ?_; clear S a; intro a S
                          refine k_pure (listed' := #[true, true, true, true, true, true, true, true, true, true, true, true, true, true, true, false, false, false, false, false]) 14 S rfl rfl rfl rfl (by kernel_rfl) rfl (fun _ d _ _ _ h => by cases d <;> exact h) (fun w => y_int S rfl rfl rfl) ?_; clear S a; intro a S
                          refine k_pure (listed' := #[true, true, true, true, true, true, true, true, true, true, true, true, true, true, true, true, false, false, false, false]) 15 S rfl rfl rfl rfl (by kernel_rfl) rfl (fun _ d _ _ _ h => by cases d <;> exact h) (fun w => y_pickT S rfl rfl) ?_; clear S a; intro a S
                          refine k_pure (listed' := #[true, true, true, true, true, true, true, true, true, true, true, true, true, true, true, true, true, false, false, false]) 16 S rfl rfl rfl rfl (by kernel_rfl) rfl (fun _ d _ _ _ h => by cases d <;> exact h) (fun w => y_move S rfl) ?_; clear S a; intro a S
                          refine st_split (t := 102) S rfl ?_ ?_
                          · clear S; intro h102 S
                            first | replace h102 := nrmA h102 | replace h102 := nrmB h102 | skip
                            first | replace h102 := nrm1 h102 | replace h102 := nrm2 h102 | replace h102 := nrm3 h102 | replace h102 := nrm4 h102 | replace h102 := nrm5 h102 | replace h102 := nrm6 h102 | replace h102 := of_decide_eq_true h102 | replace h102 := of_decide_eq_false h102 | skip
                            refine k_one (listed' := #[true, true, true, true, true, true, true, true, true, true, true, true, true, true, true, true, true, true, false, false]) 17 rfl (by kernel_rfl) rfl ?_
                            refine st_call (xs := []) S (enters_of Try.func7 (by decide) rfl) rfl rfl rfl (wakes_any _) ?_
                            rintro _ w24 ⟨rfl, hK⟩; refine ⟨_, rfl, ?_⟩; clear S a; intro a S; replace M := M.grow hK
                            refine wpList_nil ?_; refine then_normal ?_; refine ⟨fun _ => hK, ?_⟩
                            refine k_pure (listed' := #[true, true, true, true, true, true, true, true, true, true, true, true, true, true, true, true, true, true, true, false]) 18 S rfl rfl rfl rfl (by kernel_rfl) rfl (fun _ d _ _ _ h => by cases d <;> exact h) (fun w => y_pickT S rfl rfl) ?_; clear S a; intro a S
                            refine k_pure (listed' := #[true, true, true, true, true, true, true, true, true, true, true, true, true, true, true, true, true, true, true, true]) 19 S rfl rfl rfl rfl (by kernel_rfl) rfl (fun _ d _ _ _ h => by cases d <;> exact h) (fun w => y_assign S rfl) ?_; clear S a; intro a S
                            refine k_end (by kernel_rfl) ?_
                            replace S := S.sub [(0, _), (1, _), (2, _), (3, _), (4, _), (5, _), (37, _), (7, _), (8, _), (46, _), (77, _), (9, _), (10, _), (11, _), (6, _)] rfl
                            refine then_normal ?_
                            refine wp_ret ?_
                            refine end_one S rfl (res_tmp rfl) ?_
                            exact ⟨rfl, M.below⟩
                          · clear S; intro h102 S
                            first | replace h102 := nrmA h102 | replace h102 := nrmB h102 | skip
                            first | replace h102 := nrm1 h102 | replace h102 := nrm2 h102 | replace h102 := nrm3 h102 | replace h102 := nrm4 h102 | replace h102 := nrm5 h102 | replace h102 := nrm6 h102 | replace h102 := of_decide_eq_true h102 | replace h102 := of_decide_eq_false h102 | skip
                            exfalso; have := ho.2; simp only [stampM] at this; (try simp only at h102); (try simp at h102); omega
                        · clear S; intro h92 S
                          first | replace h92 := nrmA h92 | replace h92 := nrmB h92 | skip
                          first | replace h92 := nrm1 h92 | replace h92 := nrm2 h92 | replace h92 := nrm3 h92 | replace h92 := nrm4 h92 | replace h92 := nrm5 h92 | replace h92 := nrm6 h92 | replace h92 := of_decide_eq_true h92 | replace h92 := of_decide_eq_false h92 | skip
                          (try simp only at h92 ho); omega
                      · clear S; intro h88 S
                        first | replace h88 := nrmA h88 | replace h88 := nrmB h88 | skip
                        first | replace h88 := nrm1 h88 | replace h88 := nrm2 h88 | replace h88 := nrm3 h88 | replace h88 := nrm4 h88 | replace h88 := nrm5 h88 | replace h88 := nrm6 h88 | replace h88 := of_decide_eq_true h88 | replace h88 := of_decide_eq_false h88 | skip
                        simp at h88
                · clear S; intro h57 S
                  first | replace h57 := nrmA h57 | replace h57 := nrmB h57 | skip
                  first | replace h57 := nrm1 h57 | replace h57 := nrm2 h57 | replace h57 := nrm3 h57 | replace h57 := nrm4 h57 | replace h57 := nrm5 h57 | replace h57 := nrm6 h57 | replace h57 := of_decide_eq_true h57 | replace h57 := of_decide_eq_false h57 | skip
                  refine k_no (listed' := #[true, true, true, true, true, true, true, true, true, true, true, true, false, false, false, false, false, false, false, false, false, false, false, false, false, false, false, false, false, false, false]) 11 S rfl rfl rfl rfl (by kernel_rfl) rfl (fun _ d _ _ _ h => by cases d <;> exact h) ?_; clear S a; intro a S
                  refine k_no (listed' := #[true, true, true, true, true, true, true, true, true, true, true, true, true, false, false, false, false, false, false, false, false, false, false, false, false, false, false, false, false, false, false]) 12 S rfl rfl rfl rfl (by kernel_rfl) rfl (fun _ d _ _ _ h => by cases d <;> exact h) ?_; clear S a; intro a S
                  refine k_no (listed' := #[true, true, true, true, true, true, true, true, true, true, true, true, true, true, false, false, false, false, false, false, false, false, false, false, false, false, false, false, false, false, false]) 13 S rfl rfl rfl rfl (by kernel_rfl) rfl (fun _ d _ _ _ h => by cases d <;> exact h) ?_; clear S a; intro a S
                  refine k_no (listed' := #[true, true, true, true, true, true, true, true, true, true, true, true, true, true, true, false, false, false, false, false, false, false, false, false, false, false, false, false, false, false, false]) 14 S rfl rfl rfl rfl (by kernel_rfl) rfl (fun _ d _ _ _ h => by cases d <;> exact h) ?_; clear S a; intro a S
                  refine k_no (listed' := #[true, true, true, true, true, true, true, true, true, true, true, true, true, true, true, true, false, false, false, false, false, false, false, false, false, false, false, false, false, false, false]) 15 S rfl rfl rfl rfl (by kernel_rfl) rfl (fun _ d _ _ _ h => by cases d <;> exact h) ?_; clear S a; intro a S
                  refine k_no (listed' := #[true, true, true, true, true, true, true, true, true, true, true, true, true, true, true, true, true, false, false, false, false, false, false, false, false, false, false, false, false, false, false]) 16 S rfl rfl rfl rfl (by kernel_rfl) rfl (fun _ d _ _ _ h => by cases d <;> exact h) ?_; clear S a; intro a S
                  refine k_no (listed' := #[true, true, true, true, true, true, true, true, true, true, true, true, true, true, true, true, true, true, false, false, false, false, false, false, false, false, false, false, false, false, false]) 17 S rfl rfl rfl rfl (by kernel_rfl) rfl (fun _ d _ _ _ h => by cases d <;> exact h) ?_; clear S a; intro a S
                  refine k_no (listed' := #[true, true, true, true, true, true, true, true, true, true, true, true, true, true, true, true, true, true, true, false, false, false, false, false, false, false, false, false, false, false, false]) 18 S rfl rfl rfl rfl (by kernel_rfl) rfl (fun _ d _ _ _ h => by cases d <;> exact h) ?_; clear S a; intro a S
                  refine k_pure (listed' := #[true, true, true, true, true, true, true, true, true, true, true, true, true, true, true, true, true, true, true, true, false, false, false, false, false, false, false, false, false, false, false]) 19 S rfl rfl rfl rfl (by kernel_rfl) rfl (fun _ d _ _ _ h => by cases d <;> exact h) (fun w => y_pickF S rfl rfl) ?_; clear S a; intro a S
                  refine k_pure (listed' := #[true, true, true, true, true, true, true, true, true, true, true, true, true, true, true, true, true, true, true, true, true, false, false, false, false, false, false, false, false, false, false]) 20 S rfl rfl rfl rfl (by kernel_rfl) rfl (fun _ d _ _ _ h => by cases d <;> exact h) (fun w => y_pickF S rfl rfl) ?_; clear S a; intro a S
                  refine k_pure (listed' := #[true, true, true, true, true, true, true, true, true, true, true, true, true, true, true, true, true, true, true, true, true, true, false, false, false, false, false, false, false, false, false]) 21 S rfl rfl rfl rfl (by kernel_rfl) rfl (fun _ d _ _ _ h => by cases d <;> exact h) (fun w => y_move S rfl) ?_; clear S a; intro a S
                  refine k_pure (listed' := #[true, true, true, true, true, true, true, true, true, true, true, true, true, true, true, true, true, true, true, true, true, true, true, false, false, false, false, false, false, false, false]) 22 S rfl rfl rfl rfl (by kernel_rfl) rfl (fun _ d _ _ _ h => by cases d <;> exact h) (fun w => y_fieldAddr (k := 0) S (by kernel_rfl) rfl) ?_; clear S a; intro a S
                  refine k_read (listed' := #[true, true, true, true, true, true, true, true, true, true, true, true, true, true, true, true, true, true, true, true, true, true, true, true, false, false, false, false, false, false, false]) 23 S rfl rfl rfl rfl (by kernel_rfl) rfl (fun _ d _ _ _ h => by cases d <;> exact h) (fun w hW => have M := M.grow hW; y_load S (by kernel_rfl) rfl (M.cell 4 rfl rfl)) ?_; clear S a; intro a S
                  refine k_pure (listed' := #[true, true, true, true, true, true, true, true, true, true, true, true, true, true, true, true, true, true, true, true, true, true, true, true, true, false, false, false, false, false, false]) 24 S rfl rfl rfl rfl (by kernel_rfl) rfl (fun _ d _ _ _ h => by cases d <;> exact h) (fun w => y_fieldAddr (k := 2) S (by kernel_rfl) rfl) ?_; clear S a; intro a S
                  refine k_pure (listed' := #[true, true, true, true, true, true, true, true, true, true, true, true, true, true, true, true, true, true, true, true, true, true, true, true, true, true, false, false, false, false, false]) 25 S rfl rfl rfl rfl (by kernel_rfl) rfl (fun _ d _ _ _ h => by cases d <;> exact h) (fun w => y_indexA (m := 5) (sz := 1) S (by kernel_rfl) rfl rfl (by first | omega | (simp; done) | (simp; omega))) ?_; clear S a; intro a S
                  try simp only [Int.toNat_natCast, Nat.mul_one, Nat.zero_add] at S
                  refine k_read (listed' := #[true, true, true, true, true, true, true, true, true, true, true, true, true, true, true, true, true, true, true, true, true, true, true, true, true, true, true, false, false, false, false]) 26 S rfl rfl rfl rfl (by kernel_rfl) rfl (fun _ d _ _ _ h => by cases d <;> exact h) (fun w hW => have M := M.grow hW; y_load S (by kernel_rfl) rfl (M.cell 3 rfl (kn_get (k := ⟨QN, qinc, q0, q1, q2, q3, q4⟩) (by omega)))) ?_; clear S a; intro a S
                  refine k_pure (listed' := #[true, true, true, true, true, true, true, true, true, true, true, true, true, true, true, true, true, true, true, true, true, true, true, true, true, true, true, true, false, false, false]) 27 S rfl rfl rfl rfl (by kernel_rfl) rfl (fun _ d _ _ _ h => by cases d <;> exact h) (fun w => y_fieldAddr (k := 1) S (by kernel_rfl) rfl) ?_; clear S a; intro a S
                  refine k_read (listed' := #[true, true, true, true, true, true, true, true, true, true, true, true, true, true, true, true, true, true, true, true, true, true, true, true, true, true, true, true, true, false, false]) 28 S rfl rfl rfl rfl (by kernel_rfl) rfl (fun _ d _ _ _ h => by cases d <;> exact h) (fun w hW => have M := M.grow hW; y_load S (by kernel_rfl) rfl (M.cell 4 rfl rfl)) ?_; clear S a; intro a S
                  refine k_pure (listed' := #[true, true, true, true, true, true, true, true, true, true, true, true, true, true, true, true, true, true, true, true, true, true, true, true, true, true, true, true, true, true, false]) 29 S rfl rfl rfl rfl (by kernel_rfl) rfl (fun _ d _ _ _ h => by cases d <;> exact h) (fun w => y_int S rfl rfl rfl) ?_; clear S a; intro a S
                  refine k_pure (listed' := #[true, true, true, true, true, true, true, true, true, true, true, true, true, true, true, true, true, true, true, true, true, true, true, true, true, true, true, true, true, true, true]) 30 S rfl rfl rfl rfl (by kernel_rfl) rfl (fun _ d _ _ _ h => by cases d <;> exact h) (fun w => y_pickF S rfl rfl) ?_; clear S a; intro a S
                  refine k_end (by kernel_rfl) ?_
                  replace S := S.sub [(0, _), (1, _), (2, _), (3, _), (4, _), (5, _), (6, _), (37, _), (7, _), (8, _), (46, _), (77, _)] rfl
                  refine then_normal ?_
                  refine st_split (t := 77) S rfl ?_ ?_
                  · clear S; intro h77 S
                    first | replace h77 := nrmA h77 | replace h77 := nrmB h77 | skip
                    first | replace h77 := nrm1 h77 | replace h77 := nrm2 h77 | replace h77 := nrm3 h77 | replace h77 := nrm4 h77 | replace h77 := nrm5 h77 | replace h77 := nrm6 h77 | replace h77 := of_decide_eq_true h77 | replace h77 := of_decide_eq_false h77 | skip
                    refine st_condT S rfl ?_
                    refine wp_seq ?_
                    -- region 7 law.go:74
                    refine wp_region_lit ?_
                    refine st_call (xs := []) S (enters_of Try.func7 (by decide) rfl) rfl rfl rfl (wakes_any _) ?_
                    rintro _ w25 ⟨rfl, hK⟩; refine ⟨_, rfl, ?_⟩; clear S a; intro a S; replace M := M.grow hK
                    refine st_y S rfl rfl rfl (y_assign S rfl) ?_; clear S a; intro a S
                    refine wpList_nil ?_
                    replace S := S.sub [(0, _), (1, _), (2, _), (3, _), (4, _), (5, _), (37, _), (7, _), (8, _), (46, _), (77, _), (6, _)] rfl
                    refine then_normal ?_
                    refine wp_ret ?_
                    refine then_ret ?_
                    refine end_one S rfl (res_tmp rfl) ?_
                    exact ⟨rfl, M.below⟩
                  · clear S; intro h77 S
                    first | replace h77 := nrmA h77 | replace h77 := nrmB h77 | skip
                    first | replace h77 := nrm1 h77 | replace h77 := nrm2 h77 | replace h77 := nrm3 h77 | replace h77 := nrm4 h77 | replace h77 := nrm5 h77 | replace h77 := nrm6 h77 | replace h77 := of_decide_eq_true h77 | replace h77 := of_decide_eq_false h77 | skip
                    refine st_condF S rfl ?_
                    refine wp_skip ?_
                    refine then_normal ?_
                    refine wp_seq ?_
                    -- region 8 law.go:76
                    have hm : (stampM ⟨PN, pinc, p0, p1, p2, p3, p4⟩ m).may x = true := by simpa using h50
                    obtain ⟨F, o, how, hFr, hF5, hh, Q1, Q2⟩ := hear_ok hq hm (by simp only [stampM]; omega)
                    have hFP : F = PN := by simp only [stampM] at hFr; omega
                    subst hFP
                    have hto : m.to.toNat = QN := by omega
                    have ho := Q2 (by
                      simp only [stampM, hto]
                      (try simp only at h77)
                      (try simp only at h57)
                      (try simp only at h68)
                      rintro (h | ⟨h1, h2⟩)
                      · omega
                      · first | omega | (simp at h68; omega))
                    refine wp_region_lit ?_
                    refine st_y S rfl rfl rfl (y_loadAgg (cs := [_, _, _, _, _, _, _]) S (by kernel_rfl) rfl rfl (M.cellsAt (k := 7) 3 rfl rfl)) ?_; clear S a; intro a S
                    refine st_y S rfl rfl rfl (y_loadAgg (cs := [_, _, _, _, _, _, _, _, _, _, _, _, _, _, _, _, _, _, _, _, _, _, _, _]) S (by kernel_rfl) rfl rfl (M.cellsAt (k := 24) 0 rfl rfl)) ?_; clear S a; intro a S
                    refine st_call (xs := [(Operand.tmp 80), (Operand.tmp 81)]) S (enters_of Try.func9 (by decide) rfl) rfl rfl rfl (hear_any ⟨QN, qinc, q0, q1, q2, q3, q4⟩ (stampM ⟨F, pinc, p0, p1, p2, p3, p4⟩ m) ad x.length cp x _ (M.readAll 1 rfl (by unfold maxLen; omega))) ?_
                    rintro _ w26 ⟨rfl, hK⟩; refine ⟨_, rfl, ?_⟩; clear S a; intro a S; replace M := M.grow hK
                    rw [hh] at S
                    refine st_y S rfl rfl rfl (y_move S rfl) ?_; clear S a; intro a S
                    refine st_y S rfl rfl rfl (y_extract S rfl rfl) ?_; clear S a; intro a S
                    refine st_y S rfl rfl rfl (y_extract S rfl rfl) ?_; clear S a; intro a S
                    refine st_y S rfl rfl rfl (y_extract S rfl rfl) ?_; clear S a; intro a S
                    refine st_alloc S M rfl rfl #[.int .i64 0, .int .i64 0, .int .i64 0, .int .i64 0, .int .i64 0, .int .i64 0, .int .i64 0] (by kernel_rfl) ?_; clear S M a; intro a w27 bY S M hB
                    refine st_store (sz := 7) (us := [_, _, _, _, _, _, _]) S M 0 rfl (by kernel_rfl) rfl rfl rfl rfl rfl rfl (by first | decide | (simp; done) | (simp; omega)) ?_; clear M; intro w28 M
                    simp only [putL, List.set_cons_zero, List.set_cons_succ, Nat.reduceAdd] at M
                    refine st_y S rfl rfl rfl (y_assign S rfl) ?_; clear S a; intro a S
                    refine st_y S rfl rfl rfl (y_assign S rfl) ?_; clear S a; intro a S
                    refine wpList_nil ?_
                    replace S := S.sub [(0, _), (1, _), (2, _), (3, _), (4, _), (5, _), (6, _), (37, _), (7, _), (8, _), (46, _), (77, _), (9, _), (10, _), (11, _)] rfl
                    refine then_normal ?_
                    refine wp_seq ?_
                    -- region 9 law.go:77
                    refine wp_regionK [] #[false, false, false, false, false, false, false, false, false, false, false, false, false, false, false, false, false, false, false, false] rfl M (by kernel_rfl) ?_; clear M; intro w29 M
                    refine k_pure (listed' := #[true, false, false, false, false, false, false, false, false, false, false, false, false, false, false, false, false, false, false, false]) 0 S rfl rfl rfl rfl (by kernel_rfl) rfl (fun _ d _ _ _ h => by cases d <;> exact h) (fun w => y_move S rfl) ?_; clear S a; intro a S
                    refine k_pure (listed' := #[true, true, false, false, false, false, false, false, false, false, false, false, false, false, false, false, false, false, false, false]) 1 S rfl rfl rfl rfl (by kernel_rfl) rfl (fun _ d _ _ _ h => by cases d <;> exact h) (fun w => y_int S rfl rfl rfl) ?_; clear S a; intro a S
                    refine k_pure (listed' := #[true, true, true, false, false, false, false, false, false, false, false, false, false, false, false, false, false, false, false, false]) 2 S rfl rfl rfl rfl (by kernel_rfl) rfl (fun _ d _ _ _ h => by cases d <;> exact h) (fun w => y_move S rfl) ?_; clear S a; intro a S
                    refine st_split (t := 88) S rfl ?_ ?_
                    · clear S; intro h88 S
                      first | replace h88 := nrmA h88 | replace h88 := nrmB h88 | skip
                      first | replace h88 := nrm1 h88 | replace h88 := nrm2 h88 | replace h88 := nrm3 h88 | replace h88 := nrm4 h88 | replace h88 := nrm5 h88 | replace h88 := nrm6 h88 | replace h88 := of_decide_eq_true h88 | replace h88 := of_decide_eq_false h88 | skip
                      refine k_pure (listed' := #[true, true, true, true, false, false, false, false, false, false, false, false, false, false, false, false, false, false, false, false]) 3 S rfl rfl rfl rfl (by kernel_rfl) rfl (fun _ d _ _ _ h => by cases d <;> exact h) (fun w => y_move S rfl) ?_; clear S a; intro a S
                      refine k_pure (listed' := #[true, true, true, true, true, false, false, false, false, false, false, false, false, false, false, false, false, false, false, false]) 4 S rfl rfl rfl rfl (by kernel_rfl) rfl (fun _ d _ _ _ h => by cases d <;> exact h) (fun w => y_int S rfl rfl rfl) ?_; clear S a; intro a S
                      refine k_pure (listed' := #[true, true, true, true, true, true, false, false, false, false, false, false, false, false, false, false, false, false, false, false]) 5 S rfl rfl rfl rfl (by kernel_rfl) rfl (fun _ d _ _ _ h => by cases d <;> exact h) (fun w => y_pickT S rfl rfl) ?_; clear S a; intro a S
                      refine k_pure (listed' := #[true, true, true, true, true, true, true, false, false, false, false, false, false, false, false, false, false, false, false, false]) 6 S rfl rfl rfl rfl (by kernel_rfl) rfl (fun _ d _ _ _ h => by cases d <;> exact h) (fun w => y_move S rfl) ?_; clear S a; intro a S
                      refine st_split (t := 92) S rfl ?_ ?_
                      · clear S; intro h92 S
                        first | replace h92 := nrmA h92 | replace h92 := nrmB h92 | skip
                        first | replace h92 := nrm1 h92 | replace h92 := nrm2 h92 | replace h92 := nrm3 h92 | replace h92 := nrm4 h92 | replace h92 := nrm5 h92 | replace h92 := nrm6 h92 | replace h92 := of_decide_eq_true h92 | replace h92 := of_decide_eq_false h92 | skip
                        refine k_pure (listed' := #[true, true, true, true, true, true, true, true, false, false, false, false, false, false, false, false, false, false, false, false]) 7 S rfl rfl rfl rfl (by kernel_rfl) rfl (fun _ d _ _ _ h => by cases d <;> exact h) (fun w => y_fieldAddr (k := 0) S (by kernel_rfl) rfl) ?_; clear S a; intro a S
                        refine k_read (listed' := #[true, true, true, true, true, true, true, true, true, false, false, false, false, false, false, false, false, false, false, false]) 8 S rfl rfl rfl rfl (by kernel_rfl) rfl (fun _ d _ _ _ h => by cases d <;> exact h) (fun w hW => have M := M.grow hW; y_load S (by kernel_rfl) rfl (M.cell 5 rfl rfl)) ?_; clear S a; intro a S
                        refine k_pure (listed' := #[true, true, true, true, true, true, true, true, true, true, false, false, false, false, false, false, false, false, false, false]) 9 S rfl rfl rfl rfl (by kernel_rfl) rfl (fun _ d _ _ _ h => by cases d <;> exact h) (fun w => y_fieldAddr (k := 2) S (by kernel_rfl) rfl) ?_; clear S a; intro a S
                        refine k_pure (listed' := #[true, true, true, true, true, true, true, true, true, true, true, false, false, false, false, false, false, false, false, false]) 10 S rfl rfl rfl rfl (by kernel_rfl) rfl (fun _ d _ _ _ h => by cases d <;> exact h) (fun w => y_indexA (m := 5) (sz := 1) S (by kernel_rfl) rfl rfl (by first | omega | (simp; done) | (simp; omega))) ?_; clear S a; intro a S
                        try simp only [Int.toNat_natCast, Nat.mul_one, Nat.zero_add] at S
                        refine k_read (listed' := #[true, true, true, true, true, true, true, true, true, true, true, true, false, false, false, false, false, false, false, false]) 11 S rfl rfl rfl rfl (by kernel_rfl) rfl (fun _ d _ _ _ h => by cases d <;> exact h) (fun w hW => have M := M.grow hW; y_load S (by kernel_rfl) rfl (M.cell 0 rfl (kn_get (k := o) (by omega)))) ?_; clear S a; intro a S
                        refine k_pure (listed' := #[true, true, true, true, true, true, true, true, true, true, true, true, true, false, false, false, false, false, false, false]) 12 S rfl rfl rfl rfl (by kernel_rfl) rfl (fun _ d _ _ _ h => by cases d <;> exact h) (fun w => y_fieldAddr (k := 1) S (by kernel_rfl) rfl) ?_; clear S a; intro a S
                        refine k_read (listed' := #[true, true, true, true, true, true, true, true, true, true, true, true, true, true, false, false, false, false, false, false]) 13 S rfl rfl rfl rfl (by kernel_rfl) rfl (fun _ d _ _ _ h => by cases d <;> exact h) (fun w hW => have M := M.grow hW; y_load S (by kernel_rfl) rfl (M.cell 5 rfl rfl)) ?_; clear S a; intro a S
                        refine k_pure (listed' := #[true, true, true, true, true, true, true, true, true, true, true, true, true, true, true, false, false, false, false, false]) 14 S rfl rfl rfl rfl (by kernel_rfl) rfl (fun _ d _ _ _ h => by cases d <;> exact h) (fun w => y_int S rfl rfl rfl) ?_; clear S a; intro a S
                        refine k_pure (listed' := #[true, true, true, true, true, true, true, true, true, true, true, true, true, true, true, true, false, false, false, false]) 15 S rfl rfl rfl rfl (by kernel_rfl) rfl (fun _ d _ _ _ h => by cases d <;> exact h) (fun w => y_pickT S rfl rfl) ?_; clear S a; intro a S
                        refine k_pure (listed' := #[true, true, true, true, true, true, true, true, true, true, true, true, true, true, true, true, true, false, false, false]) 16 S rfl rfl rfl rfl (by kernel_rfl) rfl (fun _ d _ _ _ h => by cases d <;> exact h) (fun w => y_move S rfl) ?_; clear S a; intro a S
                        refine st_split (t := 102) S rfl ?_ ?_
                        · clear S; intro h102 S
                          first | replace h102 := nrmA h102 | replace h102 := nrmB h102 | skip
                          first | replace h102 := nrm1 h102 | replace h102 := nrm2 h102 | replace h102 := nrm3 h102 | replace h102 := nrm4 h102 | replace h102 := nrm5 h102 | replace h102 := nrm6 h102 | replace h102 := of_decide_eq_true h102 | replace h102 := of_decide_eq_false h102 | skip
                          refine k_one (listed' := #[true, true, true, true, true, true, true, true, true, true, true, true, true, true, true, true, true, true, false, false]) 17 rfl (by kernel_rfl) rfl ?_
                          refine st_call (xs := []) S (enters_of Try.func7 (by decide) rfl) rfl rfl rfl (wakes_any _) ?_
                          rintro _ w30 ⟨rfl, hK⟩; refine ⟨_, rfl, ?_⟩; clear S a; intro a S; replace M := M.grow hK
                          refine wpList_nil ?_; refine then_normal ?_; refine ⟨fun _ => hK, ?_⟩
                          refine k_pure (listed' := #[true, true, true, true, true, true, true, true, true, true, true, true, true, true, true, true, true, true, true, false]) 18 S rfl rfl rfl rfl (by kernel_rfl) rfl (fun _ d _ _ _ h => by cases d <;> exact h) (fun w => y_pickT S rfl rfl) ?_; clear S a; intro a S
                          refine k_pure (listed' := #[true, true, true, true, true, true, true, true, true, true, true, true, true, true, true, true, true, true, true, true]) 19 S rfl rfl rfl rfl (by kernel_rfl) rfl (fun _ d _ _ _ h => by cases d <;> exact h) (fun w => y_assign S rfl) ?_; clear S a; intro a S
                          refine k_end (by kernel_rfl) ?_
                          replace S := S.sub [(0, _), (1, _), (2, _), (3, _), (4, _), (5, _), (37, _), (7, _), (8, _), (46, _), (77, _), (9, _), (10, _), (11, _), (6, _)] rfl
                          refine then_normal ?_
                          refine wp_ret ?_
                          refine end_one S rfl (res_tmp rfl) ?_
                          exact ⟨rfl, M.below⟩
                        · clear S; intro h102 S
                          first | replace h102 := nrmA h102 | replace h102 := nrmB h102 | skip
                          first | replace h102 := nrm1 h102 | replace h102 := nrm2 h102 | replace h102 := nrm3 h102 | replace h102 := nrm4 h102 | replace h102 := nrm5 h102 | replace h102 := nrm6 h102 | replace h102 := of_decide_eq_true h102 | replace h102 := of_decide_eq_false h102 | skip
                          exfalso; have := ho.2; simp only [stampM] at this; (try simp only at h102); (try simp at h102); omega
                      · clear S; intro h92 S
                        first | replace h92 := nrmA h92 | replace h92 := nrmB h92 | skip
                        first | replace h92 := nrm1 h92 | replace h92 := nrm2 h92 | replace h92 := nrm3 h92 | replace h92 := nrm4 h92 | replace h92 := nrm5 h92 | replace h92 := nrm6 h92 | replace h92 := of_decide_eq_true h92 | replace h92 := of_decide_eq_false h92 | skip
                        (try simp only at h92 ho); omega
                    · clear S; intro h88 S
                      first | replace h88 := nrmA h88 | replace h88 := nrmB h88 | skip
                      first | replace h88 := nrm1 h88 | replace h88 := nrm2 h88 | replace h88 := nrm3 h88 | replace h88 := nrm4 h88 | replace h88 := nrm5 h88 | replace h88 := nrm6 h88 | replace h88 := of_decide_eq_true h88 | replace h88 := of_decide_eq_false h88 | skip
                      simp at h88

end Go.Proofs.Ytdcihmdchabcnaa
