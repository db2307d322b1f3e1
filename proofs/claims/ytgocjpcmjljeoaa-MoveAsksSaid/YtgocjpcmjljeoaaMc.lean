/-
  Package move: Begin, Hear.
-/
import Derived.Test.YtgocjpcmjljeoaaMb
import Derived.Test.YtgocjpcmjljeoaaVM
namespace Go.Proofs.Ytgocjpcmjljeoaa
open Go.RowKit Go.Sort

theorem Mem.one {w0 w : World} {H : List Ent} {e : Ent} (M : Mem w0 w (e :: H)) : Mem w0 w [e] := M.sub (by simp)
theorem Rd.recap {lo hi sz m n cap : Nat} {w : World} {ad : Option Addr} {cs : List Value} (h : Rd lo hi w sz (.slice ad n cap) m cs) : Rd lo hi w sz (.slice ad n n) m cs := by
  obtain ⟨h1, h2, h3⟩ := h
  refine ⟨h1, h2, ?_⟩
  rcases h3 with ⟨e, e2⟩ | ⟨a, c, e, p1, p2, p3, p4⟩
  · cases e; exact .inl ⟨rfl, e2⟩
  · cases e; exact .inr ⟨a, m, rfl, Nat.le_refl _, h2, p3, p4⟩

def begunM (s t f : Int) (n : Nm) : Mv := ⟨1, n, s, t, f, 1⟩
theorem begin_any (s t f : Int) (n : Nm) (w : World) (hw : wayB s t f n = true) :
    Calls Try.prog 6 #[.agg (Mv.zero.cells (.slice none 0 0)), .agg #[.int .i64 s, .int .i64 t], .int .i64 f, .agg n.cells] w fun e w' => ∃ lv l1 h1, e = .returned (.tuple #[.agg ((begunM s t f n).cells (.slice none 0 0)), lv, .int .i64 0]) ∧ Mem w w' [rowE l1 h1 39 24 lv 1 (msC [execM (begunM s t f n)])] := by
  have M := Mem.start w
  have ho : Mv.zero.ok [] = true := by unfold Mv.ok; rw [if_pos (show Mv.zero.phase = 0 from rfl)]; exact Mv.same_iff.2 ⟨rfl, rfl⟩
  have hs : 0 ≤ s ∧ s < 8 := by
    unfold wayB at hw
    simp only [Bool.and_eq_true, decide_eq_true_eq] at hw; omega
  refine calls_enter Try.func6 rfl 34 rfl rfl ?_; intro a S
  refine wp_seq ?_
  -- region 0 move.go:66
  refine wp_region_lit ?_
  refine st_box S M rfl rfl rfl #[_, _, _, _, _, _, _, _, _] rfl ?_; clear S M a; intro a w1 bA S M hB
  refine st_box S M rfl rfl rfl #[_, _] rfl ?_; clear S M a; intro a w2 b1 S M hB
  refine st_box S M rfl rfl rfl #[_, _, _] rfl ?_; clear S M a; intro a w3 b2 S M hB
  refine st_alloc S M rfl rfl #[.int .i8 0, .int .i64 0, .int .i64 0, .int .i64 0, .int .i64 0, .int .i64 0, .int .i64 0, .int .i64 0, .slice none 0 0] (by kernel_rfl) ?_; clear S M a; intro a w4 bO S M hB
  refine st_y S rfl rfl rfl (y_assign S rfl) ?_; clear S a; intro a S
  refine st_y S rfl rfl rfl (y_assign S rfl) ?_; clear S a; intro a S
  refine wpList_nil ?_
  replace S := S.sub [(0, _), (1, _), (2, _), (3, _), (4, _), (5, _), (7, _), (8, _), (9, _), (10, _)] rfl
  refine then_normal ?_
  refine wp_seq ?_
  refine wp_seq ?_
  -- region 1 move.go:67
  refine wp_region_lit ?_
  refine st_y S rfl rfl rfl (y_loadAgg (cs := [_, _, _, _, _, _, _, _, _]) S (by kernel_rfl) rfl rfl (M.cellsAt (k := 9) 3 rfl rfl)) ?_; clear S a; intro a S
  refine st_call (xs := [(Operand.tmp 11)]) S (enters_of Try.func11 (by decide) rfl) rfl rfl rfl (check_any Mv.zero none 0 0 [] _ (Rd.nil _ _ _ _)) ?_
  rintro _ w5 ⟨rfl, hK⟩; refine ⟨_, rfl, ?_⟩; clear S a; intro a S; replace M := M.grow hK
  rw [chk_ok ho] at S
  refine st_y S rfl rfl rfl (y_int S rfl rfl rfl) ?_; clear S a; intro a S
  refine st_y S rfl rfl rfl (y_move S rfl) ?_; clear S a; intro a S
  refine st_split (t := 14) S rfl ?_ ?_
  · clear S; intro h14 S
    first | replace h14 := nrmA h14 | replace h14 := nrmB h14 | skip
    first | replace h14 := nrm1 h14 | replace h14 := nrm2 h14 | replace h14 := nrm3 h14 | replace h14 := nrm4 h14 | replace h14 := nrm5 h14 | replace h14 := nrm6 h14 | replace h14 := of_decide_eq_true h14 | replace h14 := of_decide_eq_false h14 | skip
    exact absurd rfl h14
  · clear S; intro h14 S
    first | replace h14 := nrmA h14 | replace h14 := nrmB h14 | skip
    first | replace h14 := nrm1 h14 | replace h14 := nrm2 h14 | replace h14 := nrm3 h14 | replace h14 := nrm4 h14 | replace h14 := nrm5 h14 | replace h14 := nrm6 h14 | replace h14 := of_decide_eq_true h14 | replace h14 := of_decide_eq_false h14 | skip
    refine st_y S rfl rfl rfl (y_loadAgg (cs := [_, _]) S (by kernel_rfl) rfl rfl (M.cellsAt (k := 2) 2 rfl rfl)) ?_; clear S a; intro a S
    refine st_y S rfl rfl rfl (y_move S rfl) ?_; clear S a; intro a S
    refine st_y S rfl rfl rfl (y_loadAgg (cs := [_, _, _]) S (by kernel_rfl) rfl rfl (M.cellsAt (k := 3) 1 rfl rfl)) ?_; clear S a; intro a S
    refine st_call (xs := [(Operand.tmp 15), (Operand.tmp 16), (Operand.tmp 17)]) S (enters_of Try.func16 (by decide) rfl) rfl rfl rfl (wayMay_any s t f n _) ?_
    rintro _ w6 ⟨rfl, hK⟩; refine ⟨_, rfl, ?_⟩; clear S a; intro a S; replace M := M.grow hK
    rw [hw] at S
    refine st_y S rfl rfl rfl (y_not S rfl) ?_; clear S a; intro a S
    refine st_y S rfl rfl rfl (y_pickF S rfl rfl) ?_; clear S a; intro a S
    refine wpList_nil ?_
    replace S := S.sub [(0, _), (1, _), (2, _), (3, _), (4, _), (5, _), (7, _), (8, _), (9, _), (10, _), (20, _)] rfl
    refine then_normal ?_
    refine st_split (t := 20) S rfl ?_ ?_
    · clear S; intro h20 S
      first | replace h20 := nrmA h20 | replace h20 := nrmB h20 | skip
      first | replace h20 := nrm1 h20 | replace h20 := nrm2 h20 | replace h20 := nrm3 h20 | replace h20 := nrm4 h20 | replace h20 := nrm5 h20 | replace h20 := nrm6 h20 | replace h20 := of_decide_eq_true h20 | replace h20 := of_decide_eq_false h20 | skip
      simp at h20
    · clear S; intro h20 S
      first | replace h20 := nrmA h20 | replace h20 := nrmB h20 | skip
      first | replace h20 := nrm1 h20 | replace h20 := nrm2 h20 | replace h20 := nrm3 h20 | replace h20 := nrm4 h20 | replace h20 := nrm5 h20 | replace h20 := nrm6 h20 | replace h20 := of_decide_eq_true h20 | replace h20 := of_decide_eq_false h20 | skip
      refine st_condF S rfl ?_
      refine wp_skip ?_
      refine then_normal ?_
      refine wp_seq ?_
      refine wp_seq ?_
      -- region 3 move.go:70
      refine wp_region_lit ?_
      refine st_y S rfl rfl rfl (y_fieldAddr (k := 0) S (by kernel_rfl) rfl) ?_; clear S a; intro a S
      refine st_y S rfl rfl rfl (y_load S (by kernel_rfl) rfl (M.cell 3 rfl rfl)) ?_; clear S a; intro a S
      refine st_y S rfl rfl rfl (y_int S rfl rfl rfl) ?_; clear S a; intro a S
      refine wpList_nil ?_
      replace S := S.sub [(0, _), (1, _), (2, _), (3, _), (4, _), (5, _), (7, _), (8, _), (9, _), (10, _), (20, _), (24, _)] rfl
      refine then_normal ?_
      refine st_split (t := 24) S rfl ?_ ?_
      · clear S; intro h24 S
        first | replace h24 := nrmA h24 | replace h24 := nrmB h24 | skip
        first | replace h24 := nrm1 h24 | replace h24 := nrm2 h24 | replace h24 := nrm3 h24 | replace h24 := nrm4 h24 | replace h24 := nrm5 h24 | replace h24 := nrm6 h24 | replace h24 := of_decide_eq_true h24 | replace h24 := of_decide_eq_false h24 | skip
        exact absurd rfl h24
      · clear S; intro h24 S
        first | replace h24 := nrmA h24 | replace h24 := nrmB h24 | skip
        first | replace h24 := nrm1 h24 | replace h24 := nrm2 h24 | replace h24 := nrm3 h24 | replace h24 := nrm4 h24 | replace h24 := nrm5 h24 | replace h24 := nrm6 h24 | replace h24 := of_decide_eq_true h24 | replace h24 := of_decide_eq_false h24 | skip
        refine st_condF S rfl ?_
        refine wp_skip ?_
        refine then_normal ?_
        refine wp_seq ?_
        -- region 5 move.go:73
        refine wp_region_lit ?_
        refine st_y S rfl rfl rfl (y_loadAgg (cs := [_, _, _]) S (by kernel_rfl) rfl rfl (M.cellsAt (k := 3) 1 rfl rfl)) ?_; clear S a; intro a S
        refine st_y S rfl rfl rfl (y_loadAgg (cs := [_, _]) S (by kernel_rfl) rfl rfl (M.cellsAt (k := 2) 2 rfl rfl)) ?_; clear S a; intro a S
        refine st_y S rfl rfl rfl (y_move S rfl) ?_; clear S a; intro a S
        refine st_y S rfl rfl rfl (y_build (ps := [(0, (Operand.const (Value.int IntKind.i8 1))), (1, (Operand.tmp 26)), (2, (Operand.tmp 27)), (3, (Operand.tmp 28)), (4, (Operand.const (Value.int IntKind.i64 1)))]) (pl := [(0, 1), (1, 3), (4, 2), (6, 1), (7, 1), (8, 1)]) (z := [.int .i8 0, .int .i64 0, .int .i64 0, .int .i64 0, .int .i64 0, .int .i64 0, .int .i64 0, .int .i64 0, .slice none 0 0]) (cs := [_, _, _, _, _, _, _, _, _]) S (by kernel_rfl) rfl (rfl)) ?_; clear S a; intro a S
        refine st_store (sz := 9) (us := [_, _, _, _, _, _, _, _, _]) S M 3 rfl (by kernel_rfl) rfl rfl rfl rfl rfl rfl (by first | decide | (simp; done) | (simp; omega)) ?_; clear M; intro w7 M
        simp only [putL, List.set_cons_zero, List.set_cons_succ, Nat.reduceAdd] at M
        refine wpList_nil ?_
        replace S := S.sub [(0, _), (1, _), (2, _), (3, _), (4, _), (5, _), (7, _), (8, _), (9, _), (10, _), (20, _), (24, _)] rfl
        refine then_normal ?_
        refine wp_seq ?_
        -- region 6 move.go:74
        refine wp_regionK [4] #[false, false, false, false, false, false, false] rfl M (by kernel_rfl) ?_; clear M; intro w8 M
        refine k_read (listed' := #[true, false, false, false, false, false, false]) 0 S rfl rfl rfl rfl (by kernel_rfl) rfl (fun _ d _ _ _ h => by cases d <;> exact h) (fun w hW => have M := M.grow hW; y_loadAgg (cs := [_, _, _, _, _, _, _, _, _]) S (by kernel_rfl) rfl rfl (M.cellsAt (k := 9) 3 rfl rfl)) ?_; clear S a; intro a S
        refine k_read (listed' := #[true, true, false, false, false, false, false]) 1 S rfl rfl rfl rfl (by kernel_rfl) rfl (fun _ d _ _ _ h => by cases d <;> exact h) (fun w hW => have M := M.grow hW; y_loadAgg (cs := [_, _, _, _, _, _, _, _, _]) S (by kernel_rfl) rfl rfl (M.cellsAt (k := 9) 3 rfl rfl)) ?_; clear S a; intro a S
        refine k_one (listed' := #[true, true, true, false, false, false, false]) 2 rfl (by kernel_rfl) rfl ?_
        refine st_call (xs := [(Operand.tmp 31)]) S (enters_of Try.func17 (by decide) rfl) rfl rfl rfl (exec_any (begunM s t f n) none 0 0 _ ⟨hs, by simp [begunM]⟩) ?_
        rintro _ w9 ⟨rfl, hK⟩; refine ⟨_, rfl, ?_⟩; clear S a; intro a S; replace M := M.grow hK
        refine wpList_nil ?_; refine then_normal ?_; refine ⟨fun _ => hK, ?_⟩
        refine k_two (l1 := #[true, true, true, true, false, false, false]) (l2 := #[true, true, true, false, true, false, false]) 3 4 rfl rfl (by kernel_rfl) rfl rfl ?_ ?_
        · skip
          refine st_lit (ps := [(0, (Operand.tmp 32))]) (e := 39) (sz := 24) (zl := [.int .i8 0, .int .i64 0, .int .i64 0, .int .i64 0, .int .i64 0, .int .i64 0, .int .i64 0, .int .i64 0, .int .i64 0, .int .i8 0, .int .i64 0, .int .u8 0, .int .u8 0, .int .u8 0, .int .u8 0, .int .u8 0, .int .u8 0, .int .u8 0, .int .u8 0, .int .i64 0, .bool false, .int .i64 0, .int .i64 0, .slice none 0 0]) (cs := ((execM (begunM s t f n)).cells (.slice none 0 0)).toList) S M rfl rfl (by kernel_rfl) rfl (by kernel_rfl) ?_; clear S M a; intro a w10 bL S M hB
          refine wpList_nil ?_; refine then_normal ?_; refine ⟨fun _ => hB, ?_⟩
          refine k_one (listed' := #[true, true, true, true, true, false, false]) 4 rfl (by kernel_rfl) rfl ?_
          refine st_store (sz := 9) (us := [_, _, _, _, _, _, _, _, _]) S M 1 rfl (by kernel_rfl) rfl rfl rfl rfl rfl rfl (by first | decide | (simp; done) | (simp; omega)) ?_; clear M; intro w11 M
          simp only [putL, List.set_cons_zero, List.set_cons_succ, Nat.reduceAdd] at M
          refine wpList_nil ?_; refine then_normal ?_; refine ⟨fun h => absurd h (by decide), ?_⟩
          refine k_pure (listed' := #[true, true, true, true, true, true, false]) 5 S rfl rfl rfl rfl (by kernel_rfl) rfl (fun _ d _ _ _ h => by cases d <;> exact h) (fun w => y_assign S rfl) ?_; clear S a; intro a S
          refine k_pure (listed' := #[true, true, true, true, true, true, true]) 6 S rfl rfl rfl rfl (by kernel_rfl) rfl (fun _ d _ _ _ h => by cases d <;> exact h) (fun w => y_assign S rfl) ?_; clear S a; intro a S
          refine k_end (by kernel_rfl) ?_
          replace S := S.sub [(0, _), (1, _), (2, _), (3, _), (4, _), (5, _), (7, _), (8, _), (20, _), (24, _), (9, _), (10, _)] rfl
          refine then_normal ?_
          refine wp_ret ?_
          refine end_three S rfl (res_agg (cs := [_, _, _, _, _, _, _, _, _]) (by kernel_rfl) rfl rfl (M.cellsAt (k := 9) 1 rfl rfl)) (res_tmp rfl) (res_tmp rfl) ?_
          replace M := M.toRow (m := 1) (cap := 1) (sz := 24) (xs := msC [execM (begunM s t f n)]) 0 rfl rfl (Nat.le_refl _) (by unfold maxLen; omega) rfl rfl
          exact ⟨_, _, _, rfl, M.one⟩
        · skip
          refine st_store (sz := 9) (us := [_, _, _, _, _, _, _, _, _]) S M 0 rfl (by kernel_rfl) rfl rfl rfl rfl rfl rfl (by first | decide | (simp; done) | (simp; omega)) ?_; clear M; intro w12 M
          simp only [putL, List.set_cons_zero, List.set_cons_succ, Nat.reduceAdd] at M
          refine wpList_nil ?_; refine then_normal ?_; refine ⟨fun h => absurd h (by decide), ?_⟩
          refine k_one (listed' := #[true, true, true, true, true, false, false]) 3 rfl (by kernel_rfl) rfl ?_
          refine st_lit (ps := [(0, (Operand.tmp 32))]) (e := 39) (sz := 24) (zl := [.int .i8 0, .int .i64 0, .int .i64 0, .int .i64 0, .int .i64 0, .int .i64 0, .int .i64 0, .int .i64 0, .int .i64 0, .int .i8 0, .int .i64 0, .int .u8 0, .int .u8 0, .int .u8 0, .int .u8 0, .int .u8 0, .int .u8 0, .int .u8 0, .int .u8 0, .int .i64 0, .bool false, .int .i64 0, .int .i64 0, .slice none 0 0]) (cs := ((execM (begunM s t f n)).cells (.slice none 0 0)).toList) S M rfl rfl (by kernel_rfl) rfl (by kernel_rfl) ?_; clear S M a; intro a w13 bL S M hB
          refine wpList_nil ?_; refine then_normal ?_; refine ⟨fun _ => hB, ?_⟩
          refine k_pure (listed' := #[true, true, true, true, true, true, false]) 5 S rfl rfl rfl rfl (by kernel_rfl) rfl (fun _ d _ _ _ h => by cases d <;> exact h) (fun w => y_assign S rfl) ?_; clear S a; intro a S
          refine k_pure (listed' := #[true, true, true, true, true, true, true]) 6 S rfl rfl rfl rfl (by kernel_rfl) rfl (fun _ d _ _ _ h => by cases d <;> exact h) (fun w => y_assign S rfl) ?_; clear S a; intro a S
          refine k_end (by kernel_rfl) ?_
          replace S := S.sub [(0, _), (1, _), (2, _), (3, _), (4, _), (5, _), (7, _), (8, _), (20, _), (24, _), (9, _), (10, _)] rfl
          refine then_normal ?_
          refine wp_ret ?_
          refine end_three S rfl (res_agg (cs := [_, _, _, _, _, _, _, _, _]) (by kernel_rfl) rfl rfl (M.cellsAt (k := 9) 1 rfl rfl)) (res_tmp rfl) (res_tmp rfl) ?_
          replace M := M.toRow (m := 1) (cap := 1) (sz := 24) (xs := msC [execM (begunM s t f n)]) 0 rfl rfl (Nat.le_refl _) (by unfold maxLen; omega) rfl rfl
          exact ⟨_, _, _, rfl, M.one⟩

open Classical in
noncomputable def hearM (m : Mv) (x : List V8) (g : Msg) (y : List Wr) : Mv × List V8 × List Msg × Int × Int :=
  if m.ok x = true ∧ g.kind = 3 ∧ g.may y = true then
    if m.phase = 1 ∧ g.name = m.name ∧ g.n = m.n ∧ g.frm = m.frm then
      if g.e = 0 then
        if m.n = 4 then ({ m with phase := 2 }, x ++ [g.val], [], 1, 0)
        else ({ m with n := m.n + 1 }, x ++ [g.val], [execM { m with n := m.n + 1 }], 0, 0)
      else (Mv.zero, [], [], 2, 0)
    else (m, x, [], 0, 0)
  else (Mv.zero, [], [], 0, 2)
def HearPost (R : Mv × List V8 × List Msg × Int × Int) (w : World) (e : Ending) (w' : World) : Prop :=
  ∃ ad cp lv l1 h1 l2 h2, e = .returned (.tuple #[.agg (R.1.cells (.slice ad R.2.1.length cp)), lv, .int .i8 R.2.2.2.1, .int .i64 R.2.2.2.2]) ∧ Mem w w' [rowE l1 h1 39 24 lv R.2.2.1.length (msC R.2.2.1), rowE l2 h2 36 8 (.slice ad R.2.1.length cp) R.2.1.length (vcells R.2.1)]
theorem hearM_any (m : Mv) (va : Option Addr) (vn vc : Nat) (x : List V8) (g : Msg) (ga : Option Addr) (gn gc : Nat) (y : List Wr) (w : World) (hv : Vs 0 w.heap.size w (.slice va vn vc) x) (hy : Ws 0 w.heap.size w (.slice ga gn gc) y) :
    Calls Try.prog 10 #[.agg (m.cells (.slice va vn vc)), .agg (g.cells (.slice ga gn gc))] w (HearPost (hearM m x g y) w) := by
  have M := Mem.start w
  have hvn : vn = x.length := by obtain ⟨ad, cp, e, -, -⟩ := hv.form; cases e; rfl
  have hvc : vn ≤ vc := by obtain ⟨ad, cp, e, h, -⟩ := hv.form; cases e; exact h
  refine calls_enter Try.func10 rfl 82 rfl rfl ?_; intro a S
  refine wp_seq ?_
  -- region 0 move.go:78
  refine wp_region_lit ?_
  refine st_box S M rfl rfl rfl #[_, _, _, _, _, _, _, _, _] rfl ?_; clear S M a; intro a w1 bA S M hB
  refine st_box S M rfl rfl rfl #[_, _, _, _, _, _, _, _, _, _, _, _, _, _, _, _, _, _, _, _, _, _, _, _] rfl ?_; clear S M a; intro a w2 bG S M hB
  refine st_alloc S M rfl rfl #[.int .i8 0, .int .i64 0, .int .i64 0, .int .i64 0, .int .i64 0, .int .i64 0, .int .i64 0, .int .i64 0, .slice none 0 0] (by kernel_rfl) ?_; clear S M a; intro a w3 bO S M hB
  refine st_y S rfl rfl rfl (y_assign S rfl) ?_; clear S a; intro a S
  refine st_y S rfl rfl rfl (y_assign S rfl) ?_; clear S a; intro a S
  refine st_y S rfl rfl rfl (y_assign S rfl) ?_; clear S a; intro a S
  refine wpList_nil ?_
  replace S := S.sub [(0, _), (1, _), (2, _), (3, _), (4, _), (5, _), (6, _), (7, _)] rfl
  refine then_normal ?_
  refine wp_scope_fwd (rest := _) 0 (fun a w' => (m.ok x = true ∧ g.kind = 3 ∧ g.may y = true) ∧ (m.phase = 1 ∧ g.name = m.name ∧ g.n = m.n ∧ g.frm = m.frm) ∧ g.e = 0 ∧ Sees 82 a [(2, .pointer (some ⟨bA, 0, none⟩)), (3, .pointer (some ⟨bG, 0, none⟩)), (4, .pointer (some ⟨bO, 0, none⟩))] ∧ Mem w w' [.blk bO (Mv.zero.cells (.slice none 0 0)) 31, .blk bG (g.cells (.slice ga gn gc)) 39, .blk bA (m.cells (.slice va vn vc)) 31]) rfl ?_ ?_
  · skip
    refine wp_cut (fun a w' => (m.ok x = true ∧ g.kind = 3 ∧ g.may y = true) ∧ Sees 82 a [(2, .pointer (some ⟨bA, 0, none⟩)), (3, .pointer (some ⟨bG, 0, none⟩)), (4, .pointer (some ⟨bO, 0, none⟩))] ∧ Mem w w' [.blk bO (Mv.zero.cells (.slice none 0 0)) 31, .blk bG (g.cells (.slice ga gn gc)) 39, .blk bA (m.cells (.slice va vn vc)) 31]) ?_ ?_
    · skip
      refine wp_seq ?_
      -- region 1 move.go:79
      refine wp_region_lit ?_
      refine st_y S rfl rfl rfl (y_loadAgg (cs := [_, _, _, _, _, _, _, _, _]) S (by kernel_rfl) rfl rfl (M.cellsAt (k := 9) 2 rfl rfl)) ?_; clear S a; intro a S
      refine st_call (xs := [(Operand.tmp 8)]) S (enters_of Try.func11 (by decide) rfl) rfl rfl rfl (check_any m va vn vc x _ (M.argW hv)) ?_
      rintro _ w4 ⟨rfl, hK⟩; refine ⟨_, rfl, ?_⟩; clear S a; intro a S; replace M := M.grow hK
      refine st_y S rfl rfl rfl (y_int S rfl rfl rfl) ?_; clear S a; intro a S
      refine st_y S rfl rfl rfl (y_move S rfl) ?_; clear S a; intro a S
      refine st_split (t := 11) S rfl ?_ ?_
      · clear S; intro h11 S
        first | replace h11 := nrmA h11 | replace h11 := nrmB h11 | skip
        first | replace h11 := nrm1 h11 | replace h11 := nrm2 h11 | replace h11 := nrm3 h11 | replace h11 := nrm4 h11 | replace h11 := nrm5 h11 | replace h11 := nrm6 h11 | replace h11 := of_decide_eq_true h11 | replace h11 := of_decide_eq_false h11 | skip
        refine st_skip 3 S rfl ?_; clear S a; intro a S
        refine st_y S rfl rfl rfl (y_pickT S rfl rfl) ?_; clear S a; intro a S
        refine st_y S rfl rfl rfl (y_move S rfl) ?_; clear S a; intro a S
        refine st_skip 3 S rfl ?_; clear S a; intro a S
        refine st_y S rfl rfl rfl (y_pickT S rfl rfl) ?_; clear S a; intro a S
        refine wpList_nil ?_
        replace S := S.sub [(0, _), (1, _), (2, _), (3, _), (4, _), (5, _), (6, _), (7, _), (20, _)] rfl
        refine then_normal ?_
        refine st_condT S rfl ?_
        refine wp_seq ?_
        -- region 2 move.go:80
        refine wp_region_lit ?_
        refine st_y S rfl rfl rfl (y_build (ps := []) (pl := [(0, 1), (1, 3), (4, 2), (6, 1), (7, 1), (8, 1)]) (z := [.int .i8 0, .int .i64 0, .int .i64 0, .int .i64 0, .int .i64 0, .int .i64 0, .int .i64 0, .int .i64 0, .slice none 0 0]) (cs := [_, _, _, _, _, _, _, _, _]) S (by kernel_rfl) rfl (rfl)) ?_; clear S a; intro a S
        refine st_store (sz := 9) (us := [_, _, _, _, _, _, _, _, _]) S M 0 rfl (by kernel_rfl) rfl rfl rfl rfl rfl rfl (by first | decide | (simp; done) | (simp; omega)) ?_; clear M; intro w5 M
        simp only [putL, List.set_cons_zero, List.set_cons_succ, Nat.reduceAdd] at M
        refine st_y S rfl rfl rfl (y_assign S rfl) ?_; clear S a; intro a S
        refine st_y S rfl rfl rfl (y_assign S rfl) ?_; clear S a; intro a S
        refine st_y S rfl rfl rfl (y_assign S rfl) ?_; clear S a; intro a S
        refine wpList_nil ?_
        replace S := S.sub [(0, _), (1, _), (2, _), (3, _), (4, _), (20, _), (5, _), (6, _), (7, _)] rfl
        refine then_normal ?_
        refine wp_ret ?_
        refine then_ret ?_
        refine sj_ret ?_
        refine end_four S rfl (res_agg (cs := [_, _, _, _, _, _, _, _, _]) (by kernel_rfl) rfl rfl (M.cellsAt (k := 9) 0 rfl rfl)) (res_tmp rfl) (res_tmp rfl) (res_tmp rfl) ?_
        unfold hearM
        rw [if_neg (by
          rintro ⟨q1, q2, q3⟩
          first
            | (rw [chk_ok q1] at h11; omega)
            | omega
            | (rw [q3] at h20; simp at h20; done))]
        exact ⟨none, 0, _, _, _, _, _, rfl, ((M.rowNil 36 8).rowNil 39 24).two⟩
      · clear S; intro h11 S
        first | replace h11 := nrmA h11 | replace h11 := nrmB h11 | skip
        first | replace h11 := nrm1 h11 | replace h11 := nrm2 h11 | replace h11 := nrm3 h11 | replace h11 := nrm4 h11 | replace h11 := nrm5 h11 | replace h11 := nrm6 h11 | replace h11 := of_decide_eq_true h11 | replace h11 := of_decide_eq_false h11 | skip
        refine st_y S rfl rfl rfl (y_fieldAddr (k := 0) S (by kernel_rfl) rfl) ?_; clear S a; intro a S
        refine st_y S rfl rfl rfl (y_load S (by kernel_rfl) rfl (M.cell 1 rfl rfl)) ?_; clear S a; intro a S
        refine st_y S rfl rfl rfl (y_int S rfl rfl rfl) ?_; clear S a; intro a S
        refine st_y S rfl rfl rfl (y_pickF S rfl rfl) ?_; clear S a; intro a S
        refine st_y S rfl rfl rfl (y_move S rfl) ?_; clear S a; intro a S
        refine st_split (t := 16) S rfl ?_ ?_
        · clear S; intro h16 S
          first | replace h16 := nrmA h16 | replace h16 := nrmB h16 | skip
          first | replace h16 := nrm1 h16 | replace h16 := nrm2 h16 | replace h16 := nrm3 h16 | replace h16 := nrm4 h16 | replace h16 := nrm5 h16 | replace h16 := nrm6 h16 | replace h16 := of_decide_eq_true h16 | replace h16 := of_decide_eq_false h16 | skip
          refine st_skip 3 S rfl ?_; clear S a; intro a S
          refine st_y S rfl rfl rfl (y_pickT S rfl rfl) ?_; clear S a; intro a S
          refine wpList_nil ?_
          replace S := S.sub [(0, _), (1, _), (2, _), (3, _), (4, _), (5, _), (6, _), (7, _), (20, _)] rfl
          refine then_normal ?_
          refine st_condT S rfl ?_
          refine wp_seq ?_
          -- region 2 move.go:80
          refine wp_region_lit ?_
          refine st_y S rfl rfl rfl (y_build (ps := []) (pl := [(0, 1), (1, 3), (4, 2), (6, 1), (7, 1), (8, 1)]) (z := [.int .i8 0, .int .i64 0, .int .i64 0, .int .i64 0, .int .i64 0, .int .i64 0, .int .i64 0, .int .i64 0, .slice none 0 0]) (cs := [_, _, _, _, _, _, _, _, _]) S (by kernel_rfl) rfl (rfl)) ?_; clear S a; intro a S
          refine st_store (sz := 9) (us := [_, _, _, _, _, _, _, _, _]) S M 0 rfl (by kernel_rfl) rfl rfl rfl rfl rfl rfl (by first | decide | (simp; done) | (simp; omega)) ?_; clear M; intro w6 M
          simp only [putL, List.set_cons_zero, List.set_cons_succ, Nat.reduceAdd] at M
          refine st_y S rfl rfl rfl (y_assign S rfl) ?_; clear S a; intro a S
          refine st_y S rfl rfl rfl (y_assign S rfl) ?_; clear S a; intro a S
          refine st_y S rfl rfl rfl (y_assign S rfl) ?_; clear S a; intro a S
          refine wpList_nil ?_
          replace S := S.sub [(0, _), (1, _), (2, _), (3, _), (4, _), (20, _), (5, _), (6, _), (7, _)] rfl
          refine then_normal ?_
          refine wp_ret ?_
          refine then_ret ?_
          refine sj_ret ?_
          refine end_four S rfl (res_agg (cs := [_, _, _, _, _, _, _, _, _]) (by kernel_rfl) rfl rfl (M.cellsAt (k := 9) 0 rfl rfl)) (res_tmp rfl) (res_tmp rfl) (res_tmp rfl) ?_
          unfold hearM
          rw [if_neg (by
            rintro ⟨q1, q2, q3⟩
            first
              | (rw [chk_ok q1] at h11; omega)
              | omega
              | (rw [q3] at h20; simp at h20; done))]
          exact ⟨none, 0, _, _, _, _, _, rfl, ((M.rowNil 36 8).rowNil 39 24).two⟩
        · clear S; intro h16 S
          first | replace h16 := nrmA h16 | replace h16 := nrmB h16 | skip
          first | replace h16 := nrm1 h16 | replace h16 := nrm2 h16 | replace h16 := nrm3 h16 | replace h16 := nrm4 h16 | replace h16 := nrm5 h16 | replace h16 := nrm6 h16 | replace h16 := of_decide_eq_true h16 | replace h16 := of_decide_eq_false h16 | skip
          refine st_y S rfl rfl rfl (y_loadAgg (cs := [_, _, _, _, _, _, _, _, _, _, _, _, _, _, _, _, _, _, _, _, _, _, _, _]) S (by kernel_rfl) rfl rfl (M.cellsAt (k := 24) 1 rfl rfl)) ?_; clear S a; intro a S
          refine st_call (xs := [(Operand.tmp 17)]) S (enters_of Try.func20 (by decide) rfl) rfl rfl rfl (mayM_any g ga gn gc y _ (M.argW hy)) ?_
          rintro _ w7 ⟨rfl, hK⟩; refine ⟨_, rfl, ?_⟩; clear S a; intro a S; replace M := M.grow hK
          refine st_y S rfl rfl rfl (y_not S rfl) ?_; clear S a; intro a S
          refine st_y S rfl rfl rfl (y_pickF S rfl rfl) ?_; clear S a; intro a S
          refine wpList_nil ?_
          replace S := S.sub [(0, _), (1, _), (2, _), (3, _), (4, _), (5, _), (6, _), (7, _), (20, _)] rfl
          refine then_normal ?_
          refine st_split (t := 20) S rfl ?_ ?_
          · clear S; intro h20 S
            refine st_condT S rfl ?_
            refine wp_seq ?_
            -- region 2 move.go:80
            refine wp_region_lit ?_
            refine st_y S rfl rfl rfl (y_build (ps := []) (pl := [(0, 1), (1, 3), (4, 2), (6, 1), (7, 1), (8, 1)]) (z := [.int .i8 0, .int .i64 0, .int .i64 0, .int .i64 0, .int .i64 0, .int .i64 0, .int .i64 0, .int .i64 0, .slice none 0 0]) (cs := [_, _, _, _, _, _, _, _, _]) S (by kernel_rfl) rfl (rfl)) ?_; clear S a; intro a S
            refine st_store (sz := 9) (us := [_, _, _, _, _, _, _, _, _]) S M 0 rfl (by kernel_rfl) rfl rfl rfl rfl rfl rfl (by first | decide | (simp; done) | (simp; omega)) ?_; clear M; intro w8 M
            simp only [putL, List.set_cons_zero, List.set_cons_succ, Nat.reduceAdd] at M
            refine st_y S rfl rfl rfl (y_assign S rfl) ?_; clear S a; intro a S
            refine st_y S rfl rfl rfl (y_assign S rfl) ?_; clear S a; intro a S
            refine st_y S rfl rfl rfl (y_assign S rfl) ?_; clear S a; intro a S
            refine wpList_nil ?_
            replace S := S.sub [(0, _), (1, _), (2, _), (3, _), (4, _), (20, _), (5, _), (6, _), (7, _)] rfl
            refine then_normal ?_
            refine wp_ret ?_
            refine then_ret ?_
            refine sj_ret ?_
            refine end_four S rfl (res_agg (cs := [_, _, _, _, _, _, _, _, _]) (by kernel_rfl) rfl rfl (M.cellsAt (k := 9) 0 rfl rfl)) (res_tmp rfl) (res_tmp rfl) (res_tmp rfl) ?_
            unfold hearM
            rw [if_neg (by
              rintro ⟨q1, q2, q3⟩
              first
                | (rw [chk_ok q1] at h11; omega)
                | omega
                | (rw [q3] at h20; simp at h20; done))]
            exact ⟨none, 0, _, _, _, _, _, rfl, ((M.rowNil 36 8).rowNil 39 24).two⟩
          · clear S; intro h20 S
            refine st_condF S rfl ?_
            refine wp_skip ?_
            refine then_normal ?_
            have ho : m.ok x = true := by
              cases e : m.ok x with
              | true => rfl
              | false => rw [chk_no e] at h11; omega
            exact ⟨⟨ho, by omega, by simpa using h20⟩, S.sub _ rfl, M⟩
    · clear S a M; intro a wc
      rintro ⟨hy1, S, M⟩
      have hx4 := ok_len hy1.1
      refine wp_seq ?_
      refine wp_seq ?_
      -- region 3 move.go:82
      refine wp_region_lit ?_
      refine st_y S rfl rfl rfl (y_fieldAddr (k := 0) S (by kernel_rfl) rfl) ?_; clear S a; intro a S
      refine st_y S rfl rfl rfl (y_load S (by kernel_rfl) rfl (M.cell 2 rfl rfl)) ?_; clear S a; intro a S
      refine st_y S rfl rfl rfl (y_int S rfl rfl rfl) ?_; clear S a; intro a S
      refine st_y S rfl rfl rfl (y_move S rfl) ?_; clear S a; intro a S
      refine st_split (t := 25) S rfl ?_ ?_
      · clear S; intro h25 S
        first | replace h25 := nrmA h25 | replace h25 := nrmB h25 | skip
        first | replace h25 := nrm1 h25 | replace h25 := nrm2 h25 | replace h25 := nrm3 h25 | replace h25 := nrm4 h25 | replace h25 := nrm5 h25 | replace h25 := nrm6 h25 | replace h25 := of_decide_eq_true h25 | replace h25 := of_decide_eq_false h25 | skip
        refine st_skip 5 S rfl ?_; clear S a; intro a S
        refine st_y S rfl rfl rfl (y_pickT S rfl rfl) ?_; clear S a; intro a S
        refine st_y S rfl rfl rfl (y_move S rfl) ?_; clear S a; intro a S
        refine st_skip 5 S rfl ?_; clear S a; intro a S
        refine st_y S rfl rfl rfl (y_pickT S rfl rfl) ?_; clear S a; intro a S
        refine st_y S rfl rfl rfl (y_move S rfl) ?_; clear S a; intro a S
        refine st_skip 5 S rfl ?_; clear S a; intro a S
        refine st_y S rfl rfl rfl (y_pickT S rfl rfl) ?_; clear S a; intro a S
        refine wpList_nil ?_
        replace S := S.sub [(2, _), (3, _), (4, _), (45, _)] rfl
        refine then_normal ?_
        refine st_condT S rfl ?_
        refine wp_seq ?_
        -- region 4 move.go:83
        refine wp_region_lit ?_
        refine st_y S rfl rfl rfl (y_loadAgg (cs := [_, _, _, _, _, _, _, _, _]) S (by kernel_rfl) rfl rfl (M.cellsAt (k := 9) 2 rfl rfl)) ?_; clear S a; intro a S
        refine st_call (xs := [(Operand.tmp 46)]) S (enters_of Try.func18 (by decide) rfl) rfl rfl rfl (copied_any m va vn vc x _ (M.argW hv) (by omega)) ?_
        rintro _ w9 ⟨ad, cp, rfl, hF⟩; refine ⟨_, rfl, ?_⟩; clear S a; intro a S
        have hK := hF.below
        obtain ⟨lo, hi, -, M⟩ := M.pushFresh hF
        refine st_store (sz := 9) (us := [_, _, _, _, _, _, _, _, _]) S M 1 rfl (by kernel_rfl) rfl rfl rfl rfl rfl rfl (by first | decide | (simp; done) | (simp; omega)) ?_; clear M; intro w10 M
        simp only [putL, List.set_cons_zero, List.set_cons_succ, Nat.reduceAdd] at M
        refine st_y S rfl rfl rfl (y_assign S rfl) ?_; clear S a; intro a S
        refine st_y S rfl rfl rfl (y_assign S rfl) ?_; clear S a; intro a S
        refine st_y S rfl rfl rfl (y_assign S rfl) ?_; clear S a; intro a S
        refine wpList_nil ?_
        replace S := S.sub [(2, _), (3, _), (4, _), (45, _), (5, _), (6, _), (7, _)] rfl
        refine then_normal ?_
        refine wp_ret ?_
        refine then_ret ?_
        refine sj_ret ?_
        refine end_four S rfl (res_agg (cs := [_, _, _, _, _, _, _, _, _]) (by kernel_rfl) rfl rfl (M.cellsAt (k := 9) 1 rfl rfl)) (res_tmp rfl) (res_tmp rfl) (res_tmp rfl) ?_
        unfold hearM
        rw [if_pos hy1, if_neg (by
          rintro ⟨q1, q2, q3, q4⟩
          first
            | omega
            | (have h33 : (!g.name.eqb m.name) = true := h32
               rw [q2, Nm.eqb_iff.2 rfl] at h33; simp at h33; done))]
        exact ⟨ad, cp, _, _, _, _, _, rfl, (M.rowNil 39 24).two⟩
      · clear S; intro h25 S
        first | replace h25 := nrmA h25 | replace h25 := nrmB h25 | skip
        first | replace h25 := nrm1 h25 | replace h25 := nrm2 h25 | replace h25 := nrm3 h25 | replace h25 := nrm4 h25 | replace h25 := nrm5 h25 | replace h25 := nrm6 h25 | replace h25 := of_decide_eq_true h25 | replace h25 := of_decide_eq_false h25 | skip
        refine st_y S rfl rfl rfl (y_fieldAddr (k := 5) S (by kernel_rfl) rfl) ?_; clear S a; intro a S
        refine st_y S rfl rfl rfl (y_loadAgg (cs := [_, _, _]) S (by kernel_rfl) rfl rfl (M.cellsAt (k := 3) 1 rfl rfl)) ?_; clear S a; intro a S
        refine st_y S rfl rfl rfl (y_fieldAddr (k := 1) S (by kernel_rfl) rfl) ?_; clear S a; intro a S
        refine st_y S rfl rfl rfl (y_loadAgg (cs := [_, _, _]) S (by kernel_rfl) rfl rfl (M.cellsAt (k := 3) 2 rfl rfl)) ?_; clear S a; intro a S
        refine st_y S rfl rfl rfl (y_neqG (by kernel_rfl) S rfl rfl (fun w => equalNm 9998 ⟨_, _, _⟩ ⟨_, _, _⟩ w)) ?_; clear S a; intro a S
        refine st_y S rfl rfl rfl (y_pickF S rfl rfl) ?_; clear S a; intro a S
        refine st_y S rfl rfl rfl (y_move S rfl) ?_; clear S a; intro a S
        refine st_split (t := 32) S rfl ?_ ?_
        · clear S; intro h32 S
          refine st_skip 5 S rfl ?_; clear S a; intro a S
          refine st_y S rfl rfl rfl (y_pickT S rfl rfl) ?_; clear S a; intro a S
          refine st_y S rfl rfl rfl (y_move S rfl) ?_; clear S a; intro a S
          refine st_skip 5 S rfl ?_; clear S a; intro a S
          refine st_y S rfl rfl rfl (y_pickT S rfl rfl) ?_; clear S a; intro a S
          refine wpList_nil ?_
          replace S := S.sub [(2, _), (3, _), (4, _), (45, _)] rfl
          refine then_normal ?_
          refine st_condT S rfl ?_
          refine wp_seq ?_
          -- region 4 move.go:83
          refine wp_region_lit ?_
          refine st_y S rfl rfl rfl (y_loadAgg (cs := [_, _, _, _, _, _, _, _, _]) S (by kernel_rfl) rfl rfl (M.cellsAt (k := 9) 2 rfl rfl)) ?_; clear S a; intro a S
          refine st_call (xs := [(Operand.tmp 46)]) S (enters_of Try.func18 (by decide) rfl) rfl rfl rfl (copied_any m va vn vc x _ (M.argW hv) (by omega)) ?_
          rintro _ w11 ⟨ad, cp, rfl, hF⟩; refine ⟨_, rfl, ?_⟩; clear S a; intro a S
          have hK := hF.below
          obtain ⟨lo, hi, -, M⟩ := M.pushFresh hF
          refine st_store (sz := 9) (us := [_, _, _, _, _, _, _, _, _]) S M 1 rfl (by kernel_rfl) rfl rfl rfl rfl rfl rfl (by first | decide | (simp; done) | (simp; omega)) ?_; clear M; intro w12 M
          simp only [putL, List.set_cons_zero, List.set_cons_succ, Nat.reduceAdd] at M
          refine st_y S rfl rfl rfl (y_assign S rfl) ?_; clear S a; intro a S
          refine st_y S rfl rfl rfl (y_assign S rfl) ?_; clear S a; intro a S
          refine st_y S rfl rfl rfl (y_assign S rfl) ?_; clear S a; intro a S
          refine wpList_nil ?_
          replace S := S.sub [(2, _), (3, _), (4, _), (45, _), (5, _), (6, _), (7, _)] rfl
          refine then_normal ?_
          refine wp_ret ?_
          refine then_ret ?_
          refine sj_ret ?_
          refine end_four S rfl (res_agg (cs := [_, _, _, _, _, _, _, _, _]) (by kernel_rfl) rfl rfl (M.cellsAt (k := 9) 1 rfl rfl)) (res_tmp rfl) (res_tmp rfl) (res_tmp rfl) ?_
          unfold hearM
          rw [if_pos hy1, if_neg (by
            rintro ⟨q1, q2, q3, q4⟩
            first
              | omega
              | (have h33 : (!g.name.eqb m.name) = true := h32
                 rw [q2, Nm.eqb_iff.2 rfl] at h33; simp at h33; done))]
          exact ⟨ad, cp, _, _, _, _, _, rfl, (M.rowNil 39 24).two⟩
        · clear S; intro h32 S
          refine st_y S rfl rfl rfl (y_fieldAddr (k := 8) S (by kernel_rfl) rfl) ?_; clear S a; intro a S
          refine st_y S rfl rfl rfl (y_load S (by kernel_rfl) rfl (M.cell 1 rfl rfl)) ?_; clear S a; intro a S
          refine st_y S rfl rfl rfl (y_fieldAddr (k := 7) S (by kernel_rfl) rfl) ?_; clear S a; intro a S
          refine st_y S rfl rfl rfl (y_load S (by kernel_rfl) rfl (M.cell 2 rfl rfl)) ?_; clear S a; intro a S
          refine st_y S rfl rfl rfl (y_int S rfl rfl rfl) ?_; clear S a; intro a S
          refine st_y S rfl rfl rfl (y_pickF S rfl rfl) ?_; clear S a; intro a S
          refine st_y S rfl rfl rfl (y_move S rfl) ?_; clear S a; intro a S
          refine st_split (t := 39) S rfl ?_ ?_
          · clear S; intro h39 S
            first | replace h39 := nrmA h39 | replace h39 := nrmB h39 | skip
            first | replace h39 := nrm1 h39 | replace h39 := nrm2 h39 | replace h39 := nrm3 h39 | replace h39 := nrm4 h39 | replace h39 := nrm5 h39 | replace h39 := nrm6 h39 | replace h39 := of_decide_eq_true h39 | replace h39 := of_decide_eq_false h39 | skip
            refine st_skip 5 S rfl ?_; clear S a; intro a S
            refine st_y S rfl rfl rfl (y_pickT S rfl rfl) ?_; clear S a; intro a S
            refine wpList_nil ?_
            replace S := S.sub [(2, _), (3, _), (4, _), (45, _)] rfl
            refine then_normal ?_
            refine st_condT S rfl ?_
            refine wp_seq ?_
            -- region 4 move.go:83
            refine wp_region_lit ?_
            refine st_y S rfl rfl rfl (y_loadAgg (cs := [_, _, _, _, _, _, _, _, _]) S (by kernel_rfl) rfl rfl (M.cellsAt (k := 9) 2 rfl rfl)) ?_; clear S a; intro a S
            refine st_call (xs := [(Operand.tmp 46)]) S (enters_of Try.func18 (by decide) rfl) rfl rfl rfl (copied_any m va vn vc x _ (M.argW hv) (by omega)) ?_
            rintro _ w13 ⟨ad, cp, rfl, hF⟩; refine ⟨_, rfl, ?_⟩; clear S a; intro a S
            have hK := hF.below
            obtain ⟨lo, hi, -, M⟩ := M.pushFresh hF
            refine st_store (sz := 9) (us := [_, _, _, _, _, _, _, _, _]) S M 1 rfl (by kernel_rfl) rfl rfl rfl rfl rfl rfl (by first | decide | (simp; done) | (simp; omega)) ?_; clear M; intro w14 M
            simp only [putL, List.set_cons_zero, List.set_cons_succ, Nat.reduceAdd] at M
            refine st_y S rfl rfl rfl (y_assign S rfl) ?_; clear S a; intro a S
            refine st_y S rfl rfl rfl (y_assign S rfl) ?_; clear S a; intro a S
            refine st_y S rfl rfl rfl (y_assign S rfl) ?_; clear S a; intro a S
            refine wpList_nil ?_
            replace S := S.sub [(2, _), (3, _), (4, _), (45, _), (5, _), (6, _), (7, _)] rfl
            refine then_normal ?_
            refine wp_ret ?_
            refine then_ret ?_
            refine sj_ret ?_
            refine end_four S rfl (res_agg (cs := [_, _, _, _, _, _, _, _, _]) (by kernel_rfl) rfl rfl (M.cellsAt (k := 9) 1 rfl rfl)) (res_tmp rfl) (res_tmp rfl) (res_tmp rfl) ?_
            unfold hearM
            rw [if_pos hy1, if_neg (by
              rintro ⟨q1, q2, q3, q4⟩
              first
                | omega
                | (have h33 : (!g.name.eqb m.name) = true := h32
                   rw [q2, Nm.eqb_iff.2 rfl] at h33; simp at h33; done))]
            exact ⟨ad, cp, _, _, _, _, _, rfl, (M.rowNil 39 24).two⟩
          · clear S; intro h39 S
            first | replace h39 := nrmA h39 | replace h39 := nrmB h39 | skip
            first | replace h39 := nrm1 h39 | replace h39 := nrm2 h39 | replace h39 := nrm3 h39 | replace h39 := nrm4 h39 | replace h39 := nrm5 h39 | replace h39 := nrm6 h39 | replace h39 := of_decide_eq_true h39 | replace h39 := of_decide_eq_false h39 | skip
            refine st_y S rfl rfl rfl (y_fieldAddr (k := 1) S (by kernel_rfl) rfl) ?_; clear S a; intro a S
            refine st_y S rfl rfl rfl (y_load S (by kernel_rfl) rfl (M.cell 1 rfl rfl)) ?_; clear S a; intro a S
            refine st_y S rfl rfl rfl (y_fieldAddr (k := 6) S (by kernel_rfl) rfl) ?_; clear S a; intro a S
            refine st_y S rfl rfl rfl (y_load S (by kernel_rfl) rfl (M.cell 2 rfl rfl)) ?_; clear S a; intro a S
            refine st_y S rfl rfl rfl (y_int S rfl rfl rfl) ?_; clear S a; intro a S
            refine st_y S rfl rfl rfl (y_pickF S rfl rfl) ?_; clear S a; intro a S
            refine wpList_nil ?_
            replace S := S.sub [(2, _), (3, _), (4, _), (45, _)] rfl
            refine then_normal ?_
            refine st_split (t := 45) S rfl ?_ ?_
            · clear S; intro h45 S
              first | replace h45 := nrmA h45 | replace h45 := nrmB h45 | skip
              first | replace h45 := nrm1 h45 | replace h45 := nrm2 h45 | replace h45 := nrm3 h45 | replace h45 := nrm4 h45 | replace h45 := nrm5 h45 | replace h45 := nrm6 h45 | replace h45 := of_decide_eq_true h45 | replace h45 := of_decide_eq_false h45 | skip
              refine st_condT S rfl ?_
              refine wp_seq ?_
              -- region 4 move.go:83
              refine wp_region_lit ?_
              refine st_y S rfl rfl rfl (y_loadAgg (cs := [_, _, _, _, _, _, _, _, _]) S (by kernel_rfl) rfl rfl (M.cellsAt (k := 9) 2 rfl rfl)) ?_; clear S a; intro a S
              refine st_call (xs := [(Operand.tmp 46)]) S (enters_of Try.func18 (by decide) rfl) rfl rfl rfl (copied_any m va vn vc x _ (M.argW hv) (by omega)) ?_
              rintro _ w15 ⟨ad, cp, rfl, hF⟩; refine ⟨_, rfl, ?_⟩; clear S a; intro a S
              have hK := hF.below
              obtain ⟨lo, hi, -, M⟩ := M.pushFresh hF
              refine st_store (sz := 9) (us := [_, _, _, _, _, _, _, _, _]) S M 1 rfl (by kernel_rfl) rfl rfl rfl rfl rfl rfl (by first | decide | (simp; done) | (simp; omega)) ?_; clear M; intro w16 M
              simp only [putL, List.set_cons_zero, List.set_cons_succ, Nat.reduceAdd] at M
              refine st_y S rfl rfl rfl (y_assign S rfl) ?_; clear S a; intro a S
              refine st_y S rfl rfl rfl (y_assign S rfl) ?_; clear S a; intro a S
              refine st_y S rfl rfl rfl (y_assign S rfl) ?_; clear S a; intro a S
              refine wpList_nil ?_
              replace S := S.sub [(2, _), (3, _), (4, _), (45, _), (5, _), (6, _), (7, _)] rfl
              refine then_normal ?_
              refine wp_ret ?_
              refine then_ret ?_
              refine sj_ret ?_
              refine end_four S rfl (res_agg (cs := [_, _, _, _, _, _, _, _, _]) (by kernel_rfl) rfl rfl (M.cellsAt (k := 9) 1 rfl rfl)) (res_tmp rfl) (res_tmp rfl) (res_tmp rfl) ?_
              unfold hearM
              rw [if_pos hy1, if_neg (by
                rintro ⟨q1, q2, q3, q4⟩
                first
                  | omega
                  | (have h33 : (!g.name.eqb m.name) = true := h32
                     rw [q2, Nm.eqb_iff.2 rfl] at h33; simp at h33; done))]
              exact ⟨ad, cp, _, _, _, _, _, rfl, (M.rowNil 39 24).two⟩
            · clear S; intro h45 S
              first | replace h45 := nrmA h45 | replace h45 := nrmB h45 | skip
              first | replace h45 := nrm1 h45 | replace h45 := nrm2 h45 | replace h45 := nrm3 h45 | replace h45 := nrm4 h45 | replace h45 := nrm5 h45 | replace h45 := nrm6 h45 | replace h45 := of_decide_eq_true h45 | replace h45 := of_decide_eq_false h45 | skip
              refine st_condF S rfl ?_
              refine wp_skip ?_
              refine then_normal ?_
              refine wp_seq ?_
              refine wp_seq ?_
              -- region 5 move.go:85
              have hm1 : m.phase = 1 ∧ g.name = m.name ∧ g.n = m.n ∧ g.frm = m.frm := ⟨by omega, Nm.eqb_iff.1 (by simpa using h32), by omega, by omega⟩
              refine wp_region_lit ?_
              refine st_y S rfl rfl rfl (y_fieldAddr (k := 19) S (by kernel_rfl) rfl) ?_; clear S a; intro a S
              refine st_y S rfl rfl rfl (y_load S (by kernel_rfl) rfl (M.cell 1 rfl rfl)) ?_; clear S a; intro a S
              refine wpList_nil ?_
              replace S := S.sub [(2, _), (3, _), (4, _), (45, _), (49, _)] rfl
              refine then_normal ?_
              refine wp_block ?_
              refine wp_seq ?_
              refine wp_block ?_
              refine wp_block ?_
              refine wp_seq ?_
              refine wp_block ?_
              refine wp_seq ?_
              refine wp_seq ?_
              refine wp_seq ?_
              -- region 6 move.go:86
              refine wp_region_lit ?_
              refine st_y S rfl rfl rfl (y_int S rfl rfl rfl) ?_; clear S a; intro a S
              refine st_y S rfl rfl rfl (y_assign S rfl) ?_; clear S a; intro a S
              refine wpList_nil ?_
              replace S := S.sub [(2, _), (3, _), (4, _), (45, _), (49, _), (50, _)] rfl
              refine then_normal ?_
              refine st_split (t := 50) S rfl ?_ ?_
              · clear S; intro h50 S
                first | replace h50 := nrmA h50 | replace h50 := nrmB h50 | skip
                first | replace h50 := nrm1 h50 | replace h50 := nrm2 h50 | replace h50 := nrm3 h50 | replace h50 := nrm4 h50 | replace h50 := nrm5 h50 | replace h50 := nrm6 h50 | replace h50 := of_decide_eq_true h50 | replace h50 := of_decide_eq_false h50 | skip
                refine st_condT S rfl ?_
                refine wp_exit ?_
                refine then_exit ?_
                refine then_exit ?_
                refine block_hit ?_
                refine then_normal ?_
                refine wp_seq ?_
                refine wp_goto ?_
                refine then_goto ?_
                refine block_goto ?_
                refine block_goto ?_
                refine then_goto ?_
                refine block_goto ?_
                refine then_goto ?_
                refine sj_goto ?_
                exact ⟨hy1, hm1, by omega, S.sub _ rfl, M⟩
              · clear S; intro h50 S
                first | replace h50 := nrmA h50 | replace h50 := nrmB h50 | skip
                first | replace h50 := nrm1 h50 | replace h50 := nrm2 h50 | replace h50 := nrm3 h50 | replace h50 := nrm4 h50 | replace h50 := nrm5 h50 | replace h50 := nrm6 h50 | replace h50 := of_decide_eq_true h50 | replace h50 := of_decide_eq_false h50 | skip
                refine st_condF S rfl ?_
                refine wp_skip ?_
                refine then_normal ?_
                refine wp_seq ?_
                -- region 7 move.go:88
                refine wp_region_lit ?_
                refine st_y S rfl rfl rfl (y_int S rfl rfl rfl) ?_; clear S a; intro a S
                refine st_y S rfl rfl rfl (y_assign S rfl) ?_; clear S a; intro a S
                refine wpList_nil ?_
                replace S := S.sub [(2, _), (3, _), (4, _), (45, _), (49, _), (50, _), (52, _)] rfl
                refine then_normal ?_
                refine st_split (t := 52) S rfl ?_ ?_
                · clear S; intro h52 S
                  first | replace h52 := nrmA h52 | replace h52 := nrmB h52 | skip
                  first | replace h52 := nrm1 h52 | replace h52 := nrm2 h52 | replace h52 := nrm3 h52 | replace h52 := nrm4 h52 | replace h52 := nrm5 h52 | replace h52 := nrm6 h52 | replace h52 := of_decide_eq_true h52 | replace h52 := of_decide_eq_false h52 | skip
                  refine st_condT S rfl ?_
                  refine wp_exit ?_
                  refine then_exit ?_
                  refine block_miss rfl ?_
                  refine then_exit ?_
                  refine block_hit ?_
                  refine block_normal ?_
                  refine then_normal ?_
                  refine wp_seq ?_
                  refine wp_seq ?_
                  -- region 8 move.go:91
                  refine wp_region_lit ?_
                  refine st_y S rfl rfl rfl (y_build (ps := []) (pl := [(0, 1), (1, 3), (4, 2), (6, 1), (7, 1), (8, 1)]) (z := [.int .i8 0, .int .i64 0, .int .i64 0, .int .i64 0, .int .i64 0, .int .i64 0, .int .i64 0, .int .i64 0, .slice none 0 0]) (cs := [_, _, _, _, _, _, _, _, _]) S (by kernel_rfl) rfl (rfl)) ?_; clear S a; intro a S
                  refine st_store (sz := 9) (us := [_, _, _, _, _, _, _, _, _]) S M 0 rfl (by kernel_rfl) rfl rfl rfl rfl rfl rfl (by first | decide | (simp; done) | (simp; omega)) ?_; clear M; intro w17 M
                  simp only [putL, List.set_cons_zero, List.set_cons_succ, Nat.reduceAdd] at M
                  refine st_y S rfl rfl rfl (y_assign S rfl) ?_; clear S a; intro a S
                  refine st_y S rfl rfl rfl (y_assign S rfl) ?_; clear S a; intro a S
                  refine st_y S rfl rfl rfl (y_assign S rfl) ?_; clear S a; intro a S
                  refine wpList_nil ?_
                  replace S := S.sub [(2, _), (3, _), (4, _), (45, _), (49, _), (50, _), (52, _), (5, _), (6, _), (7, _)] rfl
                  refine then_normal ?_
                  refine wp_ret ?_
                  refine then_ret ?_
                  refine block_ret ?_
                  refine then_ret ?_
                  refine sj_ret ?_
                  refine end_four S rfl (res_agg (cs := [_, _, _, _, _, _, _, _, _]) (by kernel_rfl) rfl rfl (M.cellsAt (k := 9) 0 rfl rfl)) (res_tmp rfl) (res_tmp rfl) (res_tmp rfl) ?_
                  unfold hearM
                  rw [if_pos hy1, if_pos hm1, if_neg (by omega)]
                  exact ⟨none, 0, _, _, _, _, _, rfl, ((M.rowNil 36 8).rowNil 39 24).two⟩
                · clear S; intro h52 S
                  first | replace h52 := nrmA h52 | replace h52 := nrmB h52 | skip
                  first | replace h52 := nrm1 h52 | replace h52 := nrm2 h52 | replace h52 := nrm3 h52 | replace h52 := nrm4 h52 | replace h52 := nrm5 h52 | replace h52 := nrm6 h52 | replace h52 := of_decide_eq_true h52 | replace h52 := of_decide_eq_false h52 | skip
                  refine st_condF S rfl ?_
                  refine wp_skip ?_
                  refine then_normal ?_
                  refine wp_exit ?_
                  refine block_miss rfl ?_
                  refine then_exit ?_
                  refine block_miss rfl ?_
                  refine block_hit ?_
                  refine then_normal ?_
                  refine wp_seq ?_
                  refine wp_seq ?_
                  -- region 8 move.go:91
                  refine wp_region_lit ?_
                  refine st_y S rfl rfl rfl (y_build (ps := []) (pl := [(0, 1), (1, 3), (4, 2), (6, 1), (7, 1), (8, 1)]) (z := [.int .i8 0, .int .i64 0, .int .i64 0, .int .i64 0, .int .i64 0, .int .i64 0, .int .i64 0, .int .i64 0, .slice none 0 0]) (cs := [_, _, _, _, _, _, _, _, _]) S (by kernel_rfl) rfl (rfl)) ?_; clear S a; intro a S
                  refine st_store (sz := 9) (us := [_, _, _, _, _, _, _, _, _]) S M 0 rfl (by kernel_rfl) rfl rfl rfl rfl rfl rfl (by first | decide | (simp; done) | (simp; omega)) ?_; clear M; intro w18 M
                  simp only [putL, List.set_cons_zero, List.set_cons_succ, Nat.reduceAdd] at M
                  refine st_y S rfl rfl rfl (y_assign S rfl) ?_; clear S a; intro a S
                  refine st_y S rfl rfl rfl (y_assign S rfl) ?_; clear S a; intro a S
                  refine st_y S rfl rfl rfl (y_assign S rfl) ?_; clear S a; intro a S
                  refine wpList_nil ?_
                  replace S := S.sub [(2, _), (3, _), (4, _), (45, _), (49, _), (50, _), (52, _), (5, _), (6, _), (7, _)] rfl
                  refine then_normal ?_
                  refine wp_ret ?_
                  refine then_ret ?_
                  refine block_ret ?_
                  refine then_ret ?_
                  refine sj_ret ?_
                  refine end_four S rfl (res_agg (cs := [_, _, _, _, _, _, _, _, _]) (by kernel_rfl) rfl rfl (M.cellsAt (k := 9) 0 rfl rfl)) (res_tmp rfl) (res_tmp rfl) (res_tmp rfl) ?_
                  unfold hearM
                  rw [if_pos hy1, if_pos hm1, if_neg (by omega)]
                  exact ⟨none, 0, _, _, _, _, _, rfl, ((M.rowNil 36 8).rowNil 39 24).two⟩
  · clear S a M; intro a wc
    rintro ⟨hy1, hm1, he0, S, M⟩
    have hx4 := ok_len hy1.1
    have hw1 := ok_way hy1.1 (by omega)
    refine wp_seq ?_
    refine wp_skip ?_
    refine then_normal ?_
    refine wp_seq ?_
    -- region 9 move.go:94
    refine wp_regionK [12, 14] #[false, false, false, false, false, false, false, false, false, false, false, false, false, false, false] rfl M (by kernel_rfl) ?_; clear M; intro w19 M
    refine k_pure (listed' := #[true, false, false, false, false, false, false, false, false, false, false, false, false, false, false]) 0 S rfl rfl rfl rfl (by kernel_rfl) rfl (fun _ d _ _ _ h => by cases d <;> exact h) (fun w => y_fieldAddr (k := 8) S (by kernel_rfl) rfl) ?_; clear S a; intro a S
    refine k_read (listed' := #[true, true, false, false, false, false, false, false, false, false, false, false, false, false, false]) 1 S rfl rfl rfl rfl (by kernel_rfl) rfl (fun _ d _ _ _ h => by cases d <;> exact h) (fun w hW => have M := M.grow hW; y_load S (by kernel_rfl) rfl (M.cell 2 rfl rfl)) ?_; clear S a; intro a S
    refine k_pure (listed' := #[true, true, true, false, false, false, false, false, false, false, false, false, false, false, false]) 2 S rfl rfl rfl rfl (by kernel_rfl) rfl (fun _ d _ _ _ h => by cases d <;> exact h) (fun w => y_fieldAddr (k := 8) S (by kernel_rfl) rfl) ?_; clear S a; intro a S
    refine k_read (listed' := #[true, true, true, true, false, false, false, false, false, false, false, false, false, false, false]) 3 S rfl rfl rfl rfl (by kernel_rfl) rfl (fun _ d _ _ _ h => by cases d <;> exact h) (fun w hW => have M := M.grow hW; y_load S (by kernel_rfl) rfl (M.cell 2 rfl rfl)) ?_; clear S a; intro a S
    refine k_pure (listed' := #[true, true, true, true, true, false, false, false, false, false, false, false, false, false, false]) 4 S rfl rfl rfl rfl (by kernel_rfl) rfl (fun _ d _ _ _ h => by cases d <;> exact h) (fun w => y_lenS (E := 36) S rfl (by kernel_rfl)) ?_; clear S a; intro a S
    refine k_pure (listed' := #[true, true, true, true, true, true, false, false, false, false, false, false, false, false, false]) 5 S rfl rfl rfl rfl (by kernel_rfl) rfl (fun _ d _ _ _ h => by cases d <;> exact h) (fun w => y_fieldAddr (k := 8) S (by kernel_rfl) rfl) ?_; clear S a; intro a S
    refine k_read (listed' := #[true, true, true, true, true, true, true, false, false, false, false, false, false, false, false]) 6 S rfl rfl rfl rfl (by kernel_rfl) rfl (fun _ d _ _ _ h => by cases d <;> exact h) (fun w hW => have M := M.grow hW; y_load S (by kernel_rfl) rfl (M.cell 2 rfl rfl)) ?_; clear S a; intro a S
    refine k_pure (listed' := #[true, true, true, true, true, true, true, true, false, false, false, false, false, false, false]) 7 S rfl rfl rfl rfl (by kernel_rfl) rfl (fun _ d _ _ _ h => by cases d <;> exact h) (fun w => y_lenS (E := 36) S rfl (by kernel_rfl)) ?_; clear S a; intro a S
    refine k_pure (listed' := #[true, true, true, true, true, true, true, true, true, false, false, false, false, false, false]) 8 S rfl rfl rfl rfl (by kernel_rfl) rfl (fun _ d _ _ _ h => by cases d <;> exact h) (fun w => y_slice03 (e := 36) (sz := 8) S (by kernel_rfl) rfl rfl rfl (by first | omega | (simp; done) | (simp; omega))) ?_; clear S a; intro a S
    refine k_pure (listed' := #[true, true, true, true, true, true, true, true, true, true, false, false, false, false, false]) 9 S rfl rfl rfl rfl (by kernel_rfl) rfl (fun _ d _ _ _ h => by cases d <;> exact h) (fun w => y_fieldAddr (k := 11) S (by kernel_rfl) rfl) ?_; clear S a; intro a S
    refine k_read (listed' := #[true, true, true, true, true, true, true, true, true, true, true, false, false, false, false]) 10 S rfl rfl rfl rfl (by kernel_rfl) rfl (fun _ d _ _ _ h => by cases d <;> exact h) (fun w hW => have M := M.grow hW; y_loadAgg (cs := [_, _, _, _, _, _, _, _]) S (by kernel_rfl) rfl rfl (M.cellsAt (k := 8) 1 rfl rfl)) ?_; clear S a; intro a S
    refine k_one (listed' := #[true, true, true, true, true, true, true, true, true, true, true, true, false, false, false]) 11 rfl (by kernel_rfl) rfl ?_
    refine st_lit (ps := [(0, (Operand.tmp 65))]) (e := 36) (sz := 8) (zl := [.int .u8 0, .int .u8 0, .int .u8 0, .int .u8 0, .int .u8 0, .int .u8 0, .int .u8 0, .int .u8 0]) (cs := [_, _, _, _, _, _, _, _]) S M rfl rfl (by kernel_rfl) rfl (rfl) ?_; clear S M a; intro a w20 bZ S M hB
    refine wpList_nil ?_; refine then_normal ?_; refine ⟨fun _ => hB, ?_⟩
    refine k_one (listed' := #[true, true, true, true, true, true, true, true, true, true, true, true, true, false, false]) 12 rfl (by kernel_rfl) rfl ?_
    refine st_appendG (e := 36) (sz := 8) (by_ := 8) (zc := [.int .u8 0, .int .u8 0, .int .u8 0, .int .u8 0, .int .u8 0, .int .u8 0, .int .u8 0, .int .u8 0]) S M rfl rfl (by kernel_rfl) rfl rfl rfl ((M.arg hv).recap) (by simp [capV]; omega) (show Rd _ _ _ 8 _ 1 (vcells [g.val]) from M.sliceAt 0 rfl (M.cellsAt (k := 8) 0 rfl rfl) rfl (Nat.le_refl _) (by unfold maxLen; omega)) (by omega) (by unfold maxLen; omega) ?_; clear S M a; intro a w21 vA loA hiA S M
    refine wpList_nil ?_; refine then_normal ?_; refine ⟨fun h => absurd h (by decide), ?_⟩
    refine k_pure (listed' := #[true, true, true, true, true, true, true, true, true, true, true, true, true, true, false]) 13 S rfl rfl rfl rfl (by kernel_rfl) rfl (fun _ d _ _ _ h => by cases d <;> exact h) (fun w => y_fieldAddr (k := 8) S (by kernel_rfl) rfl) ?_; clear S a; intro a S
    refine k_one (listed' := #[true, true, true, true, true, true, true, true, true, true, true, true, true, true, true]) 14 rfl (by kernel_rfl) rfl ?_
    obtain ⟨ad, cp, hE, -, -⟩ := (M.readRow 0 rfl (by unfold maxLen; omega)).form
    subst hE
    refine st_store (sz := 1) (us := [_]) S M 4 rfl (by kernel_rfl) rfl rfl rfl rfl rfl rfl (by first | decide | (simp; done) | (simp; omega)) ?_; clear M; intro w22 M
    simp only [putL, List.set_cons_zero, List.set_cons_succ, Nat.reduceAdd] at M
    refine wpList_nil ?_; refine then_normal ?_; refine ⟨fun h => absurd h (by decide), ?_⟩
    refine k_end (by kernel_rfl) ?_
    replace S := S.sub [(2, _), (3, _), (4, _)] rfl
    refine then_normal ?_
    refine wp_seq ?_
    refine wp_seq ?_
    -- region 10 move.go:95
    refine wp_region_lit ?_
    refine st_y S rfl rfl rfl (y_fieldAddr (k := 7) S (by kernel_rfl) rfl) ?_; clear S a; intro a S
    refine st_y S rfl rfl rfl (y_load S (by kernel_rfl) rfl (M.cell 4 rfl rfl)) ?_; clear S a; intro a S
    refine st_y S rfl rfl rfl (y_int S rfl rfl rfl) ?_; clear S a; intro a S
    refine wpList_nil ?_
    replace S := S.sub [(2, _), (3, _), (4, _), (71, _)] rfl
    refine then_normal ?_
    refine st_split (t := 71) S rfl ?_ ?_
    · clear S; intro h71 S
      first | replace h71 := nrmA h71 | replace h71 := nrmB h71 | skip
      first | replace h71 := nrm1 h71 | replace h71 := nrm2 h71 | replace h71 := nrm3 h71 | replace h71 := nrm4 h71 | replace h71 := nrm5 h71 | replace h71 := nrm6 h71 | replace h71 := of_decide_eq_true h71 | replace h71 := of_decide_eq_false h71 | skip
      refine st_condT S rfl ?_
      refine wp_seq ?_
      -- region 11 move.go:96
      refine wp_region_lit ?_
      refine st_y S rfl rfl rfl (y_fieldAddr (k := 0) S (by kernel_rfl) rfl) ?_; clear S a; intro a S
      refine st_store (sz := 1) (us := [_]) S M 4 rfl (by kernel_rfl) rfl rfl rfl rfl rfl rfl (by first | decide | (simp; done) | (simp; omega)) ?_; clear M; intro w23 M
      simp only [putL, List.set_cons_zero, List.set_cons_succ, Nat.reduceAdd] at M
      refine wpList_nil ?_
      replace S := S.sub [(2, _), (3, _), (4, _), (71, _)] rfl
      refine then_normal ?_
      refine wp_seq ?_
      -- region 12 move.go:97
      refine wp_region_lit ?_
      refine st_y S rfl rfl rfl (y_loadAgg (cs := [_, _, _, _, _, _, _, _, _]) S (by kernel_rfl) rfl rfl (M.cellsAt (k := 9) 4 rfl rfl)) ?_; clear S a; intro a S
      refine st_store (sz := 9) (us := [_, _, _, _, _, _, _, _, _]) S M 2 rfl (by kernel_rfl) rfl rfl rfl rfl rfl rfl (by first | decide | (simp; done) | (simp; omega)) ?_; clear M; intro w24 M
      simp only [putL, List.set_cons_zero, List.set_cons_succ, Nat.reduceAdd] at M
      refine st_y S rfl rfl rfl (y_assign S rfl) ?_; clear S a; intro a S
      refine st_y S rfl rfl rfl (y_assign S rfl) ?_; clear S a; intro a S
      refine st_y S rfl rfl rfl (y_assign S rfl) ?_; clear S a; intro a S
      refine wpList_nil ?_
      replace S := S.sub [(2, _), (3, _), (4, _), (71, _), (5, _), (6, _), (7, _)] rfl
      refine then_normal ?_
      refine wp_ret ?_
      refine then_ret ?_
      refine sc_ret ?_
      refine end_four S rfl (res_agg (cs := [_, _, _, _, _, _, _, _, _]) (by kernel_rfl) rfl rfl (M.cellsAt (k := 9) 2 rfl rfl)) (res_tmp rfl) (res_tmp rfl) (res_tmp rfl) ?_
      unfold hearM
      rw [if_pos hy1, if_pos hm1, if_pos he0, if_pos (by assumption)]
      rw [← vcells_append] at M
      have el : x.length + 1 = (x ++ [g.val]).length := by simp
      rw [el] at M ⊢
      exact ⟨ad, cp, _, _, _, _, _, rfl, (M.rowNil 39 24).two⟩
    · clear S; intro h71 S
      first | replace h71 := nrmA h71 | replace h71 := nrmB h71 | skip
      first | replace h71 := nrm1 h71 | replace h71 := nrm2 h71 | replace h71 := nrm3 h71 | replace h71 := nrm4 h71 | replace h71 := nrm5 h71 | replace h71 := nrm6 h71 | replace h71 := of_decide_eq_true h71 | replace h71 := of_decide_eq_false h71 | skip
      refine st_condF S rfl ?_
      refine wp_skip ?_
      refine then_normal ?_
      refine wp_seq ?_
      -- region 13 move.go:99
      refine wp_region_lit ?_
      refine st_y S rfl rfl rfl (y_fieldAddr (k := 7) S (by kernel_rfl) rfl) ?_; clear S a; intro a S
      refine st_y S rfl rfl rfl (y_load S (by kernel_rfl) rfl (M.cell 4 rfl rfl)) ?_; clear S a; intro a S
      (first | refine st_y S rfl rfl rfl (y_addN S rfl rfl (by omega)) ?_ | refine st_y S rfl rfl rfl (y_int S rfl rfl rfl) ?_); clear S a; intro a S
      refine st_y S rfl rfl rfl (y_fieldAddr (k := 7) S (by kernel_rfl) rfl) ?_; clear S a; intro a S
      refine st_store (sz := 1) (us := [_]) S M 4 rfl (by kernel_rfl) rfl rfl rfl rfl rfl rfl (by first | decide | (simp; done) | (simp; omega)) ?_; clear M; intro w25 M
      simp only [putL, List.set_cons_zero, List.set_cons_succ, Nat.reduceAdd] at M
      refine wpList_nil ?_
      replace S := S.sub [(2, _), (3, _), (4, _), (71, _)] rfl
      refine then_normal ?_
      refine wp_seq ?_
      -- region 14 move.go:100
      refine wp_regionK [4] #[false, false, false, false, false, false, false, false] rfl M (by kernel_rfl) ?_; clear M; intro w26 M
      refine k_read (listed' := #[true, false, false, false, false, false, false, false]) 0 S rfl rfl rfl rfl (by kernel_rfl) rfl (fun _ d _ _ _ h => by cases d <;> exact h) (fun w hW => have M := M.grow hW; y_loadAgg (cs := [_, _, _, _, _, _, _, _, _]) S (by kernel_rfl) rfl rfl (M.cellsAt (k := 9) 4 rfl rfl)) ?_; clear S a; intro a S
      refine k_read (listed' := #[true, true, false, false, false, false, false, false]) 1 S rfl rfl rfl rfl (by kernel_rfl) rfl (fun _ d _ _ _ h => by cases d <;> exact h) (fun w hW => have M := M.grow hW; y_loadAgg (cs := [_, _, _, _, _, _, _, _, _]) S (by kernel_rfl) rfl rfl (M.cellsAt (k := 9) 4 rfl rfl)) ?_; clear S a; intro a S
      refine k_one (listed' := #[true, true, true, false, false, false, false, false]) 2 rfl (by kernel_rfl) rfl ?_
      refine st_call (xs := [(Operand.tmp 79)]) S (enters_of Try.func17 (by decide) rfl) rfl rfl rfl (exec_any { m with n := m.n + 1 } ad (x.length + 1) cp _ (by simp only; omega)) ?_
      rintro _ w27 ⟨rfl, hK⟩; refine ⟨_, rfl, ?_⟩; clear S a; intro a S; replace M := M.grow hK
      refine wpList_nil ?_; refine then_normal ?_; refine ⟨fun _ => hK, ?_⟩
      refine k_two (l1 := #[true, true, true, true, false, false, false, false]) (l2 := #[true, true, true, false, true, false, false, false]) 3 4 rfl rfl (by kernel_rfl) rfl rfl ?_ ?_
      · skip
        refine st_lit (ps := [(0, (Operand.tmp 80))]) (e := 39) (sz := 24) (zl := [.int .i8 0, .int .i64 0, .int .i64 0, .int .i64 0, .int .i64 0, .int .i64 0, .int .i64 0, .int .i64 0, .int .i64 0, .int .i8 0, .int .i64 0, .int .u8 0, .int .u8 0, .int .u8 0, .int .u8 0, .int .u8 0, .int .u8 0, .int .u8 0, .int .u8 0, .int .i64 0, .bool false, .int .i64 0, .int .i64 0, .slice none 0 0]) (cs := ((execM { m with n := m.n + 1 }).cells (.slice none 0 0)).toList) S M rfl rfl (by kernel_rfl) rfl (by kernel_rfl) ?_; clear S M a; intro a w28 bL S M hB
        refine wpList_nil ?_; refine then_normal ?_; refine ⟨fun _ => hB, ?_⟩
        refine k_one (listed' := #[true, true, true, true, true, false, false, false]) 4 rfl (by kernel_rfl) rfl ?_
        refine st_store (sz := 9) (us := [_, _, _, _, _, _, _, _, _]) S M 3 rfl (by kernel_rfl) rfl rfl rfl rfl rfl rfl (by first | decide | (simp; done) | (simp; omega)) ?_; clear M; intro w29 M
        simp only [putL, List.set_cons_zero, List.set_cons_succ, Nat.reduceAdd] at M
        refine wpList_nil ?_; refine then_normal ?_; refine ⟨fun h => absurd h (by decide), ?_⟩
        refine k_pure (listed' := #[true, true, true, true, true, true, false, false]) 5 S rfl rfl rfl rfl (by kernel_rfl) rfl (fun _ d _ _ _ h => by cases d <;> exact h) (fun w => y_assign S rfl) ?_; clear S a; intro a S
        refine k_pure (listed' := #[true, true, true, true, true, true, true, false]) 6 S rfl rfl rfl rfl (by kernel_rfl) rfl (fun _ d _ _ _ h => by cases d <;> exact h) (fun w => y_assign S rfl) ?_; clear S a; intro a S
        refine k_pure (listed' := #[true, true, true, true, true, true, true, true]) 7 S rfl rfl rfl rfl (by kernel_rfl) rfl (fun _ d _ _ _ h => by cases d <;> exact h) (fun w => y_assign S rfl) ?_; clear S a; intro a S
        refine k_end (by kernel_rfl) ?_
        replace S := S.sub [(2, _), (3, _), (4, _), (71, _), (5, _), (6, _), (7, _)] rfl
        refine then_normal ?_
        refine wp_ret ?_
        refine sc_ret ?_
        refine end_four S rfl (res_agg (cs := [_, _, _, _, _, _, _, _, _]) (by kernel_rfl) rfl rfl (M.cellsAt (k := 9) 3 rfl rfl)) (res_tmp rfl) (res_tmp rfl) (res_tmp rfl) ?_
        unfold hearM
        rw [if_pos hy1, if_pos hm1, if_pos he0, if_neg (by assumption)]
        replace M := M.front 1 rfl
        simp only [List.eraseIdx_cons_succ, List.eraseIdx_cons_zero] at M
        replace M := M.toRow (m := 1) (cap := 1) (sz := 24) (xs := msC [execM { m with n := m.n + 1 }]) 1 rfl rfl (Nat.le_refl _) (by unfold maxLen; omega) rfl rfl
        rw [← vcells_append] at M
        have el : x.length + 1 = (x ++ [g.val]).length := by simp
        rw [el] at M ⊢
        exact ⟨ad, cp, _, _, _, _, _, rfl, M.two⟩
      · skip
        refine st_store (sz := 9) (us := [_, _, _, _, _, _, _, _, _]) S M 2 rfl (by kernel_rfl) rfl rfl rfl rfl rfl rfl (by first | decide | (simp; done) | (simp; omega)) ?_; clear M; intro w30 M
        simp only [putL, List.set_cons_zero, List.set_cons_succ, Nat.reduceAdd] at M
        refine wpList_nil ?_; refine then_normal ?_; refine ⟨fun h => absurd h (by decide), ?_⟩
        refine k_one (listed' := #[true, true, true, true, true, false, false, false]) 3 rfl (by kernel_rfl) rfl ?_
        refine st_lit (ps := [(0, (Operand.tmp 80))]) (e := 39) (sz := 24) (zl := [.int .i8 0, .int .i64 0, .int .i64 0, .int .i64 0, .int .i64 0, .int .i64 0, .int .i64 0, .int .i64 0, .int .i64 0, .int .i8 0, .int .i64 0, .int .u8 0, .int .u8 0, .int .u8 0, .int .u8 0, .int .u8 0, .int .u8 0, .int .u8 0, .int .u8 0, .int .i64 0, .bool false, .int .i64 0, .int .i64 0, .slice none 0 0]) (cs := ((execM { m with n := m.n + 1 }).cells (.slice none 0 0)).toList) S M rfl rfl (by kernel_rfl) rfl (by kernel_rfl) ?_; clear S M a; intro a w31 bL S M hB
        refine wpList_nil ?_; refine then_normal ?_; refine ⟨fun _ => hB, ?_⟩
        refine k_pure (listed' := #[true, true, true, true, true, true, false, false]) 5 S rfl rfl rfl rfl (by kernel_rfl) rfl (fun _ d _ _ _ h => by cases d <;> exact h) (fun w => y_assign S rfl) ?_; clear S a; intro a S
        refine k_pure (listed' := #[true, true, true, true, true, true, true, false]) 6 S rfl rfl rfl rfl (by kernel_rfl) rfl (fun _ d _ _ _ h => by cases d <;> exact h) (fun w => y_assign S rfl) ?_; clear S a; intro a S
        refine k_pure (listed' := #[true, true, true, true, true, true, true, true]) 7 S rfl rfl rfl rfl (by kernel_rfl) rfl (fun _ d _ _ _ h => by cases d <;> exact h) (fun w => y_assign S rfl) ?_; clear S a; intro a S
        refine k_end (by kernel_rfl) ?_
        replace S := S.sub [(2, _), (3, _), (4, _), (71, _), (5, _), (6, _), (7, _)] rfl
        refine then_normal ?_
        refine wp_ret ?_
        refine sc_ret ?_
        refine end_four S rfl (res_agg (cs := [_, _, _, _, _, _, _, _, _]) (by kernel_rfl) rfl rfl (M.cellsAt (k := 9) 3 rfl rfl)) (res_tmp rfl) (res_tmp rfl) (res_tmp rfl) ?_
        unfold hearM
        rw [if_pos hy1, if_pos hm1, if_pos he0, if_neg (by assumption)]
        replace M := M.front 1 rfl
        simp only [List.eraseIdx_cons_succ, List.eraseIdx_cons_zero] at M
        replace M := M.toRow (m := 1) (cap := 1) (sz := 24) (xs := msC [execM { m with n := m.n + 1 }]) 1 rfl rfl (Nat.le_refl _) (by unfold maxLen; omega) rfl rfl
        rw [← vcells_append] at M
        have el : x.length + 1 = (x ++ [g.val]).length := by simp
        rw [el] at M ⊢
        exact ⟨ad, cp, _, _, _, _, _, rfl, M.two⟩

end Go.Proofs.Ytgocjpcmjljeoaa
