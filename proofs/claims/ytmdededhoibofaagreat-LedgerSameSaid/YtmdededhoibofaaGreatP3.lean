/-
  What LedgerSame rests on, part 3.
-/
import Derived.Test.YtmdededhoibofaaGreatP2
namespace Go.Proofs.YtmdededhoibofaaGreat
open Go.RowKit Go.Sort
theorem rd_rcs {wc w : World} {H : List Ent} {lo hi : Nat} {v : Value} {l : List Rc} (M : Mem wc w H) {p : Nat} (h : H[p]? = some (rowE lo hi 29 12 v l.length (rcsC l))) (hl : l.length ≤ 1000) : Rd 0 w.heap.size w 12 v l.length (rcsC l) := M.readAll p h (by unfold maxLen; omega)
abbrev opV (va : Option Addr) (vc : Nat) (op : List Rc) : Value := .slice va op.length vc
abbrev opE (lo hi : Nat) (va : Option Addr) (vc : Nat) (op : List Rc) : Ent := rowE lo hi 29 12 (opV va vc op) op.length (rcsC op)
theorem Blk.cells0 {w : World} {b : Nat} {cs : Array Value} {t : TypeId} (B : Blk w b cs t) {w' : World} (hb : Below w.heap.size w w') : Blk w' b cs t := (hb.block b B.lt).trans B
theorem Ls.end_no {s : Ls} {nm : Nm} (h : fd s.op nm = none) : s.end_ nm = s := by unfold Ls.end_ endL; rw [h]
theorem Ls.end_yes {s : Ls} {nm : Nm} {k : Nat} (h : fd s.op nm = some k) : s.end_ nm = { s with op := s.op.eraseIdx k } := by unfold Ls.end_ endL; rw [h]
theorem stC_map (s : Ls) (v : Value) {k : Nat} (x : Int) (h : k < 8) : putL (stC s v) (14 + k) [.int .i64 x] = stC { s with cu := s.cu.mSet k x } v := by
  rcases lt8 h with rfl | rfl | rfl | rfl | rfl | rfl | rfl | rfl <;> rfl
theorem lgC_map {d : Value} (s : Ls) (v : Value) {k : Nat} (x : Int) (h : k < 8) : putL (lgC d s v) (15 + k) [.int .i64 x] = lgC d { s with cu := s.cu.mSet k x } v := by
  rcases lt8 h with rfl | rfl | rfl | rfl | rfl | rfl | rfl | rfl <;> rfl
/-- what comes of the commits -/
def Ls.comm (s : Ls) (r : Rc) : Ls := { s with op := commitL s.op r }
theorem Ls.comm_yes {s : Ls} {r : Rc} {k : Nat} (h : fd s.op r.name = some k) : s.comm r = { s with op := s.op.set k r } := by unfold Ls.comm commitL; rw [h]
theorem Ls.comm_no {s : Ls} {r : Rc} (h : fd s.op r.name = none) : s.comm r = { s with op := s.op ++ [r] } := by unfold Ls.comm commitL; rw [h]
theorem Ls.commit_no {s : Ls} {r : Rc} (h : ¬ 0 ≤ r.cs) : s.commit r = s.comm r := by unfold Ls.commit; rw [if_neg h]; rfl
theorem Ls.commit_yes {s : Ls} {r : Rc} (h : 0 ≤ r.cs) : s.commit r = { s.comm r with cu := s.cu.mSet r.cs.toNat r.ct } := by unfold Ls.commit; rw [if_pos h]; rfl
set_option maxHeartbeats 400000 in
theorem find0_any {b : Nat} (s : Ls) (va : Option Addr) (vc : Nat) (nm : Nm) (w : World) (B : Blk w b (stC s (opV va vc s.op)).toArray 74) (hv : Rd 0 w.heap.size w 12 (opV va vc s.op) s.op.length (rcsC s.op)) :
    Calls Tryz.prog 39 #[.pointer (some ⟨b, 0, none⟩), .agg nm.cells] w fun e w' => e = .returned (.int .i64 (fdI s.op nm)) ∧ Below w.heap.size w w' := by
  have M := Mem.start w
  refine calls_enter Tryz.func39 rfl 11 rfl rfl ?_; intro a S
  refine nxD ?_
  refine st_box S M rfl rfl rfl #[_, _, _] rfl ?_; clear S M a; intro a w1 bX S M hB
  refine st_go [1] S rfl (by kernel_rfl) ?_; clear S a; intro a S
  refine nxA ?_
  refine st_go [1, 1, 25] S rfl (by kernel_rfl) ?_; clear S a; intro a S
  refine st_y S rfl rfl rfl (y_load S (by kernel_rfl) rfl (by rw [(B.cells0 M.below).cells]; rfl)) ?_; clear S a; intro a S
  refine st_y S rfl rfl rfl (y_makeFunc (fs := []) (cs := [(Operand.tmp 3)]) S rfl rfl) ?_; clear S a; intro a S
  refine st_call (xs := [(Operand.tmp 8), (Operand.tmp 9)]) S (enters_of Tryz.func63 (by decide) rfl) rfl rfl rfl (indexFuncR_any (fi := []) (ca := [.pointer (some ⟨bX, 0, none⟩)]) (enters_of Tryz.func64 (by decide) rfl) va vc s.op (fun q => q.name.eqb nm) _ (M.argW hv) (fun q w' hb => findC_any q nm bX w' ((hb.block bX (M.blk 0 rfl).lt).trans (M.blk 0 rfl)))) ?_
  rintro _ w2 ⟨j, rfl, hK, hj⟩; refine ⟨_, rfl, ?_⟩; clear S a; intro a S; replace M := M.grow hK
  obtain rfl := firstR_fd hj
  refine st_go [1] S rfl (by kernel_rfl) ?_; clear S a; intro a S
  refine nxC ?_
  refine wp_ret ?_
  refine end_one S rfl (res_tmp rfl) ?_
  exact ⟨rfl, M.below⟩
set_option maxHeartbeats 400000 in
theorem stamps0_any {wc w : World} {H : List Ent} {b : Nat} (s : Ls) (v : Value) (r : Rc) (wv : Value) (M : Mem wc w (.blk b (stC s v).toArray 74 :: H)) :
    Calls Tryz.prog 60 #[.pointer (some ⟨b, 0, none⟩), .agg (r.cells wv)] w fun e w' => e = .returned (.tuple #[]) ∧ Mem wc w' (.blk b (stC (s.stamps r.n) v).toArray 74 :: H) := by
  refine calls_enter Tryz.func60 rfl 9 rfl rfl ?_; intro a S
  refine wp_seq ?_
  skip
  refine wp_region_lit ?_
  refine st_box S M rfl rfl rfl #[_, _, _, _, _, _, _, _, _, _, _, _] rfl ?_; clear S M a; intro a w1 bX S M hB
  refine nxB ?_
  refine st_run [1, 12, 1, 1, 14] S M rfl (by kernel_rfl) ?_; clear S a; intro a S
  refine st_store (sz := 1) (us := [_]) S M 1 rfl (by kernel_rfl) rfl rfl rfl rfl rfl rfl (by first | decide | (simp; done) | (simp; omega)) ?_; clear M; intro w2 M
  simp only [putL, List.set_cons_zero, List.set_cons_succ, Nat.reduceAdd] at M
  refine wpList_nil ?_
  refine end_noneN S rfl ?_
  exact ⟨rfl, M.drop 0⟩
set_option maxHeartbeats 1000000 in
theorem end0_any {wc w : World} {H : List Ent} {b lo hi : Nat} (s : Ls) (va : Option Addr) (vc : Nat) (r : Rc) (wv : Value) (M : Mem wc w (.blk b (stC s (opV va vc s.op)).toArray 74 :: opE lo hi va vc s.op :: H)) (hl : s.op.length ≤ 1000) :
    Calls Tryz.prog 59 #[.pointer (some ⟨b, 0, none⟩), .agg (r.cells wv)] w fun e w' => e = .returned (.tuple #[]) ∧ ∃ lo2 hi2 va2 vc2, Mem wc w' (.blk b (stC (s.end_ r.name) (opV va2 vc2 (s.end_ r.name).op)).toArray 74 :: opE lo2 hi2 va2 vc2 (s.end_ r.name).op :: H) := by
  refine calls_enter Tryz.func59 rfl 22 rfl rfl ?_; intro a S
  refine wp_seq ?_
  skip
  refine wp_region_lit ?_
  refine st_box S M rfl rfl rfl #[_, _, _, _, _, _, _, _, _, _, _, _] rfl ?_; clear S M a; intro a w1 bX S M hB
  refine nxA ?_
  refine st_go [1, 2] S rfl (by kernel_rfl) ?_; clear S a; intro a S
  refine st_y S rfl rfl rfl (y_loadAgg (cs := [_, _, _]) S (by kernel_rfl) rfl rfl (M.cellsAt (k := 3) 0 rfl rfl)) ?_; clear S a; intro a S
  refine st_call (xs := [(Operand.tmp 5), (Operand.tmp 7)]) S (enters_of Tryz.func39 (by decide) rfl) rfl rfl rfl (find0_any s va vc r.name _ (M.blk 1 rfl) (rd_rcs M (p := 2) rfl hl)) ?_
  rintro _ w2 ⟨rfl, hK⟩; refine ⟨_, rfl, ?_⟩; clear S a; intro a S; replace M := M.grow hK
  refine st_go [1] S rfl (by kernel_rfl) ?_; clear S a; intro a S
  refine nxA ?_
  refine st_go [1, 1] S rfl (by kernel_rfl) ?_; clear S a; intro a S
  refine nxC ?_
  refine st_fi (t := 10) S rfl ?_ ?_
  · clear S; intro h10 S
    refine st_condF S rfl ?_
    refine wp_skip ?_
    refine end_noneN S rfl ?_
    first
      | (rw [Ls.end_no (fdI_neg (by omega))]
         exact ⟨rfl, _, _, _, _, M.drop 0⟩)
      | (rw [Ls.end_yes hk]
         exact ⟨rfl, _, _, _, _, (M.drop 1).perm (List.Perm.swap _ _ _)⟩)
  clear S; intro h10 S
  refine st_condT S rfl ?_
  obtain ⟨k, hk, hke⟩ := fdI_nn h10
  have hkl := fd_lt hk
  rw [hke] at S
  have hel : (s.op.eraseIdx k).length = s.op.length - 1 := by rw [List.length_eraseIdx, if_pos hkl]
  replace M := M.front 2 rfl
  simp only [List.eraseIdx_cons_succ, List.eraseIdx_cons_zero] at M
  obtain ⟨g, cap, more, hv9, hmc, hcm, hlen, M1⟩ := M.ofRow (by omega)
  cases hv9
  have hle9 : (s.op.eraseIdx k).length ≤ vc := by omega
  clear M; have M := M1; clear M1
  refine wp_region_lit ?_
  refine st_run [1, 1, 1, 25, 3, 1, 1] S M rfl (by kernel_rfl) ?_; clear S a; intro a S
  (first | refine st_y S rfl rfl rfl (y_addN S rfl rfl (by omega)) ?_ | refine st_y S rfl rfl rfl (y_int S rfl rfl rfl) ?_); clear S a; intro a S
  refine st_call (xs := [(Operand.tmp 15), (Operand.tmp 16), (Operand.tmp 18)]) S (enters_of Tryz.func100 (by decide) rfl) rfl rfl rfl (deleteR_any M (rcsC_len _) (by rw [rcsC_drop _ (by omega)]; exact allOne_rcs _) hlen hmc hcm hkl) ?_
  rintro _ w3 ⟨rfl, more2, hl2, M2⟩; refine ⟨_, rfl, ?_⟩; clear S M a; intro a S
  rw [rcsC_erase _ hkl, ← hel] at *
  have M := M2.toRow (sz := 12) (m := (s.op.eraseIdx k).length) (cap := vc) (xs := rcsC (s.op.eraseIdx k)) 0 rfl (rcsC_len _) hle9 hcm (by simpa using hl2) (by rw [List.toList_toArray, ← rcsC_len]; exact List.take_left)
  clear M2
  simp only [List.eraseIdx_cons_zero] at M
  refine st_go [1, 25] S rfl (by kernel_rfl) ?_; clear S a; intro a S
  refine st_store (sz := 1) (us := [_]) S M 2 rfl (by kernel_rfl) rfl rfl rfl rfl rfl rfl (by first | decide | (simp; done) | (simp; omega)) ?_; clear M; intro w4 M
  simp only [putL, List.set_cons_zero, List.set_cons_succ, Nat.reduceAdd] at M
  replace S := S.sub [(0, _), (1, _), (3, _), (4, _), (10, _)] rfl
  refine wpList_nil ?_
  refine end_noneN S rfl ?_
  first
    | (rw [Ls.end_no (fdI_neg (by omega))]
       exact ⟨rfl, _, _, _, _, M.drop 0⟩)
    | (rw [Ls.end_yes hk]
       exact ⟨rfl, _, _, _, _, (M.drop 1).perm (List.Perm.swap _ _ _)⟩)
set_option maxHeartbeats 1000000 in
theorem commit0_any {wc w : World} {H : List Ent} {b lo hi : Nat} (s : Ls) (va : Option Addr) (vc : Nat) (r : Rc) (wv : Value) (M : Mem wc w (.blk b (stC s (opV va vc s.op)).toArray 74 :: opE lo hi va vc s.op :: H)) (hl : s.op.length ≤ 1000) (hc : r.cs < 8) :
    Calls Tryz.prog 58 #[.pointer (some ⟨b, 0, none⟩), .agg (r.cells wv)] w fun e w' => e = .returned (.tuple #[]) ∧ ∃ lo2 hi2 va2 vc2, Mem wc w' (.blk b (stC (s.commit r) (opV va2 vc2 (s.commit r).op)).toArray 74 :: opE lo2 hi2 va2 vc2 (s.commit r).op :: H) := by
  refine calls_enter Tryz.func58 rfl 43 rfl rfl ?_; intro a S
  refine wp_seq ?_
  skip
  refine wp_region_lit ?_
  refine st_box S M rfl rfl rfl #[_, _, _, _, _, _, _, _, _, _, _, _] rfl ?_; clear S M a; intro a w1 bX S M hB
  refine nxA ?_
  refine st_go [6] S rfl (by kernel_rfl) ?_; clear S a; intro a S
  refine st_store (sz := 1) (us := [_]) S M 0 rfl (by kernel_rfl) rfl rfl rfl rfl rfl rfl (by first | decide | (simp; done) | (simp; omega)) ?_; clear M; intro w2 M
  simp only [putL, List.set_cons_zero, List.set_cons_succ, Nat.reduceAdd] at M
  refine nxC ?_
  refine wp_seq ?_
  refine nxD ?_
  refine st_go [1, 2] S rfl (by kernel_rfl) ?_; clear S a; intro a S
  refine st_y S rfl rfl rfl (y_loadAgg (cs := [_, _, _]) S (by kernel_rfl) rfl rfl (M.cellsAt (k := 3) 0 rfl rfl)) ?_; clear S a; intro a S
  refine st_call (xs := [(Operand.tmp 6), (Operand.tmp 8)]) S (enters_of Tryz.func39 (by decide) rfl) rfl rfl rfl (find0_any s va vc r.name _ (M.blk 1 rfl) (rd_rcs M (p := 2) rfl hl)) ?_
  rintro _ w3 ⟨rfl, hK⟩; refine ⟨_, rfl, ?_⟩; clear S a; intro a S; replace M := M.grow hK
  refine st_go [1] S rfl (by kernel_rfl) ?_; clear S a; intro a S
  refine nxA ?_
  refine st_go [1, 1] S rfl (by kernel_rfl) ?_; clear S a; intro a S
  refine nxC ?_
  refine st_if (t := 11) S rfl ?_ ?_
  · clear S; intro h11 S
    refine st_condT S rfl ?_
    obtain ⟨k, hk, hke⟩ := fdI_nn h11
    have hkl := fd_lt hk
    rw [hke] at S
    refine wp_regionK [7] #[false, false, false, false, false, false, false, false] rfl M (by kernel_rfl) ?_; clear M; intro w4 M
    refine k_pure 0 S rfl (fun w => y_move S rfl) ?_; clear S a; intro a S
    refine k_pure 1 S rfl (fun w => y_nilCheck S rfl) ?_; clear S a; intro a S
    refine k_pure 2 S rfl (fun w => y_fieldAddr (k := 24) S (by kernel_rfl) rfl) ?_; clear S a; intro a S
    refine k_read 3 S rfl (fun w hW => have M := M.grow hW; y_load S (by kernel_rfl) rfl (M.cell 1 rfl ((show _ = some (opV va vc s.op) from rfl)))) ?_; clear S a; intro a S
    refine k_pure 4 S rfl (fun w => y_move S rfl) ?_; clear S a; intro a S
    refine k_read 5 S rfl (fun w hW => have M := M.grow hW; y_loadAgg (cs := [_, _, _, _, _, _, _, _, _, _, _, _]) S (by kernel_rfl) rfl rfl (M.cellsAt (k := 12) 0 rfl rfl)) ?_; clear S a; intro a S
    refine k_read 6 S rfl (fun w hW => have M := M.grow hW; y_indexR (e := 29) (sz := 12) S (by kernel_rfl) rfl (rd_rcs M (p := 2) rfl hl) rfl (by first | omega | (simp; done) | (simp; omega))) ?_; clear S a; intro a S
    try simp only [Int.toNat_natCast, Nat.mul_one, Nat.zero_add] at S
    refine k_one 7 rfl (by kernel_rfl) ?_
    refine st_storeRow (v := opV va vc s.op) (sz := 12) (m := s.op.length) (j := k * 12) (us := r.cL) S M 2 rfl (by kernel_rfl) rfl rfl (by first | rfl | omega | (simp only [Int.toNat_natCast]; omega)) rfl rfl rfl rfl rfl (by omega) (rcsC_len _) (by rw [rcsC_len]; show k * 12 + 12 ≤ _; omega) ?_; clear M; intro wz lo9 hi9 M
    simp only [List.eraseIdx_cons_succ, List.eraseIdx_cons_zero] at M
    rw [rcsC_set _ hkl] at M
    refine wpList_nil ?_; refine then_normal ?_; refine ⟨fun h => absurd h (by decide), ?_⟩
    refine k_end (by kernel_rfl) ?_
    refine nxE ?_
    refine st_run [10, 1, 2, 1] S M rfl (by kernel_rfl) ?_; clear S a; intro a S
    replace S := S.sub [(0, _), (1, _), (3, _), (4, _), (11, _), (32, _)] rfl
    refine nxC ?_
    refine st_fi (t := 32) S rfl ?_ ?_
    · clear S; intro h32 S
      refine st_condF S rfl ?_
      refine wp_skip ?_
      refine end_noneN S rfl ?_
      first
        | (rw [Ls.commit_no (by omega), Ls.comm_yes hk]
           have M3 := (M.drop 1).perm (List.Perm.swap _ _ _)
           exact ⟨rfl, _, _, _, _, by simpa only [opE, opV, List.length_set] using M3⟩)
        | (rw [Ls.commit_no (by omega), Ls.comm_no (fdI_neg (by omega))]
           exact ⟨rfl, _, _, _, _, ((M.drop 1).drop 1).perm (List.Perm.swap _ _ _)⟩)
        | (rw [Ls.commit_yes (by omega), Ls.comm_yes hk]
           have M3 := (M.drop 1).perm (List.Perm.swap _ _ _)
           rw [stC_map _ _ _ (by omega)] at M3
           exact ⟨rfl, _, _, _, _, by simpa only [opE, opV, List.length_set] using M3⟩)
        | (rw [Ls.commit_yes (by omega), Ls.comm_no (fdI_neg (by omega))]
           have M3 := ((M.drop 1).drop 1).perm (List.Perm.swap _ _ _)
           rw [stC_map _ _ _ (by omega)] at M3
           exact ⟨rfl, _, _, _, _, M3⟩)
    clear S; intro h32 S
    refine st_condT S rfl ?_
    refine wp_regionK [10] #[false, false, false, false, false, false, false, false, false, false, false] rfl M (by kernel_rfl) ?_; clear M; intro w5 M
    refine k_pure 0 S rfl (fun w => y_move S rfl) ?_; clear S a; intro a S
    refine k_pure 1 S rfl (fun w => y_fieldAddr (k := 9) S (by kernel_rfl) rfl) ?_; clear S a; intro a S
    refine k_pure 2 S rfl (fun w => y_fieldAddr (k := 0) S (by kernel_rfl) rfl) ?_; clear S a; intro a S
    refine k_read 3 S rfl (fun w hW => have M := M.grow hW; y_load S (by kernel_rfl) rfl (M.cell 1 rfl rfl)) ?_; clear S a; intro a S
    refine k_pure 4 S rfl (fun w => y_fieldAddr (k := 9) S (by kernel_rfl) rfl) ?_; clear S a; intro a S
    refine k_pure 5 S rfl (fun w => y_fieldAddr (k := 1) S (by kernel_rfl) rfl) ?_; clear S a; intro a S
    refine k_read 6 S rfl (fun w hW => have M := M.grow hW; y_load S (by kernel_rfl) rfl (M.cell 1 rfl ((show _ = some (Value.int .i64 r.ct) from rfl)))) ?_; clear S a; intro a S
    refine k_pure 7 S rfl (fun w => y_nilCheck S rfl) ?_; clear S a; intro a S
    refine k_pure 8 S rfl (fun w => y_fieldAddr (k := 14) S (by kernel_rfl) rfl) ?_; clear S a; intro a S
    refine k_pure 9 S rfl (fun w => y_indexA (m := 8) (sz := 1) S (by kernel_rfl) rfl rfl (by first | omega | (simp; done) | (simp; omega))) ?_; clear S a; intro a S
    try simp only [Int.toNat_natCast, Nat.mul_one, Nat.zero_add] at S
    refine k_one 10 rfl (by kernel_rfl) ?_
    refine st_store (sz := 1) (us := [_]) S M 2 rfl (by kernel_rfl) rfl rfl rfl rfl rfl rfl (by first | (show 14 + r.cs.toNat + 1 ≤ 25; omega) | (show 15 + r.cs.toNat + 1 ≤ 26; omega)) ?_; clear M; intro w6 M
    simp only [List.set_cons_zero, List.set_cons_succ] at M
    refine wpList_nil ?_; refine then_normal ?_; refine ⟨fun h => absurd h (by decide), ?_⟩
    refine k_end (by kernel_rfl) ?_
    refine end_noneN S rfl ?_
    first
      | (rw [Ls.commit_no (by omega), Ls.comm_yes hk]
         have M3 := (M.drop 1).perm (List.Perm.swap _ _ _)
         exact ⟨rfl, _, _, _, _, by simpa only [opE, opV, List.length_set] using M3⟩)
      | (rw [Ls.commit_no (by omega), Ls.comm_no (fdI_neg (by omega))]
         exact ⟨rfl, _, _, _, _, ((M.drop 1).drop 1).perm (List.Perm.swap _ _ _)⟩)
      | (rw [Ls.commit_yes (by omega), Ls.comm_yes hk]
         have M3 := (M.drop 1).perm (List.Perm.swap _ _ _)
         rw [stC_map _ _ _ (by omega)] at M3
         exact ⟨rfl, _, _, _, _, by simpa only [opE, opV, List.length_set] using M3⟩)
      | (rw [Ls.commit_yes (by omega), Ls.comm_no (fdI_neg (by omega))]
         have M3 := ((M.drop 1).drop 1).perm (List.Perm.swap _ _ _)
         rw [stC_map _ _ _ (by omega)] at M3
         exact ⟨rfl, _, _, _, _, M3⟩)
  clear S; intro h11 S
  refine st_condF S rfl ?_
  refine wp_regionK [7, 10] #[false, false, false, false, false, false, false, false, false, false, false] rfl M (by kernel_rfl) ?_; clear M; intro w7 M
  refine k_pure 0 S rfl (fun w => y_move S rfl) ?_; clear S a; intro a S
  refine k_pure 1 S rfl (fun w => y_move S rfl) ?_; clear S a; intro a S
  refine k_pure 2 S rfl (fun w => y_nilCheck S rfl) ?_; clear S a; intro a S
  refine k_pure 3 S rfl (fun w => y_fieldAddr (k := 24) S (by kernel_rfl) rfl) ?_; clear S a; intro a S
  refine k_read 4 S rfl (fun w hW => have M := M.grow hW; y_load S (by kernel_rfl) rfl (M.cell 1 rfl ((show _ = some (opV va vc s.op) from rfl)))) ?_; clear S a; intro a S
  refine k_read 5 S rfl (fun w hW => have M := M.grow hW; y_loadAgg (cs := [_, _, _, _, _, _, _, _, _, _, _, _]) S (by kernel_rfl) rfl rfl (M.cellsAt (k := 12) 0 rfl rfl)) ?_; clear S a; intro a S
  refine k_one 6 rfl (by kernel_rfl) ?_
  refine st_lit (ps := [(0, (Operand.tmp 24))]) (e := 29) (sz := 12) (zl := [.int .i8 0, .int .i64 0, .int .i64 0, .int .i64 0, .bool false, .slice none 0 0, .int .i64 0, .int .i64 0, .int .i64 0, .int .i64 0, .int .i64 0, .int .i64 0]) (cs := [_, _, _, _, _, _, _, _, _, _, _, _]) S M rfl rfl (by kernel_rfl) rfl (rfl) ?_; clear S M a; intro a w8 bN S M hB
  refine wpList_nil ?_; refine then_normal ?_; refine ⟨fun _ => hB, ?_⟩
  refine k_one 7 rfl (by kernel_rfl) ?_
  refine st_append (e := 29) (sz := 12) (by_ := 112) (zc := [.int .i8 0, .int .i64 0, .int .i64 0, .int .i64 0, .bool false, .slice none 0 0, .int .i64 0, .int .i64 0, .int .i64 0, .int .i64 0, .int .i64 0, .int .i64 0]) S M 3 rfl rfl (by kernel_rfl) rfl (by decide) rfl rfl rfl (show Rd _ _ _ 12 _ 1 r.cL from M.sliceAt 0 rfl (M.cellsAt (k := 12) 0 rfl rfl) rfl (Nat.le_refl _) (by unfold maxLen; omega)) (rfl) (by omega) (by unfold maxLen; omega) ?_; clear S M a; intro a w9 vA loA hiA S M
  refine wpList_nil ?_; refine then_normal ?_; refine ⟨fun h => absurd h (by decide), ?_⟩
  refine k_pure 8 S rfl (fun w => y_nilCheck S rfl) ?_; clear S a; intro a S
  refine k_pure 9 S rfl (fun w => y_fieldAddr (k := 24) S (by kernel_rfl) rfl) ?_; clear S a; intro a S
  refine k_one 10 rfl (by kernel_rfl) ?_
  obtain ⟨aA, cA, rfl, -, -⟩ := (M.readAll 0 rfl (by unfold maxLen; omega)).form
  rw [← rcsC_snoc] at M
  have hsn : s.op.length + 1 = (s.op ++ [r]).length := by rw [List.length_append]; rfl
  rw [hsn] at S M
  refine st_store (sz := 1) (us := [_]) S M 3 rfl (by kernel_rfl) rfl rfl rfl rfl rfl rfl (by first | decide | (simp; done) | (simp; omega)) ?_; clear M; intro w10 M
  simp only [putL, List.set_cons_zero, List.set_cons_succ, Nat.reduceAdd] at M
  refine wpList_nil ?_; refine then_normal ?_; refine ⟨fun h => absurd h (by decide), ?_⟩
  refine k_end (by kernel_rfl) ?_
  replace S := S.sub [(0, _), (1, _), (3, _), (4, _), (11, _)] rfl
  refine nxE ?_
  refine st_run [10, 1, 3, 1] S M rfl (by kernel_rfl) ?_; clear S a; intro a S
  refine nxC ?_
  refine st_fi (t := 32) S rfl ?_ ?_
  · clear S; intro h32 S
    refine st_condF S rfl ?_
    refine wp_skip ?_
    refine end_noneN S rfl ?_
    first
      | (rw [Ls.commit_no (by omega), Ls.comm_yes hk]
         have M3 := (M.drop 1).perm (List.Perm.swap _ _ _)
         exact ⟨rfl, _, _, _, _, by simpa only [opE, opV, List.length_set] using M3⟩)
      | (rw [Ls.commit_no (by omega), Ls.comm_no (fdI_neg (by omega))]
         exact ⟨rfl, _, _, _, _, ((M.drop 1).drop 1).perm (List.Perm.swap _ _ _)⟩)
      | (rw [Ls.commit_yes (by omega), Ls.comm_yes hk]
         have M3 := (M.drop 1).perm (List.Perm.swap _ _ _)
         rw [stC_map _ _ _ (by omega)] at M3
         exact ⟨rfl, _, _, _, _, by simpa only [opE, opV, List.length_set] using M3⟩)
      | (rw [Ls.commit_yes (by omega), Ls.comm_no (fdI_neg (by omega))]
         have M3 := ((M.drop 1).drop 1).perm (List.Perm.swap _ _ _)
         rw [stC_map _ _ _ (by omega)] at M3
         exact ⟨rfl, _, _, _, _, M3⟩)
  clear S; intro h32 S
  refine st_condT S rfl ?_
  refine wp_regionK [10] #[false, false, false, false, false, false, false, false, false, false, false] rfl M (by kernel_rfl) ?_; clear M; intro w11 M
  refine k_pure 0 S rfl (fun w => y_move S rfl) ?_; clear S a; intro a S
  refine k_pure 1 S rfl (fun w => y_fieldAddr (k := 9) S (by kernel_rfl) rfl) ?_; clear S a; intro a S
  refine k_pure 2 S rfl (fun w => y_fieldAddr (k := 0) S (by kernel_rfl) rfl) ?_; clear S a; intro a S
  refine k_read 3 S rfl (fun w hW => have M := M.grow hW; y_load S (by kernel_rfl) rfl (M.cell 2 rfl rfl)) ?_; clear S a; intro a S
  refine k_pure 4 S rfl (fun w => y_fieldAddr (k := 9) S (by kernel_rfl) rfl) ?_; clear S a; intro a S
  refine k_pure 5 S rfl (fun w => y_fieldAddr (k := 1) S (by kernel_rfl) rfl) ?_; clear S a; intro a S
  refine k_read 6 S rfl (fun w hW => have M := M.grow hW; y_load S (by kernel_rfl) rfl (M.cell 2 rfl ((show _ = some (Value.int .i64 r.ct) from rfl)))) ?_; clear S a; intro a S
  refine k_pure 7 S rfl (fun w => y_nilCheck S rfl) ?_; clear S a; intro a S
  refine k_pure 8 S rfl (fun w => y_fieldAddr (k := 14) S (by kernel_rfl) rfl) ?_; clear S a; intro a S
  refine k_pure 9 S rfl (fun w => y_indexA (m := 8) (sz := 1) S (by kernel_rfl) rfl rfl (by first | omega | (simp; done) | (simp; omega))) ?_; clear S a; intro a S
  try simp only [Int.toNat_natCast, Nat.mul_one, Nat.zero_add] at S
  refine k_one 10 rfl (by kernel_rfl) ?_
  refine st_store (sz := 1) (us := [_]) S M 3 rfl (by kernel_rfl) rfl rfl rfl rfl rfl rfl (by first | (show 14 + r.cs.toNat + 1 ≤ 25; omega) | (show 15 + r.cs.toNat + 1 ≤ 26; omega)) ?_; clear M; intro w12 M
  simp only [List.set_cons_zero, List.set_cons_succ] at M
  refine wpList_nil ?_; refine then_normal ?_; refine ⟨fun h => absurd h (by decide), ?_⟩
  refine k_end (by kernel_rfl) ?_
  refine end_noneN S rfl ?_
  first
    | (rw [Ls.commit_no (by omega), Ls.comm_yes hk]
       have M3 := (M.drop 1).perm (List.Perm.swap _ _ _)
       exact ⟨rfl, _, _, _, _, by simpa only [opE, opV, List.length_set] using M3⟩)
    | (rw [Ls.commit_no (by omega), Ls.comm_no (fdI_neg (by omega))]
       exact ⟨rfl, _, _, _, _, ((M.drop 1).drop 1).perm (List.Perm.swap _ _ _)⟩)
    | (rw [Ls.commit_yes (by omega), Ls.comm_yes hk]
       have M3 := (M.drop 1).perm (List.Perm.swap _ _ _)
       rw [stC_map _ _ _ (by omega)] at M3
       exact ⟨rfl, _, _, _, _, by simpa only [opE, opV, List.length_set] using M3⟩)
    | (rw [Ls.commit_yes (by omega), Ls.comm_no (fdI_neg (by omega))]
       have M3 := ((M.drop 1).drop 1).perm (List.Perm.swap _ _ _)
       rw [stC_map _ _ _ (by omega)] at M3
       exact ⟨rfl, _, _, _, _, M3⟩)
set_option maxHeartbeats 400000 in
theorem find1_any {b : Nat} (dv : Value) (s : Ls) (va : Option Addr) (vc : Nat) (nm : Nm) (w : World) (B : Blk w b (lgC dv s (opV va vc s.op)).toArray 76) (hv : Rd 0 w.heap.size w 12 (opV va vc s.op) s.op.length (rcsC s.op)) :
    Calls Tryz.prog 39 #[.pointer (some ⟨b, 1, none⟩), .agg nm.cells] w fun e w' => e = .returned (.int .i64 (fdI s.op nm)) ∧ Below w.heap.size w w' := by
  have M := Mem.start w
  refine calls_enter Tryz.func39 rfl 11 rfl rfl ?_; intro a S
  refine nxD ?_
  refine st_box S M rfl rfl rfl #[_, _, _] rfl ?_; clear S M a; intro a w1 bX S M hB
  refine st_go [1] S rfl (by kernel_rfl) ?_; clear S a; intro a S
  refine nxA ?_
  refine st_go [1, 1, 25] S rfl (by kernel_rfl) ?_; clear S a; intro a S
  refine st_y S rfl rfl rfl (y_load S (by kernel_rfl) rfl (by rw [(B.cells0 M.below).cells]; rfl)) ?_; clear S a; intro a S
  refine st_y S rfl rfl rfl (y_makeFunc (fs := []) (cs := [(Operand.tmp 3)]) S rfl rfl) ?_; clear S a; intro a S
  refine st_call (xs := [(Operand.tmp 8), (Operand.tmp 9)]) S (enters_of Tryz.func63 (by decide) rfl) rfl rfl rfl (indexFuncR_any (fi := []) (ca := [.pointer (some ⟨bX, 0, none⟩)]) (enters_of Tryz.func64 (by decide) rfl) va vc s.op (fun q => q.name.eqb nm) _ (M.argW hv) (fun q w' hb => findC_any q nm bX w' ((hb.block bX (M.blk 0 rfl).lt).trans (M.blk 0 rfl)))) ?_
  rintro _ w2 ⟨j, rfl, hK, hj⟩; refine ⟨_, rfl, ?_⟩; clear S a; intro a S; replace M := M.grow hK
  obtain rfl := firstR_fd hj
  refine st_go [1] S rfl (by kernel_rfl) ?_; clear S a; intro a S
  refine nxC ?_
  refine wp_ret ?_
  refine end_one S rfl (res_tmp rfl) ?_
  exact ⟨rfl, M.below⟩
set_option maxHeartbeats 400000 in
theorem stamps1_any {wc w : World} {H : List Ent} {b : Nat} (dv : Value) (s : Ls) (v : Value) (r : Rc) (wv : Value) (M : Mem wc w (.blk b (lgC dv s v).toArray 76 :: H)) :
    Calls Tryz.prog 60 #[.pointer (some ⟨b, 1, none⟩), .agg (r.cells wv)] w fun e w' => e = .returned (.tuple #[]) ∧ Mem wc w' (.blk b (lgC dv (s.stamps r.n) v).toArray 76 :: H) := by
  refine calls_enter Tryz.func60 rfl 9 rfl rfl ?_; intro a S
  refine wp_seq ?_
  skip
  refine wp_region_lit ?_
  refine st_box S M rfl rfl rfl #[_, _, _, _, _, _, _, _, _, _, _, _] rfl ?_; clear S M a; intro a w1 bX S M hB
  refine nxB ?_
  refine st_run [1, 12, 1, 1, 14] S M rfl (by kernel_rfl) ?_; clear S a; intro a S
  refine st_store (sz := 1) (us := [_]) S M 1 rfl (by kernel_rfl) rfl rfl rfl rfl rfl rfl (by first | decide | (simp; done) | (simp; omega)) ?_; clear M; intro w2 M
  simp only [putL, List.set_cons_zero, List.set_cons_succ, Nat.reduceAdd] at M
  refine wpList_nil ?_
  refine end_noneN S rfl ?_
  exact ⟨rfl, M.drop 0⟩
set_option maxHeartbeats 1000000 in
theorem end1_any {wc w : World} {H : List Ent} {b lo hi : Nat} (dv : Value) (s : Ls) (va : Option Addr) (vc : Nat) (r : Rc) (wv : Value) (M : Mem wc w (.blk b (lgC dv s (opV va vc s.op)).toArray 76 :: opE lo hi va vc s.op :: H)) (hl : s.op.length ≤ 1000) :
    Calls Tryz.prog 59 #[.pointer (some ⟨b, 1, none⟩), .agg (r.cells wv)] w fun e w' => e = .returned (.tuple #[]) ∧ ∃ lo2 hi2 va2 vc2, Mem wc w' (.blk b (lgC dv (s.end_ r.name) (opV va2 vc2 (s.end_ r.name).op)).toArray 76 :: opE lo2 hi2 va2 vc2 (s.end_ r.name).op :: H) := by
  refine calls_enter Tryz.func59 rfl 22 rfl rfl ?_; intro a S
  refine wp_seq ?_
  skip
  refine wp_region_lit ?_
  refine st_box S M rfl rfl rfl #[_, _, _, _, _, _, _, _, _, _, _, _] rfl ?_; clear S M a; intro a w1 bX S M hB
  refine nxA ?_
  refine st_go [1, 2] S rfl (by kernel_rfl) ?_; clear S a; intro a S
  refine st_y S rfl rfl rfl (y_loadAgg (cs := [_, _, _]) S (by kernel_rfl) rfl rfl (M.cellsAt (k := 3) 0 rfl rfl)) ?_; clear S a; intro a S
  refine st_call (xs := [(Operand.tmp 5), (Operand.tmp 7)]) S (enters_of Tryz.func39 (by decide) rfl) rfl rfl rfl (find1_any dv s va vc r.name _ (M.blk 1 rfl) (rd_rcs M (p := 2) rfl hl)) ?_
  rintro _ w2 ⟨rfl, hK⟩; refine ⟨_, rfl, ?_⟩; clear S a; intro a S; replace M := M.grow hK
  refine st_go [1] S rfl (by kernel_rfl) ?_; clear S a; intro a S
  refine nxA ?_
  refine st_go [1, 1] S rfl (by kernel_rfl) ?_; clear S a; intro a S
  refine nxC ?_
  refine st_fi (t := 10) S rfl ?_ ?_
  · clear S; intro h10 S
    refine st_condF S rfl ?_
    refine wp_skip ?_
    refine end_noneN S rfl ?_
    first
      | (rw [Ls.end_no (fdI_neg (by omega))]
         exact ⟨rfl, _, _, _, _, M.drop 0⟩)
      | (rw [Ls.end_yes hk]
         exact ⟨rfl, _, _, _, _, (M.drop 1).perm (List.Perm.swap _ _ _)⟩)
  clear S; intro h10 S
  refine st_condT S rfl ?_
  obtain ⟨k, hk, hke⟩ := fdI_nn h10
  have hkl := fd_lt hk
  rw [hke] at S
  have hel : (s.op.eraseIdx k).length = s.op.length - 1 := by rw [List.length_eraseIdx, if_pos hkl]
  replace M := M.front 2 rfl
  simp only [List.eraseIdx_cons_succ, List.eraseIdx_cons_zero] at M
  obtain ⟨g, cap, more, hv9, hmc, hcm, hlen, M1⟩ := M.ofRow (by omega)
  cases hv9
  have hle9 : (s.op.eraseIdx k).length ≤ vc := by omega
  clear M; have M := M1; clear M1
  refine wp_region_lit ?_
  refine st_run [1, 1, 1, 25, 3, 1, 1] S M rfl (by kernel_rfl) ?_; clear S a; intro a S
  (first | refine st_y S rfl rfl rfl (y_addN S rfl rfl (by omega)) ?_ | refine st_y S rfl rfl rfl (y_int S rfl rfl rfl) ?_); clear S a; intro a S
  refine st_call (xs := [(Operand.tmp 15), (Operand.tmp 16), (Operand.tmp 18)]) S (enters_of Tryz.func100 (by decide) rfl) rfl rfl rfl (deleteR_any M (rcsC_len _) (by rw [rcsC_drop _ (by omega)]; exact allOne_rcs _) hlen hmc hcm hkl) ?_
  rintro _ w3 ⟨rfl, more2, hl2, M2⟩; refine ⟨_, rfl, ?_⟩; clear S M a; intro a S
  rw [rcsC_erase _ hkl, ← hel] at *
  have M := M2.toRow (sz := 12) (m := (s.op.eraseIdx k).length) (cap := vc) (xs := rcsC (s.op.eraseIdx k)) 0 rfl (rcsC_len _) hle9 hcm (by simpa using hl2) (by rw [List.toList_toArray, ← rcsC_len]; exact List.take_left)
  clear M2
  simp only [List.eraseIdx_cons_zero] at M
  refine st_go [1, 25] S rfl (by kernel_rfl) ?_; clear S a; intro a S
  refine st_store (sz := 1) (us := [_]) S M 2 rfl (by kernel_rfl) rfl rfl rfl rfl rfl rfl (by first | decide | (simp; done) | (simp; omega)) ?_; clear M; intro w4 M
  simp only [putL, List.set_cons_zero, List.set_cons_succ, Nat.reduceAdd] at M
  replace S := S.sub [(0, _), (1, _), (3, _), (4, _), (10, _)] rfl
  refine wpList_nil ?_
  refine end_noneN S rfl ?_
  first
    | (rw [Ls.end_no (fdI_neg (by omega))]
       exact ⟨rfl, _, _, _, _, M.drop 0⟩)
    | (rw [Ls.end_yes hk]
       exact ⟨rfl, _, _, _, _, (M.drop 1).perm (List.Perm.swap _ _ _)⟩)
set_option maxHeartbeats 1000000 in
theorem commit1_any {wc w : World} {H : List Ent} {b lo hi : Nat} (dv : Value) (s : Ls) (va : Option Addr) (vc : Nat) (r : Rc) (wv : Value) (M : Mem wc w (.blk b (lgC dv s (opV va vc s.op)).toArray 76 :: opE lo hi va vc s.op :: H)) (hl : s.op.length ≤ 1000) (hc : r.cs < 8) :
    Calls Tryz.prog 58 #[.pointer (some ⟨b, 1, none⟩), .agg (r.cells wv)] w fun e w' => e = .returned (.tuple #[]) ∧ ∃ lo2 hi2 va2 vc2, Mem wc w' (.blk b (lgC dv (s.commit r) (opV va2 vc2 (s.commit r).op)).toArray 76 :: opE lo2 hi2 va2 vc2 (s.commit r).op :: H) := by
  refine calls_enter Tryz.func58 rfl 43 rfl rfl ?_; intro a S
  refine wp_seq ?_
  skip
  refine wp_region_lit ?_
  refine st_box S M rfl rfl rfl #[_, _, _, _, _, _, _, _, _, _, _, _] rfl ?_; clear S M a; intro a w1 bX S M hB
  refine nxA ?_
  refine st_go [6] S rfl (by kernel_rfl) ?_; clear S a; intro a S
  refine st_store (sz := 1) (us := [_]) S M 0 rfl (by kernel_rfl) rfl rfl rfl rfl rfl rfl (by first | decide | (simp; done) | (simp; omega)) ?_; clear M; intro w2 M
  simp only [putL, List.set_cons_zero, List.set_cons_succ, Nat.reduceAdd] at M
  refine nxC ?_
  refine wp_seq ?_
  refine nxD ?_
  refine st_go [1, 2] S rfl (by kernel_rfl) ?_; clear S a; intro a S
  refine st_y S rfl rfl rfl (y_loadAgg (cs := [_, _, _]) S (by kernel_rfl) rfl rfl (M.cellsAt (k := 3) 0 rfl rfl)) ?_; clear S a; intro a S
  refine st_call (xs := [(Operand.tmp 6), (Operand.tmp 8)]) S (enters_of Tryz.func39 (by decide) rfl) rfl rfl rfl (find1_any dv s va vc r.name _ (M.blk 1 rfl) (rd_rcs M (p := 2) rfl hl)) ?_
  rintro _ w3 ⟨rfl, hK⟩; refine ⟨_, rfl, ?_⟩; clear S a; intro a S; replace M := M.grow hK
  refine st_go [1] S rfl (by kernel_rfl) ?_; clear S a; intro a S
  refine nxA ?_
  refine st_go [1, 1] S rfl (by kernel_rfl) ?_; clear S a; intro a S
  refine nxC ?_
  refine st_if (t := 11) S rfl ?_ ?_
  · clear S; intro h11 S
    refine st_condT S rfl ?_
    obtain ⟨k, hk, hke⟩ := fdI_nn h11
    have hkl := fd_lt hk
    rw [hke] at S
    refine wp_regionK [7] #[false, false, false, false, false, false, false, false] rfl M (by kernel_rfl) ?_; clear M; intro w4 M
    refine k_pure 0 S rfl (fun w => y_move S rfl) ?_; clear S a; intro a S
    refine k_pure 1 S rfl (fun w => y_nilCheck S rfl) ?_; clear S a; intro a S
    refine k_pure 2 S rfl (fun w => y_fieldAddr (k := 24) S (by kernel_rfl) rfl) ?_; clear S a; intro a S
    refine k_read 3 S rfl (fun w hW => have M := M.grow hW; y_load S (by kernel_rfl) rfl (M.cell 1 rfl ((show _ = some (opV va vc s.op) from rfl)))) ?_; clear S a; intro a S
    refine k_pure 4 S rfl (fun w => y_move S rfl) ?_; clear S a; intro a S
    refine k_read 5 S rfl (fun w hW => have M := M.grow hW; y_loadAgg (cs := [_, _, _, _, _, _, _, _, _, _, _, _]) S (by kernel_rfl) rfl rfl (M.cellsAt (k := 12) 0 rfl rfl)) ?_; clear S a; intro a S
    refine k_read 6 S rfl (fun w hW => have M := M.grow hW; y_indexR (e := 29) (sz := 12) S (by kernel_rfl) rfl (rd_rcs M (p := 2) rfl hl) rfl (by first | omega | (simp; done) | (simp; omega))) ?_; clear S a; intro a S
    try simp only [Int.toNat_natCast, Nat.mul_one, Nat.zero_add] at S
    refine k_one 7 rfl (by kernel_rfl) ?_
    refine st_storeRow (v := opV va vc s.op) (sz := 12) (m := s.op.length) (j := k * 12) (us := r.cL) S M 2 rfl (by kernel_rfl) rfl rfl (by first | rfl | omega | (simp only [Int.toNat_natCast]; omega)) rfl rfl rfl rfl rfl (by omega) (rcsC_len _) (by rw [rcsC_len]; show k * 12 + 12 ≤ _; omega) ?_; clear M; intro wz lo9 hi9 M
    simp only [List.eraseIdx_cons_succ, List.eraseIdx_cons_zero] at M
    rw [rcsC_set _ hkl] at M
    refine wpList_nil ?_; refine then_normal ?_; refine ⟨fun h => absurd h (by decide), ?_⟩
    refine k_end (by kernel_rfl) ?_
    refine nxE ?_
    refine st_run [10, 1, 2, 1] S M rfl (by kernel_rfl) ?_; clear S a; intro a S
    replace S := S.sub [(0, _), (1, _), (3, _), (4, _), (11, _), (32, _)] rfl
    refine nxC ?_
    refine st_fi (t := 32) S rfl ?_ ?_
    · clear S; intro h32 S
      refine st_condF S rfl ?_
      refine wp_skip ?_
      refine end_noneN S rfl ?_
      first
        | (rw [Ls.commit_no (by omega), Ls.comm_yes hk]
           have M3 := (M.drop 1).perm (List.Perm.swap _ _ _)
           exact ⟨rfl, _, _, _, _, by simpa only [opE, opV, List.length_set] using M3⟩)
        | (rw [Ls.commit_no (by omega), Ls.comm_no (fdI_neg (by omega))]
           exact ⟨rfl, _, _, _, _, ((M.drop 1).drop 1).perm (List.Perm.swap _ _ _)⟩)
        | (rw [Ls.commit_yes (by omega), Ls.comm_yes hk]
           have M3 := (M.drop 1).perm (List.Perm.swap _ _ _)
           rw [lgC_map _ _ _ (by omega)] at M3
           exact ⟨rfl, _, _, _, _, by simpa only [opE, opV, List.length_set] using M3⟩)
        | (rw [Ls.commit_yes (by omega), Ls.comm_no (fdI_neg (by omega))]
           have M3 := ((M.drop 1).drop 1).perm (List.Perm.swap _ _ _)
           rw [lgC_map _ _ _ (by omega)] at M3
           exact ⟨rfl, _, _, _, _, M3⟩)
    clear S; intro h32 S
    refine st_condT S rfl ?_
    refine wp_regionK [10] #[false, false, false, false, false, false, false, false, false, false, false] rfl M (by kernel_rfl) ?_; clear M; intro w5 M
    refine k_pure 0 S rfl (fun w => y_move S rfl) ?_; clear S a; intro a S
    refine k_pure 1 S rfl (fun w => y_fieldAddr (k := 9) S (by kernel_rfl) rfl) ?_; clear S a; intro a S
    refine k_pure 2 S rfl (fun w => y_fieldAddr (k := 0) S (by kernel_rfl) rfl) ?_; clear S a; intro a S
    refine k_read 3 S rfl (fun w hW => have M := M.grow hW; y_load S (by kernel_rfl) rfl (M.cell 1 rfl rfl)) ?_; clear S a; intro a S
    refine k_pure 4 S rfl (fun w => y_fieldAddr (k := 9) S (by kernel_rfl) rfl) ?_; clear S a; intro a S
    refine k_pure 5 S rfl (fun w => y_fieldAddr (k := 1) S (by kernel_rfl) rfl) ?_; clear S a; intro a S
    refine k_read 6 S rfl (fun w hW => have M := M.grow hW; y_load S (by kernel_rfl) rfl (M.cell 1 rfl ((show _ = some (Value.int .i64 r.ct) from rfl)))) ?_; clear S a; intro a S
    refine k_pure 7 S rfl (fun w => y_nilCheck S rfl) ?_; clear S a; intro a S
    refine k_pure 8 S rfl (fun w => y_fieldAddr (k := 14) S (by kernel_rfl) rfl) ?_; clear S a; intro a S
    refine k_pure 9 S rfl (fun w => y_indexA (m := 8) (sz := 1) S (by kernel_rfl) rfl rfl (by first | omega | (simp; done) | (simp; omega))) ?_; clear S a; intro a S
    try simp only [Int.toNat_natCast, Nat.mul_one, Nat.zero_add] at S
    refine k_one 10 rfl (by kernel_rfl) ?_
    refine st_store (sz := 1) (us := [_]) S M 2 rfl (by kernel_rfl) rfl rfl rfl rfl rfl rfl (by first | (show 14 + r.cs.toNat + 1 ≤ 25; omega) | (show 15 + r.cs.toNat + 1 ≤ 26; omega)) ?_; clear M; intro w6 M
    simp only [List.set_cons_zero, List.set_cons_succ] at M
    refine wpList_nil ?_; refine then_normal ?_; refine ⟨fun h => absurd h (by decide), ?_⟩
    refine k_end (by kernel_rfl) ?_
    refine end_noneN S rfl ?_
    first
      | (rw [Ls.commit_no (by omega), Ls.comm_yes hk]
         have M3 := (M.drop 1).perm (List.Perm.swap _ _ _)
         exact ⟨rfl, _, _, _, _, by simpa only [opE, opV, List.length_set] using M3⟩)
      | (rw [Ls.commit_no (by omega), Ls.comm_no (fdI_neg (by omega))]
         exact ⟨rfl, _, _, _, _, ((M.drop 1).drop 1).perm (List.Perm.swap _ _ _)⟩)
      | (rw [Ls.commit_yes (by omega), Ls.comm_yes hk]
         have M3 := (M.drop 1).perm (List.Perm.swap _ _ _)
         rw [lgC_map _ _ _ (by omega)] at M3
         exact ⟨rfl, _, _, _, _, by simpa only [opE, opV, List.length_set] using M3⟩)
      | (rw [Ls.commit_yes (by omega), Ls.comm_no (fdI_neg (by omega))]
         have M3 := ((M.drop 1).drop 1).perm (List.Perm.swap _ _ _)
         rw [lgC_map _ _ _ (by omega)] at M3
         exact ⟨rfl, _, _, _, _, M3⟩)
  clear S; intro h11 S
  refine st_condF S rfl ?_
  refine wp_regionK [7, 10] #[false, false, false, false, false, false, false, false, false, false, false] rfl M (by kernel_rfl) ?_; clear M; intro w7 M
  refine k_pure 0 S rfl (fun w => y_move S rfl) ?_; clear S a; intro a S
  refine k_pure 1 S rfl (fun w => y_move S rfl) ?_; clear S a; intro a S
  refine k_pure 2 S rfl (fun w => y_nilCheck S rfl) ?_; clear S a; intro a S
  refine k_pure 3 S rfl (fun w => y_fieldAddr (k := 24) S (by kernel_rfl) rfl) ?_; clear S a; intro a S
  refine k_read 4 S rfl (fun w hW => have M := M.grow hW; y_load S (by kernel_rfl) rfl (M.cell 1 rfl ((show _ = some (opV va vc s.op) from rfl)))) ?_; clear S a; intro a S
  refine k_read 5 S rfl (fun w hW => have M := M.grow hW; y_loadAgg (cs := [_, _, _, _, _, _, _, _, _, _, _, _]) S (by kernel_rfl) rfl rfl (M.cellsAt (k := 12) 0 rfl rfl)) ?_; clear S a; intro a S
  refine k_one 6 rfl (by kernel_rfl) ?_
  refine st_lit (ps := [(0, (Operand.tmp 24))]) (e := 29) (sz := 12) (zl := [.int .i8 0, .int .i64 0, .int .i64 0, .int .i64 0, .bool false, .slice none 0 0, .int .i64 0, .int .i64 0, .int .i64 0, .int .i64 0, .int .i64 0, .int .i64 0]) (cs := [_, _, _, _, _, _, _, _, _, _, _, _]) S M rfl rfl (by kernel_rfl) rfl (rfl) ?_; clear S M a; intro a w8 bN S M hB
  refine wpList_nil ?_; refine then_normal ?_; refine ⟨fun _ => hB, ?_⟩
  refine k_one 7 rfl (by kernel_rfl) ?_
  refine st_append (e := 29) (sz := 12) (by_ := 112) (zc := [.int .i8 0, .int .i64 0, .int .i64 0, .int .i64 0, .bool false, .slice none 0 0, .int .i64 0, .int .i64 0, .int .i64 0, .int .i64 0, .int .i64 0, .int .i64 0]) S M 3 rfl rfl (by kernel_rfl) rfl (by decide) rfl rfl rfl (show Rd _ _ _ 12 _ 1 r.cL from M.sliceAt 0 rfl (M.cellsAt (k := 12) 0 rfl rfl) rfl (Nat.le_refl _) (by unfold maxLen; omega)) (rfl) (by omega) (by unfold maxLen; omega) ?_; clear S M a; intro a w9 vA loA hiA S M
  refine wpList_nil ?_; refine then_normal ?_; refine ⟨fun h => absurd h (by decide), ?_⟩
  refine k_pure 8 S rfl (fun w => y_nilCheck S rfl) ?_; clear S a; intro a S
  refine k_pure 9 S rfl (fun w => y_fieldAddr (k := 24) S (by kernel_rfl) rfl) ?_; clear S a; intro a S
  refine k_one 10 rfl (by kernel_rfl) ?_
  obtain ⟨aA, cA, rfl, -, -⟩ := (M.readAll 0 rfl (by unfold maxLen; omega)).form
  rw [← rcsC_snoc] at M
  have hsn : s.op.length + 1 = (s.op ++ [r]).length := by rw [List.length_append]; rfl
  rw [hsn] at S M
  refine st_store (sz := 1) (us := [_]) S M 3 rfl (by kernel_rfl) rfl rfl rfl rfl rfl rfl (by first | decide | (simp; done) | (simp; omega)) ?_; clear M; intro w10 M
  simp only [putL, List.set_cons_zero, List.set_cons_succ, Nat.reduceAdd] at M
  refine wpList_nil ?_; refine then_normal ?_; refine ⟨fun h => absurd h (by decide), ?_⟩
  refine k_end (by kernel_rfl) ?_
  replace S := S.sub [(0, _), (1, _), (3, _), (4, _), (11, _)] rfl
  refine nxE ?_
  refine st_run [10, 1, 3, 1] S M rfl (by kernel_rfl) ?_; clear S a; intro a S
  refine nxC ?_
  refine st_fi (t := 32) S rfl ?_ ?_
  · clear S; intro h32 S
    refine st_condF S rfl ?_
    refine wp_skip ?_
    refine end_noneN S rfl ?_
    first
      | (rw [Ls.commit_no (by omega), Ls.comm_yes hk]
         have M3 := (M.drop 1).perm (List.Perm.swap _ _ _)
         exact ⟨rfl, _, _, _, _, by simpa only [opE, opV, List.length_set] using M3⟩)
      | (rw [Ls.commit_no (by omega), Ls.comm_no (fdI_neg (by omega))]
         exact ⟨rfl, _, _, _, _, ((M.drop 1).drop 1).perm (List.Perm.swap _ _ _)⟩)
      | (rw [Ls.commit_yes (by omega), Ls.comm_yes hk]
         have M3 := (M.drop 1).perm (List.Perm.swap _ _ _)
         rw [lgC_map _ _ _ (by omega)] at M3
         exact ⟨rfl, _, _, _, _, by simpa only [opE, opV, List.length_set] using M3⟩)
      | (rw [Ls.commit_yes (by omega), Ls.comm_no (fdI_neg (by omega))]
         have M3 := ((M.drop 1).drop 1).perm (List.Perm.swap _ _ _)
         rw [lgC_map _ _ _ (by omega)] at M3
         exact ⟨rfl, _, _, _, _, M3⟩)
  clear S; intro h32 S
  refine st_condT S rfl ?_
  refine wp_regionK [10] #[false, false, false, false, false, false, false, false, false, false, false] rfl M (by kernel_rfl) ?_; clear M; intro w11 M
  refine k_pure 0 S rfl (fun w => y_move S rfl) ?_; clear S a; intro a S
  refine k_pure 1 S rfl (fun w => y_fieldAddr (k := 9) S (by kernel_rfl) rfl) ?_; clear S a; intro a S
  refine k_pure 2 S rfl (fun w => y_fieldAddr (k := 0) S (by kernel_rfl) rfl) ?_; clear S a; intro a S
  refine k_read 3 S rfl (fun w hW => have M := M.grow hW; y_load S (by kernel_rfl) rfl (M.cell 2 rfl rfl)) ?_; clear S a; intro a S
  refine k_pure 4 S rfl (fun w => y_fieldAddr (k := 9) S (by kernel_rfl) rfl) ?_; clear S a; intro a S
  refine k_pure 5 S rfl (fun w => y_fieldAddr (k := 1) S (by kernel_rfl) rfl) ?_; clear S a; intro a S
  refine k_read 6 S rfl (fun w hW => have M := M.grow hW; y_load S (by kernel_rfl) rfl (M.cell 2 rfl ((show _ = some (Value.int .i64 r.ct) from rfl)))) ?_; clear S a; intro a S
  refine k_pure 7 S rfl (fun w => y_nilCheck S rfl) ?_; clear S a; intro a S
  refine k_pure 8 S rfl (fun w => y_fieldAddr (k := 14) S (by kernel_rfl) rfl) ?_; clear S a; intro a S
  refine k_pure 9 S rfl (fun w => y_indexA (m := 8) (sz := 1) S (by kernel_rfl) rfl rfl (by first | omega | (simp; done) | (simp; omega))) ?_; clear S a; intro a S
  try simp only [Int.toNat_natCast, Nat.mul_one, Nat.zero_add] at S
  refine k_one 10 rfl (by kernel_rfl) ?_
  refine st_store (sz := 1) (us := [_]) S M 3 rfl (by kernel_rfl) rfl rfl rfl rfl rfl rfl (by first | (show 14 + r.cs.toNat + 1 ≤ 25; omega) | (show 15 + r.cs.toNat + 1 ≤ 26; omega)) ?_; clear M; intro w12 M
  simp only [List.set_cons_zero, List.set_cons_succ] at M
  refine wpList_nil ?_; refine then_normal ?_; refine ⟨fun h => absurd h (by decide), ?_⟩
  refine k_end (by kernel_rfl) ?_
  refine end_noneN S rfl ?_
  first
    | (rw [Ls.commit_no (by omega), Ls.comm_yes hk]
       have M3 := (M.drop 1).perm (List.Perm.swap _ _ _)
       exact ⟨rfl, _, _, _, _, by simpa only [opE, opV, List.length_set] using M3⟩)
    | (rw [Ls.commit_no (by omega), Ls.comm_no (fdI_neg (by omega))]
       exact ⟨rfl, _, _, _, _, ((M.drop 1).drop 1).perm (List.Perm.swap _ _ _)⟩)
    | (rw [Ls.commit_yes (by omega), Ls.comm_yes hk]
       have M3 := (M.drop 1).perm (List.Perm.swap _ _ _)
       rw [lgC_map _ _ _ (by omega)] at M3
       exact ⟨rfl, _, _, _, _, by simpa only [opE, opV, List.length_set] using M3⟩)
    | (rw [Ls.commit_yes (by omega), Ls.comm_no (fdI_neg (by omega))]
       have M3 := ((M.drop 1).drop 1).perm (List.Perm.swap _ _ _)
       rw [lgC_map _ _ _ (by omega)] at M3
       exact ⟨rfl, _, _, _, _, M3⟩)
end Go.Proofs.YtmdededhoibofaaGreat

namespace Go.Proofs.YtmdededhoibofaaGreat
open Go.RowKit Go.Sort
set_option maxHeartbeats 400000 in
theorem copied_any {b : Nat} (dv : Value) (s : Ls) (va : Option Addr) (vc : Nat) (w : World) (B : Blk w b (lgC dv s (opV va vc s.op)).toArray 76) (hv : Rd 0 w.heap.size w 12 (opV va vc s.op) s.op.length (rcsC s.op)) (hl : s.op.length ≤ 1000) :
    Calls Tryz.prog 66 #[.pointer (some ⟨b, 1, none⟩)] w fun e w' => ∃ va2 vc2, e = .returned (.agg (stC s (opV va2 vc2 s.op)).toArray) ∧ Fresh w w' 29 12 (opV va2 vc2 s.op) s.op.length (rcsC s.op) := by
  have M := Mem.start w
  refine calls_enter Tryz.func66 rfl 14 rfl rfl ?_; intro a S
  refine nxD ?_
  refine st_alloc S M rfl rfl #[.int .i64 0, .int .i64 0, .int .i64 0, .int .i64 0, .int .i64 0, .int .i64 0, .int .i64 0, .int .i64 0, .int .i64 0, .int .i64 0, .int .i64 0, .int .i64 0, .int .i64 0, .int .i64 0, .int .i64 0, .int .i64 0, .int .i64 0, .int .i64 0, .int .i64 0, .int .i64 0, .int .i64 0, .int .i64 0, .int .i64 0, .int .i64 0, .slice none 0 0] (by kernel_rfl) ?_; clear S M a; intro a w1 bZ S M hB
  refine nxA ?_
  refine st_go [1, 1] S rfl (by kernel_rfl) ?_; clear S a; intro a S
  refine st_y S rfl rfl rfl (y_loadAgg S (by kernel_rfl) rfl rfl (show CellsAt _ b 1 (stC s (opV va vc s.op)) from Blk.cellsAt (o := 1) (k := 25) (B.cells0 M.below) rfl)) ?_; clear S a; intro a S
  refine st_alloc S M rfl rfl #[.int .i64 0, .int .i64 0, .int .i64 0, .int .i64 0, .int .i64 0, .int .i64 0, .int .i64 0, .int .i64 0, .int .i64 0, .int .i64 0, .int .i64 0, .int .i64 0, .int .i64 0, .int .i64 0, .int .i64 0, .int .i64 0, .int .i64 0, .int .i64 0, .int .i64 0, .int .i64 0, .int .i64 0, .int .i64 0, .int .i64 0, .int .i64 0, .slice none 0 0] (by kernel_rfl) ?_; clear S M a; intro a w2 bY S M hB
  refine st_store (sz := 25) (us := [_, _, _, _, _, _, _, _, _, _, _, _, _, _, _, _, _, _, _, _, _, _, _, _, _]) S M 0 rfl (by kernel_rfl) rfl rfl rfl rfl rfl rfl (by first | decide | (simp; done) | (simp; omega)) ?_; clear M; intro w3 M
  simp only [putL, List.set_cons_zero, List.set_cons_succ, Nat.reduceAdd] at M
  refine nxA ?_
  refine st_go [1, 1, 25] S rfl (by kernel_rfl) ?_; clear S a; intro a S
  refine st_y S rfl rfl rfl (y_load S (by kernel_rfl) rfl (by rw [(B.cells0 M.below).cells]; rfl)) ?_; clear S a; intro a S
  refine st_call (xs := [(Operand.tmp 10)]) S (enters_of Tryz.func42 (by decide) rfl) rfl rfl rfl (cloneR_any _ s.op _ (M.argW hv) (by omega)) ?_
  rintro _ w4 ⟨v2, rfl, hF⟩; refine ⟨_, rfl, ?_⟩; clear S a; intro a S
  obtain ⟨lo, hi, -, M1⟩ := M.pushFresh hF; clear M; have M := M1; clear M1
  obtain ⟨va2, vc2, rfl, -, -⟩ := (M.readAll 0 rfl (by unfold maxLen; omega)).form
  refine st_go [25] S rfl (by kernel_rfl) ?_; clear S a; intro a S
  refine st_store (sz := 1) (us := [_]) S M 1 rfl (by kernel_rfl) rfl rfl rfl rfl rfl rfl (by first | decide | (simp; done) | (simp; omega)) ?_; clear M; intro w5 M
  simp only [putL, List.set_cons_zero, List.set_cons_succ, Nat.reduceAdd] at M
  refine nxA ?_
  refine st_y S rfl rfl rfl (y_loadAgg (cs := [_, _, _, _, _, _, _, _, _, _, _, _, _, _, _, _, _, _, _, _, _, _, _, _, _]) S (by kernel_rfl) rfl rfl (M.cellsAt (k := 25) 1 rfl rfl)) ?_; clear S a; intro a S
  refine st_store (sz := 25) (us := [_, _, _, _, _, _, _, _, _, _, _, _, _, _, _, _, _, _, _, _, _, _, _, _, _]) S M 2 rfl (by kernel_rfl) rfl rfl rfl rfl rfl rfl (by first | decide | (simp; done) | (simp; omega)) ?_; clear M; intro w6 M
  simp only [putL, List.set_cons_zero, List.set_cons_succ, Nat.reduceAdd] at M
  refine nxC ?_
  refine wp_ret ?_
  refine end_one S rfl (res_agg (cs := [_, _, _, _, _, _, _, _, _, _, _, _, _, _, _, _, _, _, _, _, _, _, _, _, _]) (by kernel_rfl) rfl rfl (M.cellsAt (k := 25) 2 rfl rfl)) ?_
  exact ⟨va2, vc2, rfl, M.fresh 0 rfl⟩
abbrev e8 : Int → Value := fun z => .int .i8 z
theorem key8 : KeyT Tryz.prog 22 e8 := key_i8 Tryz.underlying22
set_option maxRecDepth 100000 in
theorem zero_fn (w : World) : (zeroValue 126).run Tryz.prog w = .ok .nilFunc w := by
  obtain ⟨i, hi, hz⟩ : ∃ i, Tryz.prog.info? 126 = some i ∧ i.zero = some .nilFunc := by
    refine ⟨_, rfl, ?_⟩
    kernel_rfl
  simp [zeroValue, typeInfo, hi, hz, go_sem]
def methK (k : Int) : Nat := if k = 4 then 58 else if k = 5 then 59 else 60
theorem methK_enters {k : Int} (h : k = 4 ∨ k = 5 ∨ k = 6) : Enters Tryz.prog (methK k) := by
  rcases h with rfl | rfl | rfl
  · exact enters_of Tryz.func58 (by decide) rfl
  · exact enters_of Tryz.func59 (by decide) rfl
  · exact enters_of Tryz.func60 (by decide) rfl
/-- the table of what a kind does -/
def tabM (p : Value) : Mes Int × Nat := let a := putM e8 [] 0 4 (.func (.func 58) #[p] #[]); let c := putM e8 a.1 a.2 5 (.func (.func 59) #[p] #[]); putM e8 c.1 c.2 6 (.func (.func 60) #[p] #[])
theorem tabM_get (p : Value) {k : Int} (h : k = 4 ∨ k = 5 ∨ k = 6) : (getM (tabM p).1 k).getD .nilFunc = .func (.func (methK k)) #[p] #[] ∧ decide (k ∈ (tabM p).1.map (·.1)) = true := by
  rcases h with rfl | rfl | rfl <;> exact ⟨rfl, rfl⟩
theorem tabM_good (p : Value) : Good e8 (tabM p).1 (tabM p).2 := ((((good_nil 0).put 4 _).put 5 _).put 6 _)
theorem meth0_any {wc w : World} {H : List Ent} {b lo hi : Nat} (s : Ls) (va : Option Addr) (vc : Nat) (r : Rc) (wv : Value) (M : Mem wc w (.blk b (stC s (opV va vc s.op)).toArray 74 :: opE lo hi va vc s.op :: H)) (hl : s.op.length ≤ 1000) (hc : r.cs < 8) (hk : r.kind = 4 ∨ r.kind = 5 ∨ r.kind = 6) :
    Calls Tryz.prog (methK r.kind) #[.pointer (some ⟨b, 0, none⟩), .agg (r.cells wv)] w fun e w' => e = .returned (.tuple #[]) ∧ ∃ lo2 hi2 va2 vc2, Mem wc w' (.blk b (stC (s.take r) (opV va2 vc2 (s.take r).op)).toArray 74 :: opE lo2 hi2 va2 vc2 (s.take r).op :: H) := by
  unfold Ls.take
  rcases hk with h | h | h
  · rw [show methK r.kind = 58 by rw [h]; rfl, if_pos h]; exact commit0_any s va vc r wv M hl hc
  · rw [show methK r.kind = 59 by rw [h]; rfl, if_neg (by omega), if_pos h]; exact end0_any s va vc r wv M hl
  · rw [show methK r.kind = 60 by rw [h]; rfl, if_neg (by omega), if_neg (by omega)]
    refine (stamps0_any s _ r wv M).mono ?_
    rintro e w' ⟨rfl, M2⟩
    exact ⟨rfl, lo, hi, va, vc, M2⟩
set_option maxHeartbeats 1000000 in
theorem take0_any {wc w : World} {H : List Ent} {b lo hi : Nat} (s : Ls) (va : Option Addr) (vc : Nat) (r : Rc) (wv : Value) (M : Mem wc w (.blk b (stC s (opV va vc s.op)).toArray 74 :: opE lo hi va vc s.op :: H)) (hl : s.op.length ≤ 1000) (hc : r.cs < 8) (hk : r.kind = 4 ∨ r.kind = 5 ∨ r.kind = 6) :
    Calls Tryz.prog 36 #[.pointer (some ⟨b, 0, none⟩), .agg (r.cells wv)] w fun e w' => e = .returned (.bool true) ∧ ∃ lo2 hi2 va2 vc2, Mem wc w' (.blk b (stC (s.take r) (opV va2 vc2 (s.take r).op)).toArray 74 :: opE lo2 hi2 va2 vc2 (s.take r).op :: H) := by
  refine calls_enter Tryz.func36 rfl 28 rfl rfl ?_; intro a S
  refine wp_seq ?_
  skip
  refine wp_region_lit ?_
  refine st_box S M rfl rfl rfl #[_, _, _, _, _, _, _, _, _, _, _, _] rfl ?_; clear S M a; intro a w1 bX S M hB
  refine st_go [1] S rfl (by kernel_rfl) ?_; clear S a; intro a S
  refine nxA ?_
  refine st_makeMap (κ := Int) S M rfl rfl ?_; clear S M a; intro a w2 bMP S M hB
  refine st_go [1] S rfl (by kernel_rfl) ?_; clear S a; intro a S
  refine st_y S rfl rfl rfl (y_makeFunc (fs := [(Operand.tmp 9)]) (cs := []) S rfl rfl) ?_; clear S a; intro a S
  refine st_insertM (pos := 0) S M (key8) (good_nil _) Tryz.underlying127 rfl rfl rfl rfl rfl ?_; clear M; intro w3 M
  simp only [List.set_cons_zero, List.set_cons_succ] at M
  refine st_go [1] S rfl (by kernel_rfl) ?_; clear S a; intro a S
  refine st_y S rfl rfl rfl (y_makeFunc (fs := [(Operand.tmp 11)]) (cs := []) S rfl rfl) ?_; clear S a; intro a S
  refine st_insertM (pos := 0) S M (key8) ((good_nil _).put 4 _) Tryz.underlying127 rfl rfl rfl rfl rfl ?_; clear M; intro w4 M
  simp only [List.set_cons_zero, List.set_cons_succ] at M
  refine st_go [1] S rfl (by kernel_rfl) ?_; clear S a; intro a S
  refine st_y S rfl rfl rfl (y_makeFunc (fs := [(Operand.tmp 13)]) (cs := []) S rfl rfl) ?_; clear S a; intro a S
  refine st_insertM (pos := 0) S M (key8) (((good_nil _).put 4 _).put 5 _) Tryz.underlying127 rfl rfl rfl rfl rfl ?_; clear M; intro w5 M
  simp only [List.set_cons_zero, List.set_cons_succ] at M
  refine st_go [1, 1] S rfl (by kernel_rfl) ?_; clear S a; intro a S
  refine nxC ?_
  refine wp_seq ?_
  obtain ⟨tm, htm⟩ : ∃ tm, tabM (.pointer (some ⟨b, 0, none⟩)) = tm := ⟨_, rfl⟩
  have hg := tabM_get (.pointer (some ⟨b, 0, none⟩)) hk
  have hG := tabM_good (.pointer (some ⟨b, 0, none⟩))
  replace M : Mem wc w5 (mapX bMP (tabM (.pointer (some ⟨b, 0, none⟩))).1 (tabM (.pointer (some ⟨b, 0, none⟩))).2 :: .blk bX (r.cells wv) 29 :: .blk b (stC s (opV va vc s.op)).toArray 74 :: opE lo hi va vc s.op :: H) := M
  rw [htm] at hg hG M
  refine wp_region_lit ?_
  refine st_run [1, 1, 2] S M rfl (by kernel_rfl) ?_; clear S a; intro a S
  refine st_y S rfl rfl rfl (y_lookupM (pos := 0) S M (key8) (hG) Tryz.underlying127 (zero_fn) rfl rfl rfl) ?_; clear S a; intro a S
  simp only [hg.1, hg.2, if_true] at S
  refine st_y S rfl rfl rfl (y_move S rfl) ?_; clear S a; intro a S
  refine st_go [1, 1, 1, 1] S rfl (by kernel_rfl) ?_; clear S a; intro a S
  replace S := S.sub [(0, _), (1, _), (3, _), (4, _), (5, _), (6, _), (7, _)] rfl
  refine nxC ?_
  refine wp_seq ?_
  refine nxD ?_
  refine st_go [1] S rfl (by kernel_rfl) ?_; clear S a; intro a S
  refine nxC ?_
  refine st_fi (t := 23) S rfl ?_ ?_
  · clear S; intro h23 S
    first | cases h23 | (simp at h23)
  clear S; intro h23 S
  refine st_condT S rfl ?_
  skip
  replace M := M.ord [3, 3] (by simp only [ordO, oG, oS, oE, oZ, oB] <;> rfl)
  refine wp_region_lit ?_
  refine st_go [1] S rfl (by kernel_rfl) ?_; clear S a; intro a S
  refine st_y S rfl rfl rfl (y_loadAgg (cs := [_, _, _, _, _, _, _, _, _, _, _, _]) S (by kernel_rfl) rfl rfl (M.cellsAt (k := 12) 3 rfl rfl)) ?_; clear S a; intro a S
  refine st_callB (xs := [(Operand.tmp 25)]) (fi := [_]) (ca := []) S (methK_enters hk) rfl rfl (rfl) rfl (meth0_any s va vc r wv M hl hc hk) ?_
  rintro _ w6 ⟨rfl, lo2, hi2, va2, vc2, M2⟩; refine ⟨_, rfl, ?_⟩; clear S M a; intro a S; have M := M2; clear M2
  refine nxA ?_
  refine st_go [1, 1] S rfl (by kernel_rfl) ?_; clear S a; intro a S
  refine nxC ?_
  refine wp_ret ?_
  refine end_one S rfl (res_tmp rfl) ?_
  exact ⟨rfl, lo2, hi2, va2, vc2, (M.drop 2).drop 2⟩
theorem meth1_any {wc w : World} {H : List Ent} {b lo hi : Nat} (dv : Value) (s : Ls) (va : Option Addr) (vc : Nat) (r : Rc) (wv : Value) (M : Mem wc w (.blk b (lgC dv s (opV va vc s.op)).toArray 76 :: opE lo hi va vc s.op :: H)) (hl : s.op.length ≤ 1000) (hc : r.cs < 8) (hk : r.kind = 4 ∨ r.kind = 5 ∨ r.kind = 6) :
    Calls Tryz.prog (methK r.kind) #[.pointer (some ⟨b, 1, none⟩), .agg (r.cells wv)] w fun e w' => e = .returned (.tuple #[]) ∧ ∃ lo2 hi2 va2 vc2, Mem wc w' (.blk b (lgC dv (s.take r) (opV va2 vc2 (s.take r).op)).toArray 76 :: opE lo2 hi2 va2 vc2 (s.take r).op :: H) := by
  unfold Ls.take
  rcases hk with h | h | h
  · rw [show methK r.kind = 58 by rw [h]; rfl, if_pos h]; exact commit1_any dv s va vc r wv M hl hc
  · rw [show methK r.kind = 59 by rw [h]; rfl, if_neg (by omega), if_pos h]; exact end1_any dv s va vc r wv M hl
  · rw [show methK r.kind = 60 by rw [h]; rfl, if_neg (by omega), if_neg (by omega)]
    refine (stamps1_any dv s _ r wv M).mono ?_
    rintro e w' ⟨rfl, M2⟩
    exact ⟨rfl, lo, hi, va, vc, M2⟩
set_option maxHeartbeats 1000000 in
theorem take1_any {wc w : World} {H : List Ent} {b lo hi : Nat} (dv : Value) (s : Ls) (va : Option Addr) (vc : Nat) (r : Rc) (wv : Value) (M : Mem wc w (.blk b (lgC dv s (opV va vc s.op)).toArray 76 :: opE lo hi va vc s.op :: H)) (hl : s.op.length ≤ 1000) (hc : r.cs < 8) (hk : r.kind = 4 ∨ r.kind = 5 ∨ r.kind = 6) :
    Calls Tryz.prog 36 #[.pointer (some ⟨b, 1, none⟩), .agg (r.cells wv)] w fun e w' => e = .returned (.bool true) ∧ ∃ lo2 hi2 va2 vc2, Mem wc w' (.blk b (lgC dv (s.take r) (opV va2 vc2 (s.take r).op)).toArray 76 :: opE lo2 hi2 va2 vc2 (s.take r).op :: H) := by
  refine calls_enter Tryz.func36 rfl 28 rfl rfl ?_; intro a S
  refine wp_seq ?_
  skip
  refine wp_region_lit ?_
  refine st_box S M rfl rfl rfl #[_, _, _, _, _, _, _, _, _, _, _, _] rfl ?_; clear S M a; intro a w1 bX S M hB
  refine st_go [1] S rfl (by kernel_rfl) ?_; clear S a; intro a S
  refine nxA ?_
  refine st_makeMap (κ := Int) S M rfl rfl ?_; clear S M a; intro a w2 bMP S M hB
  refine st_go [1] S rfl (by kernel_rfl) ?_; clear S a; intro a S
  refine st_y S rfl rfl rfl (y_makeFunc (fs := [(Operand.tmp 9)]) (cs := []) S rfl rfl) ?_; clear S a; intro a S
  refine st_insertM (pos := 0) S M (key8) (good_nil _) Tryz.underlying127 rfl rfl rfl rfl rfl ?_; clear M; intro w3 M
  simp only [List.set_cons_zero, List.set_cons_succ] at M
  refine st_go [1] S rfl (by kernel_rfl) ?_; clear S a; intro a S
  refine st_y S rfl rfl rfl (y_makeFunc (fs := [(Operand.tmp 11)]) (cs := []) S rfl rfl) ?_; clear S a; intro a S
  refine st_insertM (pos := 0) S M (key8) ((good_nil _).put 4 _) Tryz.underlying127 rfl rfl rfl rfl rfl ?_; clear M; intro w4 M
  simp only [List.set_cons_zero, List.set_cons_succ] at M
  refine st_go [1] S rfl (by kernel_rfl) ?_; clear S a; intro a S
  refine st_y S rfl rfl rfl (y_makeFunc (fs := [(Operand.tmp 13)]) (cs := []) S rfl rfl) ?_; clear S a; intro a S
  refine st_insertM (pos := 0) S M (key8) (((good_nil _).put 4 _).put 5 _) Tryz.underlying127 rfl rfl rfl rfl rfl ?_; clear M; intro w5 M
  simp only [List.set_cons_zero, List.set_cons_succ] at M
  refine st_go [1, 1] S rfl (by kernel_rfl) ?_; clear S a; intro a S
  refine nxC ?_
  refine wp_seq ?_
  obtain ⟨tm, htm⟩ : ∃ tm, tabM (.pointer (some ⟨b, 1, none⟩)) = tm := ⟨_, rfl⟩
  have hg := tabM_get (.pointer (some ⟨b, 1, none⟩)) hk
  have hG := tabM_good (.pointer (some ⟨b, 1, none⟩))
  replace M : Mem wc w5 (mapX bMP (tabM (.pointer (some ⟨b, 1, none⟩))).1 (tabM (.pointer (some ⟨b, 1, none⟩))).2 :: .blk bX (r.cells wv) 29 :: .blk b (lgC dv s (opV va vc s.op)).toArray 76 :: opE lo hi va vc s.op :: H) := M
  rw [htm] at hg hG M
  refine wp_region_lit ?_
  refine st_run [1, 1, 2] S M rfl (by kernel_rfl) ?_; clear S a; intro a S
  refine st_y S rfl rfl rfl (y_lookupM (pos := 0) S M (key8) (hG) Tryz.underlying127 (zero_fn) rfl rfl rfl) ?_; clear S a; intro a S
  simp only [hg.1, hg.2, if_true] at S
  refine st_y S rfl rfl rfl (y_move S rfl) ?_; clear S a; intro a S
  refine st_go [1, 1, 1, 1] S rfl (by kernel_rfl) ?_; clear S a; intro a S
  replace S := S.sub [(0, _), (1, _), (3, _), (4, _), (5, _), (6, _), (7, _)] rfl
  refine nxC ?_
  refine wp_seq ?_
  refine nxD ?_
  refine st_go [1] S rfl (by kernel_rfl) ?_; clear S a; intro a S
  refine nxC ?_
  refine st_fi (t := 23) S rfl ?_ ?_
  · clear S; intro h23 S
    first | cases h23 | (simp at h23)
  clear S; intro h23 S
  refine st_condT S rfl ?_
  skip
  replace M := M.ord [3, 3] (by simp only [ordO, oG, oS, oE, oZ, oB] <;> rfl)
  refine wp_region_lit ?_
  refine st_go [1] S rfl (by kernel_rfl) ?_; clear S a; intro a S
  refine st_y S rfl rfl rfl (y_loadAgg (cs := [_, _, _, _, _, _, _, _, _, _, _, _]) S (by kernel_rfl) rfl rfl (M.cellsAt (k := 12) 3 rfl rfl)) ?_; clear S a; intro a S
  refine st_callB (xs := [(Operand.tmp 25)]) (fi := [_]) (ca := []) S (methK_enters hk) rfl rfl (rfl) rfl (meth1_any dv s va vc r wv M hl hc hk) ?_
  rintro _ w6 ⟨rfl, lo2, hi2, va2, vc2, M2⟩; refine ⟨_, rfl, ?_⟩; clear S M a; intro a S; have M := M2; clear M2
  refine nxA ?_
  refine st_go [1, 1] S rfl (by kernel_rfl) ?_; clear S a; intro a S
  refine nxC ?_
  refine wp_ret ?_
  refine end_one S rfl (res_tmp rfl) ?_
  exact ⟨rfl, lo2, hi2, va2, vc2, (M.drop 2).drop 2⟩
end Go.Proofs.YtmdededhoibofaaGreat

namespace Go.Proofs.YtmdededhoibofaaGreat
open Go.RowKit Go.Sort
/-! ### bytes -/
def nmB (n : Nm) : List UInt8 := leB n.stamp 3 ++ (leB n.inc 3 ++ leB n.try_ 3)
def V8.bs (v : V8) : List UInt8 := [v.v0, v.v1, v.v2, v.v3, v.v4, v.v5, v.v6, v.v7]
def wrB (x : Wr) : List UInt8 := leB x.block 1 ++ x.val.bs
def wrsB (ws : List Wr) : List UInt8 := ws.flatMap wrB
def wsB (ws : List Wr) : List UInt8 := leB ws.length 1 ++ wrsB ws
theorem wrsB_succ {x : List Wr} {k : Nat} {p : Wr} (h : x[k]? = some p) : wrsB (x.take (k + 1)) = wrsB (x.take k) ++ wrB p := by
  obtain ⟨hlt, he⟩ := List.getElem?_eq_some_iff.1 h
  rw [List.take_succ_eq_append_getElem hlt, he]; simp [wrsB]
theorem wrsB_len (x : List Wr) : (wrsB x).length = x.length * 9 := by
  induction x with
  | nil => rfl
  | cons a ws ih => rw [show wrsB (a :: ws) = wrB a ++ wrsB ws by simp [wrsB], List.length_append, ih]; simp [wrB, leB_length, V8.bs]; omega
def Rc.body (r : Rc) (x : List Wr) : List UInt8 :=
  if r.kind = 1 then nmB r.name ++ wsB x
  else if r.kind = 2 then nmB r.name ++ (wsB x ++ (leB r.give 1 ++ leB r.take 1))
  else if r.kind = 3 then nmB r.name ++ leB (if r.yes then 1 else 0) 1
  else if r.kind = 4 then nmB r.name ++ (leB r.shards 1 ++ (leB (r.cs + 1) 1 ++ leB r.ct 1))
  else if r.kind = 5 then nmB r.name
  else leB r.n 3
def Rc.enc (r : Rc) (x : List Wr) : List UInt8 := leB r.kind 1 ++ r.body x
theorem i8_in {i : Int} (h : 0 ≤ i ∧ i < 128) : IntKind.i8.wrap i = i := by
  simp [IntKind.wrap, IntKind.bits, IntKind.signed]; omega
theorem leB1 (n : Int) : leB n 1 = [byteOf n] := by simp [leB]
theorem leB3 (n : Int) : leB n 3 = [byteOf n, byteOf (n / 256), byteOf (n / 65536)] := by simp [leB, List.range, List.range.loop]
theorem byteOf_toNat (i : Int) : ((byteOf i).toNat : Int) = i % 256 := by
  have h1 : 0 ≤ i % 256 := Int.emod_nonneg _ (by omega)
  have h2 : i % 256 < 256 := Int.emod_lt_of_pos _ (by omega)
  unfold byteOf
  have : (UInt8.ofNat (i % 256).toNat).toNat = (i % 256).toNat := by simp; omega
  rw [this]; omega
theorem leN_leB1 {n : Int} (h0 : 0 ≤ n) (h : n < 256) : (leN (leB n 1) : Int) = n := by
  rw [leB1]; simp only [leN]
  have := byteOf_toNat n
  have e := Int.emod_eq_of_lt h0 h
  omega
theorem leN_leB3 {n : Int} (h0 : 0 ≤ n) (h : n < 16777216) : (leN (leB n 3) : Int) = n := by
  rw [leB3]; simp only [leN]
  have e0 := byteOf_toNat n
  have e1 := byteOf_toNat (n / 256)
  have e2 := byteOf_toNat (n / 65536)
  omega
/-! ### taking -/
structure Rs where
  at_ : Nat
  bad : Bool
def tk (bs : List UInt8) (k : Nat) (s : Rs) : Int × Rs :=
  if s.at_ + k ≤ bs.length then (leN ((bs.drop s.at_).take k), ⟨s.at_ + k, s.bad⟩) else (0, ⟨s.at_, true⟩)
theorem tk_at (pre mid post : List UInt8) (b : Bool) : tk (pre ++ (mid ++ post)) mid.length ⟨pre.length, b⟩ = ((leN mid : Int), ⟨pre.length + mid.length, b⟩) := by
  unfold tk
  rw [if_pos (by simp only [List.length_append]; omega)]
  simp
def rdName (bs : List UInt8) (s : Rs) : Nm × Rs :=
  let a := tk bs 3 s
  let b := tk bs 3 a.2
  let c := tk bs 3 b.2
  (⟨a.1, b.1, c.1⟩, c.2)
/-- k bytes, each taken by itself -/
def rdBs (bs : List UInt8) : Nat → Rs → List UInt8 × Rs
  | 0, s => ([], s)
  | k + 1, s => let a := tk bs 1 s; let r := rdBs bs k a.2; (byteOf a.1 :: r.1, r.2)
def v8 (l : List UInt8) : V8 := ⟨l.getD 0 0, l.getD 1 0, l.getD 2 0, l.getD 3 0, l.getD 4 0, l.getD 5 0, l.getD 6 0, l.getD 7 0⟩
def rdWr (bs : List UInt8) (s : Rs) : Wr × Rs := let a := tk bs 1 s; let v := rdBs bs 8 a.2; (⟨a.1, v8 v.1⟩, v.2)
def rdWrs (bs : List UInt8) : Nat → Rs → List Wr × Rs
  | 0, s => ([], s)
  | k + 1, s => let a := rdWr bs s; let r := rdWrs bs k a.2; (a.1 :: r.1, r.2)
def rdWs (bs : List UInt8) (s : Rs) : List Wr × Rs := let a := tk bs 1 s; rdWrs bs (min a.1 8).toNat a.2
def rdBody (bs : List UInt8) (kind : Int) (s : Rs) : Rc × List Wr × Rs :=
  if kind = 1 then
    let a := rdName bs s; let l := rdWs bs a.2
    ({ Rc.zero with kind := kind, name := a.1 }, l.1, l.2)
  else if kind = 2 then
    let a := rdName bs s; let l := rdWs bs a.2; let g := tk bs 1 l.2; let t := tk bs 1 g.2
    ({ Rc.zero with kind := kind, name := a.1, give := g.1, take := t.1 }, l.1, t.2)
  else if kind = 3 then
    let a := rdName bs s; let y := tk bs 1 a.2
    ({ Rc.zero with kind := kind, name := a.1, yes := y.1 == 1 }, [], y.2)
  else if kind = 4 then
    let a := rdName bs s; let x := tk bs 1 a.2; let y := tk bs 1 x.2; let z := tk bs 1 y.2
    ({ Rc.zero with kind := kind, name := a.1, shards := x.1, cs := y.1 - 1, ct := z.1 }, [], z.2)
  else if kind = 5 then
    let a := rdName bs s
    ({ Rc.zero with kind := kind, name := a.1 }, [], a.2)
  else
    let a := tk bs 3 s
    ({ Rc.zero with kind := kind, n := a.1 }, [], a.2)
theorem tk1 (pre post : List UInt8) (b : Bool) {n : Int} (h0 : 0 ≤ n) (h : n < 256) : tk (pre ++ (leB n 1 ++ post)) 1 ⟨pre.length, b⟩ = (n, ⟨(pre ++ leB n 1).length, b⟩) := by
  have := tk_at pre (leB n 1) post b
  rw [leB_length, leN_leB1 h0 h] at this
  rw [this, List.length_append, leB_length]
theorem tk3 (pre post : List UInt8) (b : Bool) {n : Int} (h0 : 0 ≤ n) (h : n < 16777216) : tk (pre ++ (leB n 3 ++ post)) 3 ⟨pre.length, b⟩ = (n, ⟨(pre ++ leB n 3).length, b⟩) := by
  have := tk_at pre (leB n 3) post b
  rw [leB_length, leN_leB3 h0 h] at this
  rw [this, List.length_append, leB_length]
theorem rdName_at (pre post : List UInt8) (b : Bool) {n : Nm} (h : n.named = true) : rdName (pre ++ (nmB n ++ post)) ⟨pre.length, b⟩ = (n, ⟨(pre ++ nmB n).length, b⟩) := by
  obtain ⟨h1, h2, h3⟩ := named_iff.1 h
  have e : pre ++ (nmB n ++ post) = pre ++ (leB n.stamp 3 ++ (leB n.inc 3 ++ (leB n.try_ 3 ++ post))) := by simp [nmB]
  have e1 := tk3 pre (leB n.inc 3 ++ (leB n.try_ 3 ++ post)) b (n := n.stamp) (by omega) (by omega)
  have e2 := tk3 (pre ++ leB n.stamp 3) (leB n.try_ 3 ++ post) b (n := n.inc) (by omega) (by omega)
  have e3 := tk3 (pre ++ leB n.stamp 3 ++ leB n.inc 3) post b (n := n.try_) (by omega) (by omega)
  simp only [List.append_assoc] at e2 e3
  unfold rdName
  simp only [e, e1, e2, e3]
  simp [nmB]
theorem leN_one (x : UInt8) : leN [x] = x.toNat := by simp [leN]
theorem byteOf_of (x : UInt8) : byteOf (x.toNat : Int) = x := by
  have := UInt8.toNat_lt x
  apply UInt8.toNat_inj.1
  have := byteOf_toNat (x.toNat : Int)
  omega
theorem rdBs_at : ∀ (mid pre post : List UInt8) (b : Bool), rdBs (pre ++ (mid ++ post)) mid.length ⟨pre.length, b⟩ = (mid, ⟨(pre ++ mid).length, b⟩)
  | [], pre, post, b => by simp [rdBs]
  | x :: mid, pre, post, b => by
    have e1 := tk_at pre [x] (mid ++ post) b
    have e2 := rdBs_at mid (pre ++ [x]) post b
    simp only [List.append_assoc, List.cons_append, List.nil_append, List.length_cons, List.length_nil, Nat.zero_add] at e1 e2
    simp only [List.cons_append, List.length_cons, rdBs, e1, leN_one, byteOf_of]
    have e3 : pre.length + 1 = (pre ++ [x]).length := by simp
    rw [e3, e2]
theorem v8_bs (v : V8) : v8 v.bs = v := by cases v; rfl
theorem rdWr_at (pre post : List UInt8) (b : Bool) {x : Wr} (h0 : 0 ≤ x.block) (h : x.block < 256) : rdWr (pre ++ (wrB x ++ post)) ⟨pre.length, b⟩ = (x, ⟨(pre ++ wrB x).length, b⟩) := by
  have e1 := tk1 pre (x.val.bs ++ post) b h0 h
  have e2 := rdBs_at x.val.bs (pre ++ leB x.block 1) post b
  simp only [List.append_assoc] at e2
  unfold rdWr wrB
  simp only [List.append_assoc, e1]
  rw [show (8 : Nat) = x.val.bs.length from rfl, e2]
  simp [v8_bs]
theorem rdWrs_at : ∀ (ws : List Wr) (pre post : List UInt8) (b : Bool), (∀ x ∈ ws, 0 ≤ x.block ∧ x.block < 256) → rdWrs (pre ++ (wrsB ws ++ post)) ws.length ⟨pre.length, b⟩ = (ws, ⟨(pre ++ wrsB ws).length, b⟩)
  | [], pre, post, b, _ => by simp [rdWrs, wrsB]
  | x :: ws, pre, post, b, h => by
    have hx := h x (List.mem_cons_self ..)
    have e1 := rdWr_at pre (wrsB ws ++ post) b hx.1 hx.2
    have e2 := rdWrs_at ws (pre ++ wrB x) post b (fun y hy => h y (List.mem_cons_of_mem _ hy))
    have ew : wrsB (x :: ws) = wrB x ++ wrsB ws := by simp [wrsB]
    simp only [List.append_assoc] at e2
    rw [ew]
    simp only [List.append_assoc, List.length_cons, rdWrs, e1, e2]
theorem rdWs_at (pre post : List UInt8) (b : Bool) {ws : List Wr} (h : writtenB ws = true) : rdWs (pre ++ (wsB ws ++ post)) ⟨pre.length, b⟩ = (ws, ⟨(pre ++ wsB ws).length, b⟩) := by
  simp only [writtenB, Bool.and_eq_true, decide_eq_true_eq] at h
  have e1 := tk1 pre (wrsB ws ++ post) b (n := (ws.length : Int)) (by omega) (by omega)
  have e2 := rdWrs_at ws (pre ++ leB ws.length 1) post b (fun x hx => by have := rising_mem h.2 x hx; omega)
  simp only [List.append_assoc] at e2
  unfold rdWs wsB
  simp only [List.append_assoc, e1]
  rw [show (min (ws.length : Int) 8).toNat = ws.length by omega, e2]
theorem rdBody_enc {r : Rc} {x : List Wr} (h : r.may x = true) (rest : List UInt8) : rdBody (r.enc x ++ rest) r.kind ⟨1, false⟩ = (r, x, ⟨(r.enc x).length, false⟩) := by
  have hl1 : (leB r.kind 1).length = 1 := leB_length _ _
  rcases may_cases h with ⟨hk, hr, hn, hw⟩ | ⟨hk, hr, hn, hw, hg, ht, -⟩ | ⟨hk, hr, rfl, hn⟩ | ⟨hk, hr, rfl, hn, hs, hc⟩ | ⟨hk, hr, rfl, hn⟩ | ⟨hk, hr, rfl, hn⟩ | ⟨hk, hr, rfl, hn⟩
  · have e1 := rdName_at (leB r.kind 1) (wsB x ++ rest) false hn
    have e2 := rdWs_at (leB r.kind 1 ++ nmB r.name) rest false hw
    rw [hl1] at e1
    simp only [List.append_assoc] at e2
    unfold rdBody Rc.enc Rc.body
    simp only [hk, List.append_assoc, reduceIte] at e1 e2 ⊢
    simp only [e1, e2]
    rw [← hr]
  · simp only [bitsB, decide_eq_true_eq] at hg ht
    have e1 := rdName_at (leB r.kind 1) (wsB x ++ (leB r.give 1 ++ (leB r.take 1 ++ rest))) false hn
    have e2 := rdWs_at (leB r.kind 1 ++ nmB r.name) (leB r.give 1 ++ (leB r.take 1 ++ rest)) false hw
    have e3 := tk1 (leB r.kind 1 ++ nmB r.name ++ wsB x) (leB r.take 1 ++ rest) false (n := r.give) (by omega) (by omega)
    have e4 := tk1 (leB r.kind 1 ++ nmB r.name ++ wsB x ++ leB r.give 1) rest false (n := r.take) (by omega) (by omega)
    rw [hl1] at e1
    simp only [List.append_assoc] at e2 e3 e4
    unfold rdBody Rc.enc Rc.body
    simp only [hk, List.append_assoc, reduceIte, show ¬ (2 : Int) = 1 by omega] at e1 e2 e3 e4 ⊢
    simp only [e1, e2, e3, e4]
    rw [← hr]
  · have e1 := rdName_at (leB r.kind 1) (leB (if r.yes then 1 else 0) 1 ++ rest) false hn
    have e2 := tk1 (leB r.kind 1 ++ nmB r.name) rest false (n := if r.yes then 1 else 0) (by split <;> omega) (by split <;> omega)
    rw [hl1] at e1
    simp only [List.append_assoc] at e2
    unfold rdBody Rc.enc Rc.body
    simp only [hk, List.append_assoc, reduceIte, show ¬ (3 : Int) = 1 by omega, show ¬ (3 : Int) = 2 by omega] at e1 e2 ⊢
    simp only [e1, e2]
    have ey : ((if r.yes then (1 : Int) else 0) == 1) = r.yes := by cases r.yes <;> rfl
    rw [ey, ← hr]
  · simp only [shardsB, changedB, decide_eq_true_eq] at hs hc
    have e1 := rdName_at (leB r.kind 1) (leB r.shards 1 ++ (leB (r.cs + 1) 1 ++ (leB r.ct 1 ++ rest))) false hn
    have e2 := tk1 (leB r.kind 1 ++ nmB r.name) (leB (r.cs + 1) 1 ++ (leB r.ct 1 ++ rest)) false (n := r.shards) (by omega) (by omega)
    have e3 := tk1 (leB r.kind 1 ++ nmB r.name ++ leB r.shards 1) (leB r.ct 1 ++ rest) false (n := r.cs + 1) (by omega) (by omega)
    have e4 := tk1 (leB r.kind 1 ++ nmB r.name ++ leB r.shards 1 ++ leB (r.cs + 1) 1) rest false (n := r.ct) (by omega) (by omega)
    rw [hl1] at e1
    simp only [List.append_assoc] at e2 e3 e4
    unfold rdBody Rc.enc Rc.body
    simp only [hk, List.append_assoc, reduceIte, show ¬ (4 : Int) = 1 by omega, show ¬ (4 : Int) = 2 by omega, show ¬ (4 : Int) = 3 by omega] at e1 e2 e3 e4 ⊢
    simp only [e1, e2, e3, e4]
    have ec : r.cs + 1 - 1 = r.cs := by omega
    rw [ec, ← hr]
  · have e1 := rdName_at (leB r.kind 1) rest false hn
    rw [hl1] at e1
    unfold rdBody Rc.enc Rc.body
    simp only [hk, List.append_assoc, reduceIte, show ¬ (5 : Int) = 1 by omega, show ¬ (5 : Int) = 2 by omega, show ¬ (5 : Int) = 3 by omega, show ¬ (5 : Int) = 4 by omega] at e1 ⊢
    simp only [e1]
    rw [← hr]
  · simp only [withinB, decide_eq_true_eq] at hn
    have e1 := tk3 (leB r.kind 1) rest false (n := r.n) (by omega) (by omega)
    rw [hl1] at e1
    unfold rdBody Rc.enc Rc.body
    simp only [hk, List.append_assoc, reduceIte, show ¬ (6 : Int) = 1 by omega, show ¬ (6 : Int) = 2 by omega, show ¬ (6 : Int) = 3 by omega, show ¬ (6 : Int) = 4 by omega, show ¬ (6 : Int) = 5 by omega] at e1 ⊢
    simp only [e1]
    rw [← hr]
  · simp only [withinB, decide_eq_true_eq] at hn
    have e1 := tk3 (leB r.kind 1) rest false (n := r.n) (by omega) (by omega)
    rw [hl1] at e1
    unfold rdBody Rc.enc Rc.body
    simp only [hk, List.append_assoc, reduceIte, show ¬ (7 : Int) = 1 by omega, show ¬ (7 : Int) = 2 by omega, show ¬ (7 : Int) = 3 by omega, show ¬ (7 : Int) = 4 by omega, show ¬ (7 : Int) = 5 by omega] at e1 ⊢
    simp only [e1]
    rw [← hr]
theorem enc_head (r : Rc) (x : List Wr) : r.enc x = byteOf r.kind :: r.body x := by unfold Rc.enc; rw [leB1]; rfl
theorem enc_len {r : Rc} {x : List Wr} (h : r.may x = true) : 1 ≤ (r.enc x).length ∧ (r.enc x).length ≤ 90 := by
  have hw : ∀ ws : List Wr, (wrsB ws).length = ws.length * 9 := fun ws => by
    induction ws with
    | nil => rfl
    | cons a ws ih => rw [show wrsB (a :: ws) = wrB a ++ wrsB ws by simp [wrsB], List.length_append, ih]; simp [wrB, leB_length, V8.bs]; omega
  have hn : ∀ n : Nm, (nmB n).length = 9 := fun n => by simp [nmB, leB_length]
  have h8 : writtenB x = true → x.length ≤ 8 := fun h => by simp only [writtenB, Bool.and_eq_true, decide_eq_true_eq] at h; exact h.1
  unfold Rc.enc Rc.body
  rcases may_cases h with ⟨hk, -, -, h1⟩ | ⟨hk, -, -, h1, -⟩ | ⟨hk, -⟩ | ⟨hk, -⟩ | ⟨hk, -⟩ | ⟨hk, -⟩ | ⟨hk, -⟩ <;> simp [hk, leB_length, hn, wsB, hw]
  · have := h8 h1; omega
  · have := h8 h1; omega
/-- a reader's cells -/
abbrev rdC (bv : Value) (s : Rs) : Array Value := #[bv, .int .i64 (s.at_ : Int), .bool s.bad]
theorem rdBs_snoc (bs : List UInt8) : ∀ (j : Nat) (s : Rs), rdBs bs (j + 1) s = ((rdBs bs j s).1 ++ [byteOf (tk bs 1 (rdBs bs j s).2).1], (tk bs 1 (rdBs bs j s).2).2)
  | 0, s => rfl
  | j + 1, s => by
    show (byteOf (tk bs 1 s).1 :: (rdBs bs (j + 1) (tk bs 1 s).2).1, (rdBs bs (j + 1) (tk bs 1 s).2).2) = _
    rw [rdBs_snoc bs j (tk bs 1 s).2]; rfl
theorem rdBs_len (bs : List UInt8) : ∀ (j : Nat) (s : Rs), (rdBs bs j s).1.length = j
  | 0, s => rfl
  | j + 1, s => by rw [rdBs_snoc]; simp [rdBs_len bs j]
theorem rdWrs_snoc (bs : List UInt8) : ∀ (j : Nat) (s : Rs), rdWrs bs (j + 1) s = ((rdWrs bs j s).1 ++ [(rdWr bs (rdWrs bs j s).2).1], (rdWr bs (rdWrs bs j s).2).2)
  | 0, s => rfl
  | j + 1, s => by
    show ((rdWr bs s).1 :: (rdWrs bs (j + 1) (rdWr bs s).2).1, (rdWrs bs (j + 1) (rdWr bs s).2).2) = _
    rw [rdWrs_snoc bs j (rdWr bs s).2]; rfl
theorem rdWrs_len (bs : List UInt8) : ∀ (j : Nat) (s : Rs), (rdWrs bs j s).1.length = j
  | 0, s => rfl
  | j + 1, s => by rw [rdWrs_snoc]; simp [rdWrs_len bs j]
/-- eight bytes, those that are there first -/
def padB (l : List UInt8) : List UInt8 := l ++ List.replicate (8 - l.length) 0
theorem padB_set {l : List UInt8} (b : Value) (x : UInt8) (h : l.length < 8) : putL (b :: bcells (padB l)) (1 + l.length) [.int .u8 (x.toNat : Int)] = b :: bcells (padB (l ++ [x])) := by
  have e : padB l = l ++ (0 :: List.replicate (8 - (l.length + 1)) 0) := by unfold padB; rw [show 8 - l.length = (8 - (l.length + 1)) + 1 by omega, List.replicate_succ]
  rw [e]; unfold padB
  simp only [putL, bcells, List.map_append, List.map_cons, List.map_nil, List.length_append, List.length_cons, List.length_nil, Nat.add_comm 1 l.length, List.set_cons_succ]
  rw [List.set_append_right _ _ (by simp)]
  simp
theorem padB_full {l : List UInt8} (h : l.length = 8) : bcells (padB l) = (v8 l).cellsL := by
  match l, h with
  | [a, b, c, d, e, f, g, i], _ => rfl
theorem tk1_bd (bs : List UInt8) (s : Rs) : 0 ≤ (tk bs 1 s).1 ∧ (tk bs 1 s).1 ≤ 255 := by
  unfold tk; split
  · have h1 := leN_lt ((bs.drop s.at_).take 1)
    have h2 : ((bs.drop s.at_).take 1).length ≤ 1 := by simp; omega
    have h3 : 256 ^ ((bs.drop s.at_).take 1).length ≤ 256 ^ 1 := Nat.pow_le_pow_right (by omega) h2
    simp only; omega
  · simp
end Go.Proofs.YtmdededhoibofaaGreat

namespace Go.Proofs.YtmdededhoibofaaGreat
open Go.RowKit Go.Sort
/-- a superblock's numbers, and how many bytes each has -/
def Su.nums (s : Su) : List (Int × Nat) := [(s.gen, 6), (s.tail, 6), (s.owned, 1), (s.inc, 3), (s.bound, 3), (s.m0, 1), (s.m1, 1), (s.m2, 1), (s.m3, 1), (s.m4, 1), (s.m5, 1), (s.m6, 1), (s.m7, 1)]
def numsB (l : List (Int × Nat)) : List UInt8 := l.flatMap fun p => leB p.1 p.2
def supB (s : Su) : List UInt8 := sealB (numsB s.nums)
def supS (s : Su) : List UInt8 := supB s ++ List.replicate 33 0
theorem numsB_len (l : List (Int × Nat)) : (numsB l).length = (l.map (·.2)).sum := by
  induction l with
  | nil => rfl
  | cons p l ih => rw [show numsB (p :: l) = leB p.1 p.2 ++ numsB l by simp [numsB], List.length_append, ih, leB_length]; simp
theorem Su.nums_len (s : Su) : (numsB s.nums).length = 27 := by rw [numsB_len]; rfl
theorem supB_len (s : Su) : (supB s).length = 31 := by unfold supB sealB; rw [List.length_append, s.nums_len]; rfl
theorem leN_leBk : ∀ (k : Nat) {n : Int}, 0 ≤ n → n < 256 ^ k → (leN (leB n k) : Int) = n
  | 0, n, h0, h => by simp only [Int.pow_zero] at h; obtain rfl : n = 0 := by omega
                      rfl
  | k + 1, n, h0, h => by
    have e : leB n (k + 1) = byteOf n :: leB (n / 256) k := by
      unfold leB
      rw [List.range_succ_eq_map, List.map_cons, List.map_map]
      congr 1
      · simp
      · refine List.map_congr_left fun i _ => ?_
        simp only [Function.comp]
        rw [Int.pow_succ, Int.mul_comm, ← Int.ediv_ediv_of_nonneg (by omega)]
    have ih := leN_leBk k (n := n / 256) (by omega) (by
      rw [Int.pow_succ] at h
      exact Int.ediv_lt_of_lt_mul (by omega) h)
    rw [e]
    simp only [leN]
    have e1 := byteOf_toNat n
    omega
theorem numB_at (pre post : List UInt8) {n : Int} {k : Nat} (h0 : 0 ≤ n) (h : n < 256 ^ k) : numB (pre ++ (leB n k ++ post)) pre.length k = n := by
  unfold numB
  rw [List.drop_left, List.take_append_of_le_length (by rw [leB_length]; exact Nat.le_refl _), List.take_of_length_le (by rw [leB_length]; exact Nat.le_refl _)]
  exact leN_leBk k h0 h
theorem suOf_nums {s : Su} (h : s.may) : suOf (numsB s.nums) = s := by
  obtain ⟨hm, h1, h2, h3, h4, h5, h6, h7, h8, h9, h10⟩ := h
  have m : ∀ k, k < 8 → 0 ≤ s.mAt k ∧ s.mAt k < 256 := fun k hk => by have := hm k hk; omega
  have q0 := m 0 (by omega); have q1 := m 1 (by omega); have q2 := m 2 (by omega); have q3 := m 3 (by omega)
  have q4 := m 4 (by omega); have q5 := m 5 (by omega); have q6 := m 6 (by omega); have q7 := m 7 (by omega)
  simp only [Su.mAt] at q0 q1 q2 q3 q4 q5 q6 q7
  have key : ∀ (a b : List (Int × Nat)) (n : Int) (k p : Nat), s.nums = a ++ (n, k) :: b → (a.map (·.2)).sum = p → 0 ≤ n → n < 256 ^ k → numB (numsB s.nums) p k = n := by
    intro a b n k p e hp h0 h
    have e2 : numsB s.nums = numsB a ++ (leB n k ++ numsB b) := by rw [e]; simp [numsB]
    rw [e2, ← hp, ← numsB_len a]
    exact numB_at _ _ h0 h
  have e0 := key [] _ s.gen 6 0 rfl rfl (by omega) (by omega)
  have e1 := key [_] _ s.tail 6 6 rfl rfl (by omega) (by omega)
  have e2 := key [_, _] _ s.owned 1 12 rfl rfl (by omega) (by omega)
  have e3 := key [_, _, _] _ s.inc 3 13 rfl rfl (by omega) (by omega)
  have e4 := key [_, _, _, _] _ s.bound 3 16 rfl rfl (by omega) (by omega)
  have f0 := key [_, _, _, _, _] _ s.m0 1 19 rfl rfl (by omega) (by omega)
  have f1 := key [_, _, _, _, _, _] _ s.m1 1 20 rfl rfl (by omega) (by omega)
  have f2 := key [_, _, _, _, _, _, _] _ s.m2 1 21 rfl rfl (by omega) (by omega)
  have f3 := key [_, _, _, _, _, _, _, _] _ s.m3 1 22 rfl rfl (by omega) (by omega)
  have f4 := key [_, _, _, _, _, _, _, _, _] _ s.m4 1 23 rfl rfl (by omega) (by omega)
  have f5 := key [_, _, _, _, _, _, _, _, _, _] _ s.m5 1 24 rfl rfl (by omega) (by omega)
  have f6 := key [_, _, _, _, _, _, _, _, _, _, _] _ s.m6 1 25 rfl rfl (by omega) (by omega)
  have f7 := key [_, _, _, _, _, _, _, _, _, _, _, _] _ s.m7 1 26 rfl rfl (by omega) (by omega)
  unfold suOf
  rw [e0, e1, e2, e3, e4, f0, f1, f2, f3, f4, f5, f6, f7]
theorem zerosB_rep (n : Nat) : zerosB (List.replicate n 0) = true := by unfold zerosB; simp
theorem supP_put {s : Su} (h : s.may) {k : Nat} (hk : s.gen % 2 = (k : Int)) : supP (supS s) k = some s := by
  have hl := supB_len s
  have e27 : (supS s).take 27 = numsB s.nums := by
    unfold supS supB sealB
    rw [List.append_assoc, List.take_append_of_le_length (by rw [s.nums_len]; exact Nat.le_refl _), List.take_of_length_le (by rw [s.nums_len]; exact Nat.le_refl _)]
  have e31 : (supS s).take (27 + 4) = supB s := by
    unfold supS
    rw [List.take_append_of_le_length (by rw [hl]; exact Nat.le_refl _), List.take_of_length_le (by rw [hl]; exact Nat.le_refl _)]
  have d31 : (supS s).drop (27 + 4) = List.replicate 33 0 := by
    unfold supS
    rw [List.drop_append_of_le_length (by rw [hl]; exact Nat.le_refl _), List.drop_of_length_le (by rw [hl]; exact Nat.le_refl _), List.nil_append]
  unfold supP
  rw [if_pos]
  · rw [e27, suOf_nums h]
  · rw [e27, suOf_nums h]
    refine ⟨?_, h, hk⟩
    unfold opnB
    rw [e31, d31, zerosB_rep, openB_true (show openOk (supB s) from ⟨_, rfl⟩)]; rfl
/-- the two sectors hold this superblock, and no greater one -/
structure SupI (sec : Nat → List UInt8) (s : Su) : Prop where
  may : s.may
  here : sec (s.gen % 2).toNat = supS s
  there : ∀ k x, k < 2 → k ≠ (s.gen % 2).toNat → supP (sec k) k = some x → x.gen < s.gen
theorem SupI.gs {sec : Nat → List UInt8} {s : Su} (h : SupI sec s) : gsR sec = (s, 0) := by
  have hm : s.gen % 2 = 0 ∨ s.gen % 2 = 1 := by omega
  unfold gsR bestN
  rcases hm with hg | hg
  · have h0 : supP (sec 0) 0 = some s := by have := h.here; rw [hg] at this; rw [show sec 0 = supS s from this]; exact supP_put h.may hg
    have h1 := h.there 1
    rw [hg] at h1
    have b1 : bestN sec 1 = some s := by unfold bestN; rw [h0]; rfl
    rw [b1]
    cases e : supP (sec 1) 1 with
    | none => rfl
    | some x => have := h1 x (by omega) (by decide) e; simp only; rw [if_neg (by omega)]
  · have h1 : supP (sec 1) 1 = some s := by have := h.here; rw [hg] at this; rw [show sec 1 = supS s from this]; exact supP_put h.may hg
    have h0 := h.there 0
    rw [hg] at h0
    rw [h1]
    unfold bestN bestN
    cases e : supP (sec 0) 0 with
    | none => rfl
    | some x => have := h0 x (by omega) (by decide) e; simp only; rw [if_pos this]
/-- a superblock put over the older of the two -/
theorem SupI.put {sec sec2 : Nat → List UInt8} {s t : Su} (h : SupI sec s) (ht : t.may) (hg : t.gen = s.gen + 1) (h1 : sec2 (t.gen % 2).toNat = supS t) (h2 : ∀ k, k < 2 → k ≠ (t.gen % 2).toNat → sec2 k = sec k) : SupI sec2 t := by
  refine ⟨ht, h1, fun k x hk hne hx => ?_⟩
  rw [h2 k hk hne] at hx
  have e : k = (s.gen % 2).toNat := by omega
  have := h.here
  rw [e, h.here, supP_put h.may (by omega)] at hx
  cases hx; omega
end Go.Proofs.YtmdededhoibofaaGreat

namespace Go.Proofs.YtmdededhoibofaaGreat
open Go.RowKit Go.Sort
/-- wherever these entries are owned, the slice reads as these bytes -/
def RdH (wc : World) (H : List Ent) (bv : Value) (bs : List UInt8) : Prop := ∀ w, Mem wc w H → Bs 0 w.heap.size w bv bs
end Go.Proofs.YtmdededhoibofaaGreat

namespace Go.Proofs.YtmdededhoibofaaGreat
open Go.RowKit Go.Sort
/-- does n fit into k bytes? -/
def fitsP (n k : Int) : Prop := 1 ≤ k ∧ k ≤ 6 ∧ 0 ≤ n ∧ n < 256 ^ k.toNat
theorem pow8 (k : Nat) : (2 : Int) ^ (8 * k) = 256 ^ k := by rw [Int.pow_mul]; rfl
open Classical in
noncomputable def fitsB (n k : Int) : Bool := decide (fitsP n k)
theorem fits_any (n k : Int) (w : World) : Calls Tryz.prog 122 #[.int .i64 n, .int .i64 k] w fun e w' => e = .returned (.bool (fitsB n k)) ∧ Below w.heap.size w w' := by
  have M := Mem.start w
  have key : ∀ b : Bool, (b = true ↔ fitsP n k) → b = fitsB n k := fun b h => by unfold fitsB; rw [Bool.eq_iff_iff, h]; simp
  refine calls_enter Tryz.func122 rfl 22 rfl rfl ?_; intro a S
  refine nxD ?_
  refine st_go [1] S rfl (by kernel_rfl) ?_; clear S a; intro a S
  refine nxA ?_
  refine st_go [1, 1, 1] S rfl (by kernel_rfl) ?_; clear S a; intro a S
  refine st_fi (t := 7) S rfl ?_ ?_
  · clear S; intro h7 S
    refine st_go [0, 0, 1, 1, 0, 0, 1, 1, 0, 0, 0, 0, 0, 1, 1] S rfl (by kernel_rfl) ?_; clear S a; intro a S
    replace S := S.sub [(0, _), (1, _), (4, _)] rfl
    refine nxC ?_
    refine wp_ret ?_
    refine end_one S rfl (res_tmp rfl) ?_
    refine ⟨ret_bool (key _ ?_), M.below⟩
    unfold fitsP
    first
      | (simp; omega)
      | (have h8 : ((8 : Int) * k).toNat = 8 * k.toNat := by omega
         rw [h8, pow8]
         have hp : (0 : Int) < 256 ^ k.toNat := Int.pow_pos (by omega)
         simp only [beq_iff_eq]
         constructor
         · intro h
           refine ⟨by omega, by omega, by omega, ?_⟩
           rcases Int.lt_or_le n (256 ^ k.toNat) with hlt | hle
           · exact hlt
           · have := Int.le_ediv_of_mul_le (a := 1) (b := n) hp (by omega)
             omega
         · rintro ⟨_, _, h3, h4⟩
           exact Int.ediv_eq_zero_of_lt h3 h4)
  clear S; intro h7 S
  refine st_go [1, 1, 1, 1] S rfl (by kernel_rfl) ?_; clear S a; intro a S
  refine st_fi (t := 11) S rfl ?_ ?_
  · clear S; intro h11 S
    refine st_go [0, 0, 1, 1, 0, 0, 0, 0, 0, 1, 1] S rfl (by kernel_rfl) ?_; clear S a; intro a S
    replace S := S.sub [(0, _), (1, _), (4, _)] rfl
    refine nxC ?_
    refine wp_ret ?_
    refine end_one S rfl (res_tmp rfl) ?_
    refine ⟨ret_bool (key _ ?_), M.below⟩
    unfold fitsP
    first
      | (simp; omega)
      | (have h8 : ((8 : Int) * k).toNat = 8 * k.toNat := by omega
         rw [h8, pow8]
         have hp : (0 : Int) < 256 ^ k.toNat := Int.pow_pos (by omega)
         simp only [beq_iff_eq]
         constructor
         · intro h
           refine ⟨by omega, by omega, by omega, ?_⟩
           rcases Int.lt_or_le n (256 ^ k.toNat) with hlt | hle
           · exact hlt
           · have := Int.le_ediv_of_mul_le (a := 1) (b := n) hp (by omega)
             omega
         · rintro ⟨_, _, h3, h4⟩
           exact Int.ediv_eq_zero_of_lt h3 h4)
  clear S; intro h11 S
  refine st_go [1, 1, 1, 1] S rfl (by kernel_rfl) ?_; clear S a; intro a S
  refine st_fi (t := 15) S rfl ?_ ?_
  · clear S; intro h15 S
    refine st_go [0, 0, 0, 0, 0, 1, 1] S rfl (by kernel_rfl) ?_; clear S a; intro a S
    replace S := S.sub [(0, _), (1, _), (4, _)] rfl
    refine nxC ?_
    refine wp_ret ?_
    refine end_one S rfl (res_tmp rfl) ?_
    refine ⟨ret_bool (key _ ?_), M.below⟩
    unfold fitsP
    first
      | (simp; omega)
      | (have h8 : ((8 : Int) * k).toNat = 8 * k.toNat := by omega
         rw [h8, pow8]
         have hp : (0 : Int) < 256 ^ k.toNat := Int.pow_pos (by omega)
         simp only [beq_iff_eq]
         constructor
         · intro h
           refine ⟨by omega, by omega, by omega, ?_⟩
           rcases Int.lt_or_le n (256 ^ k.toNat) with hlt | hle
           · exact hlt
           · have := Int.le_ediv_of_mul_le (a := 1) (b := n) hp (by omega)
             omega
         · rintro ⟨_, _, h3, h4⟩
           exact Int.ediv_eq_zero_of_lt h3 h4)
  clear S; intro h15 S
  refine st_go [1, 1] S rfl (by kernel_rfl) ?_; clear S a; intro a S
  (first | refine st_y S rfl rfl rfl (y_mulN S rfl rfl (by omega)) ?_ | refine st_y S rfl rfl rfl (y_int S rfl rfl rfl) ?_); clear S a; intro a S
  (first | refine st_y S rfl rfl rfl (y_shrN S rfl rfl (by omega)) ?_ | refine st_y S rfl rfl rfl (y_shr S rfl rfl (by omega)) ?_); clear S a; intro a S
  refine st_go [1, 1, 1] S rfl (by kernel_rfl) ?_; clear S a; intro a S
  replace S := S.sub [(0, _), (1, _), (4, _)] rfl
  refine nxC ?_
  refine wp_ret ?_
  refine end_one S rfl (res_tmp rfl) ?_
  refine ⟨ret_bool (key _ ?_), M.below⟩
  unfold fitsP
  first
    | (simp; omega)
    | (have h8 : ((8 : Int) * k).toNat = 8 * k.toNat := by omega
       rw [h8, pow8]
       have hp : (0 : Int) < 256 ^ k.toNat := Int.pow_pos (by omega)
       simp only [beq_iff_eq]
       constructor
       · intro h
         refine ⟨by omega, by omega, by omega, ?_⟩
         rcases Int.lt_or_le n (256 ^ k.toNat) with hlt | hle
         · exact hlt
         · have := Int.le_ediv_of_mul_le (a := 1) (b := n) hp (by omega)
           omega
       · rintro ⟨_, _, h3, h4⟩
         exact Int.ediv_eq_zero_of_lt h3 h4)
theorem behind_any (v u : Value) (bs ms : List UInt8) (w : World) (hv : Bs 0 w.heap.size w v bs) (hu : Bs 0 w.heap.size w u ms) (hb : bs.length ≤ 70000000000000) (hm : ms.length ≤ 70000000000000) :
    Calls Tryz.prog 123 #[v, u] w fun e w' => ∃ v', e = .returned v' ∧ Fresh w w' 5 1 v' (bs ++ ms).length (bcells (bs ++ ms)) := by
  have M := Mem.start w
  refine calls_enter Tryz.func123 rfl 18 rfl rfl ?_; intro a S
  refine nxD ?_
  refine st_go [1] S rfl (by kernel_rfl) ?_; clear S a; intro a S
  refine nxA ?_
  refine st_go [1] S rfl (by kernel_rfl) ?_; clear S a; intro a S
  refine st_y S rfl rfl rfl (y_lenR (E := 5) S rfl (M.arg hv) (by kernel_rfl)) ?_; clear S a; intro a S
  refine st_go [1] S rfl (by kernel_rfl) ?_; clear S a; intro a S
  refine st_y S rfl rfl rfl (y_lenR (E := 5) S rfl (M.arg hu) (by kernel_rfl)) ?_; clear S a; intro a S
  (first | refine st_y S rfl rfl rfl (y_addN S rfl rfl (by omega)) ?_ | refine st_y S rfl rfl rfl (y_int S rfl rfl rfl) ?_); clear S a; intro a S
  refine st_make (e := 5) (sz := 1) (by_ := 1) (zc := [.int .u8 0]) S M rfl rfl (by kernel_rfl) rfl rfl (by omega) (by omega) (by omega) (by omega) ?_; clear S M a; intro a w1 b1 S M hB
  try simp only [Int.toNat_natCast, Int.reduceToNat, Nat.reduceMul] at S M
  refine st_go [1] S rfl (by kernel_rfl) ?_; clear S a; intro a S
  refine nxA ?_
  rw [show ((bs.length : Int) + (ms.length : Int)).toNat = bs.length + ms.length by omega] at S M
  replace M := M.toRow (sz := 1) (m := 0) (cap := bs.length + ms.length) (xs := []) 0 rfl rfl (Nat.zero_le _) (by unfold maxLen; omega) (by simp [madeL_length]) (by simp)
  refine st_y S rfl rfl rfl (y_move S rfl) ?_; clear S a; intro a S
  refine st_go [1] S rfl (by kernel_rfl) ?_; clear S a; intro a S
  refine st_append (e := 5) (sz := 1) (by_ := 1) (zc := [.int .u8 0]) S M 0 rfl rfl (by kernel_rfl) rfl (by decide) rfl rfl rfl (M.arg hv) (allOne_bcells _) (by omega) (by unfold maxLen; omega) ?_; clear S M a; intro a w2 vA loA hiA S M
  refine st_go [1] S rfl (by kernel_rfl) ?_; clear S a; intro a S
  refine nxA ?_
  refine st_go [1, 1] S rfl (by kernel_rfl) ?_; clear S a; intro a S
  refine st_append (e := 5) (sz := 1) (by_ := 1) (zc := [.int .u8 0]) S M 0 rfl rfl (by kernel_rfl) rfl (by decide) rfl rfl rfl (M.arg hu) (allOne_bcells _) (by omega) (by unfold maxLen; omega) ?_; clear S M a; intro a w3 vA loA hiA S M
  refine st_go [1] S rfl (by kernel_rfl) ?_; clear S a; intro a S
  replace S := S.sub [(0, _), (1, _), (5, _), (4, _)] rfl
  refine nxC ?_
  refine wp_ret ?_
  refine end_one S rfl (res_tmp rfl) ?_
  exact ⟨_, rfl, by have := M.fresh 0 rfl; rwa [Nat.zero_add, List.nil_append, ← bcells_append, ← List.length_append] at this⟩
def digs (n : Int) (k : Nat) : List Value := (List.range 6).map fun i => .int .u8 ((if i < k then byteOf (n / 256 ^ i) else 0).toNat : Int)
theorem digs_set (n : Int) (k : Nat) : (digs n k).set k (.int .u8 ((byteOf (n / 256 ^ k)).toNat : Int)) = digs n (k + 1) := by
  apply List.ext_getElem?
  intro i
  rw [List.getElem?_set]
  by_cases h : k = i
  · subst h
    by_cases hk : k < 6
    · simp [digs, hk]
    · simp [digs, hk]
  · rw [if_neg h]
    have e : (i < k) = (i < k + 1) := by simp only [eq_iff_iff]; omega
    by_cases hi : i < 6 <;> simp [digs, hi, e]
theorem digs_take {n : Int} {k : Nat} (hk : k ≤ 6) : (digs n k).take k = bcells (leB n k) := by
  apply List.ext_getElem?
  intro i
  rcases Nat.lt_or_ge i k with h | h
  · rw [List.getElem?_take_of_lt h]
    simp [digs, bcells, leB, h, show i < 6 by omega]
  · rw [List.getElem?_eq_none (by simp; omega), List.getElem?_eq_none (by simp [bcells, leB]; omega)]
open Classical in
noncomputable def putE (n k : Int) : Int := if fitsP n k then 0 else 2
def PutPost (bs : List UInt8) (n k : Int) (w : World) (e : Ending) (w' : World) : Prop :=
  ∃ v', e = .returned (.tuple #[v', .int .i64 (putE n k)]) ∧ Below w.heap.size w w' ∧ (fitsP n k → Fresh w w' 5 1 v' (bs ++ leB n k.toNat).length (bcells (bs ++ leB n k.toNat))) ∧ (¬ fitsP n k → v' = .slice none 0 0)
theorem put_any (v : Value) (bs : List UInt8) (n k : Int) (w : World) (hv : Bs 0 w.heap.size w v bs) (hb : bs.length ≤ 70000000000000) : Calls Tryz.prog 78 #[v, .int .i64 n, .int .i64 k] w (PutPost bs n k w) := by
  have M := Mem.start w
  refine calls_enter Tryz.func78 rfl 30 rfl rfl ?_; intro a S
  refine nxD ?_
  refine st_go [1, 1] S rfl (by kernel_rfl) ?_; clear S a; intro a S
  refine nxC ?_
  refine wp_seq ?_
  refine nxD ?_
  refine st_go [1, 1] S rfl (by kernel_rfl) ?_; clear S a; intro a S
  refine st_call (xs := [(Operand.tmp 10), (Operand.tmp 11)]) S (enters_of Tryz.func122 (by decide) rfl) rfl rfl rfl (fits_any _ _ _) ?_
  rintro _ w1 ⟨rfl, hK⟩; refine ⟨_, rfl, ?_⟩; clear S a; intro a S; replace M := M.grow hK
  refine st_go [1] S rfl (by kernel_rfl) ?_; clear S a; intro a S
  refine nxC ?_
  refine st_split (t := 13) S rfl ?_ ?_
  · clear S; intro h13 S
    refine st_condT S rfl ?_
    refine nxD ?_
    refine st_go [1, 1] S rfl (by kernel_rfl) ?_; clear S a; intro a S
    refine nxC ?_
    refine wp_ret ?_
    refine then_ret ?_
    refine end_two S rfl (res_tmp rfl) (res_tmp rfl) ?_
    have hf : ¬ fitsP n k := by unfold fitsB at h13; simpa using h13
    exact ⟨_, by unfold putE; rw [if_neg hf], M.below, fun h => absurd h hf, fun _ => rfl⟩
  clear S; intro h13 S
  refine st_condF S rfl ?_
  refine wp_skip ?_
  refine nxE ?_
  have hf : fitsP n k := by unfold fitsB at h13; simpa using h13
  obtain ⟨hk1, hk6, hn0, hnk⟩ := hf
  obtain ⟨K, rfl⟩ := Int.eq_ofNat_of_zero_le (show 0 ≤ k by omega)
  refine st_alloc S M rfl rfl #[.int .u8 0, .int .u8 0, .int .u8 0, .int .u8 0, .int .u8 0, .int .u8 0] (by kernel_rfl) ?_; clear S M a; intro a w2 b1 S M hB
  refine nxC ?_
  refine wp_seq ?_
  refine nxD ?_
  refine st_go [1, 1] S rfl (by kernel_rfl) ?_; clear S a; intro a S
  refine nxC ?_
  refine wp_block ?_
  refine wp_loop_g (fun m a w' => ∃ (j : Nat), j ≤ K ∧ m = K - j ∧ Sees 30 a [(0, v), (1, .int .i64 n), (2, .int .i64 (K : Int)), (8, .pointer (some ⟨b1, 0, none⟩)), (14, .int .i64 (K : Int)), (15, .int .i64 (j : Int))] ∧ Mem w w' [.blk b1 (digs n j).toArray 190]) (K) ?_ ?_
  · skip
    exact ⟨0, Nat.zero_le _, rfl, S.sub _ rfl, M⟩
  clear S M a; intro m a wl
  rintro ⟨j, hj, rfl, S, M⟩
  refine nxD ?_
  refine st_go [1] S rfl (by kernel_rfl) ?_; clear S a; intro a S
  refine nxC ?_
  refine wp_seq ?_
  refine st_fi (t := 16) S rfl ?_ ?_
  · clear S; intro h16 S
    refine st_condF S rfl ?_
    refine wp_exit ?_
    refine then_exit ?_
    refine then_exit ?_
    refine block_hit ?_
    refine nxE ?_
    refine st_go [1, 1] S rfl (by kernel_rfl) ?_; clear S a; intro a S
    refine st_y S rfl rfl rfl (y_sliceA02 (m := 6) (sz := 1) S (by kernel_rfl) rfl rfl (by first | omega | (simp; done) | (simp; omega))) ?_; clear S a; intro a S
    obtain rfl : j = K := by omega
    have hd : Bs 0 wl.heap.size wl (.slice (some ⟨b1, 0, none⟩) j 6) (leB n j) := by
      unfold Bs; rw [leB_length]
      exact (Rd.of_blk (M.blk 0 rfl) (by simp [bcells, leB]) (by omega) (by unfold maxLen; omega) (by rw [Nat.mul_one]; exact digs_take (by omega))).wide (Nat.zero_le _) (M.fits _ (List.mem_of_getElem? (show _[0]? = _ from rfl))).2
    refine st_call (xs := [(Operand.tmp 26), (Operand.tmp 28)]) S (enters_of Tryz.func123 (by decide) rfl) rfl rfl rfl (behind_any v _ bs (leB n j) _ (M.argW hv) hd hb (by rw [leB_length]; omega)) ?_
    rintro _ w4 ⟨v', rfl, hF⟩; refine ⟨_, rfl, ?_⟩; clear S a; intro a S
    obtain ⟨lo, hi, -, M⟩ := M.pushFresh hF
    refine st_go [1, 1] S rfl (by kernel_rfl) ?_; clear S a; intro a S
    refine nxC ?_
    refine wp_ret ?_
    refine end_two S rfl (res_tmp rfl) (res_tmp rfl) ?_
    have hf : fitsP n (j : Int) := ⟨hk1, hk6, hn0, hnk⟩
    exact ⟨_, by unfold putE; rw [if_pos hf], M.below, fun _ => by
      rw [Int.toNat_natCast]; exact M.fresh 0 rfl, fun h => absurd hf h⟩
  clear S; intro h16 S
  refine st_condT S rfl ?_
  refine wp_skip ?_
  refine then_normal ?_
  refine wp_seq ?_
  refine wp_block ?_
  refine nxD ?_
  refine st_go [1, 1] S rfl (by kernel_rfl) ?_; clear S a; intro a S
  refine nxB ?_
  refine st_go [1, 1, 1] S rfl (by kernel_rfl) ?_; clear S a; intro a S
  (first | refine st_y S rfl rfl rfl (y_mulN S rfl rfl (by omega)) ?_ | refine st_y S rfl rfl rfl (y_int S rfl rfl rfl) ?_); clear S a; intro a S
  (first | refine st_y S rfl rfl rfl (y_shrN S rfl rfl (by omega)) ?_ | refine st_y S rfl rfl rfl (y_shr S rfl rfl (by omega)) ?_); clear S a; intro a S
  refine st_y S rfl rfl rfl (y_to8 S rfl (by kernel_rfl) (by kernel_rfl)) ?_; clear S a; intro a S
  refine st_y S rfl rfl rfl (y_indexA (m := 6) (sz := 1) S (by kernel_rfl) rfl rfl (by first | omega | (simp; done) | (simp; omega))) ?_; clear S a; intro a S
  try simp only [Int.toNat_natCast, Nat.mul_one, Nat.zero_add] at S
  refine st_store (sz := 1) (us := [_]) S M 0 rfl (by kernel_rfl) rfl rfl rfl rfl rfl rfl (by simp [digs]; omega) ?_; clear M; intro w3 M
  simp only [List.set_cons_zero, List.set_cons_succ] at M
  refine wpList_nil ?_
  refine block_normal ?_
  refine nxF ?_
  (first | refine st_y S rfl rfl rfl (y_addN S rfl rfl (by omega)) ?_ | refine st_y S rfl rfl rfl (y_int S rfl rfl rfl) ?_); clear S a; intro a S
  refine st_go [1] S rfl (by kernel_rfl) ?_; clear S a; intro a S
  refine nxC ?_
  have e8 : n / 2 ^ ((8 : Int) * (j : Int)).toNat = n / 256 ^ j := by rw [show ((8 : Int) * (j : Int)).toNat = 8 * j by omega, pow8]
  refine ⟨K - (j + 1), by omega, j + 1, by omega, rfl, S.sub _ rfl, ?_⟩
  rw [← digs_set, ← e8]; exact M
open Classical in
noncomputable def getE (bs : List UInt8) (at_ k : Int) : Int := if k < 1 ∨ 6 < k then 2 else if at_ < 0 ∨ (bs.length : Int) - k < at_ then 40 else 0
def getN (bs : List UInt8) (at_ k : Int) : Int := if (1 ≤ k ∧ k ≤ 6) ∧ 0 ≤ at_ ∧ at_ ≤ (bs.length : Int) - k then (leN ((bs.drop at_.toNat).take k.toNat) : Int) else 0
theorem get_any (v : Value) (bs : List UInt8) (at_ k : Int) (w : World) (hv : Bs 0 w.heap.size w v bs) (hk : -9223372036854775808 ≤ k) : Calls Tryz.prog 83 #[v, .int .i64 at_, .int .i64 k] w fun e w' => e = .returned (.tuple #[.int .i64 (getN bs at_ k), .int .i64 (getE bs at_ k)]) ∧ Below w.heap.size w w' := by
  have M := Mem.start w
  have hl := hv.2.1
  unfold maxLen at hl
  refine calls_enter Tryz.func83 rfl 44 rfl rfl ?_; intro a S
  refine nxD ?_
  refine st_go [1, 1] S rfl (by kernel_rfl) ?_; clear S a; intro a S
  refine nxC ?_
  refine wp_seq ?_
  refine nxD ?_
  refine st_go [1, 1, 1] S rfl (by kernel_rfl) ?_; clear S a; intro a S
  refine st_if (t := 12) S rfl ?_ ?_
  · clear S; intro h12 S
    refine st_go [0, 0, 1] S rfl (by kernel_rfl) ?_; clear S a; intro a S
    refine nxC ?_
    refine st_condT S rfl ?_
    refine nxD ?_
    refine st_go [1, 1] S rfl (by kernel_rfl) ?_; clear S a; intro a S
    refine nxC ?_
    refine wp_ret ?_
    refine then_ret ?_
    refine end_two S rfl (res_tmp rfl) (res_tmp rfl) ?_
    refine ⟨?_, M.below⟩; unfold getN getE; rw [if_neg (by omega), if_pos (by omega)]
  clear S; intro h12 S
  refine st_go [1, 1, 1] S rfl (by kernel_rfl) ?_; clear S a; intro a S
  refine nxC ?_
  refine st_if (t := 15) S rfl ?_ ?_
  · clear S; intro h15 S
    refine st_condT S rfl ?_
    refine nxD ?_
    refine st_go [1, 1] S rfl (by kernel_rfl) ?_; clear S a; intro a S
    refine nxC ?_
    refine wp_ret ?_
    refine then_ret ?_
    refine end_two S rfl (res_tmp rfl) (res_tmp rfl) ?_
    refine ⟨?_, M.below⟩; unfold getN getE; rw [if_neg (by omega), if_pos (by omega)]
  clear S; intro h15 S
  refine st_condF S rfl ?_
  refine wp_skip ?_
  refine then_normal ?_
  refine wp_seq ?_
  refine nxD ?_
  refine st_go [1, 1, 1] S rfl (by kernel_rfl) ?_; clear S a; intro a S
  refine st_if (t := 18) S rfl ?_ ?_
  · clear S; intro h18 S
    refine st_go [0, 0, 0, 0, 0, 0, 1] S rfl (by kernel_rfl) ?_; clear S a; intro a S
    replace S := S.sub [(0, _), (1, _), (2, _), (6, _), (7, _), (15, _), (25, _)] rfl
    refine nxC ?_
    refine st_condT S rfl ?_
    refine nxD ?_
    refine st_go [1, 1] S rfl (by kernel_rfl) ?_; clear S a; intro a S
    refine nxC ?_
    refine wp_ret ?_
    refine then_ret ?_
    refine end_two S rfl (res_tmp rfl) (res_tmp rfl) ?_
    refine ⟨?_, M.below⟩; unfold getN getE; rw [if_neg (by omega), if_neg (by omega), if_pos (by omega)]
  clear S; intro h18 S
  refine st_go [1, 1] S rfl (by kernel_rfl) ?_; clear S a; intro a S
  refine st_y S rfl rfl rfl (y_lenR (E := 5) S rfl (M.arg hv) (by kernel_rfl)) ?_; clear S a; intro a S
  refine st_go [1] S rfl (by kernel_rfl) ?_; clear S a; intro a S
  (first | refine st_y S rfl rfl rfl (y_subN S rfl rfl (by omega)) ?_ | refine st_y S rfl rfl rfl (y_int S rfl rfl rfl) ?_); clear S a; intro a S
  refine st_go [1, 1] S rfl (by kernel_rfl) ?_; clear S a; intro a S
  replace S := S.sub [(0, _), (1, _), (2, _), (6, _), (7, _), (15, _), (25, _)] rfl
  refine nxC ?_
  refine st_if (t := 25) S rfl ?_ ?_
  · clear S; intro h25 S
    refine st_condT S rfl ?_
    refine nxD ?_
    refine st_go [1, 1] S rfl (by kernel_rfl) ?_; clear S a; intro a S
    refine nxC ?_
    refine wp_ret ?_
    refine then_ret ?_
    refine end_two S rfl (res_tmp rfl) (res_tmp rfl) ?_
    refine ⟨?_, M.below⟩; unfold getN getE; rw [if_neg (by omega), if_neg (by omega), if_pos (by omega)]
  clear S; intro h25 S
  refine st_condF S rfl ?_
  refine wp_skip ?_
  refine nxE ?_
  obtain ⟨K, rfl⟩ := Int.eq_ofNat_of_zero_le (show 0 ≤ k by omega)
  obtain ⟨A, rfl⟩ := Int.eq_ofNat_of_zero_le h18
  refine st_y S rfl rfl rfl (y_assign S rfl) ?_; clear S a; intro a S
  refine nxC ?_
  refine wp_seq ?_
  refine nxD ?_
  refine st_go [1, 1] S rfl (by kernel_rfl) ?_; clear S a; intro a S
  refine nxC ?_
  refine wp_block ?_
  refine wp_loop_g (fun m a w' => ∃ (j : Nat), j ≤ K ∧ m = K - j ∧ Sees 44 a [(0, v), (1, .int .i64 (A : Int)), (2, .int .i64 (K : Int)), (8, .int .i64 ((leN ((bs.drop A).take j) : Nat) : Int)), (26, .int .i64 (K : Int)), (27, .int .i64 (j : Int))] ∧ Mem w w' []) (K) ?_ ?_
  · skip
    exact ⟨0, Nat.zero_le _, rfl, S.sub _ rfl, M⟩
  clear S M a; intro m a wl
  rintro ⟨j, hj, rfl, S, M⟩
  refine nxD ?_
  refine st_go [1] S rfl (by kernel_rfl) ?_; clear S a; intro a S
  refine nxC ?_
  refine wp_seq ?_
  refine st_fi (t := 28) S rfl ?_ ?_
  · clear S; intro h28 S
    refine st_condF S rfl ?_
    refine wp_exit ?_
    refine then_exit ?_
    refine then_exit ?_
    refine block_hit ?_
    refine nxE ?_
    refine st_go [1, 1, 1] S rfl (by kernel_rfl) ?_; clear S a; intro a S
    refine nxC ?_
    refine wp_ret ?_
    refine end_two S rfl (res_tmp rfl) (res_tmp rfl) ?_
    obtain rfl : j = K := by omega
    refine ⟨?_, M.below⟩
    unfold getN getE
    rw [if_pos (by omega), if_neg (by omega), if_neg (by omega), Int.toNat_natCast, Int.toNat_natCast]
  clear S; intro h28 S
  refine st_condT S rfl ?_
  refine wp_skip ?_
  refine then_normal ?_
  refine wp_seq ?_
  refine wp_block ?_
  refine nxD ?_
  refine st_go [1, 1] S rfl (by kernel_rfl) ?_; clear S a; intro a S
  refine nxB ?_
  have hj5 : j ≤ 5 := by omega
  obtain ⟨x, hx⟩ : ∃ x, (bs.drop A)[j]? = some x := ⟨_, List.getElem?_eq_getElem (by simp; omega)⟩
  have hx' : bs[((A : Int) + (j : Int)).toNat]? = some x := by rw [show ((A : Int) + (j : Int)).toNat = A + j by omega, ← List.getElem?_drop]; exact hx
  obtain ⟨hs1, hs2⟩ := sh_bd x j hj5
  have hx256 : x.toNat < 256 := UInt8.toNat_lt x
  have hl1 := leN_lt ((bs.drop A).take j)
  have hl2 : leN ((bs.drop A).take j) < 2 ^ 40 := Nat.lt_of_lt_of_le hl1 (by
    rw [show (256 : Nat) = 2 ^ 8 from rfl, ← Nat.pow_mul]; exact Nat.pow_le_pow_right (by omega) (by simp; omega))
  refine st_y S rfl rfl rfl (y_move S rfl) ?_; clear S a; intro a S
  refine st_go [1, 1, 1] S rfl (by kernel_rfl) ?_; clear S a; intro a S
  (first | refine st_y S rfl rfl rfl (y_addN S rfl rfl (by omega)) ?_ | refine st_y S rfl rfl rfl (y_int S rfl rfl rfl) ?_); clear S a; intro a S
  refine st_y S rfl rfl rfl (y_indexR (e := 5) (sz := 1) S (by kernel_rfl) rfl (M.arg hv) rfl (by first | omega | (simp; done) | (simp; omega))) ?_; clear S a; intro a S
  try simp only [Int.toNat_natCast, Nat.mul_one, Nat.zero_add] at S
  refine st_y S rfl rfl rfl (y_load S (by kernel_rfl) rfl ((M.arg hv).byte hx')) ?_; clear S a; intro a S
  (first | refine st_y S rfl rfl rfl (y_to64 S rfl (by kernel_rfl) (by kernel_rfl) (by omega)) ?_ | refine st_y S rfl rfl rfl (y_conv (k' := .i64) S rfl (by kernel_rfl) (by kernel_rfl)) ?_); clear S a; intro a S
  refine st_go [1] S rfl (by kernel_rfl) ?_; clear S a; intro a S
  (first | refine st_y S rfl rfl rfl (y_mulN S rfl rfl (by omega)) ?_ | refine st_y S rfl rfl rfl (y_int S rfl rfl rfl) ?_); clear S a; intro a S
  (first | refine st_y S rfl rfl rfl (y_shlN S rfl rfl (by omega) (by rw [hs1]; omega)) ?_ | refine st_y S rfl rfl rfl (y_shl S rfl rfl (by omega)) ?_); clear S a; intro a S
  rw [hs1] at S
  (first | refine st_y S rfl rfl rfl (y_orN S rfl rfl (by omega) (by omega)) ?_ | refine st_y S rfl rfl rfl (y_int S rfl rfl rfl) ?_); clear S a; intro a S
  refine st_go [1] S rfl (by kernel_rfl) ?_; clear S a; intro a S
  replace S := S.sub [(0, _), (1, _), (2, _), (26, _), (27, _), (28, _), (9, _), (8, _)] rfl
  refine wpList_nil ?_
  refine block_normal ?_
  refine nxF ?_
  (first | refine st_y S rfl rfl rfl (y_addN S rfl rfl (by omega)) ?_ | refine st_y S rfl rfl rfl (y_int S rfl rfl rfl) ?_); clear S a; intro a S
  refine st_go [1] S rfl (by kernel_rfl) ?_; clear S a; intro a S
  refine nxC ?_
  refine ⟨K - (j + 1), by omega, j + 1, by omega, rfl, ?_, M⟩
  rw [← leN_snoc hx]; exact S.sub _ rfl
end Go.Proofs.YtmdededhoibofaaGreat

namespace Go.Proofs.YtmdededhoibofaaGreat
open Go.RowKit Go.Sort
variable {ds : List Deferred}
variable {P : Program} {n : Nat} {a : Act} {L : List (Nat × Value)} {w : World}
def isPtr (P : Program) (t : TypeId) : Bool := match P.underlying t with
  | some (.pointer _) => !P.eqGuardType P.depth t
  | _ => false
def isMap (P : Program) (t : TypeId) : Bool := match P.underlying t with
  | some (.map _ _) => !P.eqGuardType P.depth t
  | _ => false
theorem isPtr_spec {t : TypeId} (h : isPtr P t = true) : (∃ e, P.underlying t = some (.pointer e)) ∧ P.eqGuardType P.depth t = false := by
  unfold isPtr at h
  split at h
  · rename_i e he; exact ⟨⟨e, he⟩, by simpa using h⟩
  · cases h
theorem isMap_spec {t : TypeId} (h : isMap P t = true) : (∃ k e, P.underlying t = some (.map k e)) ∧ P.eqGuardType P.depth t = false := by
  unfold isMap at h
  split at h
  · rename_i k e he; exact ⟨⟨k, e, he⟩, by simpa using h⟩
  · cases h
theorem equalP_some {t e : TypeId} (d : Nat) (hU : P.underlying t = some (.pointer e)) (ad : Addr) (w : World) : (Op.equalIn (d + 1) t (.pointer (some ad)) (.pointer none)).run P w = .ok false w := by
  simp only [Op.equalIn, Sem.run_bind, run_underlying hU, Result.andThen_ok, Sem.run_pure]
theorem equalM_some {t k e : TypeId} (d : Nat) (hU : P.underlying t = some (.map k e)) (b : Nat) (w : World) : (Op.equalIn (d + 1) t (.map (some b)) (.map none)).run P w = .ok false w := by
  simp only [Op.equalIn, Sem.run_bind, run_underlying hU, Result.andThen_ok, Sem.run_pure]
section
variable {x : Operand} {xt yt t : TypeId} {d : Option Tmp} {p : String} {ed : Array Edge} {g : Option (Nat × Bool)} {ad : Addr} {b : Nat}
theorem y_eqlPS (h : isPtr P xt = true) (S : SeesD ds n a L) (hx : val L x = some (.pointer (some ad))) : Yields P a ⟨d, .binOp .eql xt x (.const (.pointer none)) yt, t, p, ed, g⟩ w (.bool false) := by
  obtain ⟨⟨e, hU⟩, hG⟩ := isPtr_spec h
  have hr : (binOp .eql xt (.pointer (some ad)) (.pointer none)).run P w = .ok (.bool false) w := by
    simp only [binOp]; simp [Op.equal, Op.maxDepth, equalP_some 9999 hU]
  have hc : a.eval (.const (.pointer none)) = .pointer none := rfl
  unfold Yields execOp
  simp only [S.eval hx, hc, eqGuard, Sem.run_bind]
  simp [hG, hr, go_sem]
theorem y_neqPS (h : isPtr P xt = true) (S : SeesD ds n a L) (hx : val L x = some (.pointer (some ad))) : Yields P a ⟨d, .binOp .neq xt x (.const (.pointer none)) yt, t, p, ed, g⟩ w (.bool true) := by
  obtain ⟨⟨e, hU⟩, hG⟩ := isPtr_spec h
  have hr : (binOp .neq xt (.pointer (some ad)) (.pointer none)).run P w = .ok (.bool true) w := by
    simp only [binOp]; simp [Op.equal, Op.maxDepth, equalP_some 9999 hU]
  have hc : a.eval (.const (.pointer none)) = .pointer none := rfl
  unfold Yields execOp
  simp only [S.eval hx, hc, eqGuard, Sem.run_bind]
  simp [hG, hr, go_sem]
theorem y_eqlMS (h : isMap P xt = true) (S : SeesD ds n a L) (hx : val L x = some (.map (some b))) : Yields P a ⟨d, .binOp .eql xt x (.const (.map none)) yt, t, p, ed, g⟩ w (.bool false) := by
  obtain ⟨⟨k, e, hU⟩, hG⟩ := isMap_spec h
  have hr : (binOp .eql xt (.map (some b)) (.map none)).run P w = .ok (.bool false) w := by
    simp only [binOp]; simp [Op.equal, Op.maxDepth, equalM_some 9999 hU]
  have hc : a.eval (.const (.map none)) = .map none := rfl
  unfold Yields execOp
  simp only [S.eval hx, hc, eqGuard, Sem.run_bind]
  simp [hG, hr, go_sem]
end
end Go.Proofs.YtmdededhoibofaaGreat

namespace Go.Proofs.YtmdededhoibofaaGreat
open Go.RowKit Go.Sort
variable {ds : List Deferred}
variable {P : Program} {ops : Array Oper} {Q : Exit → Act → World → Prop} {rest : List Oper} {n d : Nat} {a : Act} {L : List (Nat × Value)} {w w0 : World} {v : Value} {o : Oper} {H : List Ent}
end Go.Proofs.YtmdededhoibofaaGreat

namespace Go.Proofs.YtmdededhoibofaaGreat
open Go.RowKit Go.Sort
theorem clone_any (v : Value) (bs : List UInt8) (w : World) (hv : Bs 0 w.heap.size w v bs) (hl : bs.length ≤ 140737488351232) : Calls Tryz.prog 131 #[v] w fun e w' => ∃ v', e = .returned v' ∧ Fresh w w' 5 1 v' bs.length (bcells bs) := by
  have M := Mem.start w
  refine calls_enter Tryz.func131 rfl 8 rfl rfl ?_; intro a S
  refine nxD ?_
  refine st_go [1] S rfl (by kernel_rfl) ?_; clear S a; intro a S
  refine nxC ?_
  refine wp_seq ?_
  refine nxD ?_
  refine st_go [1] S rfl (by kernel_rfl) ?_; clear S a; intro a S
  refine st_y S rfl rfl rfl (y_eqlNil (e := 5) S rfl (M.arg hv) (by kernel_rfl)) ?_; clear S a; intro a S
  refine nxC ?_
  refine st_split (t := 4) S rfl ?_ ?_
  · clear S; intro h4 S
    refine st_condT S rfl ?_
    refine nxD ?_
    refine st_go [1] S rfl (by kernel_rfl) ?_; clear S a; intro a S
    refine nxC ?_
    refine wp_ret ?_
    refine then_ret ?_
    refine end_one S rfl (res_tmp rfl) ?_
    obtain ⟨rfl, h0, h1⟩ := hv.nilV h4
    exact ⟨_, rfl, by rw [h1, h0]; exact M.freshNil _ _⟩
  clear S; intro h4 S
  refine st_condF S rfl ?_
  refine wp_skip ?_
  refine nxE ?_
  refine st_lit0 (e := 5) (sz := 1) (by_ := 1) (zc := [.int .u8 0]) S M rfl rfl (by kernel_rfl) ?_; clear S M a; intro a w1 b1 S M hB
  refine st_go [1] S rfl (by kernel_rfl) ?_; clear S a; intro a S
  replace M := M.toRow (sz := 1) (m := 0) (cap := 0) (xs := []) 0 rfl rfl (Nat.le_refl _) (Nat.zero_le _) rfl rfl
  refine st_append (e := 5) (sz := 1) (by_ := 1) (zc := [.int .u8 0]) S M 0 rfl rfl (by kernel_rfl) rfl (by decide) rfl rfl rfl (M.arg hv) (allOne_bcells _) (by omega) (by unfold maxLen; omega) ?_; clear S M a; intro a w2 vA loA hiA S M
  refine st_go [1] S rfl (by kernel_rfl) ?_; clear S a; intro a S
  refine nxC ?_
  refine wp_ret ?_
  refine end_one S rfl (res_tmp rfl) ?_
  exact ⟨_, rfl, by have := M.fresh 0 rfl; rwa [Nat.zero_add, List.nil_append] at this⟩
theorem equal_any (v v' : Value) (bs cs : List UInt8) (w : World) (hv : Bs 0 w.heap.size w v bs) (hv' : Bs 0 w.heap.size w v' cs) : Calls Tryz.prog 57 #[v, v'] w fun e w' => e = .returned (.bool (bs == cs)) ∧ Below w.heap.size w w' := by
  have M := Mem.start w
  refine calls_enter Tryz.func57 rfl 10 rfl rfl ?_; intro a S
  refine nxD ?_
  refine st_go [1] S rfl (by kernel_rfl) ?_; clear S a; intro a S
  refine nxA ?_
  refine st_go [1] S rfl (by kernel_rfl) ?_; clear S a; intro a S
  refine st_y S rfl rfl rfl (y_bytesStr (e := 5) S rfl (by kernel_rfl) (by kernel_rfl) (by kernel_rfl) (M.arg hv)) ?_; clear S a; intro a S
  refine st_go [1] S rfl (by kernel_rfl) ?_; clear S a; intro a S
  refine st_y S rfl rfl rfl (y_bytesStr (e := 5) S rfl (by kernel_rfl) (by kernel_rfl) (by kernel_rfl) (M.arg hv')) ?_; clear S a; intro a S
  refine st_y S rfl rfl rfl (y_eqlStr S rfl rfl) ?_; clear S a; intro a S
  refine st_go [1] S rfl (by kernel_rfl) ?_; clear S a; intro a S
  refine nxC ?_
  refine wp_ret ?_
  refine end_one S rfl (res_tmp rfl) ?_
  exact ⟨ret_bool (strEq _ _), M.below⟩
end Go.Proofs.YtmdededhoibofaaGreat

namespace Go.Proofs.YtmdededhoibofaaGreat
open Go.RowKit Go.Sort
/-- a row of bytes of one's own -/
structure RB where
  lo : Nat
  hi : Nat
  a : Option Addr
  c : Nat
  bs : List UInt8
abbrev RB.val (r : RB) : Value := .slice r.a r.bs.length r.c
def RB.ent (r : RB) : Ent := rowE r.lo r.hi 5 1 r.val r.bs.length (bcells r.bs)
/-- a sector's writes since the last flush -/
structure Sec where
  key : Int
  lo : Nat
  hi : Nat
  a : Option Addr
  c : Nat
  ws : List RB
abbrev Sec.val (s : Sec) : Value := .slice s.a s.ws.length s.c
def Sec.ent (s : Sec) : Ent := rowE s.lo s.hi 58 1 s.val s.ws.length (s.ws.map RB.val)
def Sec.ents (s : Sec) : List Ent := s.ent :: s.ws.map RB.ent
def secsE (l : List Sec) : List Ent := l.flatMap Sec.ents
/-- a disk's cells: what is durable, the map of what was written, whether it is down -/
def dcells (dur : List UInt8) (m : Nat) (down : Bool) : List Value := bcells dur ++ [.map (some m), .bool down]
abbrev eJ : Int → Value := fun z => .int .i64 z
def secOf (l : List Sec) (k : Int) : Option Sec := l.find? fun s => decide (s.key = k)
structure Dk where
  b : Nat
  m : Nat
  cl : Nat
  ml : Mes Int
  dur : List UInt8
  down : Bool
  secs : List Sec
structure Dk.Ok (D : Dk) : Prop where
  dur : D.dur.length = 2176
  good : Good eJ D.ml D.cl
  nodup : (D.secs.map Sec.key).Nodup
  tell : ∀ k, getM D.ml k = (secOf D.secs k).map Sec.val
  sec : ∀ s ∈ D.secs, (0 ≤ s.key ∧ s.key < 34) ∧ s.ws ≠ [] ∧ ∀ r ∈ s.ws, r.bs.length = 64
def Dk.ents (D : Dk) : List Ent := .blk D.b (dcells D.dur D.m D.down).toArray 95 :: mapX D.m D.ml D.cl :: secsE D.secs
/-- a sector as it is durably -/
def durAt (dur : List UInt8) (k : Nat) : List UInt8 := (dur.drop (k * 64)).take 64
theorem durAt_len {dur : List UInt8} (h : dur.length = 2176) {k : Nat} (hk : k < 34) : (durAt dur k).length = 64 := by
  unfold durAt; rw [List.length_take, List.length_drop, h]; omega
/-- what a disk holds -/
structure DS where
  dur : Nat → List UInt8
  cache : Int → List (List UInt8)
  down : Bool
def cacheOf (l : List Sec) (k : Int) : List (List UInt8) := match secOf l k with
  | some s => s.ws.map RB.bs
  | none => []
def Dk.st (D : Dk) : DS := ⟨durAt D.dur, cacheOf D.secs, D.down⟩
/-- these entries are the disk at b, which holds S -/
def DkE (b : Nat) (S : DS) (E : List Ent) : Prop := ∃ D : Dk, D.b = b ∧ D.Ok ∧ D.st = S ∧ E = D.ents
theorem dcells_len {dur : List UInt8} (h : dur.length = 2176) (m : Nat) (d : Bool) : (dcells dur m d).length = 2178 := by
  unfold dcells; rw [List.length_append, bcells_length, h]; rfl
theorem dcells_map {dur : List UInt8} (h : dur.length = 2176) (m : Nat) (d : Bool) : (dcells dur m d).toArray[2176]? = some (.map (some m)) := by
  rw [List.getElem?_toArray]; unfold dcells
  rw [List.getElem?_append_right (by rw [bcells_length]; omega), bcells_length, h]; rfl
theorem dcells_down {dur : List UInt8} (h : dur.length = 2176) (m : Nat) (d : Bool) : (dcells dur m d).toArray[2177]? = some (.bool d) := by
  rw [List.getElem?_toArray]; unfold dcells
  rw [List.getElem?_append_right (by rw [bcells_length]; omega), bcells_length, h]; rfl
theorem dcells_setDown {dur : List UInt8} (h : dur.length = 2176) (m : Nat) (d d' : Bool) : putL (dcells dur m d) 2177 [.bool d'] = dcells dur m d' := by
  have e := putL_mid (A := bcells dur ++ [.map (some m)]) (B := [Value.bool d]) (C := []) (us := [Value.bool d']) rfl
  rw [show (bcells dur ++ [Value.map (some m)]).length = 2177 by rw [List.length_append, bcells_length, h]; rfl] at e
  unfold dcells
  simp only [List.append_assoc, List.cons_append, List.nil_append] at e
  exact e
/-! maps -/
section
variable {κ : Type} [DecidableEq κ] {enc : κ → Value}
theorem get_putJ (l : Mes κ) (c : Nat) (k k' : κ) (v : Value) : getM (putM enc l c k v).1 k' = if k' = k then some v else getM l k' := by
  unfold putM
  split
  · rename_i hk
    unfold getM setM
    rw [List.find?_map]
    have e : ((fun p : κ × MapEntry => decide (p.1 = k')) ∘ fun p : κ × MapEntry => if p.1 = k then (p.1, { p.2 with val := v }) else p) = fun p => decide (p.1 = k') := by
      funext p; simp only [Function.comp]; split <;> rfl
    rw [e]
    by_cases h : k' = k
    · subst h
      rw [if_pos rfl]
      obtain ⟨p, hp, hpk⟩ := List.mem_map.1 hk
      cases hf : l.find? (fun p => decide (p.1 = k')) with
      | none =>
        rw [List.find?_eq_none] at hf
        exact absurd (by simpa using hpk) (hf p hp)
      | some q =>
        have := List.find?_some hf
        simp only [decide_eq_true_eq] at this
        simp [this]
    · rw [if_neg h]
      cases hf : l.find? (fun p => decide (p.1 = k')) with
      | none => rfl
      | some q =>
        have := List.find?_some hf
        simp only [decide_eq_true_eq] at this
        have h2 : ¬ q.1 = k := fun e => h (this.symm.trans e)
        simp [h2]
  · rename_i hk
    unfold getM
    rw [List.find?_append]
    by_cases h : k' = k
    · subst h
      rw [if_pos rfl]
      have : l.find? (fun p => decide (p.1 = k')) = none := by
        rw [List.find?_eq_none]
        intro p hp e
        simp only [decide_eq_true_eq] at e
        exact hk (by rw [← e]; exact List.mem_map_of_mem hp)
      rw [this]; simp
    · rw [if_neg h]
      have h2 : ¬ k = k' := fun e => h e.symm
      cases hf : l.find? (fun p => decide (p.1 = k')) <;> simp [h2]
end
/-! a sector of the map -/
theorem secOf_some {l : List Sec} {k : Int} {s : Sec} (h : secOf l k = some s) : ∃ P Q, l = P ++ s :: Q ∧ s.key = k := by
  have hm := List.mem_of_find?_eq_some h
  have hk := List.find?_some h
  obtain ⟨P, Q, e⟩ := List.append_of_mem hm
  exact ⟨P, Q, e, by simpa using hk⟩
theorem secOf_none {l : List Sec} {k : Int} : secOf l k = none ↔ ∀ s ∈ l, s.key ≠ k := by
  unfold secOf
  rw [List.find?_eq_none]
  simp
theorem secOf_mid {P Q : List Sec} {s : Sec} (hn : ((P ++ s :: Q).map Sec.key).Nodup) (k : Int) : secOf (P ++ s :: Q) k = if k = s.key then some s else secOf (P ++ Q) k := by
  rw [List.map_append, List.map_cons, List.nodup_append] at hn
  obtain ⟨h1, h2, h3⟩ := hn
  have hP : ∀ t ∈ P, t.key ≠ s.key := fun t ht => h3 _ (List.mem_map_of_mem ht) _ (by simp)
  by_cases e : k = s.key
  · subst e
    rw [if_pos rfl]
    unfold secOf
    rw [List.find?_append, show P.find? (fun t => decide (t.key = s.key)) = none by rw [List.find?_eq_none]; intro t ht; simpa using hP t ht]
    simp
  · rw [if_neg e]
    unfold secOf
    rw [List.find?_append, List.find?_append, List.find?_cons, show decide (s.key = k) = false by simpa using fun h => e h.symm]
theorem secsE_mid (P Q : List Sec) (s : Sec) : (secsE (P ++ s :: Q)).Perm (s.ents ++ secsE (P ++ Q)) := by
  unfold secsE
  rw [List.flatMap_append, List.flatMap_cons, List.flatMap_append, ← List.append_assoc, ← List.append_assoc]
  exact List.Perm.append_right _ List.perm_append_comm
end Go.Proofs.YtmdededhoibofaaGreat
namespace Go.Proofs.YtmdededhoibofaaGreat
open Go.RowKit Go.Sort
variable {w0 w : World} {H A : List Ent}
theorem keyJ : KeyT Tryz.prog 3 eJ := key_int Tryz.underlying3
set_option maxRecDepth 100000 in
theorem zero_sl (w : World) : (zeroValue 80).run Tryz.prog w = .ok (.slice none 0 0) w := by
  obtain ⟨i, hi, hz⟩ : ∃ i, Tryz.prog.info? 80 = some i ∧ i.zero = some (.slice none 0 0) := by
    refine ⟨_, rfl, ?_⟩
    kernel_rfl
  simp [zeroValue, typeInfo, hi, hz, go_sem]
theorem is_any (k : Int) (w : World) : Calls Tryz.prog 73 #[.int .i64 k] w fun e w' => e = .returned (.bool (decide (0 ≤ k ∧ k < 34))) ∧ Below w.heap.size w w' := by
  have M := Mem.start w
  refine calls_enter Tryz.func73 rfl 9 rfl rfl ?_; intro a S
  refine nxD ?_
  refine st_go [1] S rfl (by kernel_rfl) ?_; clear S a; intro a S
  refine nxA ?_
  refine st_go [1, 1, 1] S rfl (by kernel_rfl) ?_; clear S a; intro a S
  refine st_if (t := 5) S rfl ?_ ?_
  · clear S; intro h5 S
    refine st_go [1, 1, 1, 1] S rfl (by kernel_rfl) ?_; clear S a; intro a S
    refine nxC ?_
    refine wp_ret ?_
    refine end_one S rfl (res_tmp rfl) ?_
    refine ⟨ret_bool ?_, M.below⟩; clear S M; rw [Bool.eq_iff_iff]; simp only [decide_eq_true_eq]; first | omega | (simp; omega)
  clear S; intro h5 S
  refine st_go [0, 0, 1, 1] S rfl (by kernel_rfl) ?_; clear S a; intro a S
  refine nxC ?_
  refine wp_ret ?_
  refine end_one S rfl (res_tmp rfl) ?_
  refine ⟨ret_bool ?_, M.below⟩; clear S M; rw [Bool.eq_iff_iff]; simp only [decide_eq_true_eq]; first | omega | (simp; omega)
/-- a sector of the map, brought to the front -/
theorem Dk.open {D : Dk} (O : D.Ok) (k : Int) (hk : 0 ≤ k ∧ k < 34) (M : Mem w0 w (D.ents ++ A)) :
    ∃ (P Q : List Sec) (s : Sec), s.key = k ∧ (D.secs = P ++ s :: Q ∨ (D.secs = P ++ Q ∧ s.ws = [])) ∧ ((P ++ s :: Q).map Sec.key).Nodup ∧ (getM D.ml k).getD (.slice none 0 0) = s.val ∧ cacheOf D.secs k = s.ws.map RB.bs ∧ (∀ r ∈ s.ws, r.bs.length = 64) ∧
      Mem w0 w (.blk D.b (dcells D.dur D.m D.down).toArray 95 :: mapX D.m D.ml D.cl :: s.ent :: (s.ws.map RB.ent ++ secsE (P ++ Q) ++ A)) := by
  cases hs : secOf D.secs k with
  | some s =>
    obtain ⟨P, Q, e, hkey⟩ := secOf_some hs
    refine ⟨P, Q, s, hkey, .inl e, by rw [← e]; exact O.nodup, by rw [O.tell, hs]; rfl, by unfold cacheOf; rw [hs], fun r hr => (O.sec s (by rw [e]; simp)).2.2 r hr, ?_⟩
    refine M.perm ?_
    unfold Dk.ents
    rw [e]
    refine List.Perm.cons _ (List.Perm.cons _ ?_)
    have := (secsE_mid P Q s).append_right A
    unfold Sec.ents at this
    simp only [List.cons_append, List.append_assoc] at this
    simp only [List.append_assoc]
    exact this
  | none =>
    have hno := secOf_none.1 hs
    refine ⟨D.secs, [], ⟨k, w.heap.size, w.heap.size, none, 0, []⟩, rfl, .inr ⟨by simp, rfl⟩, ?_, by rw [O.tell, hs]; rfl, by unfold cacheOf; rw [hs]; rfl, fun r hr => (by cases hr), ?_⟩
    · rw [List.map_append, List.nodup_append]
      refine ⟨O.nodup, by simp, fun x hx y hy e => ?_⟩
      simp at hy; subst hy; subst e
      obtain ⟨t, ht, e⟩ := List.mem_map.1 hx
      exact hno t ht e
    · have M1 := M.rowNil 58 1
      refine M1.perm ?_
      simp only [List.append_nil, List.map_nil, List.nil_append]
      unfold Dk.ents
      exact (List.Perm.swap _ _ _).trans (List.Perm.cons _ (List.Perm.swap _ _ _))
/-- a write more of a sector -/
def DS.write (S : DS) (k : Int) (bs : List UInt8) : DS := { S with cache := fun j => if j = k then S.cache k ++ [bs] else S.cache j }
def Dk.put (D : Dk) (k : Int) (P Q : List Sec) (s : Sec) : Dk := ⟨D.b, D.m, (putM eJ D.ml D.cl k s.val).2, (putM eJ D.ml D.cl k s.val).1, D.dur, D.down, P ++ s :: Q⟩
theorem Dk.close {D : Dk} (O : D.Ok) {P Q : List Sec} {s s' : Sec} {r : RB} {k : Int} (hk : 0 ≤ k ∧ k < 34) (hkey : s.key = k) (hsec : D.secs = P ++ s :: Q ∨ (D.secs = P ++ Q ∧ s.ws = [])) (hnd : ((P ++ s :: Q).map Sec.key).Nodup) (hca : cacheOf D.secs k = s.ws.map RB.bs) (h64 : ∀ r ∈ s.ws, r.bs.length = 64)
    (hs'k : s'.key = k) (hs' : s'.ws = s.ws ++ [r]) (hr : r.bs.length = 64)
    (M : Mem w0 w (.blk D.b (dcells D.dur D.m D.down).toArray 95 :: mapX D.m (putM eJ D.ml D.cl k s'.val).1 (putM eJ D.ml D.cl k s'.val).2 :: s'.ent :: r.ent :: (s.ws.map RB.ent ++ secsE (P ++ Q) ++ A))) :
    ∃ E, DkE D.b (D.st.write k r.bs) E ∧ Mem w0 w (E ++ A) := by
  have hnd' : ((P ++ s' :: Q).map Sec.key).Nodup := by
    rw [List.map_append, List.map_cons] at hnd ⊢
    rw [hs'k, ← hkey]; exact hnd
  have hold : ∀ j, j ≠ k → secOf D.secs j = secOf (P ++ Q) j := fun j hj => by
    rcases hsec with e | ⟨e, -⟩
    · rw [e, secOf_mid hnd, if_neg (by rw [hkey]; exact hj)]
    · rw [e]
  refine ⟨(D.put k P Q s').ents, ⟨D.put k P Q s', rfl, ⟨O.dur, O.good.put _ _, hnd', fun j => ?_, fun t ht => ?_⟩, ?_, rfl⟩, ?_⟩
  · show getM (putM eJ D.ml D.cl k s'.val).1 j = (secOf (P ++ s' :: Q) j).map Sec.val
    rw [get_putJ, secOf_mid hnd']
    by_cases e : j = k
    · subst e; rw [if_pos rfl, if_pos hs'k.symm]; rfl
    · rw [if_neg e, if_neg (by rw [hs'k]; exact e), O.tell, hold j e]
  · replace ht : t ∈ P ++ s' :: Q := ht
    rcases List.mem_append.1 ht with h | h
    · exact O.sec t (by rcases hsec with e | ⟨e, -⟩ <;> rw [e] <;> simp [h])
    · rcases List.mem_cons.1 h with rfl | h
      · refine ⟨by rw [hs'k]; exact hk, by rw [hs']; simp, fun q hq => ?_⟩
        rw [hs'] at hq
        rcases List.mem_append.1 hq with hq | hq
        · exact h64 q hq
        · rw [List.mem_singleton.1 hq]; exact hr
      · exact O.sec t (by rcases hsec with e | ⟨e, -⟩ <;> rw [e] <;> simp [h])
  · unfold Dk.st DS.write Dk.put
    simp only
    congr 1
    funext j
    unfold cacheOf at hca ⊢
    rw [secOf_mid hnd']
    by_cases e : j = k
    · subst e
      rw [if_pos hs'k.symm, if_pos rfl, hca]
      simp [hs']
    · rw [if_neg (by rw [hs'k]; exact e), if_neg e, ← hold j e]
  · refine M.perm ?_
    unfold Dk.ents Dk.put
    refine List.Perm.cons _ (List.Perm.cons _ ?_)
    have h1 := ((secsE_mid P Q s').append_right A).symm
    refine List.Perm.trans ?_ h1
    unfold Sec.ents
    rw [hs', List.map_append, List.map_cons, List.map_nil]
    simp only [List.cons_append, List.append_assoc, List.nil_append]
    exact List.Perm.cons _ List.perm_middle.symm
end Go.Proofs.YtmdededhoibofaaGreat
namespace Go.Proofs.YtmdededhoibofaaGreat
open Go.RowKit Go.Sort
def pad64 (bs : List UInt8) : List UInt8 := bs ++ List.replicate (64 - bs.length) 0
theorem pad64_len {bs : List UInt8} (h : bs.length ≤ 64) : (pad64 bs).length = 64 := by unfold pad64; rw [List.length_append, List.length_replicate]; omega
theorem pad64_eq {bs : List UInt8} (h : bs.length = 64) : pad64 bs = bs := by unfold pad64; rw [h]; simp
theorem pad64_cells (bs : List UInt8) : (List.replicate 64 (Value.int .u8 0)).take 0 ++ bcells bs ++ (List.replicate 64 (Value.int .u8 0)).drop (0 + bs.length) = bcells (pad64 bs) := by
  rw [List.take_zero, List.nil_append, Nat.zero_add, List.drop_replicate, pad64, bcells_append]
  congr 1
  simp [bcells]
theorem made64 : madeL [Value.int .u8 0] 64 = List.replicate 64 (Value.int .u8 0) := by kernel_rfl
set_option maxHeartbeats 1000000 in
theorem write_any {wc w : World} {A E : List Ent} {b : Nat} {S0 : DS} {k : Int} {v : Value} {bs : List UInt8} (hE : DkE b S0 E) (M : Mem wc w (A ++ E)) (hv : RdH wc A v bs) (hup : S0.down = false) (hk : 0 ≤ k ∧ k < 34) (hb : bs.length ≤ 64) (hw : (S0.cache k).length ≤ 1000000) :
    Calls Tryz.prog 79 #[.pointer (some ⟨b, 0, none⟩), .int .i64 k, v] w fun e w' => e = .returned (.int .i64 0) ∧ ∃ E', DkE b (S0.write k (pad64 bs)) E' ∧ Mem wc w' (A ++ E') := by
  obtain ⟨D, rfl, O, rfl, rfl⟩ := hE
  have hA : ∀ W, Mem wc W (D.ents ++ A) → Mem wc W A := fun W M => M.sub (List.sublist_append_right _ _)
  replace M := M.perm List.perm_append_comm
  have hM0 := M
  replace M : Mem wc w (.blk D.b (dcells D.dur D.m D.down).toArray 95 :: mapX D.m D.ml D.cl :: (secsE D.secs ++ A)) := M
  have hd : D.down = false := hup
  have hpl := pad64_len hb
  obtain ⟨va, vc, rfl, hvc, -⟩ := (hv _ (hA _ hM0)).form
  refine calls_enter Tryz.func79 rfl 49 rfl rfl ?_; intro a S
  refine wp_seq ?_
  skip
  refine wp_region_lit ?_
  refine st_go [1] S rfl (by kernel_rfl) ?_; clear S a; intro a S
  refine nxC ?_
  refine wp_seq ?_
  refine nxD ?_
  refine st_go [1] S rfl (by kernel_rfl) ?_; clear S a; intro a S
  refine st_y S rfl rfl rfl (y_eqlPS (by kernel_rfl) S rfl) ?_; clear S a; intro a S
  refine nxC ?_
  refine st_condF S rfl ?_
  refine wp_skip ?_
  refine then_normal ?_
  refine wp_seq ?_
  refine nxD ?_
  refine st_go [1, 1, 2178] S rfl (by kernel_rfl) ?_; clear S a; intro a S
  refine st_y S rfl rfl rfl (y_load S (by kernel_rfl) rfl (M.cell 0 rfl ((dcells_down O.dur _ _).trans (by rw [hd])))) ?_; clear S a; intro a S
  refine nxC ?_
  refine st_if (t := 13) S rfl ?_ ?_
  · clear S; intro h13 S
    cases h13
  clear S; intro h13 S
  refine st_condF S rfl ?_
  refine wp_skip ?_
  refine then_normal ?_
  refine wp_seq ?_
  refine nxD ?_
  refine st_go [1] S rfl (by kernel_rfl) ?_; clear S a; intro a S
  refine st_call (xs := [(Operand.tmp 14)]) S (enters_of Tryz.func73 (by decide) rfl) rfl rfl rfl (is_any k _) ?_
  rintro _ w1 ⟨rfl, hK⟩; refine ⟨_, rfl, ?_⟩; clear S a; intro a S; replace M := M.grow hK
  refine st_go [1, 1] S rfl (by kernel_rfl) ?_; clear S a; intro a S
  refine st_if (t := 17) S rfl ?_ ?_
  · clear S; intro h17 S
    exfalso; simp at h17; omega
  clear S; intro h17 S
  refine st_go [1] S rfl (by kernel_rfl) ?_; clear S a; intro a S
  refine st_y S rfl rfl rfl (y_lenS (E := 5) S rfl (by kernel_rfl)) ?_; clear S a; intro a S
  refine st_go [1, 1] S rfl (by kernel_rfl) ?_; clear S a; intro a S
  refine nxC ?_
  refine st_if (t := 21) S rfl ?_ ?_
  · clear S; intro h21 S
    exfalso; omega
  clear S; intro h21 S
  refine st_condF S rfl ?_
  refine wp_skip ?_
  refine then_normal ?_
  refine wp_seq ?_
  refine nxD ?_
  refine st_go [1, 1, 2177] S rfl (by kernel_rfl) ?_; clear S a; intro a S
  refine st_y S rfl rfl rfl (y_load S (by kernel_rfl) rfl (M.cell 0 rfl (dcells_map O.dur _ _))) ?_; clear S a; intro a S
  refine st_y S rfl rfl rfl (y_eqlMS (by kernel_rfl) S rfl) ?_; clear S a; intro a S
  replace S := S.sub [(0, _), (1, _), (2, _), (6, _), (9, _), (13, _), (21, _), (26, _)] rfl
  refine nxC ?_
  refine st_condF S rfl ?_
  refine wp_skip ?_
  refine nxE ?_
  refine st_make (e := 5) (sz := 1) (by_ := 1) (zc := [.int .u8 0]) S M rfl rfl (by kernel_rfl) rfl rfl (by omega) (by omega) (by omega) (by omega) ?_; clear S M a; intro a w2 bSE S M hB
  try simp only [Int.toNat_natCast, Int.reduceToNat, Nat.reduceMul] at S M
  refine st_go [1] S rfl (by kernel_rfl) ?_; clear S a; intro a S
  refine nxA ?_
  refine st_go [1, 1] S rfl (by kernel_rfl) ?_; clear S a; intro a S
  refine st_copy (e := 5) (us := bcells bs) S M 0 rfl rfl (by kernel_rfl) rfl rfl rfl (hv _ (M.sub (.cons _ (.cons _ (.cons _ (List.sublist_append_right _ _)))))) (List.take_of_length_le (by simp [bcells]; omega)) (allOne_bcells _) (by rw [madeL_length, bcells_length]; show 0 + bs.length ≤ 64; omega) ?_; clear S M a; intro a w3 S M
  simp only [List.set_cons_zero, List.set_cons_succ] at M
  refine nxC ?_
  refine wp_seq ?_
  have M3 := M
  rw [bcells_length] at M3
  replace M : Mem wc w3 (.blk bSE (bcells (pad64 bs)).toArray 5 :: .blk D.b (dcells D.dur D.m D.down).toArray 95 :: mapX D.m D.ml D.cl :: (secsE D.secs ++ A)) := by
    rw [← pad64_cells, ← made64]; exact M3
  clear M3
  obtain ⟨r, hr⟩ : ∃ r : RB, r = ⟨bSE, bSE + 1, some ⟨bSE, 0, none⟩, 64, pad64 bs⟩ := ⟨_, rfl⟩
  have hrv : r.val = .slice (some ⟨bSE, 0, none⟩) 64 64 := by rw [hr]; unfold RB.val; simp only [hpl]
  have hrb : r.bs = pad64 bs := by rw [hr]
  have M4 := M.toRow (sz := 1) (m := (pad64 bs).length) (cap := 64) (xs := bcells (pad64 bs)) 0 rfl (by rw [bcells_length, Nat.mul_one]) (by omega) (by decide) (by rw [List.size_toArray, bcells_length, hpl]) (by rw [List.toList_toArray, Nat.mul_one]; exact List.take_of_length_le (by rw [bcells_length]; omega))
  replace M : Mem wc w3 (r.ent :: (D.ents ++ A)) := by rw [hr]; exact M4
  clear M4
  obtain ⟨P, Q, s, hkey, hsec, hnd, hval, hca, h64, M5⟩ := Dk.open O k hk (A := r.ent :: A) (M.perm List.perm_middle.symm)
  clear M; have M := M5; clear M5
  have hwl : s.ws.length ≤ 1000000 := by
    have e : (cacheOf D.secs k).length = s.ws.length := by rw [hca, List.length_map]
    rw [← e]; exact hw
  refine wp_regionKC (C := fun W => Blk W D.b (dcells D.dur D.m D.down).toArray 95) [13, 14] #[false, false, false, false, false, false, false, false, false, false, false, false, false, false, false] rfl M (by kernel_rfl) ?_; clear M; intro w4 M; have hC := M.blk 0 rfl
  refine kc_readC 0 S rfl hC (fun w _ => y_move S rfl) ?_; clear S a; intro a S
  refine kc_readC 1 S rfl hC (fun w _ => y_nilCheck S rfl) ?_; clear S a; intro a S
  refine kc_readC 2 S rfl hC (fun w _ => y_fieldAddr (k := 2176) S (by kernel_rfl) rfl) ?_; clear S a; intro a S
  refine kc_readC 3 S rfl hC (fun w hC => y_load S (by kernel_rfl) rfl ((hC.cells 2176).trans (dcells_map O.dur _ _))) ?_; clear S a; intro a S
  refine kc_readC 4 S rfl hC (fun w _ => y_move S rfl) ?_; clear S a; intro a S
  refine kc_readC 5 S rfl hC (fun w _ => y_move S rfl) ?_; clear S a; intro a S
  refine kc_readC 6 S rfl hC (fun w _ => y_nilCheck S rfl) ?_; clear S a; intro a S
  refine kc_readC 7 S rfl hC (fun w _ => y_fieldAddr (k := 2176) S (by kernel_rfl) rfl) ?_; clear S a; intro a S
  refine kc_readC 8 S rfl hC (fun w hC => y_load S (by kernel_rfl) rfl ((hC.cells 2176).trans (dcells_map O.dur _ _))) ?_; clear S a; intro a S
  refine kc_readC 9 S rfl hC (fun w _ => y_move S rfl) ?_; clear S a; intro a S
  refine kc_read 10 S rfl hC (fun w hW => have M := M.grow hW; y_lookupM (pos := 1) S M (keyJ) (O.good) Tryz.underlying91 (zero_sl) rfl rfl rfl) ?_; clear S a; intro a S
  simp only [Bool.false_eq_true, if_false, hval] at S
  refine kc_readC 11 S rfl hC (fun w _ => y_move S rfl) ?_; clear S a; intro a S
  refine kc_one 12 rfl (by kernel_rfl) ?_
  refine st_lit (ps := [(0, (Operand.tmp 46))]) (e := 58) (sz := 1) (zl := [.slice none 0 0]) (cs := [_]) S M rfl rfl (by kernel_rfl) rfl (rfl) ?_; clear S M a; intro a w5 bZ S M hB
  replace hC := M.blk 1 rfl
  refine wpList_nil ?_; refine then_normal ?_; refine ⟨fun _ => hB, hC, ?_⟩
  refine kc_one 13 rfl (by kernel_rfl) ?_
  refine st_append (e := 58) (sz := 1) (by_ := 24) (zc := [.slice none 0 0]) S M 3 rfl rfl (by kernel_rfl) rfl (by decide) rfl rfl rfl (show Rd _ _ _ 1 _ 1 [Value.slice (some ⟨bSE, 0, none⟩) 64 64] from M.sliceAt 0 rfl (M.cellsAt (k := 1) 0 rfl rfl) rfl (Nat.le_refl _) (by unfold maxLen; omega)) (rfl) (by omega) (by unfold maxLen; omega) ?_; clear S M a; intro a w6 vA loA hiA S M
  replace hC := M.blk 2 rfl
  refine wpList_nil ?_; refine then_normal ?_; refine ⟨fun h => absurd h (by decide), hC, ?_⟩
  refine kc_one 14 rfl (by kernel_rfl) ?_
  obtain ⟨aA, cA, rfl, -, -⟩ := (M.readAll 0 rfl (by unfold maxLen; omega)).form
  refine st_updateM (pos := 3) S M (keyJ) (O.good) Tryz.underlying91 rfl rfl rfl rfl rfl ?_; clear M; intro w7 M
  simp only [List.set_cons_zero, List.set_cons_succ] at M
  replace hC := M.blk 2 rfl
  refine wpList_nil ?_; refine then_normal ?_; refine ⟨fun h => absurd h (by decide), hC, ?_⟩
  refine kc_end (by kernel_rfl) ?_
  replace S := S.sub [(0, _), (1, _), (2, _), (6, _), (9, _), (13, _), (21, _), (26, _), (7, _)] rfl
  refine nxE ?_
  refine st_go [1] S rfl (by kernel_rfl) ?_; clear S a; intro a S
  refine nxC ?_
  refine wp_ret ?_
  refine end_one S rfl (res_tmp rfl) ?_
  refine ⟨rfl, ?_⟩
  replace M := M.ord [3, 3] (by simp only [ordO, oG, oS, oE, oZ, oB] <;> rfl)
  replace M := M.drop 3
  simp only [List.eraseIdx_cons_succ, List.eraseIdx_cons_zero] at M
  obtain ⟨s', hs'⟩ : ∃ s' : Sec, s' = ⟨k, loA, hiA, aA, cA, s.ws ++ [r]⟩ := ⟨_, rfl⟩
  have hsl : (s.ws ++ [r]).length = s.ws.length + 1 := by simp
  have hsv : s'.val = .slice aA (s.ws.length + 1) cA := by rw [hs']; unfold Sec.val; rw [hsl]
  have := Dk.close O (s' := s') (r := r) hk hkey hsec hnd hca h64 (by rw [hs']) (by rw [hs']) (by rw [hrb]; exact hpl) (A := A) (w0 := wc) (w := w7)
  rw [hrb] at this
  have hse : s'.ent = rowE loA hiA 58 1 (.slice aA (s.ws.length + 1) cA) (s.ws.length + 1) (s.ws.map RB.val ++ [.slice (some ⟨bSE, 0, none⟩) 64 64]) := by
    rw [hs']; unfold Sec.ent Sec.val; simp only [hsl, List.map_append, List.map_cons, List.map_nil, hrv]
  rw [hsv, hse] at this
  obtain ⟨E', h1, h2⟩ := this (M.perm (List.Perm.cons _ (List.Perm.cons _ (List.Perm.cons _ List.perm_middle))))
  exact ⟨E', h1, h2.perm List.perm_append_comm⟩
end Go.Proofs.YtmdededhoibofaaGreat
namespace Go.Proofs.YtmdededhoibofaaGreat
open Go.RowKit Go.Sort
theorem cloneB_any (v : Value) (bs : List UInt8) (w : World) (hv : Bs 0 w.heap.size w v bs) (hl : bs.length ≤ 140737488351232) : Calls Tryz.prog 80 #[v] w fun e w' => ∃ v', e = .returned v' ∧ Fresh w w' 5 1 v' bs.length (bcells bs) := by
  have M := Mem.start w
  refine calls_enter Tryz.func80 rfl 8 rfl rfl ?_; intro a S
  refine nxD ?_
  refine st_go [1] S rfl (by kernel_rfl) ?_; clear S a; intro a S
  refine nxC ?_
  refine wp_seq ?_
  refine nxD ?_
  refine st_go [1] S rfl (by kernel_rfl) ?_; clear S a; intro a S
  refine st_y S rfl rfl rfl (y_eqlNil (e := 5) S rfl (M.arg hv) (by kernel_rfl)) ?_; clear S a; intro a S
  refine nxC ?_
  refine st_split (t := 4) S rfl ?_ ?_
  · clear S; intro h4 S
    refine st_condT S rfl ?_
    refine nxD ?_
    refine st_go [1] S rfl (by kernel_rfl) ?_; clear S a; intro a S
    refine nxC ?_
    refine wp_ret ?_
    refine then_ret ?_
    refine end_one S rfl (res_tmp rfl) ?_
    obtain ⟨rfl, h0, h1⟩ := hv.nilV h4
    exact ⟨_, rfl, by rw [h1, h0]; exact M.freshNil _ _⟩
  clear S; intro h4 S
  refine st_condF S rfl ?_
  refine wp_skip ?_
  refine nxE ?_
  refine st_lit0 (e := 5) (sz := 1) (by_ := 1) (zc := [.int .u8 0]) S M rfl rfl (by kernel_rfl) ?_; clear S M a; intro a w1 b1 S M hB
  refine st_go [1] S rfl (by kernel_rfl) ?_; clear S a; intro a S
  replace M := M.toRow (sz := 1) (m := 0) (cap := 0) (xs := []) 0 rfl rfl (Nat.le_refl _) (Nat.zero_le _) rfl rfl
  refine st_append (e := 5) (sz := 1) (by_ := 1) (zc := [.int .u8 0]) S M 0 rfl rfl (by kernel_rfl) rfl (by decide) rfl rfl rfl (M.arg hv) (allOne_bcells _) (by omega) (by unfold maxLen; omega) ?_; clear S M a; intro a w2 vA loA hiA S M
  refine st_go [1] S rfl (by kernel_rfl) ?_; clear S a; intro a S
  refine nxC ?_
  refine wp_ret ?_
  refine end_one S rfl (res_tmp rfl) ?_
  exact ⟨_, rfl, by have := M.fresh 0 rfl; rwa [Nat.zero_add, List.nil_append] at this⟩
theorem dcells_at {dur : List UInt8} (h : dur.length = 2176) {m : Nat} {d : Bool} {k : Nat} (hk : k < 34) {W : World} {b : Nat} {T : TypeId} (B : Blk W b (dcells dur m d).toArray T) : CellsAt W b (k * 64) (bcells (durAt dur k)) := by
  intro j hj
  rw [bcells_length, durAt_len h hk] at hj
  rw [B.cells]
  unfold dcells durAt
  rw [List.getElem?_toArray, List.getElem?_append_left (by rw [bcells_length]; omega), ← bcells_cut, List.getElem?_take_of_lt hj, List.getElem?_drop]
/-- what a sector reads as -/
def DS.get (S : DS) (k : Nat) : List UInt8 := match (S.cache (k : Int)).getLast? with
  | some b => b
  | none => S.dur k
theorem Mem.readB {w0 w : World} {H : List Ent} (M : Mem w0 w H) {r : RB} (hr : r.ent ∈ H) (hl : r.bs.length ≤ 1000000) : Bs 0 w.heap.size w r.val r.bs := by
  obtain ⟨p, hp⟩ := List.getElem?_of_mem hr
  exact M.readAll p hp (by unfold maxLen; omega)
set_option maxHeartbeats 1000000 in
theorem dread_any {wc w : World} {A E : List Ent} {b : Nat} {S0 : DS} {k : Nat} (hE : DkE b S0 E) (M : Mem wc w (A ++ E)) (hup : S0.down = false) (hk : k < 34) (hw : (S0.cache (k : Int)).length ≤ 1000000) :
    Calls Tryz.prog 49 #[.pointer (some ⟨b, 0, none⟩), .int .i64 (k : Int)] w fun e w' => ∃ v', e = .returned (.tuple #[v', .int .i64 0]) ∧ Fresh w w' 5 1 v' (S0.get k).length (bcells (S0.get k)) ∧ (S0.get k).length = 64 := by
  obtain ⟨D, rfl, O, rfl, rfl⟩ := hE
  obtain ⟨P, Q, s, hkey, hsec, hnd, hval, hca, h64, M1⟩ := Dk.open O (k : Int) (by omega) (M.perm List.perm_append_comm)
  clear M; have M := M1; clear M1
  have hd : D.down = false := hup
  have hwl : s.ws.length ≤ 1000000 := by
    have e : (cacheOf D.secs (k : Int)).length = s.ws.length := by rw [hca, List.length_map]
    rw [← e]; exact hw
  have hget : D.st.get k = match s.ws.getLast? with | some r => r.bs | none => durAt D.dur k := by
    unfold DS.get Dk.st
    simp only [hca, List.getLast?_map]
    cases s.ws.getLast? <;> rfl
  have hM0 := M
  refine calls_enter Tryz.func49 rfl 39 rfl rfl ?_; intro a S
  refine wp_seq ?_
  skip
  refine wp_region_lit ?_
  refine st_go [1, 1] S rfl (by kernel_rfl) ?_; clear S a; intro a S
  refine nxC ?_
  refine wp_seq ?_
  refine nxD ?_
  refine st_go [1] S rfl (by kernel_rfl) ?_; clear S a; intro a S
  refine st_y S rfl rfl rfl (y_eqlPS (by kernel_rfl) S rfl) ?_; clear S a; intro a S
  refine nxC ?_
  refine st_condF S rfl ?_
  refine wp_skip ?_
  refine then_normal ?_
  refine wp_seq ?_
  refine nxD ?_
  refine st_go [1, 1, 2178] S rfl (by kernel_rfl) ?_; clear S a; intro a S
  refine st_y S rfl rfl rfl (y_load S (by kernel_rfl) rfl (M.cell 0 rfl ((dcells_down O.dur _ _).trans (by rw [hd])))) ?_; clear S a; intro a S
  refine nxC ?_
  refine st_if (t := 12) S rfl ?_ ?_
  · clear S; intro h12 S
    cases h12
  clear S; intro h12 S
  refine st_condF S rfl ?_
  refine wp_skip ?_
  refine then_normal ?_
  refine wp_seq ?_
  refine nxD ?_
  refine st_go [1] S rfl (by kernel_rfl) ?_; clear S a; intro a S
  refine st_call (xs := [(Operand.tmp 13)]) S (enters_of Tryz.func73 (by decide) rfl) rfl rfl rfl (is_any (k : Int) _) ?_
  rintro _ w1 ⟨rfl, hK⟩; refine ⟨_, rfl, ?_⟩; clear S a; intro a S; replace M := M.grow hK
  refine st_go [1] S rfl (by kernel_rfl) ?_; clear S a; intro a S
  refine nxC ?_
  refine st_if (t := 15) S rfl ?_ ?_
  · clear S; intro h15 S
    exfalso; simp at h15; omega
  clear S; intro h15 S
  refine st_condF S rfl ?_
  refine wp_skip ?_
  refine then_normal ?_
  refine wp_seq ?_
  refine nxD ?_
  refine st_go [1, 1, 2177] S rfl (by kernel_rfl) ?_; clear S a; intro a S
  refine st_y S rfl rfl rfl (y_load S (by kernel_rfl) rfl (M.cell 0 rfl (dcells_map O.dur _ _))) ?_; clear S a; intro a S
  refine st_go [1] S rfl (by kernel_rfl) ?_; clear S a; intro a S
  refine st_y S rfl rfl rfl (y_lookupM (pos := 1) S M (keyJ) (O.good) Tryz.underlying91 (zero_sl) rfl rfl rfl) ?_; clear S a; intro a S
  simp only [Bool.false_eq_true, if_false, hval] at S
  refine st_y S rfl rfl rfl (y_assign S rfl) ?_; clear S a; intro a S
  refine nxA ?_
  refine st_go [1] S rfl (by kernel_rfl) ?_; clear S a; intro a S
  refine st_y S rfl rfl rfl (y_lenS (E := 58) S rfl (by kernel_rfl)) ?_; clear S a; intro a S
  refine st_go [1] S rfl (by kernel_rfl) ?_; clear S a; intro a S
  replace S := S.sub [(0, _), (1, _), (4, _), (5, _), (8, _), (12, _), (15, _), (6, _), (24, _)] rfl
  refine nxC ?_
  refine st_fi (t := 24) S rfl ?_ ?_
  · clear S; intro h24 S
    refine st_condF S rfl ?_
    refine wp_skip ?_
    refine then_normal ?_
    refine wp_seq ?_
    have hws : s.ws = [] := List.eq_nil_of_length_eq_zero (by omega)
    have hget2 : D.st.get k = durAt D.dur k := by rw [hget, hws]; rfl
    refine wp_region_lit ?_
    refine st_go [1, 1, 1, 1] S rfl (by kernel_rfl) ?_; clear S a; intro a S
    refine st_y S rfl rfl rfl (y_indexA (m := 34) (sz := 64) S (by kernel_rfl) rfl rfl (by first | omega | (simp; done) | (simp; omega))) ?_; clear S a; intro a S
    try simp only [Int.toNat_natCast, Nat.mul_one, Nat.zero_add] at S
    try simp only [Int.toNat_natCast, Nat.zero_add] at S
    refine st_y S rfl rfl rfl (y_sliceA (m := 64) (sz := 1) S (by kernel_rfl) rfl) ?_; clear S a; intro a S
    refine st_call (xs := [(Operand.tmp 37)]) S (enters_of Tryz.func80 (by decide) rfl) rfl rfl rfl (cloneB_any _ (durAt D.dur k) _ (by unfold Bs; rw [durAt_len O.dur hk]; exact M.sliceAt (m := 64) (sz := 1) 0 rfl (dcells_at O.dur hk (M.blk 0 rfl)) (by rw [bcells_length, durAt_len O.dur hk]) (Nat.le_refl _) (by decide)) (by rw [durAt_len O.dur hk]; decide)) ?_
    rintro _ w3 ⟨v', rfl, hF⟩; refine ⟨_, rfl, ?_⟩; clear S a; intro a S
    refine st_go [1, 1] S rfl (by kernel_rfl) ?_; clear S a; intro a S
    refine nxC ?_
    refine wp_ret ?_
    refine end_two S rfl (res_tmp rfl) (res_tmp rfl) ?_
    exact ⟨v', rfl, by rw [hget2]; exact hF.from hK, by rw [hget2]; exact durAt_len O.dur hk⟩
  clear S; intro h24 S
  refine st_condT S rfl ?_
  refine wp_seq ?_
  obtain ⟨r, hr⟩ : ∃ r, s.ws[s.ws.length - 1]? = some r := ⟨_, List.getElem?_eq_getElem (by omega)⟩
  have hrm := List.mem_of_getElem? hr
  have hget2 : D.st.get k = r.bs := by rw [hget, List.getLast?_eq_getElem?, hr]
  have hrl := h64 r hrm
  refine wp_region_lit ?_
  refine st_go [1, 1] S rfl (by kernel_rfl) ?_; clear S a; intro a S
  refine st_y S rfl rfl rfl (y_lenS (E := 58) S rfl (by kernel_rfl)) ?_; clear S a; intro a S
  (first | refine st_y S rfl rfl rfl (y_subN S rfl rfl (by omega)) ?_ | refine st_y S rfl rfl rfl (y_int S rfl rfl rfl) ?_); clear S a; intro a S
  rw [show ((s.ws.length : Int) - 1) = ((s.ws.length - 1 : Nat) : Int) by omega] at S
  refine st_y S rfl rfl rfl (y_indexR (e := 58) (sz := 1) S (by kernel_rfl) rfl (M.readAll 2 rfl (by unfold maxLen; omega)) rfl (by first | omega | (simp; done) | (simp; omega))) ?_; clear S a; intro a S
  try simp only [Int.toNat_natCast, Nat.mul_one, Nat.zero_add] at S
  refine st_y S rfl rfl rfl (y_load S (by kernel_rfl) rfl ((M.readAll 2 rfl (by unfold maxLen; omega)).at_.one (s.ws.length - 1) (by rw [List.getElem?_map, hr]; rfl))) ?_; clear S a; intro a S
  refine st_call (xs := [(Operand.tmp 30)]) S (enters_of Tryz.func80 (by decide) rfl) rfl rfl rfl (cloneB_any r.val r.bs _ (M.readB (r := r) (by simp only [List.mem_cons, List.mem_append, List.mem_map]; exact .inr (.inr (.inr (.inl (.inl ⟨r, hrm, rfl⟩))))) (by omega)) (by omega)) ?_
  rintro _ w2 ⟨v', rfl, hF⟩; refine ⟨_, rfl, ?_⟩; clear S a; intro a S
  refine st_go [1, 1] S rfl (by kernel_rfl) ?_; clear S a; intro a S
  refine nxC ?_
  refine wp_ret ?_
  refine then_ret ?_
  refine end_two S rfl (res_tmp rfl) (res_tmp rfl) ?_
  exact ⟨v', rfl, by rw [hget2]; exact hF.from hK, by rw [hget2]; exact hrl⟩
theorem up_any {wc w : World} {A E : List Ent} {b : Nat} {S0 : DS} (hE : DkE b S0 E) (M : Mem wc w (A ++ E)) (hup : S0.down = true) :
    Calls Tryz.prog 23 #[.pointer (some ⟨b, 0, none⟩)] w fun e w' => e = .returned (.int .i64 0) ∧ ∃ E', DkE b { S0 with down := false } E' ∧ Mem wc w' (A ++ E') := by
  obtain ⟨D, rfl, O, rfl, rfl⟩ := hE
  replace M := M.perm List.perm_append_comm
  have hd : D.down = true := hup
  replace M : Mem wc w (.blk D.b (dcells D.dur D.m D.down).toArray 95 :: mapX D.m D.ml D.cl :: (secsE D.secs ++ A)) := M
  refine calls_enter Tryz.func23 rfl 13 rfl rfl ?_; intro a S
  refine wp_seq ?_
  skip
  refine wp_region_lit ?_
  refine st_go [1] S rfl (by kernel_rfl) ?_; clear S a; intro a S
  refine nxC ?_
  refine wp_seq ?_
  refine nxD ?_
  refine st_go [1] S rfl (by kernel_rfl) ?_; clear S a; intro a S
  refine st_y S rfl rfl rfl (y_eqlPS (by kernel_rfl) S rfl) ?_; clear S a; intro a S
  refine nxC ?_
  refine st_condF S rfl ?_
  refine wp_skip ?_
  refine then_normal ?_
  refine wp_seq ?_
  refine nxD ?_
  refine st_go [1, 1, 2178] S rfl (by kernel_rfl) ?_; clear S a; intro a S
  refine st_y S rfl rfl rfl (y_load S (by kernel_rfl) rfl (M.cell 0 rfl ((dcells_down O.dur _ _).trans (by rw [hd])))) ?_; clear S a; intro a S
  refine st_go [1] S rfl (by kernel_rfl) ?_; clear S a; intro a S
  refine nxC ?_
  refine st_if (t := 9) S rfl ?_ ?_
  · clear S; intro h9 S
    cases h9
  clear S; intro h9 S
  refine st_condF S rfl ?_
  refine wp_skip ?_
  refine nxE ?_
  refine st_go [1, 1, 2178] S rfl (by kernel_rfl) ?_; clear S a; intro a S
  refine st_store (us := [.bool false]) S M 0 rfl (by kernel_rfl) rfl rfl rfl rfl rfl rfl (by rw [dcells_len O.dur]; decide) ?_; clear M; intro wS M
  simp only [List.set_cons_zero, List.set_cons_succ] at M
  rw [dcells_setDown O.dur] at M
  refine nxA ?_
  refine st_go [1] S rfl (by kernel_rfl) ?_; clear S a; intro a S
  refine nxC ?_
  refine wp_ret ?_
  refine end_one S rfl (res_tmp rfl) ?_
  refine ⟨rfl, _, ⟨⟨D.b, D.m, D.cl, D.ml, D.dur, false, D.secs⟩, rfl, ⟨O.dur, O.good, O.nodup, O.tell, O.sec⟩, rfl, rfl⟩, ?_⟩
  exact Mem.perm (H := Dk.ents ⟨D.b, D.m, D.cl, D.ml, D.dur, false, D.secs⟩ ++ A) M List.perm_append_comm
end Go.Proofs.YtmdededhoibofaaGreat
namespace Go.Proofs.YtmdededhoibofaaGreat
open Go.RowKit Go.Sort
/-- a sector's bytes set -/
def dset (dur : List UInt8) (k : Nat) (bs : List UInt8) : List UInt8 := dur.take (k * 64) ++ bs ++ dur.drop (k * 64 + 64)
theorem dset_len {dur bs : List UInt8} {k : Nat} (h : dur.length = 2176) (hk : k < 34) (hb : bs.length = 64) : (dset dur k bs).length = 2176 := by
  unfold dset; simp only [List.length_append, List.length_take, List.length_drop]; omega
theorem dset_at {dur bs : List UInt8} {k : Nat} (h : dur.length = 2176) (hk : k < 34) (hb : bs.length = 64) (j : Nat) : durAt (dset dur k bs) j = if j = k then bs else durAt dur j := by
  have hl : (dur.take (k * 64)).length = k * 64 := by rw [List.length_take]; omega
  unfold durAt dset
  by_cases e : j = k
  · subst e
    rw [if_pos rfl, List.append_assoc]
    have := List.drop_left (l₁ := dur.take (j * 64)) (l₂ := bs ++ dur.drop (j * 64 + 64))
    rw [hl] at this
    rw [this, ← hb, List.take_left]
  · rw [if_neg e]
    rcases Nat.lt_or_ge j k with hj | hj
    · rw [List.append_assoc, List.drop_append_of_le_length (by omega), List.take_append_of_le_length (by rw [List.length_drop]; omega), List.drop_take, List.take_take, Nat.min_eq_left (by omega)]
    · have hl2 : (dur.take (k * 64) ++ bs).length = k * 64 + 64 := by rw [List.length_append, hl, hb]
      rw [List.drop_append, List.drop_of_length_le (by omega), List.nil_append, hl2, List.drop_drop]
      congr 2; omega
theorem dcells_put {dur bs : List UInt8} {k m : Nat} {d : Bool} (h : dur.length = 2176) (hk : k < 34) (hb : bs.length = 64) : (dcells dur m d).take (k * 64) ++ bcells bs ++ (dcells dur m d).drop (k * 64 + (bcells bs).length) = dcells (dset dur k bs) m d := by
  unfold dcells dset
  rw [bcells_length, hb, List.take_append_of_le_length (by rw [bcells_length]; omega), List.drop_append_of_le_length (by rw [bcells_length]; omega), bcells_append, bcells_append]
  simp only [bcells, List.map_take, List.map_drop, List.append_assoc]
theorem getM_mem {l : Mes Int} (h : (l.map (·.1)).Nodup) {q : Int × MapEntry} (hq : q ∈ l) : getM l q.1 = some q.2.val := by
  unfold getM
  cases hf : l.find? (fun p => decide (p.1 = q.1)) with
  | none => rw [List.find?_eq_none] at hf; exact absurd (by simp) (hf q hq)
  | some p =>
    have h1 := List.find?_some hf
    have h2 := List.mem_of_find?_eq_some hf
    simp only [decide_eq_true_eq] at h1
    obtain ⟨i, hi⟩ := List.getElem?_of_mem hq
    obtain ⟨j, hj⟩ := List.getElem?_of_mem h2
    have e1 : (l.map (·.1))[i]? = some q.1 := by rw [List.getElem?_map, hi]; rfl
    have e2 : (l.map (·.1))[j]? = some q.1 := by rw [List.getElem?_map, hj, ← h1]; rfl
    have := (List.getElem?_inj (List.getElem?_eq_some_iff.1 e1).1 h).1 (e1.trans e2.symm)
    subst this
    rw [hi] at hj; obtain rfl := Option.some.inj hj; rfl
theorem nodup_lenJ {α : Type} : ∀ {a b : List α}, a.Nodup → (∀ x ∈ a, x ∈ b) → a.length ≤ b.length
  | [], _, _, _ => Nat.zero_le _
  | x :: a, b, hn, hs => by
    obtain ⟨b1, b2, rfl⟩ := List.append_of_mem (hs x (by simp))
    rw [List.nodup_cons] at hn
    have := nodup_lenJ (a := a) (b := b1 ++ b2) hn.2 fun y hy => by
      rcases List.mem_append.1 (hs y (by simp [hy])) with h | h
      · exact List.mem_append_left _ h
      · rcases List.mem_cons.1 h with h | h
        · exact absurd (h ▸ hy) hn.1
        · exact List.mem_append_right _ h
    simp only [List.length_append, List.length_cons] at this ⊢
    omega
/-- all that was written is durable -/
def DS.flush (S : DS) : DS := ⟨S.get, fun _ => [], S.down⟩
/-- a sector's writes, where a disk's entries are owned -/
theorem Dk.look {D : Dk} (O : D.Ok) {q : Int × MapEntry} (hq : q ∈ D.ml) : ∃ (s : Sec) (r : RB) (k : Nat), s ∈ D.secs ∧ q.1 = (k : Int) ∧ k < 34 ∧ q.2.val = s.val ∧ 0 < s.ws.length ∧ s.ws[s.ws.length - 1]? = some r ∧ r.bs.length = 64 ∧ D.st.get k = r.bs := by
  have h1 := getM_mem O.good.nodup hq
  rw [O.tell] at h1
  cases hs : secOf D.secs q.1 with
  | none => rw [hs] at h1; cases h1
  | some s =>
    rw [hs] at h1
    have hv : s.val = q.2.val := Option.some.inj h1
    obtain ⟨P, Q, e, hkey⟩ := secOf_some hs
    have hm : s ∈ D.secs := by rw [e]; simp
    obtain ⟨⟨hk1, hk2⟩, hne, h64⟩ := O.sec s hm
    have hpos : 0 < s.ws.length := List.length_pos_iff.2 hne
    obtain ⟨r, hr⟩ : ∃ r, s.ws[s.ws.length - 1]? = some r := ⟨_, List.getElem?_eq_getElem (by omega)⟩
    refine ⟨s, r, q.1.toNat, hm, by omega, by omega, hv.symm, hpos, hr, h64 r (List.mem_of_getElem? hr), ?_⟩
    unfold DS.get Dk.st cacheOf
    simp only [show ((q.1.toNat : Nat) : Int) = q.1 by omega, hs, List.getLast?_eq_getElem?, List.length_map, List.getElem?_map, hr, Option.map_some]
theorem Dk.getNo {D : Dk} (O : D.Ok) {k : Nat} (h : ∀ q ∈ D.ml, q.1 ≠ (k : Int)) : D.st.get k = durAt D.dur k := by
  have hn : (k : Int) ∉ D.ml.map (·.1) := fun hm => by
    obtain ⟨q, hq, e⟩ := List.mem_map.1 hm
    exact h q hq e
  have h1 := O.tell (k : Int)
  rw [getM_none hn] at h1
  unfold DS.get Dk.st cacheOf
  cases hs : secOf D.secs (k : Int) with
  | some s => rw [hs] at h1; cases h1
  | none => simp only [hs, List.getLast?_nil]
theorem Mem.secRow {w0 w : World} {H : List Ent} (M : Mem w0 w H) {s : Sec} (hs : s.ent ∈ H) (hl : s.ws.length ≤ 1000000) : Rd 0 w.heap.size w 1 s.val s.ws.length (s.ws.map RB.val) := by
  obtain ⟨p, hp⟩ := List.getElem?_of_mem hs
  exact M.readAll p hp (by unfold maxLen; omega)
theorem secsE_ent {l : List Sec} {s : Sec} (h : s ∈ l) : s.ent ∈ secsE l := List.mem_flatMap.2 ⟨s, h, List.mem_cons_self ..⟩
theorem secsE_ws {l : List Sec} {s : Sec} (h : s ∈ l) {r : RB} (hr : r ∈ s.ws) : r.ent ∈ secsE l := List.mem_flatMap.2 ⟨s, h, List.mem_cons_of_mem _ (List.mem_map_of_mem hr)⟩
theorem dk_empty {b m cl : Nat} {dur : List UInt8} (h : dur.length = 2176) : Dk.Ok ⟨b, m, cl, [], dur, false, []⟩ := ⟨h, good_nil _, .nil, fun _ => rfl, fun s hs => (by cases hs)⟩
set_option maxHeartbeats 2000000 in
theorem flush_any {wc w : World} {A E : List Ent} {b : Nat} {S0 : DS} (hE : DkE b S0 E) (M : Mem wc w (A ++ E)) (hup : S0.down = false) (hw : ∀ k, (S0.cache k).length ≤ 1000000) :
    Calls Tryz.prog 47 #[.pointer (some ⟨b, 0, none⟩)] w fun e w' => e = .returned (.int .i64 0) ∧ ∃ E', DkE b S0.flush E' ∧ Mem wc w' (A ++ E') := by
  obtain ⟨D, rfl, O, rfl, rfl⟩ := hE
  replace M := M.perm List.perm_append_comm
  have hd : D.down = false := hup
  have hsl : ∀ s ∈ D.secs, s.ws.length ≤ 1000000 := fun s hs => by
    have h1 := hw s.key
    obtain ⟨P, Q, e⟩ := List.append_of_mem hs
    have h2 := secOf_mid (by rw [← e]; exact O.nodup) (P := P) (Q := Q) (s := s) s.key
    rw [if_pos rfl, ← e] at h2
    unfold Dk.st cacheOf at h1
    simp only [h2, List.length_map] at h1
    exact h1
  replace M : Mem wc w (.blk D.b (dcells D.dur D.m D.down).toArray 95 :: mapX D.m D.ml D.cl :: (secsE D.secs ++ A)) := M
  refine calls_enter Tryz.func47 rfl 38 rfl rfl ?_; intro a S
  refine wp_seq ?_
  skip
  refine wp_region_lit ?_
  refine st_go [1] S rfl (by kernel_rfl) ?_; clear S a; intro a S
  refine nxC ?_
  refine wp_seq ?_
  refine nxD ?_
  refine st_go [1] S rfl (by kernel_rfl) ?_; clear S a; intro a S
  refine st_y S rfl rfl rfl (y_eqlPS (by kernel_rfl) S rfl) ?_; clear S a; intro a S
  refine nxC ?_
  refine st_condF S rfl ?_
  refine wp_skip ?_
  refine then_normal ?_
  refine wp_seq ?_
  refine nxD ?_
  refine st_go [1, 1, 2178] S rfl (by kernel_rfl) ?_; clear S a; intro a S
  refine st_y S rfl rfl rfl (y_load S (by kernel_rfl) rfl (M.cell 0 rfl ((dcells_down O.dur _ _).trans (by rw [hd])))) ?_; clear S a; intro a S
  refine nxC ?_
  refine st_if (t := 10) S rfl ?_ ?_
  · clear S; intro h10 S
    cases h10
  clear S; intro h10 S
  refine st_condF S rfl ?_
  refine wp_skip ?_
  refine then_normal ?_
  refine wp_seq ?_
  refine nxD ?_
  refine st_go [1, 1, 2177] S rfl (by kernel_rfl) ?_; clear S a; intro a S
  refine st_y S rfl rfl rfl (y_load S (by kernel_rfl) rfl (M.cell 0 rfl (dcells_map O.dur _ _))) ?_; clear S a; intro a S
  refine st_rangeM (pos := 1) S M Tryz.underlying91 rfl rfl rfl rfl ?_; clear S M a; intro a w1 bI S M hB
  refine nxC ?_
  refine wp_block ?_
  refine wp_loop_g (fun m a w' => ∃ (vs : Mes Int) (dur : List UInt8), (∀ p ∈ vs, p ∈ D.ml) ∧ vs.Nodup ∧ m = D.ml.length - vs.length ∧ dur.length = 2176 ∧ (∀ j : Nat, durAt dur j = if (j : Int) ∈ vs.map (·.1) then D.st.get j else durAt D.dur j) ∧ Sees 38 a [(0, .pointer (some ⟨D.b, 0, none⟩)), (15, .pointer (some ⟨bI, 0, none⟩))] ∧ Mem wc w' (itX bI D.m D.cl (bornsM vs) D.cl :: .blk D.b (dcells dur D.m D.down).toArray 95 :: mapX D.m D.ml D.cl :: (secsE D.secs ++ A))) (D.ml.length) ?_ ?_
  · skip
    exact ⟨[], D.dur, fun p h => (by cases h), .nil, rfl, O.dur, fun j => (by simp), S.sub _ rfl, M⟩
  clear S M a; intro m a wl
  rintro ⟨vs, dur, hvs, hnd, rfl, hdl, hdat, S, M⟩
  refine nxD ?_
  refine st_nextM (pos := 0) (pm := 2) S M (O.good) (hvs) rfl rfl rfl rfl rfl ?_ ?_
  · intro hAll; clear S a; intro a S
    refine st_go [1] S rfl (by kernel_rfl) ?_; clear S a; intro a S
    refine nxC ?_
    refine wp_seq ?_
    refine st_condF S rfl ?_
    refine wp_exit ?_
    refine then_exit ?_
    refine then_exit ?_
    refine block_hit ?_
    refine nxE ?_
    refine st_go [1, 1, 2177] S rfl (by kernel_rfl) ?_; clear S a; intro a S
    refine st_y S rfl rfl rfl (y_load S (by kernel_rfl) rfl (M.cell 1 rfl (dcells_map hdl _ _))) ?_; clear S a; intro a S
    refine st_clearM (pos := 2) S M Tryz.underlying91 rfl rfl rfl ?_; clear M; intro w2 M
    simp only [List.set_cons_zero, List.set_cons_succ] at M
    refine nxA ?_
    refine st_go [1] S rfl (by kernel_rfl) ?_; clear S a; intro a S
    refine nxC ?_
    refine wp_ret ?_
    refine end_one S rfl (res_tmp rfl) ?_
    refine ⟨rfl, ?_⟩
    replace M := M.drop 0
    simp only [List.eraseIdx_cons_succ, List.eraseIdx_cons_zero] at M
    have hfl : D.st.flush = Dk.st ⟨D.b, D.m, D.cl, [], dur, false, []⟩ := by
      unfold DS.flush
      show DS.mk D.st.get (fun _ => []) D.st.down = DS.mk (durAt dur) (cacheOf []) false
      rw [show D.st.down = false from hd]
      congr 1
      funext j
      rw [hdat j]
      by_cases e : (j : Int) ∈ vs.map (·.1)
      · rw [if_pos e]
      · rw [if_neg e]
        exact Dk.getNo O fun q hq e2 => e (List.mem_map.2 ⟨q, hAll q hq, e2⟩)
    rw [hfl]
    refine ⟨_, ⟨⟨D.b, D.m, D.cl, [], dur, false, []⟩, rfl, dk_empty hdl, rfl, rfl⟩, ?_⟩
    rw [hd] at M
    exact (M.sub (H' := Dk.ents ⟨D.b, D.m, D.cl, [], dur, false, []⟩ ++ A) (.cons_cons _ (.cons_cons _ (List.sublist_append_right _ _)))).perm List.perm_append_comm
  intro q hq hnv; clear S M a; intro a w3 S M
  simp only [List.set_cons_zero, List.set_cons_succ] at M
  refine st_go [1] S rfl (by kernel_rfl) ?_; clear S a; intro a S
  refine nxC ?_
  refine wp_seq ?_
  refine st_condT S rfl ?_
  refine wp_skip ?_
  refine then_normal ?_
  refine wp_block ?_
  refine nxD ?_
  refine st_y S rfl rfl rfl (y_entryM (pos := 0) (pm := 2) S M (O.good) hq rfl rfl rfl) ?_; clear S a; intro a S
  refine st_go [1, 1, 1, 1] S rfl (by kernel_rfl) ?_; clear S a; intro a S
  refine nxC ?_
  obtain ⟨s, r, k, hsm, hqk, hk34, hqv, hpos, hr, hr64, hget⟩ := Dk.look O hq
  have hrm := List.mem_of_getElem? hr
  have hlw := hsl s hsm
  rw [hqk, hqv] at S
  refine wp_regionK [12] #[false, false, false, false, false, false, false, false, false, false, false, false, false] rfl M (by kernel_rfl) ?_; clear M; intro w4 M
  refine k_pure 0 S rfl (fun w => y_move S rfl) ?_; clear S a; intro a S
  refine k_pure 1 S rfl (fun w => y_move S rfl) ?_; clear S a; intro a S
  refine k_pure 2 S rfl (fun w => y_nilCheck S rfl) ?_; clear S a; intro a S
  refine k_pure 3 S rfl (fun w => y_fieldAddr (k := 0) S (by kernel_rfl) rfl) ?_; clear S a; intro a S
  refine k_pure 4 S rfl (fun w => y_indexA (m := 34) (sz := 64) S (by kernel_rfl) rfl rfl (by first | omega | (simp; done) | (simp; omega))) ?_; clear S a; intro a S
  try simp only [Int.toNat_natCast, Nat.mul_one, Nat.zero_add] at S
  refine k_pure 5 S rfl (fun w => y_sliceA (m := 64) (sz := 1) S (by kernel_rfl) rfl) ?_; clear S a; intro a S
  refine k_pure 6 S rfl (fun w => y_move S rfl) ?_; clear S a; intro a S
  refine k_pure 7 S rfl (fun w => y_move S rfl) ?_; clear S a; intro a S
  refine k_pure 8 S rfl (fun w => y_lenS (E := 58) S rfl (by kernel_rfl)) ?_; clear S a; intro a S
  skip
  (first | refine k_pure 9 S rfl (fun w => y_subN S rfl rfl (by omega)) ?_ | refine k_pure 9 S rfl (fun w => y_int S rfl rfl rfl) ?_); clear S a; intro a S
  rw [show ((s.ws.length : Int) - 1) = ((s.ws.length - 1 : Nat) : Int) by omega] at S
  refine k_read 10 S rfl (fun w hW => have M := M.grow hW; y_indexR (e := 58) (sz := 1) S (by kernel_rfl) rfl (M.secRow (s := s) (.tail _ (.tail _ (.tail _ (List.mem_append_left _ (secsE_ent hsm))))) hlw) rfl (by first | omega | (simp; done) | (simp; omega))) ?_; clear S a; intro a S
  try simp only [Int.toNat_natCast, Nat.mul_one, Nat.zero_add] at S
  refine k_read 11 S rfl (fun w hW => have M := M.grow hW; y_load S (by kernel_rfl) rfl ((M.secRow (s := s) (.tail _ (.tail _ (.tail _ (List.mem_append_left _ (secsE_ent hsm))))) hlw).at_.one (s.ws.length - 1) (by rw [List.getElem?_map, hr]; rfl))) ?_; clear S a; intro a S
  refine k_one 12 rfl (by kernel_rfl) ?_
  refine st_copy (e := 5) (us := bcells r.bs) S M 1 rfl rfl (by kernel_rfl) rfl rfl rfl (M.readB (r := r) (.tail _ (.tail _ (.tail _ (List.mem_append_left _ (secsE_ws hsm hrm))))) (by omega)) (List.take_of_length_le (by rw [bcells_length]; omega)) (allOne_bcells _) (by rw [dcells_len hdl, bcells_length]; omega) ?_; clear S M a; intro a w5 S M
  simp only [List.set_cons_zero, List.set_cons_succ] at M
  refine wpList_nil ?_; refine then_normal ?_; refine ⟨fun h => absurd h (by decide), ?_⟩
  refine k_end (by kernel_rfl) ?_
  replace S := S.sub [(0, _), (15, _), (17, _), (3, _), (4, _)] rfl
  refine block_normal ?_
  refine then_normal ?_
  skip
  rw [dcells_put hdl hk34 hr64] at M
  have hnd2 : (vs ++ [q]).Nodup := by
    rw [List.nodup_append]
    exact ⟨hnd, by simp, fun x hx y hy e => hnv (by simp at hy; rw [← hy, ← e]; exact hx)⟩
  have hvs2 : ∀ p ∈ vs ++ [q], p ∈ D.ml := fun p hp => by
    rcases List.mem_append.1 hp with h | h
    · exact hvs p h
    · obtain rfl := List.mem_singleton.1 h; exact hq
  have hlt := nodup_lenJ hnd2 hvs2
  rw [List.length_append] at hlt
  refine ⟨D.ml.length - (vs ++ [q]).length, by rw [List.length_append]; simp at hlt ⊢; omega, vs ++ [q], _, hvs2, hnd2, rfl, dset_len hdl hk34 hr64, fun j => ?_, S.sub _ rfl, M⟩
  rw [dset_at hdl hk34 hr64, hdat j]
  by_cases e : j = k
  · subst e
    rw [if_pos rfl, if_pos (by simp [hqk]), hget]
  · rw [if_neg e]
    have : (j : Int) ∈ (vs ++ [q]).map (·.1) ↔ (j : Int) ∈ vs.map (·.1) := by
      simp only [List.map_append, List.map_cons, List.map_nil, List.mem_append, List.mem_singleton, hqk]
      exact ⟨fun h => h.resolve_right (by omega), .inl⟩
    simp only [this]
end Go.Proofs.YtmdededhoibofaaGreat

namespace Go.Proofs.YtmdededhoibofaaGreat
open Go.RowKit Go.Sort
theorem zerosH_any (v : Value) (bs : List UInt8) (w : World) (hv : Bs 0 w.heap.size w v bs) : Calls Tryz.prog 50 #[v] w fun e w' => e = .returned (.bool (zerosB bs)) ∧ Below w.heap.size w w' := by
  have M := Mem.start w
  have hl := hv.2.1
  unfold maxLen at hl
  refine calls_enter Tryz.func50 rfl 14 rfl rfl ?_; intro a S
  refine nxD ?_
  refine st_go [1] S rfl (by kernel_rfl) ?_; clear S a; intro a S
  refine nxC ?_
  refine wp_seq ?_
  refine nxD ?_
  refine st_go [1] S rfl (by kernel_rfl) ?_; clear S a; intro a S
  refine st_y S rfl rfl rfl (y_lenR (E := 5) S rfl (M.arg hv) (by kernel_rfl)) ?_; clear S a; intro a S
  refine st_go [1] S rfl (by kernel_rfl) ?_; clear S a; intro a S
  refine nxC ?_
  refine wp_block ?_
  refine wp_loop_g (fun m a w' => ∃ k : Nat, k ≤ bs.length ∧ m = bs.length - k ∧ (∀ i x, i < k → bs[i]? = some x → x = 0) ∧ Sees 14 a [(5, v), (6, .int .i64 (bs.length : Int)), (7, .int .i64 (k : Int))] ∧ Mem w w' []) (bs.length) ?_ ?_
  · skip
    exact ⟨0, by omega, rfl, fun i _ h => absurd h (by omega), S.sub _ rfl, M⟩
  clear S M a; intro m a wl
  rintro ⟨k, hk, rfl, hpre, S, M⟩
  refine nxD ?_
  refine st_go [1] S rfl (by kernel_rfl) ?_; clear S a; intro a S
  refine nxC ?_
  refine wp_seq ?_
  refine st_fi (t := 8) S rfl ?_ ?_
  · clear S; intro h8 S
    refine st_condF S rfl ?_
    refine wp_exit ?_
    refine then_exit ?_
    refine then_exit ?_
    refine block_hit ?_
    refine nxE ?_
    refine st_go [1] S rfl (by kernel_rfl) ?_; clear S a; intro a S
    refine nxC ?_
    refine wp_ret ?_
    refine end_one S rfl (res_tmp rfl) ?_
    refine ⟨ret_bool ?_, M.below⟩
    rw [zerosB_take fun i x hi => hpre i x (by have := (List.getElem?_eq_some_iff.1 hi).1; omega) hi]
  clear S; intro h8 S
  refine st_condT S rfl ?_
  refine wp_skip ?_
  refine then_normal ?_
  refine wp_seq ?_
  refine wp_block ?_
  refine wp_seq ?_
  have hkl : k < bs.length := by omega
  obtain ⟨x, hx⟩ : ∃ x, bs[k]? = some x := ⟨_, List.getElem?_eq_getElem hkl⟩
  refine wp_region_lit ?_
  refine st_y S rfl rfl rfl (y_indexR (e := 5) (sz := 1) S (by kernel_rfl) rfl (M.arg hv) rfl (by first | omega | (simp; done) | (simp; omega))) ?_; clear S a; intro a S
  try simp only [Int.toNat_natCast, Nat.mul_one, Nat.zero_add] at S
  refine st_y S rfl rfl rfl (y_load S (by kernel_rfl) rfl ((M.arg hv).byte hx)) ?_; clear S a; intro a S
  refine st_go [1] S rfl (by kernel_rfl) ?_; clear S a; intro a S
  refine nxA ?_
  refine st_go [1, 1] S rfl (by kernel_rfl) ?_; clear S a; intro a S
  refine nxC ?_
  refine st_if (t := 12) S rfl ?_ ?_
  · clear S; intro h12 S
    refine st_condT S rfl ?_
    refine nxD ?_
    refine st_go [1] S rfl (by kernel_rfl) ?_; clear S a; intro a S
    refine nxC ?_
    refine wp_ret ?_
    refine block_ret ?_
    refine then_ret ?_
    refine then_ret ?_
    refine block_ret ?_
    refine then_ret ?_
    refine end_one S rfl (res_tmp rfl) ?_
    refine ⟨ret_bool ?_, M.below⟩
    rw [zerosB_no hx]
    rintro rfl
    simp at h12
  clear S; intro h12 S
  refine st_condF S rfl ?_
  refine wp_skip ?_
  refine block_normal ?_
  refine nxF ?_
  (first | refine st_y S rfl rfl rfl (y_addN S rfl rfl (by omega)) ?_ | refine st_y S rfl rfl rfl (y_int S rfl rfl rfl) ?_); clear S a; intro a S
  refine st_go [1] S rfl (by kernel_rfl) ?_; clear S a; intro a S
  refine nxC ?_
  refine ⟨bs.length - (k + 1), by omega, k + 1, by omega, rfl, fun i y hi hy => ?_, S.sub _ rfl, M⟩
  rcases Nat.lt_or_ge i k with h | h
  · exact hpre i y h hy
  · obtain rfl : i = k := by omega
    rw [hx] at hy; cases hy
    exact UInt8.toNat.inj (by simpa using h12)
theorem openH_any (v : Value) (bs : List UInt8) (n : Nat) (w : World) (hv : Bs 0 w.heap.size w v bs) (hb : bs.length ≤ 1000) (hn : n + 4 ≤ bs.length) :
    Calls Tryz.prog 81 #[v, .int .i64 ((n + 4 : Nat) : Int)] w (OpnP bs n w) := by
  have M := Mem.start w
  have hcap := hv.cap
  have hX := hv.cutB (i := n + 4) (j := bs.length) (mx := capV v) (by omega) (Nat.le_refl _) hcap.1 (Nat.le_refl _)
  rw [List.take_of_length_le (by simp)] at hX
  have hY := hv.cutB (i := 0) (j := n + 4) (mx := n + 4) (Nat.zero_le _) (by omega) (by omega) (by omega)
  rw [List.drop_zero, Nat.sub_zero] at hY
  refine calls_enter Tryz.func81 rfl 24 rfl rfl ?_; intro a S
  refine nxD ?_
  refine st_go [1, 1] S rfl (by kernel_rfl) ?_; clear S a; intro a S
  refine nxC ?_
  refine wp_seq ?_
  refine nxD ?_
  refine st_go [1] S rfl (by kernel_rfl) ?_; clear S a; intro a S
  refine st_y S rfl rfl rfl (y_lenR (E := 5) S rfl (M.arg hv) (by kernel_rfl)) ?_; clear S a; intro a S
  refine st_go [1, 1, 1] S rfl (by kernel_rfl) ?_; clear S a; intro a S
  refine st_if (t := 10) S rfl ?_ ?_
  · clear S; intro h10 S
    omega
  clear S; intro h10 S
  refine st_go [1, 1] S rfl (by kernel_rfl) ?_; clear S a; intro a S
  refine st_y S rfl rfl rfl (y_slice1R (e := 5) (sz := 1) S (by kernel_rfl) rfl (M.arg hv) rfl (by first | omega | (simp; done) | (simp; omega))) ?_; clear S a; intro a S
  refine st_call (xs := [(Operand.tmp 13)]) S (enters_of Tryz.func50 (by decide) rfl) rfl rfl rfl (zerosH_any _ (bs.drop (n + 4)) _ (M.argW hX)) ?_
  rintro _ w1 ⟨rfl, hK⟩; refine ⟨_, rfl, ?_⟩; clear S a; intro a S; replace M := M.grow hK
  refine st_go [1, 1] S rfl (by kernel_rfl) ?_; clear S a; intro a S
  refine nxC ?_
  refine st_if (t := 16) S rfl ?_ ?_
  · clear S; intro h16 S
    refine st_condT S rfl ?_
    refine nxD ?_
    refine st_go [1, 1] S rfl (by kernel_rfl) ?_; clear S a; intro a S
    refine nxC ?_
    refine wp_ret ?_
    refine then_ret ?_
    refine end_two S rfl (res_tmp rfl) (res_tmp rfl) ?_
    exact opnP_no M (by unfold opnB; simp_all)
  clear S; intro h16 S
  refine st_condF S rfl ?_
  refine wp_skip ?_
  refine nxE ?_
  refine st_go [1, 1, 1] S rfl (by kernel_rfl) ?_; clear S a; intro a S
  refine st_y S rfl rfl rfl (y_slice03R (e := 5) (sz := 1) S (by kernel_rfl) rfl (M.arg hv) rfl rfl (by first | omega | (simp; done) | (simp; omega))) ?_; clear S a; intro a S
  refine st_call (xs := [(Operand.tmp 20)]) S (enters_of Tryz.func124 (by decide) rfl) rfl rfl rfl (open_any _ (bs.take (n + 4)) _ (M.argW hY) (by simp; omega)) ?_
  rintro _ w2 ⟨v2, rfl, hK, hF, hN⟩; refine ⟨_, rfl, ?_⟩; clear S a; intro a S; have hK0 := M.below; replace M := M.grow hK
  refine st_go [1, 1, 1, 1] S rfl (by kernel_rfl) ?_; clear S a; intro a S
  replace S := S.sub [(0, _), (1, _), (16, _), (4, _), (5, _)] rfl
  refine nxC ?_
  refine wp_ret ?_
  refine end_two S rfl (res_tmp rfl) (res_tmp rfl) ?_
  exact OpnP.mk (by first | assumption | simp_all) hn hK0 M.below hF hN
theorem within_any9 (n l m : Int) (w : World) : Calls Tryz.prog 120 #[.int .i64 n, .int .i64 l, .int .i64 m] w fun e w' => e = .returned (.bool (decide (l ≤ n ∧ n ≤ m))) ∧ Below w.heap.size w w' := by
  have M := Mem.start w
  refine calls_enter Tryz.func120 rfl 15 rfl rfl ?_; intro a S
  refine nxD ?_
  refine st_go [1] S rfl (by kernel_rfl) ?_; clear S a; intro a S
  refine nxA ?_
  refine st_go [1, 1, 1, 1] S rfl (by kernel_rfl) ?_; clear S a; intro a S
  refine st_if (t := 10) S rfl ?_ ?_
  · clear S; intro h10 S
    refine st_go [1, 1, 1, 1, 1] S rfl (by kernel_rfl) ?_; clear S a; intro a S
    refine nxC ?_
    refine wp_ret ?_
    refine end_one S rfl (res_tmp rfl) ?_
    refine ⟨ret_bool ?_, M.below⟩
    clear S M
    rw [Bool.eq_iff_iff, decide_eq_true_eq]
    first | omega | (simp; omega)
  clear S; intro h10 S
  refine st_go [0, 0, 0, 1, 1] S rfl (by kernel_rfl) ?_; clear S a; intro a S
  refine nxC ?_
  refine wp_ret ?_
  refine end_one S rfl (res_tmp rfl) ?_
  refine ⟨ret_bool ?_, M.below⟩
  clear S M
  rw [Bool.eq_iff_iff, decide_eq_true_eq]
  first | omega | (simp; omega)
theorem Su.mAt_lst (s : Su) {k : Nat} (h : k < 8) : [Value.int .i64 s.m0, .int .i64 s.m1, .int .i64 s.m2, .int .i64 s.m3, .int .i64 s.m4, .int .i64 s.m5, .int .i64 s.m6, .int .i64 s.m7][k]? = some (.int .i64 (s.mAt k)) := by
  rcases lt8 h with rfl | rfl | rfl | rfl | rfl | rfl | rfl | rfl <;> rfl
theorem mayH_any (s : Su) (w : World) : Calls Tryz.prog 74 #[.agg s.cellsL.toArray] w fun e w' => e = .returned (.bool (decide s.may)) ∧ Below w.heap.size w w' := by
  have M := Mem.start w
  refine calls_enter Tryz.func74 rfl 37 rfl rfl ?_; intro a S
  refine nxD ?_
  refine st_box S M rfl rfl rfl #[_, _, _, _, _, _, _, _, _, _, _, _, _] rfl ?_; clear S M a; intro a w1 bB S M hB
  refine st_go [1] S rfl (by kernel_rfl) ?_; clear S a; intro a S
  refine nxC ?_
  refine wp_seq ?_
  refine nxD ?_
  refine st_go [6] S rfl (by kernel_rfl) ?_; clear S a; intro a S
  refine st_y S rfl rfl rfl (y_loadAgg (cs := [_, _, _, _, _, _, _, _]) S (by kernel_rfl) rfl rfl (M.cellsAt (k := 8) 0 rfl rfl)) ?_; clear S a; intro a S
  refine st_go [1] S rfl (by kernel_rfl) ?_; clear S a; intro a S
  refine nxC ?_
  refine wp_block ?_
  refine wp_loop_g (fun m a w' => ∃ k : Nat, k ≤ 8 ∧ m = 8 - k ∧ (∀ i, i < k → 0 ≤ s.mAt i ∧ s.mAt i ≤ 4) ∧ Sees 37 a [(1, .pointer (some ⟨bB, 0, none⟩)), (6, .agg #[.int .i64 s.m0, .int .i64 s.m1, .int .i64 s.m2, .int .i64 s.m3, .int .i64 s.m4, .int .i64 s.m5, .int .i64 s.m6, .int .i64 s.m7]), (7, .int .i64 (k : Int))] ∧ Mem w w' [.blk bB s.cellsL.toArray 72]) (8) ?_ ?_
  · skip
    exact ⟨0, by omega, rfl, fun i h => absurd h (by omega), S.sub _ rfl, M⟩
  clear S M a; intro m a wl
  rintro ⟨k, hk, rfl, hpre, S, M⟩
  refine nxD ?_
  refine st_go [1] S rfl (by kernel_rfl) ?_; clear S a; intro a S
  refine nxC ?_
  refine wp_seq ?_
  refine st_if (t := 8) S rfl ?_ ?_
  · clear S; intro h8 S
    refine st_condT S rfl ?_
    refine wp_skip ?_
    refine then_normal ?_
    refine wp_seq ?_
    refine wp_block ?_
    refine nxD ?_
    refine st_y S rfl rfl rfl (y_indexP (m := 8) (sz := 1) S (by kernel_rfl) (fun e he => by cases he.symm.trans (show _ = some (.array 8 3) by kernel_rfl); kernel_rfl) rfl rfl (by first | omega | (simp; done) | (simp; omega)) (show _ = some (Value.int .i64 (s.mAt k)) from (by rw [Int.toNat_natCast, Nat.mul_one]; exact s.mAt_lst (by omega)))) ?_; clear S a; intro a S
    refine st_go [1] S rfl (by kernel_rfl) ?_; clear S a; intro a S
    refine nxA ?_
    refine st_go [1] S rfl (by kernel_rfl) ?_; clear S a; intro a S
    refine st_call (xs := [(Operand.tmp 10), (Operand.const (Value.int IntKind.i64 0)), (Operand.const (Value.int IntKind.i64 4))]) S (enters_of Tryz.func120 (by decide) rfl) rfl rfl rfl (within_any9 _ _ _ _) ?_
    rintro _ w2 ⟨rfl, hK⟩; refine ⟨_, rfl, ?_⟩; clear S a; intro a S; replace M := M.grow hK
    refine st_go [1] S rfl (by kernel_rfl) ?_; clear S a; intro a S
    refine nxC ?_
    refine st_if (t := 12) S rfl ?_ ?_
    · clear S; intro h12 S
      refine st_condT S rfl ?_
      refine nxD ?_
      refine st_go [1] S rfl (by kernel_rfl) ?_; clear S a; intro a S
      refine nxC ?_
      refine wp_ret ?_
      refine block_ret ?_
      refine then_ret ?_
      refine then_ret ?_
      refine block_ret ?_
      refine then_ret ?_
      refine end_one S rfl (res_tmp rfl) ?_
      refine ⟨ret_bool ?_, M.below⟩
      rw [decide_eq_false]
      rintro ⟨h1, -⟩
      have := h1 k (by omega)
      simp at h12
      omega
    clear S; intro h12 S
    refine st_condF S rfl ?_
    refine wp_skip ?_
    refine block_normal ?_
    refine nxF ?_
    (first | refine st_y S rfl rfl rfl (y_addN S rfl rfl (by omega)) ?_ | refine st_y S rfl rfl rfl (y_int S rfl rfl rfl) ?_); clear S a; intro a S
    refine st_go [1] S rfl (by kernel_rfl) ?_; clear S a; intro a S
    refine nxC ?_
    refine ⟨8 - (k + 1), by omega, k + 1, by omega, rfl, fun i hi => ?_, S.sub _ rfl, M⟩
    rcases Nat.lt_or_ge i k with h | h
    · exact hpre i h
    · obtain rfl : i = k := by omega
      simpa using h12
  clear S; intro h8 S
  refine st_condF S rfl ?_
  refine wp_exit ?_
  refine then_exit ?_
  refine then_exit ?_
  refine block_hit ?_
  refine nxE ?_
  refine st_run [1, 1] S M rfl (by kernel_rfl) ?_; clear S a; intro a S
  refine st_call (xs := [(Operand.tmp 15), (Operand.const (Value.int IntKind.i64 0)), (Operand.const (Value.int IntKind.i64 1099511627776))]) S (enters_of Tryz.func120 (by decide) rfl) rfl rfl rfl (within_any9 _ _ _ _) ?_
  rintro _ w3 ⟨rfl, hK⟩; refine ⟨_, rfl, ?_⟩; clear S a; intro a S; replace M := M.grow hK
  refine st_go [1] S rfl (by kernel_rfl) ?_; clear S a; intro a S
  refine st_fi (t := 17) S rfl ?_ ?_
  · clear S; intro h17 S
    refine st_go [0, 0, 0, 1, 1, 0, 0, 0, 1, 1, 0, 0, 0, 1, 1, 0, 0, 0, 1, 1] S rfl (by kernel_rfl) ?_; clear S a; intro a S
    replace S := S.sub [(1, _), (6, _), (7, _), (8, _), (2, _)] rfl
    refine nxC ?_
    refine wp_ret ?_
    refine end_one S rfl (res_tmp rfl) ?_
    refine ⟨ret_bool ?_, M.below⟩
    have hm : s.mapOk := fun i hi => hpre i (by omega)
    clear S M
    rw [Bool.eq_iff_iff]
    simp only [decide_eq_true_eq]
    unfold Su.may
    first | omega | exact ⟨fun h => ⟨hm, by omega⟩, fun h => by omega⟩ | (simp only [hm, true_and]; simp; omega)
  clear S; intro h17 S
  refine st_run [2, 1] S M rfl (by kernel_rfl) ?_; clear S a; intro a S
  refine st_call (xs := [(Operand.tmp 19), (Operand.const (Value.int IntKind.i64 1)), (Operand.const (Value.int IntKind.i64 1099511627776))]) S (enters_of Tryz.func120 (by decide) rfl) rfl rfl rfl (within_any9 _ _ _ _) ?_
  rintro _ w4 ⟨rfl, hK⟩; refine ⟨_, rfl, ?_⟩; clear S a; intro a S; replace M := M.grow hK
  refine st_go [1, 1] S rfl (by kernel_rfl) ?_; clear S a; intro a S
  refine st_fi (t := 22) S rfl ?_ ?_
  · clear S; intro h22 S
    refine st_go [0, 0, 0, 1, 1, 0, 0, 0, 1, 1, 0, 0, 0, 1, 1] S rfl (by kernel_rfl) ?_; clear S a; intro a S
    replace S := S.sub [(1, _), (6, _), (7, _), (8, _), (2, _)] rfl
    refine nxC ?_
    refine wp_ret ?_
    refine end_one S rfl (res_tmp rfl) ?_
    refine ⟨ret_bool ?_, M.below⟩
    have hm : s.mapOk := fun i hi => hpre i (by omega)
    clear S M
    rw [Bool.eq_iff_iff]
    simp only [decide_eq_true_eq]
    unfold Su.may
    first | omega | exact ⟨fun h => ⟨hm, by omega⟩, fun h => by omega⟩ | (simp only [hm, true_and]; simp; omega)
  clear S; intro h22 S
  refine st_run [3, 1] S M rfl (by kernel_rfl) ?_; clear S a; intro a S
  refine st_call (xs := [(Operand.tmp 24), (Operand.const (Value.int IntKind.i64 0)), (Operand.const (Value.int IntKind.i64 255))]) S (enters_of Tryz.func120 (by decide) rfl) rfl rfl rfl (within_any9 _ _ _ _) ?_
  rintro _ w5 ⟨rfl, hK⟩; refine ⟨_, rfl, ?_⟩; clear S a; intro a S; replace M := M.grow hK
  refine st_go [1, 1] S rfl (by kernel_rfl) ?_; clear S a; intro a S
  refine st_fi (t := 27) S rfl ?_ ?_
  · clear S; intro h27 S
    refine st_go [0, 0, 0, 1, 1, 0, 0, 0, 1, 1] S rfl (by kernel_rfl) ?_; clear S a; intro a S
    replace S := S.sub [(1, _), (6, _), (7, _), (8, _), (2, _)] rfl
    refine nxC ?_
    refine wp_ret ?_
    refine end_one S rfl (res_tmp rfl) ?_
    refine ⟨ret_bool ?_, M.below⟩
    have hm : s.mapOk := fun i hi => hpre i (by omega)
    clear S M
    rw [Bool.eq_iff_iff]
    simp only [decide_eq_true_eq]
    unfold Su.may
    first | omega | exact ⟨fun h => ⟨hm, by omega⟩, fun h => by omega⟩ | (simp only [hm, true_and]; simp; omega)
  clear S; intro h27 S
  refine st_run [4, 1] S M rfl (by kernel_rfl) ?_; clear S a; intro a S
  refine st_call (xs := [(Operand.tmp 29), (Operand.const (Value.int IntKind.i64 0)), (Operand.const (Value.int IntKind.i64 1048576))]) S (enters_of Tryz.func120 (by decide) rfl) rfl rfl rfl (within_any9 _ _ _ _) ?_
  rintro _ w6 ⟨rfl, hK⟩; refine ⟨_, rfl, ?_⟩; clear S a; intro a S; replace M := M.grow hK
  refine st_go [1, 1] S rfl (by kernel_rfl) ?_; clear S a; intro a S
  refine st_fi (t := 32) S rfl ?_ ?_
  · clear S; intro h32 S
    refine st_go [0, 0, 0, 1, 1] S rfl (by kernel_rfl) ?_; clear S a; intro a S
    replace S := S.sub [(1, _), (6, _), (7, _), (8, _), (2, _)] rfl
    refine nxC ?_
    refine wp_ret ?_
    refine end_one S rfl (res_tmp rfl) ?_
    refine ⟨ret_bool ?_, M.below⟩
    have hm : s.mapOk := fun i hi => hpre i (by omega)
    clear S M
    rw [Bool.eq_iff_iff]
    simp only [decide_eq_true_eq]
    unfold Su.may
    first | omega | exact ⟨fun h => ⟨hm, by omega⟩, fun h => by omega⟩ | (simp only [hm, true_and]; simp; omega)
  clear S; intro h32 S
  refine st_run [5, 1] S M rfl (by kernel_rfl) ?_; clear S a; intro a S
  refine st_call (xs := [(Operand.tmp 34), (Operand.const (Value.int IntKind.i64 1)), (Operand.const (Value.int IntKind.i64 1048577))]) S (enters_of Tryz.func120 (by decide) rfl) rfl rfl rfl (within_any9 _ _ _ _) ?_
  rintro _ w7 ⟨rfl, hK⟩; refine ⟨_, rfl, ?_⟩; clear S a; intro a S; replace M := M.grow hK
  refine st_go [1, 1] S rfl (by kernel_rfl) ?_; clear S a; intro a S
  replace S := S.sub [(1, _), (6, _), (7, _), (8, _), (2, _)] rfl
  refine nxC ?_
  refine wp_ret ?_
  refine end_one S rfl (res_tmp rfl) ?_
  refine ⟨ret_bool ?_, M.below⟩
  have hm : s.mapOk := fun i hi => hpre i (by omega)
  clear S M
  rw [Bool.eq_iff_iff]
  simp only [decide_eq_true_eq]
  unfold Su.may
  first | omega | exact ⟨fun h => ⟨hm, by omega⟩, fun h => by omega⟩ | (simp only [hm, true_and]; simp; omega)
theorem firstH_any (w : World) : Calls Tryz.prog 37 #[] w fun e w' => e = .returned (.agg suFirst.cellsL.toArray) ∧ Below w.heap.size w w' := by
  have M := Mem.start w
  refine calls_enter Tryz.func37 rfl 2 rfl rfl ?_; intro a S
  refine nxD ?_
  refine st_alloc S M rfl rfl #[.int .i64 0, .int .i64 0, .int .i64 0, .int .i64 0, .int .i64 0, .int .i64 0, .int .i64 0, .int .i64 0, .int .i64 0, .int .i64 0, .int .i64 0, .int .i64 0, .int .i64 0] (by kernel_rfl) ?_; clear S M a; intro a w1 bB S M hB
  refine nxA ?_
  refine st_y S rfl rfl rfl (y_build (ps := [(0, (Operand.const (Value.int IntKind.i64 0))), (1, (Operand.const (Value.int IntKind.i64 1))), (4, (Operand.const (Value.int IntKind.i64 1)))]) (pl := [(0, 1), (1, 1), (2, 1), (3, 1), (4, 1), (5, 8)]) (z := [.int .i64 0, .int .i64 0, .int .i64 0, .int .i64 0, .int .i64 0, .int .i64 0, .int .i64 0, .int .i64 0, .int .i64 0, .int .i64 0, .int .i64 0, .int .i64 0, .int .i64 0]) (cs := [_, _, _, _, _, _, _, _, _, _, _, _, _]) S (by kernel_rfl) rfl (rfl)) ?_; clear S a; intro a S
  refine st_store (sz := 13) (us := [_, _, _, _, _, _, _, _, _, _, _, _, _]) S M 0 rfl (by kernel_rfl) rfl rfl rfl rfl rfl rfl (by first | decide | (simp; done) | (simp; omega)) ?_; clear M; intro w2 M
  simp only [putL, List.set_cons_zero, List.set_cons_succ, Nat.reduceAdd] at M
  refine nxC ?_
  refine wp_ret ?_
  refine end_one S rfl (res_agg (cs := [_, _, _, _, _, _, _, _, _, _, _, _, _]) (by kernel_rfl) rfl rfl (M.cellsAt (k := 13) 0 rfl rfl)) ?_
  exact ⟨rfl, M.below⟩
theorem getN_num {bs : List UInt8} {p k : Nat} (hk : 1 ≤ k ∧ k ≤ 6) (hp : p + k ≤ bs.length) : getN bs (p : Int) (k : Int) = numB bs p k := by
  unfold getN numB
  rw [if_pos (by omega), Int.toNat_natCast, Int.toNat_natCast]
theorem take9_any {wo w : World} {H : List Ent} {bV bA : Nat} {v : Value} {bs : List UInt8} (p k : Nat) (M : Mem wo w (.blk bA #[.int .i64 (p : Int)] 3 :: .blk bV #[v] 58 :: H)) (hv : RdH wo H v bs) (hk : 1 ≤ k ∧ k ≤ 6) (hp : p + k ≤ bs.length) (hb : bs.length ≤ 1000) :
    Calls Tryz.prog 82 #[.int .i64 (k : Int), .pointer (some ⟨bV, 0, none⟩), .pointer (some ⟨bA, 0, none⟩)] w fun e w' => e = .returned (.int .i64 (numB bs p k)) ∧ Mem wo w' (.blk bA #[.int .i64 ((p + k : Nat) : Int)] 3 :: .blk bV #[v] 58 :: H) := by
  refine calls_enter Tryz.func82 rfl 18 rfl rfl ?_; intro a S
  refine wp_seq ?_
  skip
  refine wp_region_lit ?_
  refine st_go [1] S rfl (by kernel_rfl) ?_; clear S a; intro a S
  refine nxA ?_
  refine st_run [2, 1, 1] S M rfl (by kernel_rfl) ?_; clear S a; intro a S
  refine st_call (xs := [(Operand.tmp 8), (Operand.tmp 9), (Operand.tmp 10)]) S (enters_of Tryz.func83 (by decide) rfl) rfl rfl rfl (get_any v bs (p : Int) (k : Int) _ (hv _ ((M.drop 0).drop 0)) (by omega)) ?_
  rintro _ w1 ⟨rfl, hK⟩; refine ⟨_, rfl, ?_⟩; clear S a; intro a S; replace M := M.grow hK
  rw [getN_num hk hp] at S
  refine st_go [1, 1, 1, 1, 1] S rfl (by kernel_rfl) ?_; clear S a; intro a S
  refine nxA ?_
  refine st_run [1, 1] S M rfl (by kernel_rfl) ?_; clear S a; intro a S
  (first | refine st_y S rfl rfl rfl (y_addN S rfl rfl (by omega)) ?_ | refine st_y S rfl rfl rfl (y_int S rfl rfl rfl) ?_); clear S a; intro a S
  refine st_store (sz := 1) (us := [_]) S M 0 rfl (by kernel_rfl) rfl rfl rfl rfl rfl rfl (by first | decide | (simp; done) | (simp; omega)) ?_; clear M; intro w2 M
  simp only [putL, List.set_cons_zero, List.set_cons_succ, Nat.reduceAdd] at M
  refine nxA ?_
  refine st_go [1, 1] S rfl (by kernel_rfl) ?_; clear S a; intro a S
  refine nxC ?_
  refine wp_ret ?_
  refine end_one S rfl (res_tmp rfl) ?_
  refine ⟨rfl, ?_⟩
  rw [show ((p + k : Nat) : Int) = (p : Int) + (k : Int) by omega]
  exact M
theorem greater_any (x y : Su) (w : World) : Calls Tryz.prog 48 #[.agg x.cellsL.toArray, .agg y.cellsL.toArray] w fun e w' => e = .returned (.bool (decide (y.gen < x.gen))) ∧ Below w.heap.size w w' := by
  have M := Mem.start w
  refine calls_enter Tryz.func48 rfl 10 rfl rfl ?_; intro a S
  refine nxD ?_
  refine st_box S M rfl rfl rfl #[_, _, _, _, _, _, _, _, _, _, _, _, _] rfl ?_; clear S M a; intro a w1 bX S M hB
  refine st_box S M rfl rfl rfl #[_, _, _, _, _, _, _, _, _, _, _, _, _] rfl ?_; clear S M a; intro a w2 bY S M hB
  refine st_go [1] S rfl (by kernel_rfl) ?_; clear S a; intro a S
  refine nxA ?_
  refine st_run [1, 2, 1, 1, 1, 1] S M rfl (by kernel_rfl) ?_; clear S a; intro a S
  refine nxC ?_
  refine wp_ret ?_
  refine end_one S rfl (res_tmp rfl) ?_
  refine ⟨ret_bool ?_, M.below⟩
  first | rfl | (rw [Bool.eq_iff_iff]; simp)
end Go.Proofs.YtmdededhoibofaaGreat

