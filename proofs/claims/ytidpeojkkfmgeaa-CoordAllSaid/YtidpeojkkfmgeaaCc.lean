/-
  Package coord: keep, begin, prepares.
-/
import Derived.Test.YtidpeojkkfmgeaaCb
namespace Go.Proofs.Ytidpeojkkfmgeaa
open Go.RowKit Go.Sort

theorem cloneD_any (v : Value) (n : Nat) (cs : List Value) (w : World) (hv : Rd 0 w.heap.size w 10 v n cs) (h1 : allOne cs = true) (hl : n ≤ 100000) : Calls Try.prog 56 #[v] w fun e w' => ∃ v', e = .returned v' ∧ Fresh w w' 59 10 v' n cs := by
  have M := Mem.start w
  refine calls_enter Try.func56 rfl 8 rfl rfl ?_; intro a S
  refine nxD ?_
  refine st_go [1] S rfl (by kernel_rfl) ?_; clear S a; intro a S
  refine nxC ?_
  refine wp_seq ?_
  refine nxD ?_
  refine st_go [1] S rfl (by kernel_rfl) ?_; clear S a; intro a S
  refine st_y S rfl rfl rfl (y_eqlNil (e := 59) S rfl (M.arg hv) (by kernel_rfl)) ?_; clear S a; intro a S
  refine nxC ?_
  refine st_split (t := 4) S rfl ?_ ?_
  · clear S; intro h4 S
    refine st_condT S rfl ?_
    refine nxD ?_
    refine st_go [1] S rfl (by kernel_rfl) ?_; clear S a; intro a S
    refine nxC ?_
    refine wp_ret ?_
    refine then_ret ?_
    refine end_one S rfl (res_tmp rfl) ?_
    obtain ⟨rfl, h0, h1⟩ := hv.nilV h4
    exact ⟨_, rfl, by rw [h1, h0]; exact M.freshNil _ _⟩
  clear S; intro h4 S
  refine st_condF S rfl ?_
  refine wp_skip ?_
  refine nxE ?_
  refine st_lit0 (e := 59) (sz := 10) (by_ := 96) (zc := [.int .i64 0, .int .i64 0, .int .i64 0, .int .i8 0, .int .i64 0, .int .i64 0, .int .i64 0, .int .i64 0, .int .i64 0, .slice none 0 0]) S M rfl rfl (by kernel_rfl) ?_; clear S M a; intro a w1 b1 S M hB
  refine st_go [1] S rfl (by kernel_rfl) ?_; clear S a; intro a S
  replace M := M.toRow (sz := 10) (m := 0) (cap := 0) (xs := []) 0 rfl rfl (Nat.le_refl _) (Nat.zero_le _) rfl rfl
  refine st_append (e := 59) (sz := 10) (by_ := 96) (zc := [.int .i64 0, .int .i64 0, .int .i64 0, .int .i8 0, .int .i64 0, .int .i64 0, .int .i64 0, .int .i64 0, .int .i64 0, .slice none 0 0]) S M 0 rfl rfl (by kernel_rfl) rfl (by decide) rfl rfl rfl (M.arg hv) (h1) (by omega) (by unfold maxLen; omega) ?_; clear S M a; intro a w2 vA loA hiA S M
  refine st_go [1] S rfl (by kernel_rfl) ?_; clear S a; intro a S
  refine nxC ?_
  refine wp_ret ?_
  refine end_one S rfl (res_tmp rfl) ?_
  exact ⟨_, rfl, by have := M.fresh 0 rfl; rwa [Nat.zero_add, List.nil_append] at this⟩

section
variable {wc w : World} {H : List Ent} {b : Nat} {ds : Dl} {ml : Mls} {kl : Kl} {el : El} {es : List Ent}
set_option maxHeartbeats 400000 in
theorem keep_any (W : MacE wc w H b ds ml kl el es) (r : Rc) (hkl : kl.length ≤ 100000) :
    Calls Try.prog 57 #[.pointer (some ⟨b, 0, none⟩), .agg (r.cells (.slice none 0 0))] w (fun e w' => e = .returned (.tuple #[]) ∧ MacE wc w' H b ds ml (kl ++ [(r, [])]) el es) := by
  obtain ⟨la, ln, lc, llo, lhi, lcs, ma, mc, mlo, mhi, mcs, ka, kc, klo, khi, kcs, ea, ec, elo, ehi, ecs, hln, M, hD, hM, hK, hEn⟩ := W
  refine calls_enter Try.func57 rfl 16 rfl rfl ?_; intro a S
  refine wp_seq ?_
  skip
  refine wp_region_lit ?_
  refine st_box S M rfl rfl rfl #[_, _, _, _, _, _, _, _, _, _, _, _] rfl ?_; clear S M a; intro a w1 bX S M hB
  refine nxC ?_
  refine wp_regionK [8, 12] #[false, false, false, false, false, false, false, false, false, false, false, false, false] rfl M (by kernel_rfl) ?_; clear M; intro w2 M
  refine k_pure (listed' := #[true, false, false, false, false, false, false, false, false, false, false, false, false]) 0 S rfl rfl rfl rfl (by kernel_rfl) rfl (fun _ d _ _ _ h => by cases d <;> exact h) (fun w => y_move S rfl) ?_; clear S a; intro a S
  refine k_pure (listed' := #[true, true, false, false, false, false, false, false, false, false, false, false, false]) 1 S rfl rfl rfl rfl (by kernel_rfl) rfl (fun _ d _ _ _ h => by cases d <;> exact h) (fun w => y_move S rfl) ?_; clear S a; intro a S
  refine k_pure (listed' := #[true, true, true, false, false, false, false, false, false, false, false, false, false]) 2 S rfl rfl rfl rfl (by kernel_rfl) rfl (fun _ d _ _ _ h => by cases d <;> exact h) (fun w => y_nilCheck S rfl) ?_; clear S a; intro a S
  refine k_pure (listed' := #[true, true, true, true, false, false, false, false, false, false, false, false, false]) 3 S rfl rfl rfl rfl (by kernel_rfl) rfl (fun _ d _ _ _ h => by cases d <;> exact h) (fun w => y_fieldAddr (k := 1) S (by kernel_rfl) rfl) ?_; clear S a; intro a S
  refine k_pure (listed' := #[true, true, true, true, true, false, false, false, false, false, false, false, false]) 4 S rfl rfl rfl rfl (by kernel_rfl) rfl (fun _ d _ _ _ h => by cases d <;> exact h) (fun w => y_fieldAddr (k := 1) S (by kernel_rfl) rfl) ?_; clear S a; intro a S
  refine k_read (listed' := #[true, true, true, true, true, true, false, false, false, false, false, false, false]) 5 S rfl rfl rfl rfl (by kernel_rfl) rfl (fun _ d _ _ _ h => by cases d <;> exact h) (fun w hW => have M := M.grow hW; y_load S (by kernel_rfl) rfl (M.cell 1 rfl rfl)) ?_; clear S a; intro a S
  refine k_read (listed' := #[true, true, true, true, true, true, true, false, false, false, false, false, false]) 6 S rfl rfl rfl rfl (by kernel_rfl) rfl (fun _ d _ _ _ h => by cases d <;> exact h) (fun w hW => have M := M.grow hW; y_loadAgg (cs := [_, _, _, _, _, _, _, _, _, _, _, _]) S (by kernel_rfl) rfl rfl (M.cellsAt (k := 12) 0 rfl rfl)) ?_; clear S a; intro a S
  refine k_one (listed' := #[true, true, true, true, true, true, true, true, false, false, false, false, false]) 7 rfl (by kernel_rfl) rfl ?_
  refine st_lit (ps := [(0, (Operand.tmp 10))]) (e := 97) (sz := 12) (zl := [.int .i8 0, .int .i64 0, .int .i64 0, .int .i64 0, .bool false, .slice none 0 0, .int .i64 0, .int .i64 0, .int .i64 0, .int .i64 0, .int .i64 0, .int .i64 0]) (cs := (r.cells (.slice none 0 0)).toList) S M rfl rfl (by kernel_rfl) rfl (by kernel_rfl) ?_; clear S M a; intro a w3 bZ S M hB
  refine wpList_nil ?_; refine then_normal ?_; refine ⟨fun _ => hB, ?_⟩
  refine k_one (listed' := #[true, true, true, true, true, true, true, true, true, false, false, false, false]) 8 rfl (by kernel_rfl) rfl ?_
  refine st_append (e := 97) (sz := 12) (by_ := 112) (zc := [.int .i8 0, .int .i64 0, .int .i64 0, .int .i64 0, .bool false, .slice none 0 0, .int .i64 0, .int .i64 0, .int .i64 0, .int .i64 0, .int .i64 0, .int .i64 0]) S M 5 rfl rfl (by kernel_rfl) rfl (by decide) rfl rfl rfl (show Rd _ _ _ 12 _ 1 (r.cells (.slice none 0 0)).toList from M.sliceAt 0 rfl (M.cellsAt (k := 12) 0 rfl rfl) rfl (Nat.le_refl _) (by unfold maxLen; omega)) (rfl) (by omega) (by unfold maxLen; omega) ?_; clear S M a; intro a w4 vA loA hiA S M
  refine wpList_nil ?_; refine then_normal ?_; refine ⟨fun h => absurd h (by decide), ?_⟩
  refine k_pure (listed' := #[true, true, true, true, true, true, true, true, true, true, false, false, false]) 9 S rfl rfl rfl rfl (by kernel_rfl) rfl (fun _ d _ _ _ h => by cases d <;> exact h) (fun w => y_nilCheck S rfl) ?_; clear S a; intro a S
  refine k_pure (listed' := #[true, true, true, true, true, true, true, true, true, true, true, false, false]) 10 S rfl rfl rfl rfl (by kernel_rfl) rfl (fun _ d _ _ _ h => by cases d <;> exact h) (fun w => y_fieldAddr (k := 1) S (by kernel_rfl) rfl) ?_; clear S a; intro a S
  refine k_pure (listed' := #[true, true, true, true, true, true, true, true, true, true, true, true, false]) 11 S rfl rfl rfl rfl (by kernel_rfl) rfl (fun _ d _ _ _ h => by cases d <;> exact h) (fun w => y_fieldAddr (k := 1) S (by kernel_rfl) rfl) ?_; clear S a; intro a S
  refine k_one (listed' := #[true, true, true, true, true, true, true, true, true, true, true, true, true]) 12 rfl (by kernel_rfl) rfl ?_
  obtain ⟨aA, cA, rfl, -, -⟩ := (M.readAll 0 rfl (by unfold maxLen; omega)).form
  refine st_store (sz := 1) (us := [_]) S M 3 rfl (by kernel_rfl) rfl rfl rfl rfl rfl rfl (by first | decide | (simp; done) | (simp; omega)) ?_; clear M; intro w5 M
  simp only [putL, List.set_cons_zero, List.set_cons_succ, Nat.reduceAdd] at M
  refine wpList_nil ?_; refine then_normal ?_; refine ⟨fun h => absurd h (by decide), ?_⟩
  refine k_end (by kernel_rfl) ?_
  refine end_noneN S rfl ?_
  replace M := M.drop 1
  simp only [List.eraseIdx_cons_succ, List.eraseIdx_cons_zero] at M
  replace M := M.drop 1
  simp only [List.eraseIdx_cons_succ, List.eraseIdx_cons_zero] at M
  replace M := M.front 3 rfl
  simp only [List.eraseIdx_cons_succ, List.eraseIdx_cons_zero] at M
  replace M := M.front 3 rfl
  simp only [List.eraseIdx_cons_succ, List.eraseIdx_cons_zero] at M
  replace M := M.front 3 rfl
  simp only [List.eraseIdx_cons_succ, List.eraseIdx_cons_zero] at M
  have hK' := hK.more (q := (r, [])) (lv := .slice none 0 0) (.inl ⟨rfl, rfl⟩)
  refine ⟨rfl, la, ln, lc, llo, lhi, lcs, ma, mc, mlo, mhi, mcs, aA, cA, loA, hiA, _, ea, ec, elo, ehi, ecs, hln, ?_, hD, hM, hK', hEn⟩
  rw [List.length_append (bs := [(r, [])])]; exact M
end
theorem beginPerm {m k e b l : Ent} {es : List Ent} : (m :: k :: e :: b :: l :: es).Perm (b :: l :: m :: k :: e :: es) := (List.perm_append_comm (l₁ := [m, k, e]) (l₂ := [b, l])).append_right es
theorem take_snoc {α : Type} {l : List α} {k : Nat} {x : α} (h : l[k]? = some x) : l.take (k + 1) = l.take k ++ [x] := by
  obtain ⟨hlt, he⟩ := List.getElem?_eq_some_iff.1 h
  rw [List.take_succ_eq_append_getElem hlt, he]
/-- of the writes' slices of the first so many there are new rows -/
theorem drs_put {cs ck : List Value} {ds : Dl} {k : Nat} {q : Dr × List Wr} {lv nv : Value} (hck : ck.length = k * 10) (hcs : cs.length = ds.length * 10) (hk : k < ds.length) (e : (cs.drop (k * 10)).take 10 = (q.1.cells lv).toList) :
    putL (ck ++ cs.drop (k * 10)) (k * 10 + 9) [nv] = (ck ++ (q.1.cells nv).toList) ++ cs.drop ((k + 1) * 10) := by
  have h1 : cs.drop (k * 10) = (q.1.cells lv).toList ++ cs.drop ((k + 1) * 10) := by
    rw [← e, show (k + 1) * 10 = k * 10 + 10 by omega, ← List.drop_drop, List.take_append_drop]
  rw [h1]
  show (ck ++ ((q.1.cells lv).toList ++ cs.drop ((k + 1) * 10))).set (k * 10 + 9) nv = _
  rw [List.set_append_right _ _ (by omega), hck, Nat.add_sub_cancel_left, List.append_assoc]
  rfl
set_option maxHeartbeats 1000000 in
theorem begin_any (va : Option Addr) (vc : Nat) (cs : List Value) (ds : Dl) (w : World) (hv : RowC drS cs 0 w.heap.size w (.slice va ds.length vc) ds) (hl : ds.length ≤ 100000) (hx : ∀ q ∈ ds, q.2.length ≤ 1000000) :
    Calls Try.prog 25 #[.agg #[.slice va ds.length vc]] w fun e w' => ∃ b es, e = .returned (.pointer (some ⟨b, 0, none⟩)) ∧ MacE w w' [] b ds [] [] [] es := by
  have M := Mem.start w
  have hcl : cs.length = ds.length * 10 := hv.1.1
  have hone := hv.one
  refine calls_enter Try.func25 rfl 40 rfl rfl ?_; intro a S
  refine nxD ?_
  refine st_box S M rfl rfl rfl #[_] rfl ?_; clear S M a; intro a w1 bF S M hB
  refine st_go [1] S rfl (by kernel_rfl) ?_; clear S a; intro a S
  refine nxA ?_
  refine st_run [1, 1] S M rfl (by kernel_rfl) ?_; clear S a; intro a S
  refine st_call (xs := [(Operand.tmp 6)]) S (enters_of Try.func56 (by decide) rfl) rfl rfl rfl (cloneD_any _ _ cs _ (M.rowsW hv).1 hone hl) ?_
  rintro _ w2 ⟨v1, rfl, hF⟩; refine ⟨_, rfl, ?_⟩; clear S a; intro a S
  obtain ⟨a1, c1, rfl, -, -⟩ := (hF.rd0 (by unfold maxLen; omega)).form
  obtain ⟨lo1, hi1, -, M⟩ := M.pushFresh hF
  refine st_y S rfl rfl rfl (y_build (ps := [(0, (Operand.tmp 7))]) (pl := [(0, 1)]) (z := [.slice none 0 0]) (cs := [_]) S (by kernel_rfl) rfl (rfl)) ?_; clear S a; intro a S
  refine st_y S rfl rfl rfl (y_build (ps := [(0, (Operand.tmp 8))]) (pl := [(0, 1), (1, 3)]) (z := [.slice none 0 0, .slice none 0 0, .slice none 0 0, .slice none 0 0]) (cs := [_, _, _, _]) S (by kernel_rfl) rfl (rfl)) ?_; clear S a; intro a S
  refine st_box S M rfl rfl rfl #[_, _, _, _] rfl ?_; clear S M a; intro a w3 bB S M hB
  refine st_go [1] S rfl (by kernel_rfl) ?_; clear S a; intro a S
  refine nxC ?_
  refine wp_seq ?_
  refine nxD ?_
  refine st_run [1, 1, 1, 1, 1] S M rfl (by kernel_rfl) ?_; clear S a; intro a S
  refine st_y S rfl rfl rfl (y_lenS (E := 59) S rfl (by kernel_rfl)) ?_; clear S a; intro a S
  refine st_go [1] S rfl (by kernel_rfl) ?_; clear S a; intro a S
  refine nxC ?_
  refine wp_block ?_
  refine wp_loop_g (fun m a w' => ∃ (k : Nat), k ≤ ds.length ∧ m = ds.length - k ∧ Sees 40 a [(3, .pointer (some ⟨bB, 0, none⟩)), (16, .int .i64 (ds.length : Int)), (17, .int .i64 (k : Int))] ∧ ∃ la lc lo hi ck es, Mem w w' (.blk bB #[.slice la ds.length lc, .slice none 0 0, .slice none 0 0, .slice none 0 0] 71 :: rowE lo hi 59 10 (.slice la ds.length lc) ds.length (ck ++ cs.drop (k * 10)) :: es) ∧ BkG drS ck (ds.take k) es) (ds.length) ?_ ?_
  · skip
    replace M := M.drop 2
    simp only [List.eraseIdx_cons_succ, List.eraseIdx_cons_zero] at M
    exact ⟨0, Nat.zero_le _, rfl, S.sub _ rfl, a1, c1, lo1, hi1, [], [], by simpa using M, BkG.nil⟩
  clear S M a; intro m a wl
  rintro ⟨k, hk, rfl, S, la, lc, lo, hi, ck, es, M, hBk⟩
  refine nxD ?_
  refine st_go [1] S rfl (by kernel_rfl) ?_; clear S a; intro a S
  refine nxC ?_
  refine wp_seq ?_
  refine st_fi (t := 18) S rfl ?_ ?_
  · clear S; intro h18 S
    refine st_condF S rfl ?_
    refine wp_exit ?_
    refine then_exit ?_
    refine then_exit ?_
    refine block_hit ?_
    refine nxE ?_
    refine st_go [1, 1] S rfl (by kernel_rfl) ?_; clear S a; intro a S
    refine nxC ?_
    refine wp_ret ?_
    refine end_one S rfl (res_tmp rfl) ?_
    obtain rfl : k = ds.length := by omega
    rw [List.take_length] at hBk
    rw [List.drop_of_length_le (by omega), List.append_nil] at M
    have M2 := (((M.rowNil 66 4).rowNil 97 12).rowNil 36 24)
    exact ⟨bB, es, rfl, la, ds.length, lc, lo, hi, ck, none, 0, _, _, [], none, 0, _, _, [], none, 0, _, _, [], rfl, M2.perm beginPerm, hBk, BkG.nil, BkG.nil, BkG.nil⟩
  clear S; intro h18 S
  refine st_condT S rfl ?_
  refine wp_skip ?_
  refine then_normal ?_
  refine wp_seq ?_
  refine wp_block ?_
  refine nxD ?_
  refine st_go [1, 1] S rfl (by kernel_rfl) ?_; clear S a; intro a S
  refine nxC ?_
  have hk' : k < ds.length := by omega
  obtain ⟨q, hq⟩ : ∃ q, ds[k]? = some q := ⟨_, List.getElem?_eq_getElem hk'⟩
  obtain ⟨xa, xc, hrow0, hxw⟩ := hv.sl hq
  have hrow : (cs.drop (k * 10)).take 10 = (q.1.cells (.slice xa q.2.length xc)).toList := hrow0
  have hck : ck.length = k * 10 := by
    have : ck.length = (ds.take k).length * 10 := hBk.1
    rw [this, List.length_take, Nat.min_eq_left hk]
  have hput := fun nv => drs_put (nv := nv) hck hcl hk' hrow
  have hlen : (ck ++ cs.drop (k * 10)).length = ds.length * 10 := by rw [List.length_append, hck, List.length_drop, hcl]; omega
  replace M := M.front 1 rfl
  simp only [List.eraseIdx_cons_succ, List.eraseIdx_cons_zero] at M
  obtain ⟨g, cap, more, hvE, hc1, hc2, hc3, M1⟩ := M.ofRow (by omega)
  simp only [Value.slice.injEq] at hvE
  obtain ⟨rfl, -, rfl⟩ := hvE
  clear M
  have M := M1
  clear M1
  have hcell : ((ck ++ cs.drop (k * 10)) ++ more).toArray[k * 10 + 9]? = some (.slice xa q.2.length xc) := by
    have h1 : cs.drop (k * 10) = (q.1.cells (.slice xa q.2.length xc)).toList ++ cs.drop ((k + 1) * 10) := by
      rw [← hrow, show (k + 1) * 10 = k * 10 + 10 by omega, ← List.drop_drop, List.take_append_drop]
    rw [List.getElem?_toArray, h1, List.append_assoc, List.getElem?_append_right (by omega), hck, Nat.add_sub_cancel_left]; rfl
  refine wp_regionK [18] #[false, false, false, false, false, false, false, false, false, false, false, false, false, false, false, false, false, false, false] rfl M (by kernel_rfl) ?_; clear M; intro w4 M
  refine k_pure (listed' := #[true, false, false, false, false, false, false, false, false, false, false, false, false, false, false, false, false, false, false]) 0 S rfl rfl rfl rfl (by kernel_rfl) rfl (fun _ d _ _ _ h => by cases d <;> exact h) (fun w => y_move S rfl) ?_; clear S a; intro a S
  refine k_pure (listed' := #[true, true, false, false, false, false, false, false, false, false, false, false, false, false, false, false, false, false, false]) 1 S rfl rfl rfl rfl (by kernel_rfl) rfl (fun _ d _ _ _ h => by cases d <;> exact h) (fun w => y_nilCheck S rfl) ?_; clear S a; intro a S
  refine k_pure (listed' := #[true, true, true, false, false, false, false, false, false, false, false, false, false, false, false, false, false, false, false]) 2 S rfl rfl rfl rfl (by kernel_rfl) rfl (fun _ d _ _ _ h => by cases d <;> exact h) (fun w => y_fieldAddr (k := 0) S (by kernel_rfl) rfl) ?_; clear S a; intro a S
  refine k_pure (listed' := #[true, true, true, true, false, false, false, false, false, false, false, false, false, false, false, false, false, false, false]) 3 S rfl rfl rfl rfl (by kernel_rfl) rfl (fun _ d _ _ _ h => by cases d <;> exact h) (fun w => y_fieldAddr (k := 0) S (by kernel_rfl) rfl) ?_; clear S a; intro a S
  refine k_read (listed' := #[true, true, true, true, true, false, false, false, false, false, false, false, false, false, false, false, false, false, false]) 4 S rfl rfl rfl rfl (by kernel_rfl) rfl (fun _ d _ _ _ h => by cases d <;> exact h) (fun w hW => have M := M.grow hW; y_load S (by kernel_rfl) rfl (M.cell 1 rfl rfl)) ?_; clear S a; intro a S
  refine k_pure (listed' := #[true, true, true, true, true, true, false, false, false, false, false, false, false, false, false, false, false, false, false]) 5 S rfl rfl rfl rfl (by kernel_rfl) rfl (fun _ d _ _ _ h => by cases d <;> exact h) (fun w => y_move S rfl) ?_; clear S a; intro a S
  refine k_pure (listed' := #[true, true, true, true, true, true, true, false, false, false, false, false, false, false, false, false, false, false, false]) 6 S rfl rfl rfl rfl (by kernel_rfl) rfl (fun _ d _ _ _ h => by cases d <;> exact h) (fun w => y_move S rfl) ?_; clear S a; intro a S
  refine k_pure (listed' := #[true, true, true, true, true, true, true, true, false, false, false, false, false, false, false, false, false, false, false]) 7 S rfl rfl rfl rfl (by kernel_rfl) rfl (fun _ d _ _ _ h => by cases d <;> exact h) (fun w => y_nilCheck S rfl) ?_; clear S a; intro a S
  refine k_pure (listed' := #[true, true, true, true, true, true, true, true, true, false, false, false, false, false, false, false, false, false, false]) 8 S rfl rfl rfl rfl (by kernel_rfl) rfl (fun _ d _ _ _ h => by cases d <;> exact h) (fun w => y_fieldAddr (k := 0) S (by kernel_rfl) rfl) ?_; clear S a; intro a S
  refine k_pure (listed' := #[true, true, true, true, true, true, true, true, true, true, false, false, false, false, false, false, false, false, false]) 9 S rfl rfl rfl rfl (by kernel_rfl) rfl (fun _ d _ _ _ h => by cases d <;> exact h) (fun w => y_fieldAddr (k := 0) S (by kernel_rfl) rfl) ?_; clear S a; intro a S
  refine k_read (listed' := #[true, true, true, true, true, true, true, true, true, true, true, false, false, false, false, false, false, false, false]) 10 S rfl rfl rfl rfl (by kernel_rfl) rfl (fun _ d _ _ _ h => by cases d <;> exact h) (fun w hW => have M := M.grow hW; y_load S (by kernel_rfl) rfl (M.cell 1 rfl rfl)) ?_; clear S a; intro a S
  refine k_pure (listed' := #[true, true, true, true, true, true, true, true, true, true, true, true, false, false, false, false, false, false, false]) 11 S rfl rfl rfl rfl (by kernel_rfl) rfl (fun _ d _ _ _ h => by cases d <;> exact h) (fun w => y_move S rfl) ?_; clear S a; intro a S
  refine k_pure (listed' := #[true, true, true, true, true, true, true, true, true, true, true, true, true, false, false, false, false, false, false]) 12 S rfl rfl rfl rfl (by kernel_rfl) rfl (fun _ d _ _ _ h => by cases d <;> exact h) (fun w => y_indexS (e := 59) (sz := 10) S (by kernel_rfl) rfl rfl (by first | omega | (simp; done) | (simp; omega))) ?_; clear S a; intro a S
  try simp only [Int.toNat_natCast, Nat.mul_one, Nat.zero_add] at S
  refine k_pure (listed' := #[true, true, true, true, true, true, true, true, true, true, true, true, true, true, false, false, false, false, false]) 13 S rfl rfl rfl rfl (by kernel_rfl) rfl (fun _ d _ _ _ h => by cases d <;> exact h) (fun w => y_fieldAddr (k := 9) S (by kernel_rfl) rfl) ?_; clear S a; intro a S
  refine k_read (listed' := #[true, true, true, true, true, true, true, true, true, true, true, true, true, true, true, false, false, false, false]) 14 S rfl rfl rfl rfl (by kernel_rfl) rfl (fun _ d _ _ _ h => by cases d <;> exact h) (fun w hW => have M := M.grow hW; y_load S (by kernel_rfl) rfl (M.cell 0 rfl (hcell))) ?_; clear S a; intro a S
  refine k_one (listed' := #[true, true, true, true, true, true, true, true, true, true, true, true, true, true, true, true, false, false, false]) 15 rfl (by kernel_rfl) rfl ?_
  refine st_call (xs := [(Operand.tmp 34)]) S (enters_of Try.func40 (by decide) rfl) rfl rfl rfl (cloneW_any _ q.2 _ (M.argW hxw) (hx q (List.mem_of_getElem? hq))) ?_
  rintro _ w5 ⟨v2, rfl, hF⟩; refine ⟨_, rfl, ?_⟩; clear S a; intro a S; have hK := hF.below
  obtain ⟨a2, c2, rfl, -, -⟩ := (hF.rd0 (by have := hx q (List.mem_of_getElem? hq); unfold maxLen; omega)).form
  obtain ⟨lo2, hi2, -, M⟩ := M.pushFresh hF
  refine wpList_nil ?_; refine then_normal ?_; refine ⟨fun _ => hK, ?_⟩
  refine k_pure (listed' := #[true, true, true, true, true, true, true, true, true, true, true, true, true, true, true, true, true, false, false]) 16 S rfl rfl rfl rfl (by kernel_rfl) rfl (fun _ d _ _ _ h => by cases d <;> exact h) (fun w => y_indexS (e := 59) (sz := 10) S (by kernel_rfl) rfl rfl (by first | omega | (simp; done) | (simp; omega))) ?_; clear S a; intro a S
  try simp only [Int.toNat_natCast, Nat.mul_one, Nat.zero_add] at S
  refine k_pure (listed' := #[true, true, true, true, true, true, true, true, true, true, true, true, true, true, true, true, true, true, false]) 17 S rfl rfl rfl rfl (by kernel_rfl) rfl (fun _ d _ _ _ h => by cases d <;> exact h) (fun w => y_fieldAddr (k := 9) S (by kernel_rfl) rfl) ?_; clear S a; intro a S
  refine k_one (listed' := #[true, true, true, true, true, true, true, true, true, true, true, true, true, true, true, true, true, true, true]) 18 rfl (by kernel_rfl) rfl ?_
  refine st_store (o := k * 10 + 9) (l := (ck ++ cs.drop (k * 10)) ++ more) (sz := 1) (us := [.slice a2 q.2.length c2]) S M 1 rfl (by kernel_rfl) rfl rfl rfl rfl rfl rfl (by rw [List.length_append, hlen]; show k * 10 + 9 + 1 ≤ _; omega) ?_; clear M; intro wz M
  simp only [List.set_cons_zero, List.set_cons_succ] at M
  refine wpList_nil ?_; refine then_normal ?_; refine ⟨fun h => absurd h (by decide), ?_⟩
  refine k_end (by kernel_rfl) ?_
  replace S := S.sub [(3, _), (16, _), (17, _), (18, _), (4, _)] rfl
  refine block_normal ?_
  refine nxF ?_
  (first | refine st_y S rfl rfl rfl (y_addN S rfl rfl (by omega)) ?_ | refine st_y S rfl rfl rfl (y_int S rfl rfl rfl) ?_); clear S a; intro a S
  refine st_go [1] S rfl (by kernel_rfl) ?_; clear S a; intro a S
  refine nxC ?_
  replace M := M.front 1 rfl
  simp only [List.eraseIdx_cons_succ, List.eraseIdx_cons_zero] at M
  have hw : WrAt (.slice a2 q.2.length c2) q.2 (rowE lo2 hi2 80 9 (.slice a2 q.2.length c2) q.2.length (wcells q.2) :: es) := .inr ⟨a2, c2, lo2, hi2, rfl, List.mem_cons_self .., hx q (List.mem_of_getElem? hq)⟩
  have hBk' := (hBk.mono (fun e he => List.mem_cons_of_mem _ he)).more (q := q) hw
  rw [← take_snoc hq] at hBk'
  have e2 : putL ((ck ++ cs.drop (k * 10)) ++ more) (k * 10 + 9) [.slice a2 q.2.length c2] = ((ck ++ (q.1.cells (.slice a2 q.2.length c2)).toList) ++ cs.drop ((k + 1) * 10)) ++ more := by
    rw [← hput]
    show ((ck ++ cs.drop (k * 10)) ++ more).set _ _ = (ck ++ cs.drop (k * 10)).set _ _ ++ more
    rw [List.set_append_left _ _ (by rw [hlen]; omega)]
  rw [e2] at M
  have hlen2 : ((ck ++ (q.1.cells (.slice a2 q.2.length c2)).toList) ++ cs.drop ((k + 1) * 10)).length = ds.length * 10 := by
    simp only [List.length_append, hck, List.length_drop, hcl, List.length_cons, List.length_nil]; omega
  replace M := M.toRow (sz := 10) (m := ds.length) (cap := lc) (xs := (ck ++ (q.1.cells (.slice a2 q.2.length c2)).toList) ++ cs.drop ((k + 1) * 10)) 0 rfl hlen2 hc1 hc2 (by rw [List.size_toArray, List.length_append, hlen2, ← hc3, List.length_append, hlen]) (by rw [List.toList_toArray, ← hlen2]; exact List.take_left)
  exact ⟨ds.length - (k + 1), by omega, k + 1, by omega, rfl, S.sub _ rfl, some ⟨g, 0, none⟩, lc, g, g + 1, _, _, M.front 2 rfl, hBk'⟩

end Go.Proofs.Ytidpeojkkfmgeaa
