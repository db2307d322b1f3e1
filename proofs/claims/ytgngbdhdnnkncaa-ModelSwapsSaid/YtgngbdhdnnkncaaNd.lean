/-
  Package model: touched, Writes.
-/
import Derived.Test.YtgngbdhdnnkncaaNc
namespace Go.Proofs.Ytgngbdhdnnkncaa
open Go.RowKit Go.Sort

abbrev Qs := List (Nat × Sn)
def WrsP (pre : Qs) (k : Int) : Prop := ∃ q ∈ pre, q.2.kind = 2 ∧ q.2.block = k
def RdsP (pre : Qs) (k : Int) : Prop := ∃ p1 q p2, pre = p1 ++ q :: p2 ∧ q.2.kind ≠ 2 ∧ q.2.block = k ∧ ¬ WrsP p1 k
theorem wrs_snoc (pre : Qs) (x : Nat × Sn) (k : Int) : WrsP (pre ++ [x]) k ↔ WrsP pre k ∨ (x.2.kind = 2 ∧ x.2.block = k) := by
  unfold WrsP
  constructor
  · rintro ⟨q, hq, h⟩
    rcases List.mem_append.1 hq with hq | hq
    · exact .inl ⟨q, hq, h⟩
    · obtain rfl := List.mem_singleton.1 hq; exact .inr h
  · rintro (⟨q, hq, h⟩ | h)
    · exact ⟨q, List.mem_append_left _ hq, h⟩
    · exact ⟨x, by simp, h⟩
theorem rds_snoc (pre : Qs) (x : Nat × Sn) (k : Int) : RdsP (pre ++ [x]) k ↔ RdsP pre k ∨ (x.2.kind ≠ 2 ∧ x.2.block = k ∧ ¬ WrsP pre k) := by
  constructor
  · rintro ⟨p1, q, p2, e, h1, h2, h3⟩
    rcases List.eq_nil_or_concat p2 with rfl | ⟨p3, y, rfl⟩
    · have := List.append_inj' e rfl
      obtain ⟨rfl, e2⟩ := this
      obtain rfl : x = q := by simpa using e2
      exact .inr ⟨h1, h2, h3⟩
    · have e2 : pre ++ [x] = (p1 ++ q :: p3) ++ [y] := by rw [e]; simp
      obtain ⟨rfl, -⟩ := List.append_inj' e2 rfl
      exact .inl ⟨p1, q, p3, rfl, h1, h2, h3⟩
  · rintro (⟨p1, q, p2, rfl, h⟩ | ⟨h1, h2, h3⟩)
    · exact ⟨p1, q, p2 ++ [x], by simp, h⟩
    · exact ⟨pre, x, [], rfl, h1, h2, h3⟩
section
variable {l : Mes Int} {c : Nat} {k : Int} {v : Value}
abbrev eI : Int → Value := fun z => .int .i64 z
theorem put_keys (l : Mes Int) (c : Nat) (k : Int) (v : Value) (k' : Int) : k' ∈ (putM eI l c k v).1.map (·.1) ↔ k' ∈ l.map (·.1) ∨ k' = k := by
  unfold putM
  split
  · rename_i h
    have e1 : (setM l k v).map (·.1) = l.map (·.1) := by
      unfold setM; rw [List.map_map]; congr 1; funext p; simp only [Function.comp]; split <;> rfl
    rw [e1]
    exact ⟨.inl, fun h' => h'.elim id fun e => e ▸ h⟩
  · rw [List.map_append, List.mem_append]; simp
theorem put_len (l : Mes Int) (c : Nat) (k : Int) (v : Value) : (putM eI l c k v).1.length ≤ l.length + 1 := by
  unfold putM; split
  · simp [setM]
  · simp
def IntV (l : Mes Int) : Prop := ∀ p ∈ l, ∃ n : Int, p.2.val = .int .i64 n
theorem put_vals (h : IntV l) (n : Int) : IntV (putM eI l c k (.int .i64 n)).1 := by
  unfold putM; split
  · intro p hp
    obtain ⟨q, hq, rfl⟩ := List.mem_map.1 hp
    simp only
    split
    · exact ⟨n, rfl⟩
    · exact h q hq
  · intro p hp
    rcases List.mem_append.1 hp with hp | hp
    · exact h p hp
    · obtain rfl := List.mem_singleton.1 hp; exact ⟨n, rfl⟩
theorem get_int (h : IntV l) (k : Int) : ∃ n : Int, (getM l k).getD (.int .i64 0) = .int .i64 n := by
  unfold getM
  cases hf : l.find? (·.1 = k) with
  | none => exact ⟨0, rfl⟩
  | some p => exact h p (List.mem_of_find?_eq_some hf)
end
theorem stepsP_len (l : List Sn) : ∀ k, (stepsP l k).length ≤ k
  | 0 => Nat.le_refl _
  | k + 1 => by
    have := stepsP_len l k
    rw [stepsP, List.length_append]
    split
    · split <;> simp <;> omega
    · simp; omega
/-- what the second round keeps: what is written so far, what is read of the store so far -/
structure TI (pre : Qs) (ml : Mes Int) (bl : List Bool) : Prop where
  len : bl.length = 32
  own : ∀ k : Nat, k < 32 → (bl[k]? = some true ↔ WrsP pre (k : Int))
  les : ml.length ≤ pre.length
  vals : IntV ml
  keys : ∀ k, k ∈ ml.map (·.1) ↔ RdsP pre k
theorem wrs_nil (k : Int) : ¬ WrsP [] k := fun ⟨q, hq, _⟩ => (by cases hq)
theorem rds_nil (k : Int) : ¬ RdsP [] k := fun ⟨p1, q, p2, e, _⟩ => (by simp at e)
theorem ti_nil : TI [] [] (List.replicate 32 false) := by
  refine ⟨rfl, fun k hk => ⟨fun h => ?_, fun h => absurd h (wrs_nil _)⟩, Nat.le_refl _, fun p h => (by cases h), fun k => ⟨fun h => (by cases h), fun h => absurd h (rds_nil _)⟩⟩
  rw [List.getElem?_replicate] at h; simp [hk] at h
/-- what the first round keeps -/
structure TW (pre : Qs) (ml : Mes Int) : Prop where
  les : ml.length ≤ pre.length
  vals : IntV ml
  keys : ∀ k, k ∈ ml.map (·.1) ↔ WrsP pre k
theorem tw_nil : TW [] [] := ⟨Nat.le_refl _, fun p h => (by cases h), fun k => ⟨fun h => (by cases h), fun h => absurd h (wrs_nil _)⟩⟩
theorem tw_write {pre : Qs} {ml : Mes Int} {x : Nat × Sn} {c : Nat} {n : Int} (h : TW pre ml) (hk : x.2.kind = 2) : TW (pre ++ [x]) (putM eI ml c x.2.block (.int .i64 n)).1 := by
  refine ⟨?_, put_vals h.vals _, fun k => ?_⟩
  · have := put_len ml c x.2.block (.int .i64 n)
    have := h.les
    rw [List.length_append]; simp; omega
  · rw [put_keys, h.keys, wrs_snoc]
    exact ⟨fun h => h.imp id fun e => ⟨hk, e.symm⟩, fun h => h.imp id fun e => e.2.symm⟩
theorem tw_read {pre : Qs} {ml : Mes Int} {x : Nat × Sn} (h : TW pre ml) (hk : x.2.kind ≠ 2) : TW (pre ++ [x]) ml := by
  refine ⟨by rw [List.length_append]; exact Nat.le_trans h.les (Nat.le_add_right _ _), h.vals, fun k => ?_⟩
  rw [h.keys, wrs_snoc]
  exact ⟨.inl, fun h' => h'.elim id fun e => absurd e.1 hk⟩
section
variable {pre : Qs} {ml : Mes Int} {bl : List Bool} {x : Nat × Sn} {kb : Nat}
theorem ti_write (h : TI pre ml bl) (hk : x.2.kind = 2) (hb : x.2.block = (kb : Int)) (h32 : kb < 32) : TI (pre ++ [x]) ml (bl.set kb true) := by
  refine ⟨by rw [List.length_set]; exact h.len, fun k hk' => ?_, by rw [List.length_append]; exact Nat.le_trans h.les (Nat.le_add_right _ _), h.vals, fun k => ?_⟩
  · rw [wrs_snoc, ← h.own k hk', List.getElem?_set, hb]
    have := h.len
    by_cases e : kb = k
    · subst e; simp [hk]; omega
    · simp only [if_neg e, hk, true_and]
      exact ⟨.inl, fun h => h.elim id fun h => absurd (by omega) e⟩
  · rw [h.keys, rds_snoc]
    exact ⟨.inl, fun h' => h'.elim id fun h' => absurd hk h'.1⟩
theorem ti_own (h : TI pre ml bl) (hk : x.2.kind ≠ 2) (hb : x.2.block = (kb : Int)) (h32 : kb < 32) (hv : bl[kb]? = some true) : TI (pre ++ [x]) ml bl := by
  refine ⟨h.len, fun k hk' => ?_, by rw [List.length_append]; exact Nat.le_trans h.les (Nat.le_add_right _ _), h.vals, fun k => ?_⟩
  · rw [wrs_snoc, ← h.own k hk']
    exact ⟨.inl, fun h' => h'.elim id fun h' => absurd h'.1 hk⟩
  · rw [h.keys, rds_snoc]
    refine ⟨.inl, fun h' => h'.elim id fun h' => ?_⟩
    obtain ⟨_, e, hn⟩ := h'
    exact absurd ((h.own kb h32).1 hv) (by rw [← hb, e]; exact hn)
theorem ti_read {c : Nat} {n : Int} (h : TI pre ml bl) (hk : x.2.kind ≠ 2) (hb : x.2.block = (kb : Int)) (h32 : kb < 32) (hv : bl[kb]? = some false) : TI (pre ++ [x]) (putM eI ml c (kb : Int) (.int .i64 n)).1 bl := by
  refine ⟨h.len, fun k hk' => ?_, ?_, put_vals h.vals _, fun k => ?_⟩
  · rw [wrs_snoc, ← h.own k hk']
    exact ⟨.inl, fun h' => h'.elim id fun h' => absurd h'.1 hk⟩
  · have := put_len ml c (kb : Int) (.int .i64 n)
    have := h.les
    rw [List.length_append]; simp; omega
  · rw [put_keys, h.keys, rds_snoc, hb]
    refine ⟨fun h' => h'.imp id fun e => ⟨hk, e.symm, ?_⟩, fun h' => h'.imp id fun e => e.2.1.symm⟩
    rw [e, ← h.own kb h32, hv]; simp
end
theorem bool_at {bl : List Bool} {k : Nat} {v : Bool} (h : bl[k]? = some v) : (bl.map Value.bool).toArray[k]? = some (.bool v) := by
  rw [List.getElem?_toArray, List.getElem?_map, h]; rfl
theorem bput {bl : List Bool} {k : Nat} (hk : k < bl.length) (v : Bool) : putL (bl.map Value.bool) k [.bool v] = (bl.set k v).map Value.bool := by
  have e := List.getElem?_eq_getElem hk
  conv => lhs; rw [← List.take_append_drop k bl, List.drop_eq_getElem_cons hk]
  rw [List.map_append, List.map_cons]
  have := putL_mid (A := (bl.take k).map Value.bool) (B := [Value.bool bl[k]]) (C := (bl.drop (k + 1)).map Value.bool) (us := [.bool v]) rfl
  rw [show ((bl.take k).map Value.bool).length = k by simp; omega] at this
  refine this.trans ?_
  rw [List.set_eq_take_append_cons_drop, if_pos hk]
  simp
def TouchP (l : List Sn) (w : World) (e : Ending) (w' : World) : Prop :=
  ∃ ra rc wa wc rs ws lo1 hi1 lo2 hi2, e = .returned (.tuple #[.slice ra rs.length rc, .slice wa ws.length wc]) ∧
    Mem w w' [rowE lo1 hi1 3 1 (.slice ra rs.length rc) rs.length (icells rs), rowE lo2 hi2 3 1 (.slice wa ws.length wc) ws.length (icells ws)] ∧
    (∀ k, k ∈ rs ↔ RdsP (stepsP l l.length) k) ∧ (∀ k, k ∈ ws ↔ WrsP (stepsP l l.length) k) ∧ rs.length ≤ l.length ∧ ws.length ≤ l.length
set_option maxHeartbeats 2000000 in
theorem touched_any (va : Option Addr) (vc : Nat) (l : List Sn) (w : World) (hv : Ss 0 w.heap.size w (.slice va l.length vc) l) (hl : l.length ≤ 1000) :
    Calls Try.prog 13 #[.slice va l.length vc] w (TouchP l w) := by
  have M := Mem.start w
  have hsl := stepsP_len l l.length
  refine calls_enterM Try.func13 rfl 50 rfl rfl ?_; intro a S
  refine nxD ?_
  refine st_go [1, 1] S rfl (by kernel_rfl) ?_; clear S a; intro a S
  refine nxA ?_
  refine st_makeMap (κ := Int) S M rfl rfl ?_; clear S M a; intro a w1 bX S M hB
  refine st_alloc S M rfl rfl #[.map none] (by kernel_rfl) ?_; clear S M a; intro a w2 bB S M hB
  refine st_store (sz := 1) (us := [_]) S M 0 rfl (by kernel_rfl) rfl rfl rfl rfl rfl rfl (by first | decide | (simp; done) | (simp; omega)) ?_; clear M; intro w3 M
  simp only [putL, List.set_cons_zero, List.set_cons_succ, Nat.reduceAdd] at M
  refine nxA ?_
  refine st_y S rfl rfl rfl (y_makeFunc (fs := []) (cs := [(Operand.tmp 4)]) S rfl rfl) ?_; clear S a; intro a S
  refine st_go [1] S rfl (by kernel_rfl) ?_; clear S a; intro a S
  refine nxC ?_
  refine wp_seq ?_
  refine nxD ?_
  refine st_go [1] S rfl (by kernel_rfl) ?_; clear S a; intro a S
  refine st_call (xs := [(Operand.tmp 13)]) S (enters_of Try.func12 (by decide) rfl) rfl rfl rfl (steps_any va vc _ _) ?_
  rintro _ w4 ⟨bL, rfl, M1⟩; refine ⟨_, rfl, ?_⟩; clear S a; intro a S; replace M := M.join M1; clear M1
  simp only [List.cons_append, List.nil_append] at M
  refine nxC ?_
  refine wp_block ?_
  replace M := M.front 2 rfl
  simp only [List.eraseIdx_cons_succ, List.eraseIdx_cons_zero] at M
  replace M := M.front 2 rfl
  simp only [List.eraseIdx_cons_succ, List.eraseIdx_cons_zero] at M
  replace M := M.front 2 rfl
  simp only [List.eraseIdx_cons_succ, List.eraseIdx_cons_zero] at M
  refine wp_range (encs := encS) (xs := stepsP l l.length) S M rfl (enters_of Try.func19 (by decide) rfl) (steps1_gen bL va vc l) (fun _ => rfl) (by kernel_rfl) (fun pre Hs => ∃ (ml : Mes Int) (c : Nat), Hs = [.blk bL #[.slice va l.length vc] 25, .blk bB #[.map (some bX)] 56, mapX bX ml c] ∧ Good eI ml c ∧ TW pre ml) (⟨[], 0, rfl, good_nil 0, tw_nil⟩) (fun pre Hs W hI M => by obtain ⟨ml, c, rfl, -⟩ := hI; exact ⟨M.blk 0 rfl, M.argW hv⟩) ?_ ?_
  · intro lY pre x tX Hs wr BK a hx hI M S
    simp only [putsL, encS] at S
    obtain ⟨ml, c, rfl, hG, hT⟩ := hI
    obtain ⟨vn, hvn⟩ := get_int hT.vals x.2.block
    refine wpI_region (by kernel_rfl) (fun _ _ h => h) ?_
    refine st_alloc S M rfl rfl #[.int .i8 0, .int .i64 0, .int .i64 0, .int .i64 0, .int .i64 0, .int .u8 0, .int .u8 0, .int .u8 0, .int .u8 0, .int .u8 0, .int .u8 0, .int .u8 0, .int .u8 0, .int .i64 0] (by kernel_rfl) ?_; clear S M a; intro a w5 bS S M hB
    refine st_store (sz := 14) (us := [_, _, _, _, _, _, _, _, _, _, _, _, _, _]) S M 0 rfl (by kernel_rfl) rfl rfl rfl rfl rfl rfl (by first | decide | (simp; done) | (simp; omega)) ?_; clear M; intro w6 M
    simp only [putL, List.set_cons_zero, List.set_cons_succ, Nat.reduceAdd] at M
    refine nxC ?_
    replace M := M.front 1 rfl
    simp only [List.eraseIdx_cons_succ, List.eraseIdx_cons_zero] at M
    refine ⟨_, M, ?_⟩; clear M; intro wb BK M
    refine wpIn_block ?_
    refine wpIn_seq ?_
    refine wpI_region (by kernel_rfl) (fun _ _ h => h) ?_
    refine st_run [1, 2, 1] S M rfl (by kernel_rfl) ?_; clear S a; intro a S
    refine nxC ?_
    refine st_fi (t := 19) S rfl ?_ ?_
    · clear S; intro h19 S
      refine stI_condF S rfl ?_
      refine wpIn_skip ?_
      refine block_normal ?_
      skip
      replace M := M.drop 1
      simp only [List.eraseIdx_cons_succ, List.eraseIdx_cons_zero] at M
      first
        | exact ⟨_, M, _, _, rfl, hG.put _ _, tw_write hT h19⟩
        | exact ⟨_, M, ml, c, rfl, hG, tw_read hT h19⟩
    clear S; intro h19 S
    refine stI_condT S rfl ?_
    refine wpI_region (by kernel_rfl) (fun _ _ h => h) ?_
    refine st_run [4, 5, 2] S M rfl (by kernel_rfl) ?_; clear S a; intro a S
    refine st_y S rfl rfl rfl (y_lookupM (pos := 4) S M (keyI) (hG) Try.underlying56 (zero_int) rfl rfl rfl) ?_; clear S a; intro a S
    simp only [Bool.false_eq_true, if_false, hvn] at S
    (first | refine st_y S rfl rfl rfl (y_addN S rfl rfl (by omega)) ?_ | refine st_y S rfl rfl rfl (y_int S rfl rfl rfl) ?_); clear S a; intro a S
    refine st_updateM (pos := 4) S M (keyI) (hG) Try.underlying56 rfl rfl rfl rfl rfl ?_; clear M; intro w7 M
    simp only [List.set_cons_zero, List.set_cons_succ] at M
    refine wpList_nil ?_
    refine block_normal ?_
    skip
    replace M := M.drop 1
    simp only [List.eraseIdx_cons_succ, List.eraseIdx_cons_zero] at M
    first
      | exact ⟨_, M, _, _, rfl, hG.put _ _, tw_write hT h19⟩
      | exact ⟨_, M, ml, c, rfl, hG, tw_read hT h19⟩
  intro D1 wd Hs a hI M S
  obtain ⟨ml, c, rfl, hG, hT1⟩ := hI
  have hml := hT1.les
  refine block_normal ?_
  refine nxE ?_
  refine st_go [1] S rfl (by kernel_rfl) ?_; clear S a; intro a S
  skip
  replace M := M.front 3 rfl
  simp only [List.eraseIdx_cons_succ, List.eraseIdx_cons_zero] at M
  replace M := M.front 3 rfl
  simp only [List.eraseIdx_cons_succ, List.eraseIdx_cons_zero] at M
  refine st_callB (xs := []) (fi := []) (ca := [_]) S (enters_of Try.func20 (by decide) rfl) rfl rfl (rfl) rfl (rising_any hG M (by omega)) ?_
  rintro _ w8 ⟨wa, wc, lo1, hi1, ws, rfl, hperm, M1⟩; refine ⟨_, rfl, ?_⟩; clear S a; intro a S; replace M := M1; clear M1
  refine st_go [1] S rfl (by kernel_rfl) ?_; clear S a; intro a S
  refine nxA ?_
  refine st_alloc S M rfl rfl #[.bool false, .bool false, .bool false, .bool false, .bool false, .bool false, .bool false, .bool false, .bool false, .bool false, .bool false, .bool false, .bool false, .bool false, .bool false, .bool false, .bool false, .bool false, .bool false, .bool false, .bool false, .bool false, .bool false, .bool false, .bool false, .bool false, .bool false, .bool false, .bool false, .bool false, .bool false, .bool false] (by kernel_rfl) ?_; clear S M a; intro a w9 bO S M hB
  refine nxC ?_
  refine wp_seq ?_
  refine nxD ?_
  refine st_go [1] S rfl (by kernel_rfl) ?_; clear S a; intro a S
  refine st_call (xs := [(Operand.tmp 27)]) S (enters_of Try.func12 (by decide) rfl) rfl rfl rfl (steps_any va vc _ _) ?_
  rintro _ w10 ⟨bL2, rfl, M1⟩; refine ⟨_, rfl, ?_⟩; clear S a; intro a S; replace M := M.join M1; clear M1
  simp only [List.cons_append, List.nil_append] at M
  refine nxC ?_
  refine wp_block ?_
  replace M := M.front 5 rfl
  simp only [List.eraseIdx_cons_succ, List.eraseIdx_cons_zero] at M
  replace M := M.front 3 rfl
  simp only [List.eraseIdx_cons_succ, List.eraseIdx_cons_zero] at M
  replace M := M.front 6 rfl
  simp only [List.eraseIdx_cons_succ, List.eraseIdx_cons_zero] at M
  replace M := M.front 6 rfl
  simp only [List.eraseIdx_cons_succ, List.eraseIdx_cons_zero] at M
  replace M := M.front 6 rfl
  simp only [List.eraseIdx_cons_succ, List.eraseIdx_cons_zero] at M
  replace M := M.front 6 rfl
  simp only [List.eraseIdx_cons_succ, List.eraseIdx_cons_zero] at M
  replace M := M.front 6 rfl
  simp only [List.eraseIdx_cons_succ, List.eraseIdx_cons_zero] at M
  refine wp_range (encs := encS) (xs := stepsP l l.length) S M rfl (enters_of Try.func19 (by decide) rfl) (steps1_gen bL2 va vc l) (fun _ => rfl) (by kernel_rfl) (fun pre Hs => ∃ (ml : Mes Int) (c : Nat) (bl : List Bool), Hs = [.blk bL2 #[.slice va l.length vc] 25, .blk bO (bl.map Value.bool).toArray 59, .blk bB #[.map (some bX)] 56, mapX bX ml c, .blk bL #[.slice va l.length vc] 25, rowE lo1 hi1 3 1 (.slice wa ws.length wc) ws.length (icells ws), markE D1] ∧ Good eI ml c ∧ TI pre ml bl) (⟨[], _, List.replicate 32 false, rfl, good_nil _, ti_nil⟩) (fun pre Hs W hI M => by obtain ⟨ml, c, bl, rfl, -⟩ := hI; exact ⟨M.blk 0 rfl, M.argW hv⟩) ?_ ?_
  · intro lY pre x tX Hs wr BK a hx hI M S
    simp only [putsL, encS] at S
    obtain ⟨ml, c, bl, rfl, hG, hT⟩ := hI
    obtain ⟨-, hok⟩ : l[x.1]? = some x.2 ∧ okS x.2 := stepsP_mem (k := l.length) (by rw [hx]; simp)
    obtain ⟨xi, kd, xn, bk, xv, xe⟩ := x
    obtain ⟨kb, rfl⟩ := Int.eq_ofNat_of_zero_le (show 0 ≤ bk from hok.2.1)
    have hkb : kb < 32 := by have : (kb : Int) < 32 := hok.2.2; omega
    have hbl := hT.len
    obtain ⟨bv, hbv⟩ : ∃ v, bl[kb]? = some v := ⟨_, List.getElem?_eq_getElem (by omega)⟩
    obtain ⟨vn, hvn⟩ := get_int hT.vals (kb : Int)
    simp only at S
    refine wpI_region (by kernel_rfl) (fun _ _ h => h) ?_
    refine st_alloc S M rfl rfl #[.int .i8 0, .int .i64 0, .int .i64 0, .int .i64 0, .int .i64 0, .int .u8 0, .int .u8 0, .int .u8 0, .int .u8 0, .int .u8 0, .int .u8 0, .int .u8 0, .int .u8 0, .int .i64 0] (by kernel_rfl) ?_; clear S M a; intro a w11 bS2 S M hB
    refine st_store (sz := 14) (us := [_, _, _, _, _, _, _, _, _, _, _, _, _, _]) S M 0 rfl (by kernel_rfl) rfl rfl rfl rfl rfl rfl (by first | decide | (simp; done) | (simp; omega)) ?_; clear M; intro w12 M
    simp only [putL, List.set_cons_zero, List.set_cons_succ, Nat.reduceAdd] at M
    refine nxC ?_
    replace M := M.front 1 rfl
    simp only [List.eraseIdx_cons_succ, List.eraseIdx_cons_zero] at M
    refine ⟨_, M, ?_⟩; clear M; intro wb BK M
    refine wpIn_block ?_
    refine wpIn_seq ?_
    refine wpI_region (by kernel_rfl) (fun _ _ h => h) ?_
    refine st_run [1, 2, 1] S M rfl (by kernel_rfl) ?_; clear S a; intro a S
    refine nxC ?_
    refine st_if (t := 33) S rfl ?_ ?_
    · clear S; intro h33 S
      refine stI_condT S rfl ?_
      refine wpI_region (by kernel_rfl) (fun _ _ h => h) ?_
      refine st_run [5, 2] S M rfl (by kernel_rfl) ?_; clear S a; intro a S
      refine st_y S rfl rfl rfl (y_indexA (m := 32) (sz := 1) S (by kernel_rfl) rfl rfl (by first | omega | (simp; done) | (simp; omega))) ?_; clear S a; intro a S
      try simp only [Int.toNat_natCast, Nat.mul_one, Nat.zero_add] at S
      refine st_store (sz := 1) (us := [_]) S M 3 rfl (by kernel_rfl) rfl rfl rfl rfl rfl rfl (by first | decide | (simp; done) | (simp; omega)) ?_; clear M; intro w13 M
      simp only [List.set_cons_zero, List.set_cons_succ] at M
      replace S := S.sub [(0, _), (2, _), (4, _), (5, _), (3, _), (8, _), (10, _), (33, _)] rfl
      refine wpList_nil ?_
      refine block_normal ?_
      skip
      replace M := M.drop 1
      simp only [List.eraseIdx_cons_succ, List.eraseIdx_cons_zero] at M
      first
        | (rw [bput (show kb < bl.length by omega)] at M
           exact ⟨_, M, ml, c, bl.set kb true, rfl, hG, ti_write hT h33 rfl hkb⟩)
        | exact ⟨_, M, _, _, bl, rfl, hG.put _ _, ti_read hT h33 rfl hkb (hbv.trans (congrArg some (by simpa using h41)))⟩
        | exact ⟨_, M, ml, c, bl, rfl, hG, ti_own hT h33 rfl hkb (hbv.trans (congrArg some (by simpa using h41)))⟩
    clear S; intro h33 S
    refine stI_condF S rfl ?_
    refine wpIn_seq ?_
    refine wpI_region (by kernel_rfl) (fun _ _ h => h) ?_
    refine st_run [5, 2] S M rfl (by kernel_rfl) ?_; clear S a; intro a S
    refine st_y S rfl rfl rfl (y_indexA (m := 32) (sz := 1) S (by kernel_rfl) rfl rfl (by first | omega | (simp; done) | (simp; omega))) ?_; clear S a; intro a S
    try simp only [Int.toNat_natCast, Nat.mul_one, Nat.zero_add] at S
    refine st_y S rfl rfl rfl (y_load S (by kernel_rfl) rfl (M.cell 3 rfl (bool_at hbv))) ?_; clear S a; intro a S
    refine st_go [1] S rfl (by kernel_rfl) ?_; clear S a; intro a S
    replace S := S.sub [(0, _), (2, _), (4, _), (5, _), (3, _), (8, _), (10, _), (33, _), (41, _)] rfl
    refine nxC ?_
    refine st_fi (t := 41) S rfl ?_ ?_
    · clear S; intro h41 S
      refine stI_condF S rfl ?_
      refine wpIn_skip ?_
      refine block_normal ?_
      skip
      replace M := M.drop 1
      simp only [List.eraseIdx_cons_succ, List.eraseIdx_cons_zero] at M
      first
        | (rw [bput (show kb < bl.length by omega)] at M
           exact ⟨_, M, ml, c, bl.set kb true, rfl, hG, ti_write hT h33 rfl hkb⟩)
        | exact ⟨_, M, _, _, bl, rfl, hG.put _ _, ti_read hT h33 rfl hkb (hbv.trans (congrArg some (by simpa using h41)))⟩
        | exact ⟨_, M, ml, c, bl, rfl, hG, ti_own hT h33 rfl hkb (hbv.trans (congrArg some (by simpa using h41)))⟩
    clear S; intro h41 S
    refine stI_condT S rfl ?_
    refine wpI_region (by kernel_rfl) (fun _ _ h => h) ?_
    refine st_run [5, 5, 2] S M rfl (by kernel_rfl) ?_; clear S a; intro a S
    refine st_y S rfl rfl rfl (y_lookupM (pos := 5) S M (keyI) (hG) Try.underlying56 (zero_int) rfl rfl rfl) ?_; clear S a; intro a S
    simp only [Bool.false_eq_true, if_false, hvn] at S
    (first | refine st_y S rfl rfl rfl (y_addN S rfl rfl (by omega)) ?_ | refine st_y S rfl rfl rfl (y_int S rfl rfl rfl) ?_); clear S a; intro a S
    refine st_updateM (pos := 5) S M (keyI) (hG) Try.underlying56 rfl rfl rfl rfl rfl ?_; clear M; intro w14 M
    simp only [List.set_cons_zero, List.set_cons_succ] at M
    refine wpList_nil ?_
    refine block_normal ?_
    skip
    replace M := M.drop 1
    simp only [List.eraseIdx_cons_succ, List.eraseIdx_cons_zero] at M
    first
      | (rw [bput (show kb < bl.length by omega)] at M
         exact ⟨_, M, ml, c, bl.set kb true, rfl, hG, ti_write hT h33 rfl hkb⟩)
      | exact ⟨_, M, _, _, bl, rfl, hG.put _ _, ti_read hT h33 rfl hkb (hbv.trans (congrArg some (by simpa using h41)))⟩
      | exact ⟨_, M, ml, c, bl, rfl, hG, ti_own hT h33 rfl hkb (hbv.trans (congrArg some (by simpa using h41)))⟩
  intro D2 wd Hs a hI M S
  obtain ⟨ml, c, bl, rfl, hG, hT⟩ := hI
  have hml := hT.les
  refine block_normal ?_
  refine nxE ?_
  skip
  replace M := M.front 4 rfl
  simp only [List.eraseIdx_cons_succ, List.eraseIdx_cons_zero] at M
  replace M := M.front 4 rfl
  simp only [List.eraseIdx_cons_succ, List.eraseIdx_cons_zero] at M
  refine st_y S rfl rfl rfl (y_move S rfl) ?_; clear S a; intro a S
  refine st_callB (xs := []) (fi := []) (ca := [_]) S (enters_of Try.func20 (by decide) rfl) rfl rfl (rfl) rfl (rising_any hG M (by omega)) ?_
  rintro _ w15 ⟨ra, rc, lo2, hi2, rs, rfl, hperm2, M1⟩; refine ⟨_, rfl, ?_⟩; clear S a; intro a S; replace M := M1; clear M1
  refine st_go [1, 1, 1] S rfl (by kernel_rfl) ?_; clear S a; intro a S
  replace S := S.sub [(0, _), (4, _), (5, _), (8, _), (2, _), (3, _)] rfl
  refine nxC ?_
  refine wp_ret ?_
  refine end_mark S M 3 rfl ?_; clear S M a; intro a wM S M
  simp only [List.eraseIdx_cons_succ, List.eraseIdx_cons_zero] at M
  refine end_mark S M 7 rfl ?_; clear S M a; intro a wM S M
  simp only [List.eraseIdx_cons_succ, List.eraseIdx_cons_zero] at M
  refine end_plain ?_
  refine end_two S rfl (res_tmp rfl) (res_tmp rfl) ?_
  skip
  replace M := M.drop 1
  simp only [List.eraseIdx_cons_succ, List.eraseIdx_cons_zero] at M
  replace M := M.drop 1
  simp only [List.eraseIdx_cons_succ, List.eraseIdx_cons_zero] at M
  replace M := M.drop 1
  simp only [List.eraseIdx_cons_succ, List.eraseIdx_cons_zero] at M
  replace M := M.drop 1
  simp only [List.eraseIdx_cons_succ, List.eraseIdx_cons_zero] at M
  replace M := M.drop 1
  simp only [List.eraseIdx_cons_succ, List.eraseIdx_cons_zero] at M
  exact ⟨ra, rc, wa, wc, rs, ws, lo2, hi2, lo1, hi1, rfl, M, fun k => by rw [hperm2.mem_iff]; exact hT.keys k, fun k => by rw [hperm.mem_iff]; exact hT1.keys k, by rw [hperm2.length_eq, List.length_map]; omega, by rw [hperm.length_eq, List.length_map]; omega⟩

end Go.Proofs.Ytgngbdhdnnkncaa
