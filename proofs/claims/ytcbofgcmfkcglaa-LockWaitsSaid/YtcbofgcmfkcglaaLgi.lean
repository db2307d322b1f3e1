/-
  slices.Insert of a lock, anywhere.
-/
import Derived.Test.YtcbofgcmfkcglaaLf
import Derived.Test.YtcbofgcmfkcglaaStr
import Derived.Test.YtcbofgcmfkcglaaCpy
namespace Go.Proofs.Ytcbofgcmfkcglaa
open Go.RowKit Go.Sort

def insL (l : List Lk) (i : Nat) (x : Lk) : List Lk := l.take i ++ x :: l.drop i
theorem insL_len {l : List Lk} {i : Nat} (hi : i ≤ l.length) (x : Lk) : (insL l i x).length = l.length + 1 := by
  unfold insL; simp only [List.length_append, List.length_take, List.length_cons, List.length_drop]; omega
theorem insL_cells (l : List Lk) (i : Nat) (x : Lk) : lcells (insL l i x) = lcells (l.take i) ++ (x.cellsL ++ lcells (l.drop i)) := by
  unfold insL; simp [lcells]
theorem insL_end (l : List Lk) (x : Lk) : insL l l.length x = l ++ [x] := by unfold insL; simp
theorem two_len {l us : List Value} {o : Nat} (h : o + us.length ≤ l.length) : (l.take o ++ us ++ l.drop (o + us.length)).length = l.length := by
  simp only [List.length_append, List.length_take, List.length_drop]; omega
theorem two_take {l us : List Value} {o : Nat} (h : o + us.length ≤ l.length) : (l.take o ++ us ++ l.drop (o + us.length)).take (o + us.length) = l.take o ++ us := by
  have e : (l.take o ++ us).length = o + us.length := by simp only [List.length_append, List.length_take]; omega
  rw [← e]; exact List.take_left
theorem grow_take {A us C more : List Value} {o : Nat} (ho : A.length = o) (h : o + us.length + C.length ≤ (A ++ more).length) :
    ((((A ++ more).take o ++ us ++ (A ++ more).drop (o + us.length)).take (o + us.length) ++ C ++ ((A ++ more).take o ++ us ++ (A ++ more).drop (o + us.length)).drop (o + us.length + C.length))).take (o + us.length + C.length) = A ++ (us ++ C) := by
  have h1 := two_len (l := A ++ more) (us := us) (o := o) (by omega)
  rw [two_take (by omega), two_take (by omega), ← ho, List.take_left, List.append_assoc]
theorem in_take {A us C more : List Value} {o : Nat} (ho : A.length = o) (h : o + us.length + C.length ≤ ((A ++ C) ++ more).length) :
    (((((A ++ C) ++ more).take (o + us.length) ++ C ++ ((A ++ C) ++ more).drop (o + us.length + C.length)).take o ++ us ++ (((A ++ C) ++ more).take (o + us.length) ++ C ++ ((A ++ C) ++ more).drop (o + us.length + C.length)).drop (o + us.length))).take (o + us.length + C.length) = A ++ (us ++ C) := by
  have e0 : (((A ++ C) ++ more).take (o + us.length)).length = o + us.length := by rw [List.length_take]; omega
  have e1 : (((A ++ C) ++ more).take (o + us.length) ++ C ++ ((A ++ C) ++ more).drop (o + us.length + C.length)).take o = A := by
    rw [List.append_assoc, List.take_append_of_le_length (by omega), List.take_take, Nat.min_eq_left (by omega), List.append_assoc, ← ho, List.take_left]
  have e2 : (((A ++ C) ++ more).take (o + us.length) ++ C ++ ((A ++ C) ++ more).drop (o + us.length + C.length)).drop (o + us.length) = C ++ ((A ++ C) ++ more).drop (o + us.length + C.length) := by
    rw [List.append_assoc]
    have := List.drop_left (l₁ := ((A ++ C) ++ more).take (o + us.length)) (l₂ := C ++ ((A ++ C) ++ more).drop (o + us.length + C.length))
    rw [e0] at this; exact this
  rw [e1, e2, ← List.append_assoc, ← List.append_assoc]
  have e3 : (A ++ us ++ C).length = o + us.length + C.length := by simp only [List.length_append]; omega
  rw [← e3]; exact List.take_left
theorem subA_at5 {g i c : Nat} (h : i < c) : subA (some ⟨g, 0, none⟩) i c 5 = some ⟨g, i * 5, none⟩ := by
  unfold subA; rw [if_neg (by omega)]; simp [Addr.add]; exact fun h => h.symm
theorem lcells_drop {l : List Lk} {i : Nat} (hi : i ≤ l.length) : (lcells l).drop (i * 5) = lcells (l.drop i) := by
  conv => lhs; rw [← List.take_append_drop i l, lcells_append]
  rw [show i * 5 = (lcells (l.take i)).length by rw [lcells_length, List.length_take, Nat.min_eq_left hi]]
  exact List.drop_left
theorem lcells_two {l : List Lk} {i : Nat} : lcells l = lcells (l.take i) ++ lcells (l.drop i) := by
  rw [← lcells_append, List.take_append_drop]
abbrev zLk : List Value := [.int .i64 0, .int .i64 0, .int .i64 0, .int .i64 0, .bool false]
set_option maxHeartbeats 2000000 in
theorem insert_any {wc w : World} {H : List Ent} {lo hi : Nat} {la : Option Addr} {lc i bZ : Nat} {l : List Lk} {x : Lk} (M : Mem wc w (rowE lo hi 37 5 (.slice la l.length lc) l.length (lcells l) :: .blk bZ x.cellsL.toArray 37 :: H)) (hl : l.length ≤ 1000000) (hi' : i ≤ l.length) :
    Calls Try.prog 25 #[.slice la l.length lc, .int .i64 (i : Int), .slice (some ⟨bZ, 0, none⟩) 1 1] w fun e w' => ∃ la' lc' lo' hi', e = .returned (.slice la' (l.length + 1) lc') ∧ Mem wc w' (rowE lo' hi' 37 5 (.slice la' (l.length + 1) lc') (l.length + 1) (lcells (insL l i x)) :: .blk bZ x.cellsL.toArray 37 :: H) := by
  have hxl : x.cellsL.length = 5 := rfl
  have hAl : (lcells (l.take i)).length = i * 5 := by rw [lcells_length, List.length_take, Nat.min_eq_left hi']
  have hCl : (lcells (l.drop i)).length = (l.length - i) * 5 := by rw [lcells_length, List.length_drop]
  refine calls_enter Try.func25 rfl 95 rfl rfl ?_; intro a S
  refine wp_seq ?_
  skip
  refine wp_region_lit ?_
  refine st_go [1] S rfl (by kernel_rfl) ?_; clear S a; intro a S
  refine nxA ?_
  refine st_go [1, 1] S rfl (by kernel_rfl) ?_; clear S a; intro a S
  refine st_y S rfl rfl rfl (y_slice1R (e := 37) (sz := 5) S (by kernel_rfl) rfl (M.readAll 0 rfl (by unfold maxLen; omega)) rfl (by first | omega | (simp; done) | (simp; omega))) ?_; clear S a; intro a S
  refine nxA ?_
  refine st_go [1] S rfl (by kernel_rfl) ?_; clear S a; intro a S
  refine st_y S rfl rfl rfl (y_lenS (E := 37) S rfl (by kernel_rfl)) ?_; clear S a; intro a S
  refine st_go [1] S rfl (by kernel_rfl) ?_; clear S a; intro a S
  refine nxC ?_
  refine wp_seq ?_
  refine nxD ?_
  refine st_go [1, 1] S rfl (by kernel_rfl) ?_; clear S a; intro a S
  refine nxC ?_
  refine st_if (t := 16) S rfl ?_ ?_
  · clear S; intro h16 S
    exfalso; first | omega | (simp at h16; done)
  clear S; intro h16 S
  refine st_condF S rfl ?_
  refine wp_skip ?_
  refine nxE ?_
  refine st_go [1] S rfl (by kernel_rfl) ?_; clear S a; intro a S
  refine st_y S rfl rfl rfl (y_lenS (E := 37) S rfl (by kernel_rfl)) ?_; clear S a; intro a S
  refine st_go [1] S rfl (by kernel_rfl) ?_; clear S a; intro a S
  refine nxC ?_
  refine wp_seq ?_
  refine nxD ?_
  refine st_go [1, 1, 1] S rfl (by kernel_rfl) ?_; clear S a; intro a S
  refine nxC ?_
  refine st_if (t := 22) S rfl ?_ ?_
  · clear S; intro h22 S
    refine st_condT S rfl ?_
    refine nxD ?_
    refine st_go [1, 1] S rfl (by kernel_rfl) ?_; clear S a; intro a S
    refine st_append (e := 37) (sz := 5) (by_ := 40) (zc := [.int .i64 0, .int .i64 0, .int .i64 0, .int .i64 0, .bool false]) S M 0 rfl rfl (by kernel_rfl) rfl (by decide) rfl rfl rfl (show Rd _ _ _ 5 _ 1 x.cellsL from M.sliceAt 1 rfl (M.cellsAt (k := 5) 1 rfl rfl) rfl (Nat.le_refl _) (by unfold maxLen; omega)) (rfl) (by omega) (by unfold maxLen; omega) ?_; clear S M a; intro a w1 vA loA hiA S M
    obtain ⟨aA, cA, rfl, -, -⟩ := (M.readAll 0 rfl (by unfold maxLen; omega)).form
    refine st_y S rfl rfl rfl (y_assign S rfl) ?_; clear S a; intro a S
    refine nxC ?_
    refine wp_ret ?_
    refine then_ret ?_
    refine end_one S rfl (res_tmp rfl) ?_
    obtain rfl : i = l.length := by omega
    exact ⟨aA, cA, loA, hiA, rfl, by rw [insL_end, lcells_append]; exact M⟩
  clear S; intro h22 S
  refine st_condF S rfl ?_
  refine wp_skip ?_
  refine then_normal ?_
  refine wp_seq ?_
  refine wp_seq ?_
  have hlt : i < l.length := by omega
  obtain ⟨gb, cap, more, hv, hc1, hc2, hc3, M1⟩ := M.ofRow (by omega)
  clear M; have M := M1; clear M1
  injection hv with e1 e2 e3
  subst e1 e3
  have hne : bZ ≠ gb := by
    have := (List.pairwise_cons.1 M.apart).1 _ (List.mem_cons_self ..)
    rcases this with h | h <;> simp only [Ent.lo, Ent.hi] at h <;> omega
  have hlen : (lcells l ++ more).length = lc * 5 := hc3
  have hclA : ∀ (W : World), Blk W gb (lcells l ++ more).toArray 37 → CellsAt W gb (i * 5) (lcells (l.drop i)) := fun W B => by
    have := (Rd.of_blk B (lcells_length l) hc1 hc2 (by rw [List.toList_toArray, ← lcells_length l]; exact List.take_left)).at_
    simp only [adr] at this
    rw [← lcells_drop hi']
    intro j hj
    rw [List.length_drop] at hj
    have := this (i * 5 + j) (by omega)
    rw [Nat.zero_add] at this
    rw [this, List.getElem?_drop]
  have e5 : (i + 1) * 5 = i * 5 + x.cellsL.length := by rw [hxl]; omega
  have hil : (lcells (insL l i x)).length = (l.length + 1) * 5 := by rw [lcells_length, insL_len hi']
  have etot : i * 5 + x.cellsL.length + (lcells (l.drop i)).length = (l.length + 1) * 5 := by rw [hxl, hCl]; omega
  refine wp_region_lit ?_
  refine st_go [1, 1] S rfl (by kernel_rfl) ?_; clear S a; intro a S
  (first | refine st_y S rfl rfl rfl (y_addN S rfl rfl (by omega)) ?_ | refine st_y S rfl rfl rfl (y_int S rfl rfl rfl) ?_); clear S a; intro a S
  refine st_go [1] S rfl (by kernel_rfl) ?_; clear S a; intro a S
  refine st_y S rfl rfl rfl (y_capS (E := 37) S rfl (by kernel_rfl)) ?_; clear S a; intro a S
  refine st_go [1] S rfl (by kernel_rfl) ?_; clear S a; intro a S
  replace S := S.sub [(0, _), (1, _), (2, _), (6, _), (7, _), (16, _), (8, _), (22, _), (31, _)] rfl
  refine nxC ?_
  refine st_if (t := 31) S rfl ?_ ?_
  · clear S; intro h31 S
    refine st_condT S rfl ?_
    refine nxD ?_
    refine st_go [1, 1] S rfl (by kernel_rfl) ?_; clear S a; intro a S
    refine st_y S rfl rfl rfl (y_slice02 (e := 37) (sz := 5) S (by kernel_rfl) rfl rfl (by first | omega | (simp; done) | (simp; omega))) ?_; clear S a; intro a S
    refine st_go [1, 1] S rfl (by kernel_rfl) ?_; clear S a; intro a S
    (first | refine st_y S rfl rfl rfl (y_addN S rfl rfl (by omega)) ?_ | refine st_y S rfl rfl rfl (y_int S rfl rfl rfl) ?_); clear S a; intro a S
    refine st_go [1] S rfl (by kernel_rfl) ?_; clear S a; intro a S
    (first | refine st_y S rfl rfl rfl (y_subN S rfl rfl (by omega)) ?_ | refine st_y S rfl rfl rfl (y_int S rfl rfl rfl) ?_); clear S a; intro a S
    simp only [Int.toNat_natCast] at S
    rw [show ((l.length : Int) + ((1 : Nat) : Int) - (i : Int)) = ((l.length + 1 - i : Nat) : Int) by omega] at S
    refine st_appendZ (e := 37) (sz := 5) (by_ := 40) (zc := zLk) (kn := .i64) (xs := lcells (l.take i)) (k := l.length + 1 - i) S M 0 rfl rfl (by kernel_rfl) (by kernel_rfl) rfl (by decide) rfl rfl rfl (by rw [lcells_two (i := i), List.append_assoc, ← hAl]; exact List.take_left) hAl (by omega) (by omega) (by omega) (by unfold maxLen; omega) ?_
    clear S M a; intro a wz bN capN moreN S hcN hcN2 hlN M
    rw [show i + (l.length + 1 - i) = l.length + 1 by omega] at S hcN
    refine st_go [1] S rfl (by kernel_rfl) ?_; clear S a; intro a S
    refine nxA ?_
    refine st_go [1, 1] S rfl (by kernel_rfl) ?_; clear S a; intro a S
    refine st_y S rfl rfl rfl (y_slice1 (e := 37) (sz := 5) S (by kernel_rfl) rfl rfl (by first | omega | (simp; done) | (simp; omega))) ?_; clear S a; intro a S
    refine st_go [1] S rfl (by kernel_rfl) ?_; clear S a; intro a S
    simp only [Int.toNat_natCast] at S
    rw [subA_at5 (by omega)] at S
    refine st_copyN (e := 37) (sz := 5) (us := x.cellsL) S M 0 rfl rfl (by kernel_rfl) rfl rfl rfl (M.cellsAt (k := 5) 2 rfl rfl) (by rw [hxl]; simp only [Nat.min_def]; split <;> omega) rfl (by rw [hxl, hlN]; omega) ?_
    clear S M a; intro a wy S M
    simp only [List.set_cons_zero, List.set_cons_succ] at M
    replace S := S.sub [(0, _), (1, _), (2, _), (6, _), (7, _), (16, _), (8, _), (22, _), (31, _), (9, _)] rfl
    refine nxC ?_
    refine wp_seq ?_
    refine wp_regionK [8, 8] #[false, false, false, false, false, false, false, false, false] rfl M (by kernel_rfl) ?_; clear M; intro w2 M
    refine k_pure (listed' := #[true, false, false, false, false, false, false, false, false]) 0 S rfl rfl rfl rfl (by kernel_rfl) rfl (fun _ d _ _ _ h => by cases d <;> exact h) (fun w => y_move S rfl) ?_; clear S a; intro a S
    refine k_pure (listed' := #[true, true, false, false, false, false, false, false, false]) 1 S rfl rfl rfl rfl (by kernel_rfl) rfl (fun _ d _ _ _ h => by cases d <;> exact h) (fun w => y_move S rfl) ?_; clear S a; intro a S
    refine k_pure (listed' := #[true, true, true, false, false, false, false, false, false]) 2 S rfl rfl rfl rfl (by kernel_rfl) rfl (fun _ d _ _ _ h => by cases d <;> exact h) (fun w => y_move S rfl) ?_; clear S a; intro a S
    (first | refine k_pure (listed' := #[true, true, true, true, false, false, false, false, false]) 3 S rfl rfl rfl rfl (by kernel_rfl) rfl (fun _ d _ _ _ h => by cases d <;> exact h) (fun w => y_addN S rfl rfl (by omega)) ?_ | refine k_pure (listed' := #[true, true, true, true, false, false, false, false, false]) 3 S rfl rfl rfl rfl (by kernel_rfl) rfl (fun _ d _ _ _ h => by cases d <;> exact h) (fun w => y_int S rfl rfl rfl) ?_); clear S a; intro a S
    refine k_pure (listed' := #[true, true, true, true, true, false, false, false, false]) 4 S rfl rfl rfl rfl (by kernel_rfl) rfl (fun _ d _ _ _ h => by cases d <;> exact h) (fun w => y_slice1 (e := 37) (sz := 5) S (by kernel_rfl) rfl rfl (by first | omega | (simp; done) | (simp; omega))) ?_; clear S a; intro a S
    refine k_pure (listed' := #[true, true, true, true, true, true, false, false, false]) 5 S rfl rfl rfl rfl (by kernel_rfl) rfl (fun _ d _ _ _ h => by cases d <;> exact h) (fun w => y_move S rfl) ?_; clear S a; intro a S
    refine k_pure (listed' := #[true, true, true, true, true, true, true, false, false]) 6 S rfl rfl rfl rfl (by kernel_rfl) rfl (fun _ d _ _ _ h => by cases d <;> exact h) (fun w => y_move S rfl) ?_; clear S a; intro a S
    refine k_pure (listed' := #[true, true, true, true, true, true, true, true, false]) 7 S rfl rfl rfl rfl (by kernel_rfl) rfl (fun _ d _ _ _ h => by cases d <;> exact h) (fun w => y_slice1 (e := 37) (sz := 5) S (by kernel_rfl) rfl rfl (by first | omega | (simp; done) | (simp; omega))) ?_; clear S a; intro a S
    refine k_one (listed' := #[true, true, true, true, true, true, true, true, true]) 8 rfl (by kernel_rfl) rfl ?_
    rw [show ((i : Int) + ((1 : Nat) : Int)).toNat = i + 1 by omega, Int.toNat_natCast, subA_at5 (show i < lc by omega), subA_at5 (show i + 1 < capN by omega)] at S
    refine st_copyN (e := 37) (sz := 5) (us := lcells (l.drop i)) S M 0 rfl rfl (by kernel_rfl) rfl rfl rfl (hclA _ (M.blk 1 rfl)) (by rw [hCl]; simp only [Nat.min_def]; congr 1; split <;> omega) (allOne_lcells _) (by rw [two_len (by rw [hxl, hlN]; omega), hlN, hCl]; omega) ?_
    clear S M a; intro a wx S M
    simp only [List.set_cons_zero, List.set_cons_succ] at M
    refine wpList_nil ?_; refine then_normal ?_; refine ⟨fun h => absurd h (by decide), ?_⟩
    refine k_end (by kernel_rfl) ?_
    refine nxE ?_
    refine st_go [1, 1] S rfl (by kernel_rfl) ?_; clear S a; intro a S
    refine nxC ?_
    refine wp_ret ?_
    refine then_ret ?_
    refine end_one S rfl (res_tmp rfl) ?_
    skip
    replace M := M.drop 1
    simp only [List.eraseIdx_cons_succ, List.eraseIdx_cons_zero] at M
    rw [e5] at M
    have hfit : i * 5 + x.cellsL.length + (lcells (l.drop i)).length ≤ (lcells (l.take i) ++ moreN).length := by rw [hlN, etot]; omega
    have h2 := two_len (l := lcells (l.take i) ++ moreN) (us := x.cellsL) (o := i * 5) (by omega)
    have M2 := M.toRow (sz := 5) (m := l.length + 1) (cap := capN) (xs := lcells (insL l i x)) 0 rfl hil hcN hcN2 (by rw [List.size_toArray, two_len (by rw [h2]; omega), h2, hlN]) (by rw [List.toList_toArray, ← etot, insL_cells]; exact grow_take hAl hfit)
    exact ⟨_, _, _, _, rfl, M2⟩
  clear S; intro h31 S
  refine st_condF S rfl ?_
  refine wp_skip ?_
  refine nxE ?_
  refine st_go [1, 1, 1] S rfl (by kernel_rfl) ?_; clear S a; intro a S
  (first | refine st_y S rfl rfl rfl (y_addN S rfl rfl (by omega)) ?_ | refine st_y S rfl rfl rfl (y_int S rfl rfl rfl) ?_); clear S a; intro a S
  refine st_y S rfl rfl rfl (y_slice02 (e := 37) (sz := 5) S (by kernel_rfl) rfl rfl (by first | omega | (simp; done) | (simp; omega))) ?_; clear S a; intro a S
  rw [show ((l.length : Int) + ((1 : Nat) : Int)).toNat = l.length + 1 by omega] at S
  refine st_y S rfl rfl rfl (y_assign S rfl) ?_; clear S a; intro a S
  refine nxC ?_
  refine wp_seq ?_
  refine nxD ?_
  refine st_go [1, 1, 1, 1] S rfl (by kernel_rfl) ?_; clear S a; intro a S
  (first | refine st_y S rfl rfl rfl (y_addN S rfl rfl (by omega)) ?_ | refine st_y S rfl rfl rfl (y_int S rfl rfl rfl) ?_); clear S a; intro a S
  refine st_y S rfl rfl rfl (y_slice1 (e := 37) (sz := 5) S (by kernel_rfl) rfl rfl (by first | omega | (simp; done) | (simp; omega))) ?_; clear S a; intro a S
  rw [show ((i : Int) + ((1 : Nat) : Int)).toNat = i + 1 by omega, subA_at5 (show i + 1 < lc by omega)] at S
  refine st_overlaps (e := 37) (size := 5) (tS := 28) (tR := 4) S M 1 0 Try.func42 (by kernel_rfl) (by kernel_rfl) (by kernel_rfl) (by kernel_rfl) (by kernel_rfl) rfl rfl rfl rfl hne rfl rfl (by rw [List.size_toArray, hlen]; omega) ?_
  clear S a; intro a S
  refine st_go [1] S rfl (by kernel_rfl) ?_; clear S a; intro a S
  refine nxC ?_
  refine st_fi (t := 68) S rfl ?_ ?_
  · clear S; intro h68 S
    cases h68
  clear S; intro h68 S
  refine st_condT S rfl ?_
  refine wp_seq ?_
  refine wp_regionK [8, 8] #[false, false, false, false, false, false, false, false, false] rfl M (by kernel_rfl) ?_; clear M; intro w3 M
  refine k_pure (listed' := #[true, false, false, false, false, false, false, false, false]) 0 S rfl rfl rfl rfl (by kernel_rfl) rfl (fun _ d _ _ _ h => by cases d <;> exact h) (fun w => y_move S rfl) ?_; clear S a; intro a S
  refine k_pure (listed' := #[true, true, false, false, false, false, false, false, false]) 1 S rfl rfl rfl rfl (by kernel_rfl) rfl (fun _ d _ _ _ h => by cases d <;> exact h) (fun w => y_move S rfl) ?_; clear S a; intro a S
  refine k_pure (listed' := #[true, true, true, false, false, false, false, false, false]) 2 S rfl rfl rfl rfl (by kernel_rfl) rfl (fun _ d _ _ _ h => by cases d <;> exact h) (fun w => y_move S rfl) ?_; clear S a; intro a S
  (first | refine k_pure (listed' := #[true, true, true, true, false, false, false, false, false]) 3 S rfl rfl rfl rfl (by kernel_rfl) rfl (fun _ d _ _ _ h => by cases d <;> exact h) (fun w => y_addN S rfl rfl (by omega)) ?_ | refine k_pure (listed' := #[true, true, true, true, false, false, false, false, false]) 3 S rfl rfl rfl rfl (by kernel_rfl) rfl (fun _ d _ _ _ h => by cases d <;> exact h) (fun w => y_int S rfl rfl rfl) ?_); clear S a; intro a S
  refine k_pure (listed' := #[true, true, true, true, true, false, false, false, false]) 4 S rfl rfl rfl rfl (by kernel_rfl) rfl (fun _ d _ _ _ h => by cases d <;> exact h) (fun w => y_slice1 (e := 37) (sz := 5) S (by kernel_rfl) rfl rfl (by first | omega | (simp; done) | (simp; omega))) ?_; clear S a; intro a S
  refine k_pure (listed' := #[true, true, true, true, true, true, false, false, false]) 5 S rfl rfl rfl rfl (by kernel_rfl) rfl (fun _ d _ _ _ h => by cases d <;> exact h) (fun w => y_move S rfl) ?_; clear S a; intro a S
  refine k_pure (listed' := #[true, true, true, true, true, true, true, false, false]) 6 S rfl rfl rfl rfl (by kernel_rfl) rfl (fun _ d _ _ _ h => by cases d <;> exact h) (fun w => y_move S rfl) ?_; clear S a; intro a S
  refine k_pure (listed' := #[true, true, true, true, true, true, true, true, false]) 7 S rfl rfl rfl rfl (by kernel_rfl) rfl (fun _ d _ _ _ h => by cases d <;> exact h) (fun w => y_slice1 (e := 37) (sz := 5) S (by kernel_rfl) rfl rfl (by first | omega | (simp; done) | (simp; omega))) ?_; clear S a; intro a S
  refine k_one (listed' := #[true, true, true, true, true, true, true, true, true]) 8 rfl (by kernel_rfl) rfl ?_
  rw [show ((i : Int) + ((1 : Nat) : Int)).toNat = i + 1 by omega, Int.toNat_natCast, subA_at5 (show i < lc by omega), subA_at5 (show i + 1 < lc by omega)] at S
  refine st_copyN (e := 37) (sz := 5) (us := lcells (l.drop i)) S M 0 rfl rfl (by kernel_rfl) rfl rfl rfl (hclA _ (M.blk 0 rfl)) (by rw [hCl]; simp only [Nat.min_def]; congr 1; split <;> omega) (allOne_lcells _) (by rw [hlen, hCl]; omega) ?_
  clear S M a; intro a wx S M
  simp only [List.set_cons_zero, List.set_cons_succ] at M
  refine wpList_nil ?_; refine then_normal ?_; refine ⟨fun h => absurd h (by decide), ?_⟩
  refine k_end (by kernel_rfl) ?_
  replace S := S.sub [(1, _), (2, _), (6, _), (7, _), (16, _), (8, _), (22, _), (31, _), (0, _), (68, _)] rfl
  refine nxE ?_
  refine st_go [1, 1] S rfl (by kernel_rfl) ?_; clear S a; intro a S
  refine st_y S rfl rfl rfl (y_slice1 (e := 37) (sz := 5) S (by kernel_rfl) rfl rfl (by first | omega | (simp; done) | (simp; omega))) ?_; clear S a; intro a S
  refine st_go [1] S rfl (by kernel_rfl) ?_; clear S a; intro a S
  simp only [Int.toNat_natCast] at S
  rw [subA_at5 (show i < lc by omega)] at S
  refine st_copyN (e := 37) (sz := 5) (us := x.cellsL) S M 0 rfl rfl (by kernel_rfl) rfl rfl rfl (M.cellsAt (k := 5) 1 rfl rfl) (by rw [hxl]; simp only [Nat.min_def]; split <;> omega) rfl (by rw [two_len (by rw [hlen, hCl]; omega), hlen, hxl]; omega) ?_
  clear S M a; intro a wy S M
  simp only [List.set_cons_zero, List.set_cons_succ] at M
  refine nxA ?_
  refine st_go [1, 1] S rfl (by kernel_rfl) ?_; clear S a; intro a S
  refine nxC ?_
  refine wp_ret ?_
  refine then_ret ?_
  refine end_one S rfl (res_tmp rfl) ?_
  skip
  rw [e5, lcells_two (i := i)] at M
  rw [lcells_two (i := i)] at hlen
  have hfit : i * 5 + x.cellsL.length + (lcells (l.drop i)).length ≤ ((lcells (l.take i) ++ lcells (l.drop i)) ++ more).length := by rw [hlen, etot]; omega
  have h2 := two_len (l := (lcells (l.take i) ++ lcells (l.drop i)) ++ more) (us := lcells (l.drop i)) (o := i * 5 + x.cellsL.length) hfit
  have M2 := M.toRow (sz := 5) (m := l.length + 1) (cap := lc) (xs := lcells (insL l i x)) 0 rfl hil (by omega) hc2 (by rw [List.size_toArray, two_len (by rw [h2]; omega), h2, hlen]) (by rw [List.toList_toArray, ← etot, insL_cells]; exact in_take hAl hfit)
  exact ⟨_, _, _, _, rfl, M2⟩

end Go.Proofs.Ytcbofgcmfkcglaa
