/-
  What SessionNumbers rests on, part 3.
-/
import Derived.Test.YtniijiipkfhjgaaP2
namespace Go.Proofs.Ytniijiipkfhjgaa
open Go.RowKit Go.Sort
abbrev endE (b b3 b4 b5 b7 : Nat) (o : Ope) (i : Nat) (kd : Int) (A : List Ent) : List Ent := .blk b7 o.cellsL.toArray 65 :: .blk b5 #[.int .i8 kd] 35 :: .blk b4 #[.int .i64 (i : Int)] 3 :: .blk b3 #[.pointer (some ⟨b, 0, none⟩)] 76 :: A
set_option maxHeartbeats 2000000 in
theorem ending_any {wc w : World} {A E : List Ent} {b : Nat} {D : Dsk} (i : Nat) (o : Ope) (kd : Int) (hE : DeskE b D E) (M : Mem wc w (A ++ E)) (hs : D.mid) (ho : D.s.l[i]? = some o) :
    Calls Try.prog 24 #[.pointer (some ⟨b, 0, none⟩), .int .i64 (i : Int), .int .i8 kd] w fun e w' => ∃ b3 b4 b5 b7, e = .returned (.func (.func 48) #[] #[.pointer (some ⟨b3, 0, none⟩), .pointer (some ⟨b7, 0, none⟩), .pointer (some ⟨b4, 0, none⟩), .pointer (some ⟨b5, 0, none⟩)]) ∧ ∃ E', DeskE b D E' ∧ Mem wc w' (endE b b3 b4 b5 b7 o i kd A ++ E') := by
  have hsl := hs.l
  obtain ⟨hil, -⟩ := List.getElem?_eq_some_iff.1 ho
  obtain ⟨rl, ro, rm, ra, rs, rc, re, M1⟩ := Dsk.open hE M
  clear M; have M := M1; clear M1 hE
  refine calls_enter Try.func24 rfl 17 rfl rfl ?_; intro a S
  refine wp_seq ?_
  skip
  refine wp_region_lit ?_
  refine st_box S M rfl rfl rfl #[_] rfl ?_; clear S M a; intro a w1 bP3 S M hB
  refine st_box S M rfl rfl rfl #[_] rfl ?_; clear S M a; intro a w2 bP4 S M hB
  refine st_box S M rfl rfl rfl #[_] rfl ?_; clear S M a; intro a w3 bP5 S M hB
  refine st_go [1] S rfl (by kernel_rfl) ?_; clear S a; intro a S
  refine nxC ?_
  refine wp_seq ?_
  refine wp_regionK [9] #[false, false, false, false, false, false, false, false, false, false] rfl M (by kernel_rfl) ?_; clear M; intro w4 M
  refine k_read (listed' := #[true, false, false, false, false, false, false, false, false, false]) 0 S rfl rfl rfl rfl (by kernel_rfl) rfl (fun _ d _ _ _ h => by cases d <;> exact h) (fun w hW => have M := M.grow hW; y_load S (by kernel_rfl) rfl (M.cell 2 rfl rfl)) ?_; clear S a; intro a S
  skip
  refine k_pure (listed' := #[true, true, false, false, false, false, false, false, false, false]) 1 S rfl rfl rfl rfl (by kernel_rfl) rfl (fun _ d _ _ _ h => by cases d <;> exact h) (fun w => y_nilCheck S rfl) ?_; clear S a; intro a S
  refine k_pure (listed' := #[true, true, true, false, false, false, false, false, false, false]) 2 S rfl rfl rfl rfl (by kernel_rfl) rfl (fun _ d _ _ _ h => by cases d <;> exact h) (fun w => y_fieldAddr (k := 0) S (by kernel_rfl) rfl) ?_; clear S a; intro a S
  refine k_pure (listed' := #[true, true, true, true, false, false, false, false, false, false]) 3 S rfl rfl rfl rfl (by kernel_rfl) rfl (fun _ d _ _ _ h => by cases d <;> exact h) (fun w => y_fieldAddr (k := 0) S (by kernel_rfl) rfl) ?_; clear S a; intro a S
  refine k_read (listed' := #[true, true, true, true, true, false, false, false, false, false]) 4 S rfl rfl rfl rfl (by kernel_rfl) rfl (fun _ d _ _ _ h => by cases d <;> exact h) (fun w hW => have M := M.grow hW; y_load S (by kernel_rfl) rfl (M.cell 3 rfl rfl)) ?_; clear S a; intro a S
  refine k_read (listed' := #[true, true, true, true, true, true, false, false, false, false]) 5 S rfl rfl rfl rfl (by kernel_rfl) rfl (fun _ d _ _ _ h => by cases d <;> exact h) (fun w hW => have M := M.grow hW; y_load S (by kernel_rfl) rfl (M.cell 1 rfl rfl)) ?_; clear S a; intro a S
  refine k_read (listed' := #[true, true, true, true, true, true, true, false, false, false]) 6 S rfl rfl rfl rfl (by kernel_rfl) rfl (fun _ d _ _ _ h => by cases d <;> exact h) (fun w hW => have M := M.grow hW; y_indexR (e := 65) (sz := 37) S (by kernel_rfl) rfl (M.readAll 4 rfl (by unfold maxLen; omega)) rfl (by first | omega | (simp; done) | (simp; omega))) ?_; clear S a; intro a S
  try simp only [Int.toNat_natCast, Nat.mul_one, Nat.zero_add] at S
  refine k_read (listed' := #[true, true, true, true, true, true, true, true, false, false]) 7 S rfl rfl rfl rfl (by kernel_rfl) rfl (fun _ d _ _ _ h => by cases d <;> exact h) (fun w hW => have M := M.grow hW; y_loadAgg S (by kernel_rfl) rfl rfl ((M.readAll 4 rfl (by unfold maxLen; omega)).at_.row (i := i) (fm_get len_ope ho) rfl)) ?_; clear S a; intro a S
  refine k_one (listed' := #[true, true, true, true, true, true, true, true, true, false]) 8 rfl (by kernel_rfl) rfl ?_
  refine st_alloc S M rfl rfl #[.int .i64 0, .int .i64 0, .int .i64 0, .int .i64 0, .int .i64 0, .int .i8 0, .int .i64 0, .int .i64 0, .int .i64 0, .int .i64 0, .int .i64 0, .int .i64 0, .int .i64 0, .int .i8 0, .int .i64 0, .int .i64 0, .int .i64 0, .int .i64 0, .int .i64 0, .int .i64 0, .int .i64 0, .int .i64 0, .int .i8 0, .int .i64 0, .int .u8 0, .int .u8 0, .int .u8 0, .int .u8 0, .int .u8 0, .int .u8 0, .int .u8 0, .int .u8 0, .int .i64 0, .bool false, .int .i64 0, .int .i64 0, .slice none 0 0] (by kernel_rfl) ?_; clear S M a; intro a w5 bP7 S M hB
  refine wpList_nil ?_; refine then_normal ?_; refine ⟨fun _ => hB, ?_⟩
  refine k_one (listed' := #[true, true, true, true, true, true, true, true, true, true]) 9 rfl (by kernel_rfl) rfl ?_
  refine st_store (sz := 37) (us := [_, _, _, _, _, _, _, _, _, _, _, _, _, _, _, _, _, _, _, _, _, _, _, _, _, _, _, _, _, _, _, _, _, _, _, _, _]) S M 0 rfl (by kernel_rfl) rfl rfl rfl rfl rfl rfl (by first | decide | (simp; done) | (simp; omega)) ?_; clear M; intro w6 M
  simp only [putL, List.set_cons_zero, List.set_cons_succ, Nat.reduceAdd] at M
  refine wpList_nil ?_; refine then_normal ?_; refine ⟨fun h => absurd h (by decide), ?_⟩
  refine k_end (by kernel_rfl) ?_
  refine nxE ?_
  refine st_y S rfl rfl rfl (y_makeFunc (fs := []) (cs := [(Operand.tmp 3), (Operand.tmp 7), (Operand.tmp 4), (Operand.tmp 5)]) S rfl rfl) ?_; clear S a; intro a S
  refine st_go [1] S rfl (by kernel_rfl) ?_; clear S a; intro a S
  refine nxC ?_
  refine wp_ret ?_
  refine end_one S rfl (res_tmp rfl) ?_
  refine ⟨bP3, bP4, bP5, bP7, rfl, ?_⟩
  obtain ⟨E2, hE2, M2⟩ := Dsk.close (D := D) (A := endE b bP3 bP4 bP5 bP7 o i kd A) rl ro rm ra rs rc re (M.perm ((List.perm_append_comm (l₁ := [_, _, _, _]) (l₂ := dskE b D rl ro rm ra rs rc re)).append_right A |>.trans (by rw [List.append_assoc]; exact List.Perm.refl _)))
  exact ⟨E2, hE2, M2⟩
def Dsk.ended (D : Dsk) (i : Nat) (o : Ope) (kd er an : Int) (told : Bool) : Dsk :=
  ⟨{ D.s with l := D.s.l.eraseIdx i, over := D.s.over ++ [⟨o.h, o.c, o.nm.stamp, o.nm.try_, er⟩] },
    { D.t with ans := D.t.ans ++ (if told = true then [⟨o.c, o.h, an, zV8, o.nm.stamp, kd⟩] else []), seen := D.t.seen ++ [⟨4, o.nm, 0, zV8, er⟩] }, D.of⟩
theorem fm_del {α : Type} {f : α → List Value} {sz : Nat} (hf : ∀ x, (f x).length = sz) {l : List α} {i : Nat} (hi : i < l.length) : (fm f l).take (i * sz) ++ (fm f l).drop ((i + 1) * sz) = fm f (l.eraseIdx i) := by
  rw [List.eraseIdx_eq_take_drop_succ, fm_append]
  have e := fm_mid f (List.getElem?_eq_getElem hi)
  have hA : (fm f (l.take i)).length = i * sz := by rw [fm_len hf, List.length_take, Nat.min_eq_left (by omega)]
  have hx := hf l[i]
  congr 1
  · rw [e, ← hA, List.take_left]
  · have e2 : fm f l = (fm f (l.take i) ++ f l[i]) ++ fm f (l.drop (i + 1)) := by rw [List.append_assoc]; exact e
    have hB : (fm f (l.take i) ++ f l[i]).length = (i + 1) * sz := by rw [List.length_append, hA, hx, Nat.add_mul, Nat.one_mul]
    rw [e2, ← hB, List.drop_left]
theorem one_ope (o : Ope) : allOne o.cellsL = true := by kernel_rfl
theorem fm_one_drop {α : Type} {f : α → List Value} {sz : Nat} (hf : ∀ x, (f x).length = sz) (h1 : ∀ x, allOne (f x) = true) (l : List α) (i : Nat) : allOne ((fm f l).drop (i * sz)) = true := by
  have h : ∀ (n : Nat) (l : List Value), allOne l = true → allOne (l.drop n) = true := fun n l => by
    induction n generalizing l with
    | zero => exact id
    | succ n ih =>
      cases l with
      | nil => exact id
      | cons u l =>
        intro h
        simp only [allOne, Bool.and_eq_true] at h
        exact ih l h.2
  exact h _ _ (fm_one h1 l)
theorem subA_at {g i c sz : Nat} (h : i < c) : subA (some ⟨g, 0, none⟩) i c sz = some ⟨g, i * sz, none⟩ := by
  unfold subA; rw [if_neg (by omega)]; simp [Addr.add]; exact fun h => h.symm
theorem lenK {cs more : List Value} {m c k sz : Nat} (hl : cs.length = m * sz) (hmc : (cs ++ more).length = c * sz) (hk : k < m) :
    ((cs ++ more).take (k * sz) ++ cs.drop ((k + 1) * sz) ++ (cs ++ more).drop (k * sz + (cs.drop ((k + 1) * sz)).length)) = (cs.take (k * sz) ++ cs.drop ((k + 1) * sz)) ++ (cs ++ more).drop ((m - 1) * sz) := by
  have h1 : (k + 1) * sz ≤ m * sz := Nat.mul_le_mul_right _ hk
  have h2 : (k + 1) * sz = k * sz + sz := by rw [Nat.add_mul, Nat.one_mul]
  have h3 : (m - 1) * sz + sz = m * sz := by rw [← Nat.succ_mul]; congr 1; omega
  rw [List.take_append_of_le_length (by omega)]
  congr 2
  rw [List.length_drop, hl]; omega
set_option maxHeartbeats 4000000 in
theorem ending1_any {wc w : World} {A E : List Ent} {b b3 b4 b5 b7 : Nat} {D : Dsk} (i : Nat) (o : Ope) (kd er an : Int) (told : Bool) (hE : DeskE b D E) (M : Mem wc w (endE b b3 b4 b5 b7 o i kd A ++ E)) (hs : D.mid) (hi : i < D.s.l.length) :
    Calls Try.prog 48 #[.int .i64 er, .int .i64 an, .bool told, .pointer (some ⟨b3, 0, none⟩), .pointer (some ⟨b7, 0, none⟩), .pointer (some ⟨b4, 0, none⟩), .pointer (some ⟨b5, 0, none⟩)] w fun e w' => e = .returned (.tuple #[]) ∧ ∃ E', DeskE b (D.ended i o kd er an told) E' ∧ Mem wc w' (A ++ E') := by
  have hsl := hs.l
  have hso := hs.over
  obtain ⟨⟨la, lc, llo, lhi⟩, ro, rm, ra, rs, rc, re, M1⟩ := Dsk.open hE M
  clear M; have M := M1; clear M1 hE
  refine calls_enter Try.func48 rfl 72 rfl rfl ?_; intro a S
  refine wp_seq ?_
  skip
  refine wp_regionKC (C := fun W => Blk W b3 #[.pointer (some ⟨b, 0, none⟩)] 76) [19, 23] #[false, false, false, false, false, false, false, false, false, false, false, false, false, false, false, false, false, false, false, false, false, false, false, false] rfl M (by kernel_rfl) ?_; clear M; intro w1 M; have hC := M.blk 11 rfl
  refine kc_readC (listed' := #[true, false, false, false, false, false, false, false, false, false, false, false, false, false, false, false, false, false, false, false, false, false, false, false]) 0 S rfl rfl rfl rfl (by kernel_rfl) rfl (fun _ d _ _ _ h => by cases d <;> exact h) hC (fun w hC => y_load S (by kernel_rfl) rfl (hC.cells 0)) ?_; clear S a; intro a S
  refine kc_read (listed' := #[true, true, false, false, false, false, false, false, false, false, false, false, false, false, false, false, false, false, false, false, false, false, false, false]) 1 S rfl rfl rfl rfl (by kernel_rfl) rfl (fun _ d _ _ _ h => by cases d <;> exact h) hC (fun w hW => have M := M.grow hW; y_load S (by kernel_rfl) rfl (M.cell 11 rfl rfl)) ?_; clear S a; intro a S
  skip
  refine kc_readC (listed' := #[true, true, true, false, false, false, false, false, false, false, false, false, false, false, false, false, false, false, false, false, false, false, false, false]) 2 S rfl rfl rfl rfl (by kernel_rfl) rfl (fun _ d _ _ _ h => by cases d <;> exact h) hC (fun w _ => y_nilCheck S rfl) ?_; clear S a; intro a S
  refine kc_readC (listed' := #[true, true, true, true, false, false, false, false, false, false, false, false, false, false, false, false, false, false, false, false, false, false, false, false]) 3 S rfl rfl rfl rfl (by kernel_rfl) rfl (fun _ d _ _ _ h => by cases d <;> exact h) hC (fun w _ => y_fieldAddr (k := 0) S (by kernel_rfl) rfl) ?_; clear S a; intro a S
  refine kc_readC (listed' := #[true, true, true, true, true, false, false, false, false, false, false, false, false, false, false, false, false, false, false, false, false, false, false, false]) 4 S rfl rfl rfl rfl (by kernel_rfl) rfl (fun _ d _ _ _ h => by cases d <;> exact h) hC (fun w _ => y_fieldAddr (k := 3) S (by kernel_rfl) rfl) ?_; clear S a; intro a S
  refine kc_read (listed' := #[true, true, true, true, true, true, false, false, false, false, false, false, false, false, false, false, false, false, false, false, false, false, false, false]) 5 S rfl rfl rfl rfl (by kernel_rfl) rfl (fun _ d _ _ _ h => by cases d <;> exact h) hC (fun w hW => have M := M.grow hW; y_load S (by kernel_rfl) rfl (M.cell 0 rfl rfl)) ?_; clear S a; intro a S
  refine kc_readC (listed' := #[true, true, true, true, true, true, true, false, false, false, false, false, false, false, false, false, false, false, false, false, false, false, false, false]) 6 S rfl rfl rfl rfl (by kernel_rfl) rfl (fun _ d _ _ _ h => by cases d <;> exact h) hC (fun w _ => y_fieldAddr (k := 0) S (by kernel_rfl) rfl) ?_; clear S a; intro a S
  refine kc_read (listed' := #[true, true, true, true, true, true, true, true, false, false, false, false, false, false, false, false, false, false, false, false, false, false, false, false]) 7 S rfl rfl rfl rfl (by kernel_rfl) rfl (fun _ d _ _ _ h => by cases d <;> exact h) hC (fun w hW => have M := M.grow hW; y_load S (by kernel_rfl) rfl (M.cell 8 rfl rfl)) ?_; clear S a; intro a S
  refine kc_readC (listed' := #[true, true, true, true, true, true, true, true, true, false, false, false, false, false, false, false, false, false, false, false, false, false, false, false]) 8 S rfl rfl rfl rfl (by kernel_rfl) rfl (fun _ d _ _ _ h => by cases d <;> exact h) hC (fun w _ => y_fieldAddr (k := 1) S (by kernel_rfl) rfl) ?_; clear S a; intro a S
  refine kc_read (listed' := #[true, true, true, true, true, true, true, true, true, true, false, false, false, false, false, false, false, false, false, false, false, false, false, false]) 9 S rfl rfl rfl rfl (by kernel_rfl) rfl (fun _ d _ _ _ h => by cases d <;> exact h) hC (fun w hW => have M := M.grow hW; y_load S (by kernel_rfl) rfl (M.cell 8 rfl rfl)) ?_; clear S a; intro a S
  refine kc_readC (listed' := #[true, true, true, true, true, true, true, true, true, true, true, false, false, false, false, false, false, false, false, false, false, false, false, false]) 10 S rfl rfl rfl rfl (by kernel_rfl) rfl (fun _ d _ _ _ h => by cases d <;> exact h) hC (fun w _ => y_fieldAddr (k := 2) S (by kernel_rfl) rfl) ?_; clear S a; intro a S
  refine kc_readC (listed' := #[true, true, true, true, true, true, true, true, true, true, true, true, false, false, false, false, false, false, false, false, false, false, false, false]) 11 S rfl rfl rfl rfl (by kernel_rfl) rfl (fun _ d _ _ _ h => by cases d <;> exact h) hC (fun w _ => y_fieldAddr (k := 0) S (by kernel_rfl) rfl) ?_; clear S a; intro a S
  refine kc_read (listed' := #[true, true, true, true, true, true, true, true, true, true, true, true, true, false, false, false, false, false, false, false, false, false, false, false]) 12 S rfl rfl rfl rfl (by kernel_rfl) rfl (fun _ d _ _ _ h => by cases d <;> exact h) hC (fun w hW => have M := M.grow hW; y_load S (by kernel_rfl) rfl (M.cell 8 rfl rfl)) ?_; clear S a; intro a S
  refine kc_readC (listed' := #[true, true, true, true, true, true, true, true, true, true, true, true, true, true, false, false, false, false, false, false, false, false, false, false]) 13 S rfl rfl rfl rfl (by kernel_rfl) rfl (fun _ d _ _ _ h => by cases d <;> exact h) hC (fun w _ => y_fieldAddr (k := 2) S (by kernel_rfl) rfl) ?_; clear S a; intro a S
  refine kc_readC (listed' := #[true, true, true, true, true, true, true, true, true, true, true, true, true, true, true, false, false, false, false, false, false, false, false, false]) 14 S rfl rfl rfl rfl (by kernel_rfl) rfl (fun _ d _ _ _ h => by cases d <;> exact h) hC (fun w _ => y_fieldAddr (k := 2) S (by kernel_rfl) rfl) ?_; clear S a; intro a S
  refine kc_read (listed' := #[true, true, true, true, true, true, true, true, true, true, true, true, true, true, true, true, false, false, false, false, false, false, false, false]) 15 S rfl rfl rfl rfl (by kernel_rfl) rfl (fun _ d _ _ _ h => by cases d <;> exact h) hC (fun w hW => have M := M.grow hW; y_load S (by kernel_rfl) rfl (M.cell 8 rfl rfl)) ?_; clear S a; intro a S
  refine kc_readC (listed' := #[true, true, true, true, true, true, true, true, true, true, true, true, true, true, true, true, true, false, false, false, false, false, false, false]) 16 S rfl rfl rfl rfl (by kernel_rfl) rfl (fun _ d _ _ _ h => by cases d <;> exact h) hC (fun w _ => y_move S rfl) ?_; clear S a; intro a S
  refine kc_readC (listed' := #[true, true, true, true, true, true, true, true, true, true, true, true, true, true, true, true, true, true, false, false, false, false, false, false]) 17 S rfl rfl rfl rfl (by kernel_rfl) rfl (fun _ d _ _ _ h => by cases d <;> exact h) hC (fun w _ => y_build (ps := [(0, (Operand.tmp 17)), (1, (Operand.tmp 19)), (2, (Operand.tmp 22)), (3, (Operand.tmp 25)), (4, (Operand.tmp 26))]) (pl := [(0, 1), (1, 1), (2, 1), (3, 1), (4, 1)]) (z := [.int .i64 0, .int .i64 0, .int .i64 0, .int .i64 0, .int .i64 0]) (cs := End_.cellsL ⟨o.h, o.c, o.nm.stamp, o.nm.try_, er⟩) S (by kernel_rfl) rfl (rfl)) ?_; clear S a; intro a S
  refine kc_one (listed' := #[true, true, true, true, true, true, true, true, true, true, true, true, true, true, true, true, true, true, true, false, false, false, false, false]) 18 rfl (by kernel_rfl) rfl ?_
  refine st_lit (ps := [(0, (Operand.tmp 27))]) (e := 91) (sz := 5) (zl := [.int .i64 0, .int .i64 0, .int .i64 0, .int .i64 0, .int .i64 0]) (cs := [_, _, _, _, _]) S M rfl rfl (by kernel_rfl) rfl (rfl) ?_; clear S M a; intro a w2 bZ S M hB
  replace hC := M.blk 12 rfl
  refine wpList_nil ?_; refine then_normal ?_; refine ⟨fun _ => hB, hC, ?_⟩
  refine kc_one (listed' := #[true, true, true, true, true, true, true, true, true, true, true, true, true, true, true, true, true, true, true, true, false, false, false, false]) 19 rfl (by kernel_rfl) rfl ?_
  refine st_append (e := 91) (sz := 5) (by_ := 40) (zc := [.int .i64 0, .int .i64 0, .int .i64 0, .int .i64 0, .int .i64 0]) S M 3 rfl rfl (by kernel_rfl) rfl (by decide) rfl rfl rfl (show Rd _ _ _ 5 _ 1 (End_.cellsL ⟨o.h, o.c, o.nm.stamp, o.nm.try_, er⟩) from M.sliceAt 0 rfl (M.cellsAt (k := 5) 0 rfl rfl) rfl (Nat.le_refl _) (by unfold maxLen; omega)) (rfl) (by omega) (by unfold maxLen; omega) ?_; clear S M a; intro a w3 vA loA hiA S M
  replace hC := M.blk 12 rfl
  refine wpList_nil ?_; refine then_normal ?_; refine ⟨fun h => absurd h (by decide), hC, ?_⟩
  skip
  refine kc_readC (listed' := #[true, true, true, true, true, true, true, true, true, true, true, true, true, true, true, true, true, true, true, true, true, false, false, false]) 20 S rfl rfl rfl rfl (by kernel_rfl) rfl (fun _ d _ _ _ h => by cases d <;> exact h) hC (fun w _ => y_nilCheck S rfl) ?_; clear S a; intro a S
  refine kc_readC (listed' := #[true, true, true, true, true, true, true, true, true, true, true, true, true, true, true, true, true, true, true, true, true, true, false, false]) 21 S rfl rfl rfl rfl (by kernel_rfl) rfl (fun _ d _ _ _ h => by cases d <;> exact h) hC (fun w _ => y_fieldAddr (k := 0) S (by kernel_rfl) rfl) ?_; clear S a; intro a S
  refine kc_readC (listed' := #[true, true, true, true, true, true, true, true, true, true, true, true, true, true, true, true, true, true, true, true, true, true, true, false]) 22 S rfl rfl rfl rfl (by kernel_rfl) rfl (fun _ d _ _ _ h => by cases d <;> exact h) hC (fun w _ => y_fieldAddr (k := 3) S (by kernel_rfl) rfl) ?_; clear S a; intro a S
  refine kc_one (listed' := #[true, true, true, true, true, true, true, true, true, true, true, true, true, true, true, true, true, true, true, true, true, true, true, true]) 23 rfl (by kernel_rfl) rfl ?_
  obtain ⟨aO, cO, rfl, -, -⟩ := (M.readAll 0 rfl (by unfold maxLen; omega)).form
  refine st_store (sz := 1) (us := [_]) S M 2 rfl (by kernel_rfl) rfl rfl rfl rfl rfl rfl (by first | decide | (simp; done) | (simp; omega)) ?_; clear M; intro w4 M
  simp only [putL, List.set_cons_zero, List.set_cons_succ, Nat.reduceAdd] at M
  replace hC := M.blk 12 rfl
  refine wpList_nil ?_; refine then_normal ?_; refine ⟨fun h => absurd h (by decide), hC, ?_⟩
  refine kc_end (by kernel_rfl) ?_
  replace S := S.sub [(0, _), (1, _), (2, _), (3, _), (4, _), (5, _), (6, _)] rfl
  refine then_normal ?_
  refine wp_seq ?_
  skip
  replace M := M.drop 1
  simp only [List.eraseIdx_cons_succ, List.eraseIdx_cons_zero] at M
  obtain ⟨loO, hloO⟩ : ∃ z, z = loA := ⟨_, rfl⟩
  replace M := M.front 2 rfl
  simp only [List.eraseIdx_cons_succ, List.eraseIdx_cons_zero] at M
  obtain ⟨g, cap, more, hvE, hc1, hc2, hc3, M1⟩ := M.ofRow (by omega)
  simp only [Rw.v, Value.slice.injEq] at hvE
  obtain ⟨rfl, -, rfl⟩ := hvE
  clear M; have M := M1; clear M1
  have hfl : (fm Ope.cellsL D.s.l).length = D.s.l.length * 37 := fm_len len_ope _
  refine wp_regionKC (C := fun W => Blk W b3 #[.pointer (some ⟨b, 0, none⟩)] 76) [16, 20] #[false, false, false, false, false, false, false, false, false, false, false, false, false, false, false, false, false, false, false, false, false] rfl M (by kernel_rfl) ?_; clear M; intro w5 M; have hC := M.blk 11 rfl
  refine kc_readC (listed' := #[true, false, false, false, false, false, false, false, false, false, false, false, false, false, false, false, false, false, false, false, false]) 0 S rfl rfl rfl rfl (by kernel_rfl) rfl (fun _ d _ _ _ h => by cases d <;> exact h) hC (fun w hC => y_load S (by kernel_rfl) rfl (hC.cells 0)) ?_; clear S a; intro a S
  refine kc_read (listed' := #[true, true, false, false, false, false, false, false, false, false, false, false, false, false, false, false, false, false, false, false, false]) 1 S rfl rfl rfl rfl (by kernel_rfl) rfl (fun _ d _ _ _ h => by cases d <;> exact h) hC (fun w hW => have M := M.grow hW; y_load S (by kernel_rfl) rfl (M.cell 11 rfl rfl)) ?_; clear S a; intro a S
  skip
  refine kc_readC (listed' := #[true, true, true, false, false, false, false, false, false, false, false, false, false, false, false, false, false, false, false, false, false]) 2 S rfl rfl rfl rfl (by kernel_rfl) rfl (fun _ d _ _ _ h => by cases d <;> exact h) hC (fun w _ => y_nilCheck S rfl) ?_; clear S a; intro a S
  refine kc_readC (listed' := #[true, true, true, true, false, false, false, false, false, false, false, false, false, false, false, false, false, false, false, false, false]) 3 S rfl rfl rfl rfl (by kernel_rfl) rfl (fun _ d _ _ _ h => by cases d <;> exact h) hC (fun w _ => y_fieldAddr (k := 0) S (by kernel_rfl) rfl) ?_; clear S a; intro a S
  refine kc_readC (listed' := #[true, true, true, true, true, false, false, false, false, false, false, false, false, false, false, false, false, false, false, false, false]) 4 S rfl rfl rfl rfl (by kernel_rfl) rfl (fun _ d _ _ _ h => by cases d <;> exact h) hC (fun w _ => y_fieldAddr (k := 0) S (by kernel_rfl) rfl) ?_; clear S a; intro a S
  refine kc_read (listed' := #[true, true, true, true, true, true, false, false, false, false, false, false, false, false, false, false, false, false, false, false, false]) 5 S rfl rfl rfl rfl (by kernel_rfl) rfl (fun _ d _ _ _ h => by cases d <;> exact h) hC (fun w hW => have M := M.grow hW; y_load S (by kernel_rfl) rfl (M.cell 2 rfl rfl)) ?_; clear S a; intro a S
  refine kc_read (listed' := #[true, true, true, true, true, true, true, false, false, false, false, false, false, false, false, false, false, false, false, false, false]) 6 S rfl rfl rfl rfl (by kernel_rfl) rfl (fun _ d _ _ _ h => by cases d <;> exact h) hC (fun w hW => have M := M.grow hW; y_load S (by kernel_rfl) rfl (M.cell 10 rfl rfl)) ?_; clear S a; intro a S
  refine kc_readC (listed' := #[true, true, true, true, true, true, true, true, false, false, false, false, false, false, false, false, false, false, false, false, false]) 7 S rfl rfl rfl rfl (by kernel_rfl) rfl (fun _ d _ _ _ h => by cases d <;> exact h) hC (fun w _ => y_slice02 (e := 65) (sz := 37) S (by kernel_rfl) rfl rfl (by first | omega | (simp; done) | (simp; omega))) ?_; clear S a; intro a S
  refine kc_read (listed' := #[true, true, true, true, true, true, true, true, true, false, false, false, false, false, false, false, false, false, false, false, false]) 8 S rfl rfl rfl rfl (by kernel_rfl) rfl (fun _ d _ _ _ h => by cases d <;> exact h) hC (fun w hW => have M := M.grow hW; y_load S (by kernel_rfl) rfl (M.cell 11 rfl rfl)) ?_; clear S a; intro a S
  skip
  refine kc_readC (listed' := #[true, true, true, true, true, true, true, true, true, true, false, false, false, false, false, false, false, false, false, false, false]) 9 S rfl rfl rfl rfl (by kernel_rfl) rfl (fun _ d _ _ _ h => by cases d <;> exact h) hC (fun w _ => y_nilCheck S rfl) ?_; clear S a; intro a S
  refine kc_readC (listed' := #[true, true, true, true, true, true, true, true, true, true, true, false, false, false, false, false, false, false, false, false, false]) 10 S rfl rfl rfl rfl (by kernel_rfl) rfl (fun _ d _ _ _ h => by cases d <;> exact h) hC (fun w _ => y_fieldAddr (k := 0) S (by kernel_rfl) rfl) ?_; clear S a; intro a S
  refine kc_readC (listed' := #[true, true, true, true, true, true, true, true, true, true, true, true, false, false, false, false, false, false, false, false, false]) 11 S rfl rfl rfl rfl (by kernel_rfl) rfl (fun _ d _ _ _ h => by cases d <;> exact h) hC (fun w _ => y_fieldAddr (k := 0) S (by kernel_rfl) rfl) ?_; clear S a; intro a S
  refine kc_read (listed' := #[true, true, true, true, true, true, true, true, true, true, true, true, true, false, false, false, false, false, false, false, false]) 12 S rfl rfl rfl rfl (by kernel_rfl) rfl (fun _ d _ _ _ h => by cases d <;> exact h) hC (fun w hW => have M := M.grow hW; y_load S (by kernel_rfl) rfl (M.cell 2 rfl rfl)) ?_; clear S a; intro a S
  refine kc_read (listed' := #[true, true, true, true, true, true, true, true, true, true, true, true, true, true, false, false, false, false, false, false, false]) 13 S rfl rfl rfl rfl (by kernel_rfl) rfl (fun _ d _ _ _ h => by cases d <;> exact h) hC (fun w hW => have M := M.grow hW; y_load S (by kernel_rfl) rfl (M.cell 10 rfl rfl)) ?_; clear S a; intro a S
  (first | refine kc_readC (listed' := #[true, true, true, true, true, true, true, true, true, true, true, true, true, true, true, false, false, false, false, false, false]) 14 S rfl rfl rfl rfl (by kernel_rfl) rfl (fun _ d _ _ _ h => by cases d <;> exact h) hC (fun w _ => y_addN S rfl rfl (by omega)) ?_ | refine kc_readC (listed' := #[true, true, true, true, true, true, true, true, true, true, true, true, true, true, true, false, false, false, false, false, false]) 14 S rfl rfl rfl rfl (by kernel_rfl) rfl (fun _ d _ _ _ h => by cases d <;> exact h) hC (fun w _ => y_int S rfl rfl rfl) ?_); clear S a; intro a S
  refine kc_readC (listed' := #[true, true, true, true, true, true, true, true, true, true, true, true, true, true, true, true, false, false, false, false, false]) 15 S rfl rfl rfl rfl (by kernel_rfl) rfl (fun _ d _ _ _ h => by cases d <;> exact h) hC (fun w _ => y_slice1 (e := 65) (sz := 37) S (by kernel_rfl) rfl rfl (by first | omega | (simp; done) | (simp; omega))) ?_; clear S a; intro a S
  refine kc_one (listed' := #[true, true, true, true, true, true, true, true, true, true, true, true, true, true, true, true, true, false, false, false, false]) 16 rfl (by kernel_rfl) rfl ?_
  simp only [Int.toNat_natCast, show ((i : Int) + 1).toNat = i + 1 by omega] at S
  have hR : Rd g (g + 1) w5 37 (.slice (some ⟨g, 0, none⟩) D.s.l.length lc) D.s.l.length (fm Ope.cellsL D.s.l) := Rd.of_blk (M.blk 0 rfl) hfl hc1 hc2 (by rw [List.toList_toArray, ← hfl]; exact List.take_left)
  have hcell : CellsAt w5 g ((i + 1) * 37) ((fm Ope.cellsL D.s.l).drop ((i + 1) * 37)) := fun j hj => by
    rw [List.length_drop] at hj
    have := hR.at_ ((i + 1) * 37 + j) (by omega)
    simp only [adr, Nat.zero_add] at this
    rw [this, List.getElem?_drop]
  obtain ⟨o2, ho2, hcell2⟩ : ∃ o2, subA (some ⟨g, 0, none⟩) (i + 1) lc 37 = some ⟨g, o2, none⟩ ∧ CellsAt w5 g o2 ((fm Ope.cellsL D.s.l).drop ((i + 1) * 37)) := by
    rcases Nat.lt_or_ge (i + 1) lc with h | h
    · exact ⟨_, subA_at h, hcell⟩
    · refine ⟨0, by unfold subA; rw [if_pos (by omega)], ?_⟩
      rw [List.drop_of_length_le (by omega)]; intro j hj; simp at hj
  rw [ho2] at S
  refine st_appendIn (e := 65) (sz := 37) (zc := [.int .i64 0, .int .i64 0, .int .i64 0, .int .i64 0, .int .i64 0, .int .i8 0, .int .i64 0, .int .i64 0, .int .i64 0, .int .i64 0, .int .i64 0, .int .i64 0, .int .i64 0, .int .i8 0, .int .i64 0, .int .i64 0, .int .i64 0, .int .i64 0, .int .i64 0, .int .i64 0, .int .i64 0, .int .i64 0, .int .i8 0, .int .i64 0, .int .u8 0, .int .u8 0, .int .u8 0, .int .u8 0, .int .u8 0, .int .u8 0, .int .u8 0, .int .u8 0, .int .i64 0, .bool false, .int .i64 0, .int .i64 0, .slice none 0 0]) (by_ := 256) (news := (fm Ope.cellsL D.s.l).drop ((i + 1) * 37)) S M 0 rfl rfl (by kernel_rfl) rfl rfl rfl hcell2 (by rw [List.length_drop]; omega) (fm_one_drop len_ope one_ope D.s.l (i + 1)) (by omega) hc3 ?_; clear S M a; intro a wA S M
  rw [lenK hfl hc3 hi, show i + (D.s.l.length - (i + 1)) = D.s.l.length - 1 by omega] at *
  simp only [List.set_cons_zero] at M
  replace hC := M.blk 11 rfl
  refine wpList_nil ?_; refine then_normal ?_; refine ⟨fun h => absurd h (by decide), hC, ?_⟩
  skip
  refine kc_readC (listed' := #[true, true, true, true, true, true, true, true, true, true, true, true, true, true, true, true, true, true, false, false, false]) 17 S rfl rfl rfl rfl (by kernel_rfl) rfl (fun _ d _ _ _ h => by cases d <;> exact h) hC (fun w _ => y_nilCheck S rfl) ?_; clear S a; intro a S
  refine kc_readC (listed' := #[true, true, true, true, true, true, true, true, true, true, true, true, true, true, true, true, true, true, true, false, false]) 18 S rfl rfl rfl rfl (by kernel_rfl) rfl (fun _ d _ _ _ h => by cases d <;> exact h) hC (fun w _ => y_fieldAddr (k := 0) S (by kernel_rfl) rfl) ?_; clear S a; intro a S
  refine kc_readC (listed' := #[true, true, true, true, true, true, true, true, true, true, true, true, true, true, true, true, true, true, true, true, false]) 19 S rfl rfl rfl rfl (by kernel_rfl) rfl (fun _ d _ _ _ h => by cases d <;> exact h) hC (fun w _ => y_fieldAddr (k := 0) S (by kernel_rfl) rfl) ?_; clear S a; intro a S
  refine kc_one (listed' := #[true, true, true, true, true, true, true, true, true, true, true, true, true, true, true, true, true, true, true, true, true]) 20 rfl (by kernel_rfl) rfl ?_
  refine st_store (sz := 1) (us := [_]) S M 2 rfl (by kernel_rfl) rfl rfl rfl rfl rfl rfl (by first | decide | (simp; done) | (simp; omega)) ?_; clear M; intro w6 M
  simp only [putL, List.set_cons_zero, List.set_cons_succ, Nat.reduceAdd] at M
  replace hC := M.blk 11 rfl
  refine wpList_nil ?_; refine then_normal ?_; refine ⟨fun h => absurd h (by decide), hC, ?_⟩
  refine kc_end (by kernel_rfl) ?_
  replace S := S.sub [(0, _), (1, _), (2, _), (3, _), (4, _), (5, _), (6, _)] rfl
  refine then_normal ?_
  have hle : (D.s.l.eraseIdx i).length = D.s.l.length - 1 := by rw [List.length_eraseIdx, if_pos hi]
  have hmh : ((fm Ope.cellsL D.s.l).take (i * 37) ++ (fm Ope.cellsL D.s.l).drop ((i + 1) * 37)) = fm Ope.cellsL (D.s.l.eraseIdx i) := fm_del len_ope hi
  rw [hmh] at M
  have hl2 : (fm Ope.cellsL (D.s.l.eraseIdx i)).length = (D.s.l.length - 1) * 37 := by rw [fm_len len_ope, hle]
  replace M := M.toRow (sz := 37) (m := D.s.l.length - 1) (cap := lc) (xs := fm Ope.cellsL (D.s.l.eraseIdx i)) 0 rfl hl2 (by omega) hc2 (by
    rw [List.size_toArray, List.length_append, hl2, List.length_drop, hc3]
    have : lc * 37 = (D.s.l.length - 1) * 37 + (lc - (D.s.l.length - 1)) * 37 := by rw [← Nat.add_mul]; congr 1; omega
    omega) (by rw [List.toList_toArray, ← hl2]; exact List.take_left)
  simp only [List.eraseIdx_cons_succ, List.eraseIdx_cons_zero] at M
  replace M := M.front 1 rfl
  simp only [List.eraseIdx_cons_succ, List.eraseIdx_cons_zero] at M
  replace M := M.front 1 rfl
  simp only [List.eraseIdx_cons_succ, List.eraseIdx_cons_zero] at M
  replace M := M.front 2 rfl
  simp only [List.eraseIdx_cons_succ, List.eraseIdx_cons_zero] at M
  obtain ⟨D1, hD1⟩ : ∃ D1 : Dsk, D1 = ⟨{ D.s with l := D.s.l.eraseIdx i, over := D.s.over ++ [⟨o.h, o.c, o.nm.stamp, o.nm.try_, er⟩] }, D.t, D.of⟩ := ⟨_, rfl⟩
  have q1 : D1.s.l.length = D.s.l.length - 1 := by rw [hD1]; exact hle
  have q2 : D1.s.over.length = D.s.over.length + 1 := by rw [hD1]; simp
  have q3 : fm End_.cellsL D1.s.over = fm End_.cellsL D.s.over ++ End_.cellsL ⟨o.h, o.c, o.nm.stamp, o.nm.try_, er⟩ := by rw [hD1]; exact fm_snoc _ _ _
  have q4 : fm Ope.cellsL D1.s.l = fm Ope.cellsL (D.s.l.eraseIdx i) := by rw [hD1]
  have q5 : D1.t = D.t := by rw [hD1]
  have q6 : D1.of = D.of := by rw [hD1]
  have q7 : D1.s.last = D.s.last := by rw [hD1]
  have q8 : D1.s.inc = D.s.inc := by rw [hD1]
  obtain ⟨E2, hE2, M2⟩ := Dsk.closeG D1 ⟨some ⟨g, 0, none⟩, lc, g, g + 1⟩ ⟨aO, cO, loA, hiA⟩ rm ra rs rc re M (by unfold dskL Rw.v; rw [q1, q2, q5, q6, q7, q8]) (by unfold Rw.ent Rw.v; rw [q1, q4]) (by unfold Rw.ent Rw.v; rw [q2, q3]) (by rw [q5]) (by rw [q5]) (by rw [q5]) (by rw [q5]) (by rw [q5])
  clear M; have M := M2; clear M2
  have hs1 : D1.small := ⟨by rw [q1]; omega, by rw [q2]; omega, by rw [q5]; exact hs.small.mail, by rw [q5]; exact hs.small.ans, by rw [q5]; exact hs.small.seen, by rw [q5]; exact hs.small.com, by rw [q5]; exact hs.small.ends⟩
  have hsa := hs.ans
  have hs2 : ∀ y, (D1.answer y).small := fun y => ⟨hs1.l, hs1.over, hs1.mail, by show (D1.t.ans ++ [y]).length ≤ 1000; rw [q5]; simp; omega, hs1.seen, hs1.com, hs1.ends⟩
  refine wp_cut (fun a w' => ∃ (D2 : Dsk) (E3 : List Ent), D2 = { D1 with t := { D1.t with ans := D1.t.ans ++ (if told = true then [⟨o.c, o.h, an, zV8, o.nm.stamp, kd⟩] else []) } } ∧ D2.small ∧ DeskE b D2 E3 ∧ Sees 72 a [(0, .int .i64 er), (3, .pointer (some ⟨b3, 0, none⟩)), (4, .pointer (some ⟨b7, 0, none⟩))] ∧ Mem wc w' (endE b b3 b4 b5 b7 o i kd A ++ E3)) ?_ ?_
  · skip
    refine nxD ?_
    refine st_go [1] S rfl (by kernel_rfl) ?_; clear S a; intro a S
    refine nxC ?_
    refine st_fi (t := 53) S rfl ?_ ?_
    · clear S; intro h53 S
      refine st_condF S rfl ?_
      refine wp_skip ?_
      refine then_normal ?_
      first
        | exact ⟨_, E3, by rw [if_pos h53], hs2 _, hE3, S.sub _ rfl, M⟩
        | exact ⟨D1, E2, by rw [if_neg (by rw [h53]; decide), List.append_nil], hs1, hE2, S.sub _ rfl, M⟩
    clear S; intro h53 S
    refine st_condT S rfl ?_
    refine wp_region_lit ?_
    refine st_run [4, 2, 1, 1, 1, 1, 3, 1, 1, 2] S M rfl (by kernel_rfl) ?_; clear S a; intro a S
    refine st_y S rfl rfl rfl (y_build (ps := [(0, (Operand.tmp 56)), (1, (Operand.tmp 58)), (2, (Operand.tmp 59)), (4, (Operand.tmp 62)), (5, (Operand.tmp 63))]) (pl := [(0, 1), (1, 1), (2, 1), (3, 8), (11, 1), (12, 1)]) (z := [.int .i64 0, .int .i64 0, .int .i64 0, .int .u8 0, .int .u8 0, .int .u8 0, .int .u8 0, .int .u8 0, .int .u8 0, .int .u8 0, .int .u8 0, .int .i64 0, .int .i8 0]) (cs := Ans.cellsL ⟨o.c, o.h, an, zV8, o.nm.stamp, kd⟩) S (by kernel_rfl) rfl (by kernel_rfl)) ?_; clear S a; intro a S
    refine st_call (xs := [(Operand.tmp 54), (Operand.tmp 64)]) S (enters_of Try.func33 (by decide) rfl) rfl rfl rfl (answer_any (A := _ :: _ :: _ :: _ :: A) ⟨o.c, o.h, an, zV8, o.nm.stamp, kd⟩ hE2 M hs1) ?_
    rintro _ w7 ⟨rfl, E3, hE3, M1⟩; refine ⟨_, rfl, ?_⟩; clear S M a; intro a S; have M := M1; clear M1
    refine nxC ?_
    first
      | exact ⟨_, E3, by rw [if_pos h53], hs2 _, hE3, S.sub _ rfl, M⟩
      | exact ⟨D1, E2, by rw [if_neg (by rw [h53]; decide), List.append_nil], hs1, hE2, S.sub _ rfl, M⟩
  clear S a M; intro a wc
  rintro ⟨D2, E3, hD2, hs3, hE3, S, M⟩
  refine wp_region_lit ?_
  refine st_run [4, 3] S M rfl (by kernel_rfl) ?_; clear S a; intro a S
  refine st_y S rfl rfl rfl (y_loadAgg (cs := [_, _, _]) S (by kernel_rfl) rfl rfl (M.cellsAt (k := 3) 0 rfl rfl)) ?_; clear S a; intro a S
  refine st_go [1] S rfl (by kernel_rfl) ?_; clear S a; intro a S
  refine st_y S rfl rfl rfl (y_build (ps := [(0, (Operand.const (Value.int IntKind.i8 4))), (1, (Operand.tmp 68)), (4, (Operand.tmp 69))]) (pl := [(0, 1), (1, 3), (4, 1), (5, 8), (13, 1)]) (z := [.int .i8 0, .int .i64 0, .int .i64 0, .int .i64 0, .int .i64 0, .int .u8 0, .int .u8 0, .int .u8 0, .int .u8 0, .int .u8 0, .int .u8 0, .int .u8 0, .int .u8 0, .int .i64 0]) (cs := Seen_.cellsL ⟨4, o.nm, 0, zV8, er⟩) S (by kernel_rfl) rfl (by kernel_rfl)) ?_; clear S a; intro a S
  refine st_call (xs := [(Operand.tmp 66), (Operand.tmp 70)]) S (enters_of Try.func34 (by decide) rfl) rfl rfl rfl (seen_any (A := _ :: _ :: _ :: _ :: A) ⟨4, o.nm, 0, zV8, er⟩ hE3 M hs3) ?_
  rintro _ w8 ⟨rfl, E4, hE4, M1⟩; refine ⟨_, rfl, ?_⟩; clear S M a; intro a S; have M := M1; clear M1
  refine wpList_nil ?_
  refine end_noneN S rfl ?_
  refine ⟨rfl, E4, ?_, (((M.drop 0).drop 0).drop 0).drop 0⟩
  have : D.ended i o kd er an told = D2.seen ⟨4, o.nm, 0, zV8, er⟩ := by rw [hD2, hD1]; rfl
  rw [this]; exact hE4
end Go.Proofs.Ytniijiipkfhjgaa

namespace Go.Proofs.Ytniijiipkfhjgaa
open Go.RowKit Go.Sort
/-- wherever these entries are owned, the slice reads as these bytes -/
def RdH (wc : World) (H : List Ent) (bv : Value) (bs : List UInt8) : Prop := ∀ w, Mem wc w H → Bs 0 w.heap.size w bv bs
theorem RdH.at {wc w : World} {H : List Ent} {e : Ent} {bv : Value} {bs : List UInt8} (h : RdH wc H bv bs) (M : Mem wc w (e :: H)) : Bs 0 w.heap.size w bv bs := h w (M.drop 0)
theorem RdH.cons {wc : World} {H : List Ent} {bv : Value} {bs : List UInt8} (h : RdH wc H bv bs) (e : Ent) : RdH wc (e :: H) bv bs := fun w M => h w (M.drop 0)
theorem RdH.arg {wc : World} {H : List Ent} {bv : Value} {bs : List UInt8} (h : Bs 0 wc.heap.size wc bv bs) : RdH wc H bv bs := fun _ M => M.argW h
theorem RdH.own {wc : World} {H : List Ent} {bv : Value} {bs : List UInt8} {lo hi : Nat} (p : Nat) (h : H[p]? = some (.own lo hi (fun w => Bs lo hi w bv bs))) : RdH wc H bv bs := fun _ M =>
  (M.own p h).wide (Nat.zero_le _) (M.fits _ (List.mem_of_getElem? h)).2
end Go.Proofs.Ytniijiipkfhjgaa

namespace Go.Proofs.Ytniijiipkfhjgaa
open Go.RowKit Go.Sort
theorem y_arrAt {ds : List Deferred} {P : Program} {n : Nat} {a : Act} {L : List (Nat × Value)} {w : World} {x : Operand} {ad : Option Addr} {l c T m e : Nat} (S : SeesD ds n a L) (hx : val L x = some (.slice ad l c)) (hT : P.underlying T = some (.array m e)) (h : m ≤ l)
    {d : Option Tmp} {t : TypeId} {p : String} {ed : Array Edge} {g : Option (Nat × Bool)} : Yields P a ⟨d, .sliceToArrayPointer T x, t, p, ed, g⟩ w (.pointer ad) := by
  unfold Yields execOp
  simp only [S.eval hx, Sem.run_bind, Instr.arrayAt, run_underlying hT, Result.andThen]
  rw [if_neg (by omega)]
  rfl
def v8of : List UInt8 → V8
  | [a, b, c, d, e, f, g, h] => ⟨a, b, c, d, e, f, g, h⟩
  | _ => zV8
/-- what a call reads or writes -/
def touchX (c : Cal) (bs : List UInt8) : Msg := if c.kind = 2 then { zMg with op := 1, block := c.block, val := v8of bs } else { zMg with block := c.block }
def Dsk.touch (D : Dsk) (i : Nat) (o : Ope) (c : Cal) (bs : List UInt8) : Dsk :=
  if shardE D.of c.block ≠ 0 then D.refused c 230 else if c.kind = 2 ∧ bs.length ≠ 8 then D.refused c 231
  else if execOk D o (touchX c bs) then D.execd i o (touchX c bs) else D.refused c 50
set_option maxHeartbeats 4000000 in
theorem touch_any {wc w : World} {A E : List Ent} {b : Nat} {D : Dsk} (i : Nat) (o : Ope) (c : Cal) (da : Option Addr) (dc : Nat) (bs : List UInt8) (hE : DeskE b D E) (M : Mem wc w (A ++ E)) (hs : D.tiny) (ho : D.s.l[i]? = some o) (hn : ∀ k, 0 ≤ o.nAt k ∧ o.nAt k ≤ 1048576) (hv : RdH wc A (.slice da bs.length dc) bs) :
    Calls Try.prog 40 #[.pointer (some ⟨b, 0, none⟩), .int .i64 (i : Int), .agg (c.cellsL (.slice da bs.length dc)).toArray] w fun e w' => e = .returned (.tuple #[]) ∧ ∃ E', DeskE b (D.touch i o c bs) E' ∧ Mem wc w' (A ++ E') := by
  obtain ⟨er, her⟩ : ∃ er, shardE D.of c.block = er := ⟨_, rfl⟩
  refine calls_enter Try.func40 rfl 51 rfl rfl ?_; intro a S
  refine nxD ?_
  refine st_box S M rfl rfl rfl #[_, _, _, _, _, _] rfl ?_; clear S M a; intro a w1 bC S M hB
  refine nxA ?_
  refine st_run [4, 1] S M rfl (by kernel_rfl) ?_; clear S a; intro a S
  refine st_y S rfl rfl rfl (y_build (ps := [(7, (Operand.const (Value.int IntKind.i8 0))), (8, (Operand.tmp 10))]) (pl := [(0, 1), (1, 1), (2, 1), (3, 1), (4, 1), (5, 3), (8, 1), (9, 1), (10, 1), (11, 8), (19, 1), (20, 1), (21, 1), (22, 1), (23, 1)]) (z := [.int .i8 0, .int .i64 0, .int .i64 0, .int .i64 0, .int .i64 0, .int .i64 0, .int .i64 0, .int .i64 0, .int .i64 0, .int .i8 0, .int .i64 0, .int .u8 0, .int .u8 0, .int .u8 0, .int .u8 0, .int .u8 0, .int .u8 0, .int .u8 0, .int .u8 0, .int .i64 0, .bool false, .int .i64 0, .int .i64 0, .slice none 0 0]) (cs := msgL { zMg with block := c.block }) S (by kernel_rfl) rfl (by kernel_rfl)) ?_; clear S a; intro a S
  refine st_alloc S M rfl rfl #[.int .i8 0, .int .i64 0, .int .i64 0, .int .i64 0, .int .i64 0, .int .i64 0, .int .i64 0, .int .i64 0, .int .i64 0, .int .i8 0, .int .i64 0, .int .u8 0, .int .u8 0, .int .u8 0, .int .u8 0, .int .u8 0, .int .u8 0, .int .u8 0, .int .u8 0, .int .i64 0, .bool false, .int .i64 0, .int .i64 0, .slice none 0 0] (by kernel_rfl) ?_; clear S M a; intro a w2 bX S M hB
  refine st_store (sz := 24) (us := [_, _, _, _, _, _, _, _, _, _, _, _, _, _, _, _, _, _, _, _, _, _, _, _]) S M 0 rfl (by kernel_rfl) rfl rfl rfl rfl rfl rfl (by first | decide | (simp; done) | (simp; omega)) ?_; clear M; intro w3 M
  simp only [putL, List.set_cons_zero, List.set_cons_succ, Nat.reduceAdd] at M
  refine nxC ?_
  refine wp_seq ?_
  refine wp_seq ?_
  obtain ⟨rl, ro, rm, ra, rs, rc, re, M1⟩ := Dsk.open (A := _ :: _ :: A) hE M
  clear M; have M := M1; clear M1
  refine wp_quiet M (by kernel_rfl) (by kernel_rfl) ?_
  refine qt_y S rfl rfl rfl (fun w M => y_move S rfl) ?_; clear S a; intro a S
  refine qt_y S rfl rfl rfl (fun w M => y_nilCheck S rfl) ?_; clear S a; intro a S
  refine qt_y S rfl rfl rfl (fun w M => y_fieldAddr (k := 9) S (by kernel_rfl) rfl) ?_; clear S a; intro a S
  refine qt_y S rfl rfl rfl (fun w M => y_loadAgg (cs := [_, _, _, _, _, _, _, _]) S (by kernel_rfl) rfl rfl (M.cellsAt (k := 8) 0 rfl rfl)) ?_; clear S a; intro a S
  refine qt_y S rfl rfl rfl (fun w M => y_fieldAddr (k := 3) S (by kernel_rfl) rfl) ?_; clear S a; intro a S
  refine qt_y S rfl rfl rfl (fun w M => y_load S (by kernel_rfl) rfl (M.cell 9 rfl rfl)) ?_; clear S a; intro a S
  refine qt_call (xs := [(Operand.tmp 16), (Operand.tmp 18)]) S (enters_of Try.func53 (by decide) rfl) rfl rfl rfl (quiet_of fun w M => shard_any _ _ w) ?_; clear S a; intro a S
  refine qt_y S rfl rfl rfl (fun w M => y_move S rfl) ?_; clear S a; intro a S
  refine qt_y S rfl rfl rfl (fun w M => y_extract S rfl rfl) ?_; clear S a; intro a S
  refine qt_y S rfl rfl rfl (fun w M => y_extract S rfl rfl) ?_; clear S a; intro a S
  refine qt_y S rfl rfl rfl (fun w M => y_assign S rfl) ?_; clear S a; intro a S
  refine qt_y S rfl rfl rfl (fun w M => y_assign S rfl) ?_; clear S a; intro a S
  refine wpQuiet_nil ?_; clear M; intro w5 M
  replace S := S.sub [(0, _), (1, _), (2, _), (5, _), (6, _), (8, _)] rfl
  refine then_normal ?_
  refine wp_seq ?_
  rw [her] at S
  obtain ⟨E1, hE1, M2⟩ := Dsk.close (D := D) rl ro rm ra rs rc re M
  clear M hE; have M := M2; clear M2
  refine wp_region_lit ?_
  refine st_go [1, 1] S rfl (by kernel_rfl) ?_; clear S a; intro a S
  refine nxC ?_
  refine st_if (t := 23) S rfl ?_ ?_
  · clear S; intro h23 S
    refine st_condT S rfl ?_
    refine nxD ?_
    refine st_go [1] S rfl (by kernel_rfl) ?_; clear S a; intro a S
    refine st_y S rfl rfl rfl (y_loadAgg (cs := [_, _, _, _, _, _]) S (by kernel_rfl) rfl rfl (M.cellsAt (k := 6) 1 rfl rfl)) ?_; clear S a; intro a S
    refine st_call (xs := [(Operand.tmp 24), (Operand.tmp 25), (Operand.const (Value.int IntKind.i64 230))]) S (enters_of Try.func32 (by decide) rfl) rfl rfl rfl (refused_any (A := _ :: _ :: A) c da bs.length dc _ hE1 M hs.small) ?_
    rintro _ w6 ⟨rfl, E2, hE2, M1⟩; refine ⟨_, rfl, ?_⟩; clear S M a; intro a S; have M := M1; clear M1
    refine nxC ?_
    refine wp_ret ?_
    refine then_ret ?_
    refine end_none S rfl ?_
    refine ⟨rfl, E2, ?_, (M.drop 0).drop 0⟩
    unfold Dsk.touch
    rw [her, if_pos (by omega)]; exact hE2
  clear S; intro h23 S
  refine st_condF S rfl ?_
  refine wp_skip ?_
  refine then_normal ?_
  refine wp_cut (fun a w' => ∃ x, x = touchX c bs ∧ ¬ (c.kind = 2 ∧ bs.length ≠ 8) ∧ Sees 51 a [(0, .pointer (some ⟨b, 0, none⟩)), (1, .int .i64 (i : Int)), (5, .pointer (some ⟨bC, 0, none⟩)), (6, .pointer (some ⟨bX, 0, none⟩))] ∧ Mem wc w' (.blk bX (msgL x).toArray 45 :: .blk bC (c.cellsL (.slice da bs.length dc)).toArray 38 :: (A ++ E1))) ?_ ?_
  · skip
    refine nxD ?_
    refine st_run [1, 2, 1] S M rfl (by kernel_rfl) ?_; clear S a; intro a S
    refine nxC ?_
    refine st_fi (t := 29) S rfl ?_ ?_
    · clear S; intro h29 S
      refine st_condF S rfl ?_
      refine wp_skip ?_
      refine then_normal ?_
      first
        | (refine ⟨{ zMg with op := 1, block := c.block, val := ⟨b0, b1, b2, b3, b4, b5, b6, b7⟩ }, ?_, by omega, S.sub _ rfl, M⟩
           unfold touchX; rw [if_pos (by omega), hbs]; rfl)
        | exact ⟨{ zMg with block := c.block }, by unfold touchX; rw [if_neg (by omega)], by omega, S.sub _ rfl, M⟩
    clear S; intro h29 S
    refine st_condT S rfl ?_
    refine wp_seq ?_
    refine nxD ?_
    refine st_run [5, 2] S M rfl (by kernel_rfl) ?_; clear S a; intro a S
    refine st_y S rfl rfl rfl (y_lenS (E := 5) S rfl (by kernel_rfl)) ?_; clear S a; intro a S
    refine st_go [1] S rfl (by kernel_rfl) ?_; clear S a; intro a S
    refine nxC ?_
    refine st_if (t := 33) S rfl ?_ ?_
    · clear S; intro h33 S
      refine st_condT S rfl ?_
      refine nxD ?_
      refine st_go [1] S rfl (by kernel_rfl) ?_; clear S a; intro a S
      refine st_y S rfl rfl rfl (y_loadAgg (cs := [_, _, _, _, _, _]) S (by kernel_rfl) rfl rfl (M.cellsAt (k := 6) 1 rfl rfl)) ?_; clear S a; intro a S
      refine st_call (xs := [(Operand.tmp 34), (Operand.tmp 35), (Operand.const (Value.int IntKind.i64 231))]) S (enters_of Try.func32 (by decide) rfl) rfl rfl rfl (refused_any (A := _ :: _ :: A) c da bs.length dc _ hE1 M hs.small) ?_
      rintro _ w7 ⟨rfl, E2, hE2, M1⟩; refine ⟨_, rfl, ?_⟩; clear S M a; intro a S; have M := M1; clear M1
      refine nxC ?_
      refine wp_ret ?_
      refine then_ret ?_
      refine then_ret ?_
      refine end_none S rfl ?_
      refine ⟨rfl, E2, ?_, (M.drop 0).drop 0⟩
      unfold Dsk.touch
      rw [her, if_neg (by omega), if_pos (by omega)]; exact hE2
    clear S; intro h33 S
    refine st_condF S rfl ?_
    refine wp_skip ?_
    refine then_normal ?_
    have h8 : bs.length = 8 := by omega
    obtain ⟨b0, b1, b2, b3, b4, b5, b6, b7, hbs⟩ : ∃ b0 b1 b2 b3 b4 b5 b6 b7, bs = [b0, b1, b2, b3, b4, b5, b6, b7] := by
      match bs, h8 with
      | [b0, b1, b2, b3, b4, b5, b6, b7], _ => exact ⟨b0, b1, b2, b3, b4, b5, b6, b7, rfl⟩
    have hcl0 : ∀ {W : World} {X Y : Ent} {E9 : List Ent}, Mem wc W (X :: Y :: (A ++ E9)) → Bs 0 W.heap.size W (.slice da bs.length dc) bs := fun {W X Y E9} M => hv _ (M.sub (.cons _ (.cons _ (List.sublist_append_left _ _))))
    obtain ⟨db, dof, rfl⟩ : ∃ db dof, da = some ⟨db, dof, none⟩ := by
      have := hcl0 M
      rcases this.2.2 with ⟨e, h0⟩ | ⟨ad, cp, e, -, -, -, hsp⟩
      · omega
      · simp only [Value.slice.injEq] at e
        obtain ⟨q1, q2, q3⟩ := ad
        have h9 : q3 = none := (hsp (by omega)).1
        subst h9
        exact ⟨q1, q2, e.1⟩
    have hcl : ∀ {W : World} {X Y : Ent} {E9 : List Ent}, Mem wc W (X :: Y :: (A ++ E9)) → CellsAt W db dof (bcells bs) := fun {W X Y E9} M => (hcl0 M).at_
    refine wp_regionKC (C := fun W => Blk W bC (c.cellsL (.slice (some ⟨db, dof, none⟩) bs.length dc)).toArray 38 ∧ CellsAt W db dof (bcells bs)) [5, 7] #[false, false, false, false, false, false, false, false] rfl M (by kernel_rfl) ?_; clear M; intro w8 M; have hC := And.intro (M.blk 1 rfl) (hcl M)
    refine kc_readC (listed' := #[true, false, false, false, false, false, false, false]) 0 S rfl rfl rfl rfl (by kernel_rfl) rfl (fun _ d _ _ _ h => by cases d <;> exact h) hC (fun w _ => y_fieldAddr (k := 4) S (by kernel_rfl) rfl) ?_; clear S a; intro a S
    refine kc_readC (listed' := #[true, true, false, false, false, false, false, false]) 1 S rfl rfl rfl rfl (by kernel_rfl) rfl (fun _ d _ _ _ h => by cases d <;> exact h) hC (fun w hC => y_load S (by kernel_rfl) rfl (hC.1.cells 4)) ?_; clear S a; intro a S
    refine kc_readC (listed' := #[true, true, true, false, false, false, false, false]) 2 S rfl rfl rfl rfl (by kernel_rfl) rfl (fun _ d _ _ _ h => by cases d <;> exact h) hC (fun w _ => y_arrAt (m := 8) (e := 5) S rfl Try.underlying42 (by first | omega | (simp; done) | (simp; omega))) ?_; clear S a; intro a S
    refine kc_readC (listed' := #[true, true, true, true, false, false, false, false]) 3 S rfl rfl rfl rfl (by kernel_rfl) rfl (fun _ d _ _ _ h => by cases d <;> exact h) hC (fun w hC => y_loadAgg (cs := [_, _, _, _, _, _, _, _]) S (by kernel_rfl) rfl rfl ((show CellsAt _ _ _ [.int .u8 (b0.toNat : Int), .int .u8 (b1.toNat : Int), .int .u8 (b2.toNat : Int), .int .u8 (b3.toNat : Int), .int .u8 (b4.toNat : Int), .int .u8 (b5.toNat : Int), .int .u8 (b6.toNat : Int), .int .u8 (b7.toNat : Int)] from (by have := hC.2; rw [hbs] at this; exact this)))) ?_; clear S a; intro a S
    refine kc_readC (listed' := #[true, true, true, true, true, false, false, false]) 4 S rfl rfl rfl rfl (by kernel_rfl) rfl (fun _ d _ _ _ h => by cases d <;> exact h) hC (fun w _ => y_fieldAddr (k := 9) S (by kernel_rfl) rfl) ?_; clear S a; intro a S
    refine kc_one (listed' := #[true, true, true, true, true, true, false, false]) 5 rfl (by kernel_rfl) rfl ?_
    refine st_store (sz := 1) (us := [_]) S M 0 rfl (by kernel_rfl) rfl rfl rfl rfl rfl rfl (by first | decide | (simp; done) | (simp; omega)) ?_; clear M; intro w9 M
    simp only [putL, List.set_cons_zero, List.set_cons_succ, Nat.reduceAdd] at M
    replace hC := And.intro (M.blk 1 rfl) (hcl M)
    refine wpList_nil ?_; refine then_normal ?_; refine ⟨fun h => absurd h (by decide), hC, ?_⟩
    refine kc_readC (listed' := #[true, true, true, true, true, true, true, false]) 6 S rfl rfl rfl rfl (by kernel_rfl) rfl (fun _ d _ _ _ h => by cases d <;> exact h) hC (fun w _ => y_fieldAddr (k := 11) S (by kernel_rfl) rfl) ?_; clear S a; intro a S
    refine kc_one (listed' := #[true, true, true, true, true, true, true, true]) 7 rfl (by kernel_rfl) rfl ?_
    refine st_store (sz := 8) (us := [_, _, _, _, _, _, _, _]) S M 0 rfl (by kernel_rfl) rfl rfl rfl rfl rfl rfl (by first | decide | (simp; done) | (simp; omega)) ?_; clear M; intro w10 M
    simp only [putL, List.set_cons_zero, List.set_cons_succ, Nat.reduceAdd] at M
    replace hC := And.intro (M.blk 1 rfl) (hcl M)
    refine wpList_nil ?_; refine then_normal ?_; refine ⟨fun h => absurd h (by decide), hC, ?_⟩
    refine kc_end (by kernel_rfl) ?_
    refine then_normal ?_
    first
      | (refine ⟨{ zMg with op := 1, block := c.block, val := ⟨b0, b1, b2, b3, b4, b5, b6, b7⟩ }, ?_, by omega, S.sub _ rfl, M⟩
         unfold touchX; rw [if_pos (by omega), hbs]; rfl)
      | exact ⟨{ zMg with block := c.block }, by unfold touchX; rw [if_neg (by omega)], by omega, S.sub _ rfl, M⟩
  clear S a M; intro a wc
  rintro ⟨x, hx, hlen, S, M⟩
  refine nxD ?_
  refine st_go [1, 1] S rfl (by kernel_rfl) ?_; clear S a; intro a S
  refine st_y S rfl rfl rfl (y_loadAgg (cs := [_, _, _, _, _, _, _, _, _, _, _, _, _, _, _, _, _, _, _, _, _, _, _, _]) S (by kernel_rfl) rfl rfl (M.cellsAt (k := 24) 0 rfl rfl)) ?_; clear S a; intro a S
  refine st_call (xs := [(Operand.tmp 43), (Operand.tmp 44), (Operand.tmp 45)]) S (enters_of Try.func47 (by decide) rfl) rfl rfl rfl (exec_any (A := _ :: _ :: A) i o x hE1 M hs ho hn) ?_
  rintro _ w11 ⟨rfl, E3, hE3, M1⟩; refine ⟨_, rfl, ?_⟩; clear S M a; intro a S; have M := M1; clear M1
  refine st_go [1] S rfl (by kernel_rfl) ?_; clear S a; intro a S
  refine nxC ?_
  refine st_tils (t := 47) S rfl ?_ ?_
  · clear S; intro h47 S
    refine st_condF S rfl ?_
    refine wp_skip ?_
    refine end_noneN S rfl ?_
    have her0 : er = 0 := by omega
    first
      | (refine ⟨rfl, E2, ?_, (M.drop 0).drop 0⟩
         unfold Dsk.touch
         rw [her, if_neg (by omega), if_neg hlen, ← hx, if_neg hno]; exact hE2)
      | (have hyes : execOk D o x := by simpa using h47
         rw [if_pos hyes] at hE3
         refine ⟨rfl, E3, ?_, (M.drop 0).drop 0⟩
         unfold Dsk.touch
         rw [her, if_neg (by omega), if_neg hlen, ← hx, if_pos hyes]; exact hE3)
  clear S; intro h47 S
  refine st_condT S rfl ?_
  have hno : ¬ execOk D o x := by simpa using h47
  rw [if_neg hno] at hE3
  refine wp_region_lit ?_
  refine st_go [1] S rfl (by kernel_rfl) ?_; clear S a; intro a S
  refine st_y S rfl rfl rfl (y_loadAgg (cs := [_, _, _, _, _, _]) S (by kernel_rfl) rfl rfl (M.cellsAt (k := 6) 1 rfl rfl)) ?_; clear S a; intro a S
  refine st_call (xs := [(Operand.tmp 48), (Operand.tmp 49), (Operand.const (Value.int IntKind.i64 50))]) S (enters_of Try.func32 (by decide) rfl) rfl rfl rfl (refused_any (A := _ :: _ :: A) c da bs.length dc _ hE3 M hs.small) ?_
  rintro _ w12 ⟨rfl, E2, hE2, M1⟩; refine ⟨_, rfl, ?_⟩; clear S M a; intro a S; have M := M1; clear M1
  refine wpList_nil ?_
  refine end_noneN S rfl ?_
  have her0 : er = 0 := by omega
  first
    | (refine ⟨rfl, E2, ?_, (M.drop 0).drop 0⟩
       unfold Dsk.touch
       rw [her, if_neg (by omega), if_neg hlen, ← hx, if_neg hno]; exact hE2)
    | (have hyes : execOk D o x := by simpa using h47
       rw [if_pos hyes] at hE3
       refine ⟨rfl, E3, ?_, (M.drop 0).drop 0⟩
       unfold Dsk.touch
       rw [her, if_neg (by omega), if_neg hlen, ← hx, if_pos hyes]; exact hE3)
end Go.Proofs.Ytniijiipkfhjgaa

namespace Go.Proofs.Ytniijiipkfhjgaa
open Go.RowKit Go.Sort
/-- the shards that are touched: bits of 1 to 4 -/
def ShOk (sh : Int) : Prop := ∃ k : Nat, k < 16 ∧ sh = 2 * (k : Int)
def loneB (sh : Int) : Nat := if sh = 2 then 1 else if sh = 4 then 2 else if sh = 8 then 3 else 4
theorem lone_is {sh : Int} (h : ShOk sh) (h0 : sh ≠ 0) (h1 : andV sh (sh - 1) = 0) : 1 ≤ loneB sh ∧ loneB sh ≤ 4 ∧ sh = 1 * (2 : Int) ^ loneB sh := by
  obtain ⟨k, hk, rfl⟩ := h
  have : k = 0 ∨ k = 1 ∨ k = 2 ∨ k = 3 ∨ k = 4 ∨ k = 5 ∨ k = 6 ∨ k = 7 ∨ k = 8 ∨ k = 9 ∨ k = 10 ∨ k = 11 ∨ k = 12 ∨ k = 13 ∨ k = 14 ∨ k = 15 := by omega
  rcases this with rfl | rfl | rfl | rfl | rfl | rfl | rfl | rfl | rfl | rfl | rfl | rfl | rfl | rfl | rfl | rfl <;> revert h0 h1 <;> decide
theorem pow_eq {p q : Nat} (hp : p ≤ 4) (hq : q ≤ 4) (h : 1 * (2 : Int) ^ p = 1 * (2 : Int) ^ q) : p = q := by
  have : p = 0 ∨ p = 1 ∨ p = 2 ∨ p = 3 ∨ p = 4 := by omega
  have : q = 0 ∨ q = 1 ∨ q = 2 ∨ q = 3 ∨ q = 4 := by omega
  rcases ‹p = 0 ∨ _› with rfl | rfl | rfl | rfl | rfl <;> rcases ‹q = 0 ∨ _› with rfl | rfl | rfl | rfl | rfl <;> first | rfl | exact absurd h (by decide)
abbrev Dsk.end0 (D : Dsk) (n : Nm) : Dsk := { D with t := { D.t with ends := D.t.ends ++ [n] } }
abbrev Dsk.com0 (D : Dsk) (n : Nm) : Dsk := { D with t := { D.t with com := D.t.com ++ [n] } }
def Dsk.commit0 (D : Dsk) (i : Nat) (o : Ope) : Dsk :=
  if o.sh = 0 then ((D.end0 o.nm).seen ⟨5, o.nm, 0, zV8, 0⟩).ended i o 3 0 0 true
  else if andV o.sh (o.sh - 1) = 0 then (D.setO i { o with ph := 2, at_ := loneB o.sh }).mail ({ o with ph := 2, at_ := loneB o.sh } : Ope).fast
  else (D.setO i { o with ph := 3 }).com0 o.nm
def Dsk.commit (D : Dsk) (i : Nat) (o : Ope) : Dsk := (D.seen ⟨3, o.nm, 0, zV8, 0⟩).commit0 i o
set_option maxHeartbeats 4000000 in
theorem commit_any {wc w : World} {A E : List Ent} {b : Nat} {D : Dsk} (i : Nat) (o : Ope) (hE : DeskE b D E) (M : Mem wc w (A ++ E)) (hs : D.tiny) (ho : D.s.l[i]? = some o) (hsh : ShOk o.sh) :
    Calls Try.prog 39 #[.pointer (some ⟨b, 0, none⟩), .int .i64 (i : Int)] w fun e w' => e = .returned (.tuple #[]) ∧ ∃ E', DeskE b (D.commit i o) E' ∧ Mem wc w' (A ++ E') := by
  have hsl := hs.l
  obtain ⟨hil, -⟩ := List.getElem?_eq_some_iff.1 ho
  obtain ⟨⟨la, lc, llo, lhi⟩, ro, rm, ra, rs, rc, re, M1⟩ := Dsk.open hE M
  clear M; have M := M1; clear M1 hE
  refine calls_enter Try.func39 rfl 119 rfl rfl ?_; intro a S
  refine wp_seq ?_
  skip
  refine wp_region_lit ?_
  refine st_run [1, 1, 1, 1, 1, 1] S M rfl (by kernel_rfl) ?_; clear S a; intro a S
  refine st_y S rfl rfl rfl (y_indexR (e := 65) (sz := 37) S (by kernel_rfl) rfl (M.readAll 1 rfl (by unfold maxLen; omega)) rfl (by first | omega | (simp; done) | (simp; omega))) ?_; clear S a; intro a S
  try simp only [Int.toNat_natCast, Nat.mul_one, Nat.zero_add] at S
  refine st_go [1] S rfl (by kernel_rfl) ?_; clear S a; intro a S
  refine nxA ?_
  refine st_go [1, 1, 1, 3] S rfl (by kernel_rfl) ?_; clear S a; intro a S
  refine st_y S rfl rfl rfl (y_loadAgg S (by kernel_rfl) rfl rfl (show CellsAt _ _ _ (nmL o.nm) from (by rw [← ope_nm o]; exact ((M.readAll 1 rfl (by unfold maxLen; omega)).at_.row (i := i) (fm_get len_ope ho) rfl).sub (i := 2) (k := 3)))) ?_; clear S a; intro a S
  refine st_y S rfl rfl rfl (y_build (ps := [(0, (Operand.const (Value.int IntKind.i8 3))), (1, (Operand.tmp 16))]) (pl := [(0, 1), (1, 3), (4, 1), (5, 8), (13, 1)]) (z := [.int .i8 0, .int .i64 0, .int .i64 0, .int .i64 0, .int .i64 0, .int .u8 0, .int .u8 0, .int .u8 0, .int .u8 0, .int .u8 0, .int .u8 0, .int .u8 0, .int .u8 0, .int .i64 0]) (cs := Seen_.cellsL ⟨3, o.nm, 0, zV8, 0⟩) S (by kernel_rfl) rfl (by kernel_rfl)) ?_; clear S a; intro a S
  obtain ⟨E1, hE1, M2⟩ := Dsk.closeR (D := D) ⟨la, lc, llo, lhi⟩ ro rm ra rs rc re M
  clear M; have M := M2; clear M2
  refine st_call (xs := [(Operand.tmp 12), (Operand.tmp 17)]) S (enters_of Try.func34 (by decide) rfl) rfl rfl rfl (seen_anyR ⟨3, o.nm, 0, zV8, 0⟩ hE1 M hs.small) ?_
  rintro _ w1 ⟨rfl, E2, hE2, M1⟩; refine ⟨_, rfl, ?_⟩; clear S M a; intro a S; have M := M1; clear M1
  replace S := S.sub [(0, _), (1, _), (4, _)] rfl
  refine nxC ?_
  refine wp_block ?_
  refine wp_seq ?_
  unfold Dsk.commit
  have hse := hs.seen
  have hs2 : (D.seen ⟨3, o.nm, 0, zV8, 0⟩).small := ⟨hs.small.l, hs.small.over, hs.small.mail, hs.small.ans, by show (D.t.seen ++ [_]).length ≤ 1000; rw [List.length_append, List.length_singleton]; omega, hs.small.com, hs.small.ends⟩
  have hs3 : (D.seen ⟨3, o.nm, 0, zV8, 0⟩).t.seen.length ≤ 501 := by show (D.t.seen ++ [_]).length ≤ 501; rw [List.length_append, List.length_singleton]; omega
  have hs4 : (D.seen ⟨3, o.nm, 0, zV8, 0⟩).t.mail.length ≤ 500 := hs.mail
  have hs5 : (D.seen ⟨3, o.nm, 0, zV8, 0⟩).t.com.length ≤ 500 := hs.com
  have hs6 : (D.seen ⟨3, o.nm, 0, zV8, 0⟩).t.ends.length ≤ 500 := hs.ends
  have hs7 : (D.seen ⟨3, o.nm, 0, zV8, 0⟩).t.ans.length ≤ 500 := hs.ans
  have hs8 : (D.seen ⟨3, o.nm, 0, zV8, 0⟩).s.over.length ≤ 500 := hs.over
  have hs9 : (D.seen ⟨3, o.nm, 0, zV8, 0⟩).s.l.length = D.s.l.length := rfl
  have hoo : (D.seen ⟨3, o.nm, 0, zV8, 0⟩).s.l[i]? = some o := ho
  obtain ⟨D1, hD1⟩ : ∃ D1, D.seen ⟨3, o.nm, 0, zV8, 0⟩ = D1 := ⟨_, rfl⟩
  rw [hD1] at hE2 hs2 hs3 hs4 hs5 hs6 hs7 hs8 hs9 hoo ⊢
  rw [← hs9] at S
  obtain ⟨⟨la2, lc2, llo2, lhi2⟩, ro2, rm2, ra2, rs2, rc2, re2, hla, hlc, M1⟩ := Dsk.openR hE2 M
  obtain rfl : la2 = la := hla
  obtain rfl : lc2 = lc := hlc
  clear M; have M := M1; clear M1
  refine wp_region_lit ?_
  refine st_go [1, 1, 7] S rfl (by kernel_rfl) ?_; clear S a; intro a S
  refine st_y S rfl rfl rfl (y_load S (by kernel_rfl) rfl (((M.readAll 1 rfl (by unfold maxLen; omega)).at_.row (i := i) (fm_get len_ope hoo) rfl) 6 (by show 6 < 37; omega))) ?_; clear S a; intro a S
  refine st_go [1, 1] S rfl (by kernel_rfl) ?_; clear S a; intro a S
  refine nxC ?_
  refine st_if (t := 37) S rfl ?_ ?_
  · clear S; intro h37 S
    refine st_condT S rfl ?_
    refine wp_seq ?_
    refine wp_regionK [11, 15] #[false, false, false, false, false, false, false, false, false, false, false, false, false, false, false, false] rfl M (by kernel_rfl) ?_; clear M; intro w2 M
    refine k_pure (listed' := #[true, false, false, false, false, false, false, false, false, false, false, false, false, false, false, false]) 0 S rfl rfl rfl rfl (by kernel_rfl) rfl (fun _ d _ _ _ h => by cases d <;> exact h) (fun w => y_move S rfl) ?_; clear S a; intro a S
    refine k_pure (listed' := #[true, true, false, false, false, false, false, false, false, false, false, false, false, false, false, false]) 1 S rfl rfl rfl rfl (by kernel_rfl) rfl (fun _ d _ _ _ h => by cases d <;> exact h) (fun w => y_move S rfl) ?_; clear S a; intro a S
    refine k_pure (listed' := #[true, true, true, false, false, false, false, false, false, false, false, false, false, false, false, false]) 2 S rfl rfl rfl rfl (by kernel_rfl) rfl (fun _ d _ _ _ h => by cases d <;> exact h) (fun w => y_nilCheck S rfl) ?_; clear S a; intro a S
    refine k_pure (listed' := #[true, true, true, true, false, false, false, false, false, false, false, false, false, false, false, false]) 3 S rfl rfl rfl rfl (by kernel_rfl) rfl (fun _ d _ _ _ h => by cases d <;> exact h) (fun w => y_fieldAddr (k := 4) S (by kernel_rfl) rfl) ?_; clear S a; intro a S
    refine k_pure (listed' := #[true, true, true, true, true, false, false, false, false, false, false, false, false, false, false, false]) 4 S rfl rfl rfl rfl (by kernel_rfl) rfl (fun _ d _ _ _ h => by cases d <;> exact h) (fun w => y_fieldAddr (k := 4) S (by kernel_rfl) rfl) ?_; clear S a; intro a S
    refine k_read (listed' := #[true, true, true, true, true, true, false, false, false, false, false, false, false, false, false, false]) 5 S rfl rfl rfl rfl (by kernel_rfl) rfl (fun _ d _ _ _ h => by cases d <;> exact h) (fun w hW => have M := M.grow hW; y_load S (by kernel_rfl) rfl (M.cell 0 rfl rfl)) ?_; clear S a; intro a S
    refine k_pure (listed' := #[true, true, true, true, true, true, true, false, false, false, false, false, false, false, false, false]) 6 S rfl rfl rfl rfl (by kernel_rfl) rfl (fun _ d _ _ _ h => by cases d <;> exact h) (fun w => y_move S rfl) ?_; clear S a; intro a S
    refine k_pure (listed' := #[true, true, true, true, true, true, true, true, false, false, false, false, false, false, false, false]) 7 S rfl rfl rfl rfl (by kernel_rfl) rfl (fun _ d _ _ _ h => by cases d <;> exact h) (fun w => y_nilCheck S rfl) ?_; clear S a; intro a S
    refine k_pure (listed' := #[true, true, true, true, true, true, true, true, true, false, false, false, false, false, false, false]) 8 S rfl rfl rfl rfl (by kernel_rfl) rfl (fun _ d _ _ _ h => by cases d <;> exact h) (fun w => y_fieldAddr (k := 2) S (by kernel_rfl) rfl) ?_; clear S a; intro a S
    refine k_read (listed' := #[true, true, true, true, true, true, true, true, true, true, false, false, false, false, false, false]) 9 S rfl rfl rfl rfl (by kernel_rfl) rfl (fun _ d _ _ _ h => by cases d <;> exact h) (fun w hW => have M := M.grow hW; y_loadAgg S (by kernel_rfl) rfl rfl (show CellsAt _ _ _ (nmL o.nm) from (by rw [← ope_nm o]; exact ((M.readAll 1 rfl (by unfold maxLen; omega)).at_.row (i := i) (fm_get len_ope hoo) rfl).sub (i := 2) (k := 3)))) ?_; clear S a; intro a S
    refine k_one (listed' := #[true, true, true, true, true, true, true, true, true, true, true, false, false, false, false, false]) 10 rfl (by kernel_rfl) rfl ?_
    refine st_lit (ps := [(0, (Operand.tmp 52))]) (e := 40) (sz := 3) (zl := [.int .i64 0, .int .i64 0, .int .i64 0]) (cs := [_, _, _]) S M rfl rfl (by kernel_rfl) rfl (rfl) ?_; clear S M a; intro a w3 bZ S M hB
    refine wpList_nil ?_; refine then_normal ?_; refine ⟨fun _ => hB, ?_⟩
    refine k_one (listed' := #[true, true, true, true, true, true, true, true, true, true, true, true, false, false, false, false]) 11 rfl (by kernel_rfl) rfl ?_
    refine st_append (e := 40) (sz := 3) (by_ := 24) (zc := [.int .i64 0, .int .i64 0, .int .i64 0]) S M 8 rfl rfl (by kernel_rfl) rfl (by decide) rfl rfl rfl (show Rd _ _ _ 3 _ 1 (nmL o.nm) from M.sliceAt 0 rfl (M.cellsAt (k := 3) 0 rfl rfl) rfl (Nat.le_refl _) (by unfold maxLen; omega)) (rfl) (by omega) (by unfold maxLen; omega) ?_; clear S M a; intro a w4 vA loA hiA S M
    refine wpList_nil ?_; refine then_normal ?_; refine ⟨fun h => absurd h (by decide), ?_⟩
    refine k_pure (listed' := #[true, true, true, true, true, true, true, true, true, true, true, true, true, false, false, false]) 12 S rfl rfl rfl rfl (by kernel_rfl) rfl (fun _ d _ _ _ h => by cases d <;> exact h) (fun w => y_nilCheck S rfl) ?_; clear S a; intro a S
    refine k_pure (listed' := #[true, true, true, true, true, true, true, true, true, true, true, true, true, true, false, false]) 13 S rfl rfl rfl rfl (by kernel_rfl) rfl (fun _ d _ _ _ h => by cases d <;> exact h) (fun w => y_fieldAddr (k := 4) S (by kernel_rfl) rfl) ?_; clear S a; intro a S
    refine k_pure (listed' := #[true, true, true, true, true, true, true, true, true, true, true, true, true, true, true, false]) 14 S rfl rfl rfl rfl (by kernel_rfl) rfl (fun _ d _ _ _ h => by cases d <;> exact h) (fun w => y_fieldAddr (k := 4) S (by kernel_rfl) rfl) ?_; clear S a; intro a S
    refine k_one (listed' := #[true, true, true, true, true, true, true, true, true, true, true, true, true, true, true, true]) 15 rfl (by kernel_rfl) rfl ?_
    obtain ⟨aA, cA, rfl, -, -⟩ := (M.readAll 0 rfl (by unfold maxLen; omega)).form
    refine st_store (sz := 1) (us := [_]) S M 2 rfl (by kernel_rfl) rfl rfl rfl rfl rfl rfl (by first | decide | (simp; done) | (simp; omega)) ?_; clear M; intro w5 M
    simp only [putL, List.set_cons_zero, List.set_cons_succ, Nat.reduceAdd] at M
    refine wpList_nil ?_; refine then_normal ?_; refine ⟨fun h => absurd h (by decide), ?_⟩
    refine k_end (by kernel_rfl) ?_
    replace S := S.sub [(0, _), (1, _), (4, _), (37, _)] rfl
    refine nxE ?_
    refine st_go [1, 1, 1, 3] S rfl (by kernel_rfl) ?_; clear S a; intro a S
    refine st_y S rfl rfl rfl (y_loadAgg S (by kernel_rfl) rfl rfl (show CellsAt _ _ _ (nmL o.nm) from (by rw [← ope_nm o]; exact ((M.readAll 3 rfl (by unfold maxLen; omega)).at_.row (i := i) (fm_get len_ope hoo) rfl).sub (i := 2) (k := 3)))) ?_; clear S a; intro a S
    refine st_y S rfl rfl rfl (y_build (ps := [(0, (Operand.const (Value.int IntKind.i8 5))), (1, (Operand.tmp 62))]) (pl := [(0, 1), (1, 3), (4, 1), (5, 8), (13, 1)]) (z := [.int .i8 0, .int .i64 0, .int .i64 0, .int .i64 0, .int .i64 0, .int .u8 0, .int .u8 0, .int .u8 0, .int .u8 0, .int .u8 0, .int .u8 0, .int .u8 0, .int .u8 0, .int .i64 0]) (cs := Seen_.cellsL ⟨5, o.nm, 0, zV8, 0⟩) S (by kernel_rfl) rfl (by kernel_rfl)) ?_; clear S a; intro a S
    skip
    replace M := M.drop 1
    simp only [List.eraseIdx_cons_succ, List.eraseIdx_cons_zero] at M
    replace M := M.front 7 rfl
    simp only [List.eraseIdx_cons_succ, List.eraseIdx_cons_zero] at M
    replace M := M.front 7 rfl
    simp only [List.eraseIdx_cons_succ, List.eraseIdx_cons_zero] at M
    replace M := M.front 7 rfl
    simp only [List.eraseIdx_cons_succ, List.eraseIdx_cons_zero] at M
    replace M := M.front 7 rfl
    simp only [List.eraseIdx_cons_succ, List.eraseIdx_cons_zero] at M
    replace M := M.front 7 rfl
    simp only [List.eraseIdx_cons_succ, List.eraseIdx_cons_zero] at M
    replace M := M.front 7 rfl
    simp only [List.eraseIdx_cons_succ, List.eraseIdx_cons_zero] at M
    replace M := M.front 7 rfl
    simp only [List.eraseIdx_cons_succ, List.eraseIdx_cons_zero] at M
    have q1 : (D1.end0 o.nm).t.ends.length = D1.t.ends.length + 1 := by simp
    have q2 : fm nmL (D1.end0 o.nm).t.ends = fm nmL D1.t.ends ++ nmL o.nm := fm_snoc _ _ _
    obtain ⟨E3, hE3, M2⟩ := Dsk.closeG (D1.end0 o.nm) ⟨la2, lc2, llo2, lhi2⟩ ro2 rm2 ra2 rs2 rc2 ⟨aA, cA, loA, hiA⟩ M (by unfold dskL Rw.v; rw [q1]) rfl rfl rfl rfl rfl rfl (by unfold Rw.ent Rw.v; rw [q1, q2])
    clear M; have M := M2; clear M2
    have hsq : (D1.end0 o.nm).small := ⟨hs2.l, hs2.over, hs2.mail, hs2.ans, hs2.seen, hs2.com, by rw [q1]; omega⟩
    refine st_call (xs := [(Operand.tmp 58), (Operand.tmp 63)]) S (enters_of Try.func34 (by decide) rfl) rfl rfl rfl (seen_any ⟨5, o.nm, 0, zV8, 0⟩ hE3 M hsq) ?_
    rintro _ w6 ⟨rfl, E4, hE4, M1⟩; refine ⟨_, rfl, ?_⟩; clear S M a; intro a S; have M := M1; clear M1
    refine nxC ?_
    obtain ⟨D2, hD2⟩ : ∃ D2, (D1.end0 o.nm).seen ⟨5, o.nm, 0, zV8, 0⟩ = D2 := ⟨_, rfl⟩
    have hsr : D2.mid := by
      rw [← hD2]
      exact ⟨by show D1.s.l.length ≤ 900; omega, by show D1.s.over.length ≤ 900; omega, by show D1.t.mail.length ≤ 900; omega, by show D1.t.ans.length ≤ 900; omega, by show (D1.t.seen ++ [_]).length ≤ 900; rw [List.length_append, List.length_singleton]; omega, by show D1.t.com.length ≤ 900; omega, by show (D1.end0 o.nm).t.ends.length ≤ 900; rw [q1]; omega⟩
    have ho2 : D2.s.l[i]? = some o := by rw [← hD2]; exact hoo
    rw [hD2] at hE4
    refine wp_region_lit ?_
    refine st_go [1, 1] S rfl (by kernel_rfl) ?_; clear S a; intro a S
    refine st_call (xs := [(Operand.tmp 65), (Operand.tmp 66), (Operand.const (Value.int IntKind.i8 3))]) S (enters_of Try.func24 (by decide) rfl) rfl rfl rfl (ending_any i o 3 hE4 M hsr ho2) ?_
    rintro _ w7 ⟨b3, b4, b5, b7, rfl, E5, hE5, M1⟩; refine ⟨_, rfl, ?_⟩; clear S M a; intro a S; have M := M1; clear M1
    refine st_callB (xs := [(Operand.const (Value.int IntKind.i64 0)), (Operand.const (Value.int IntKind.i64 0)), (Operand.const (Value.bool true))]) (fi := []) (ca := [.pointer (some ⟨b3, 0, none⟩), .pointer (some ⟨b7, 0, none⟩), .pointer (some ⟨b4, 0, none⟩), .pointer (some ⟨b5, 0, none⟩)]) S (enters_of Try.func48 (by decide) rfl) rfl rfl (rfl) rfl (ending1_any i o 3 0 0 true hE5 M hsr (List.getElem?_eq_some_iff.1 ho2).1) ?_
    rintro _ w8 ⟨rfl, E6, hE6, M1⟩; refine ⟨_, rfl, ?_⟩; clear S M a; intro a S; have M := M1; clear M1
    refine wpList_nil ?_
    refine block_normal ?_
    refine end_noneN S rfl ?_
    refine ⟨rfl, E6, ?_, M⟩
    unfold Dsk.commit0
    rw [if_pos (by omega), hD2]; exact hE6
  clear S; intro h37 S
  refine st_condF S rfl ?_
  refine wp_seq ?_
  have hil1 : i < D1.s.l.length := by rw [hs9]; exact hil
  have hgs : ∀ y : Ope, (D1.s.l.set i y)[i]? = some y := fun y => by simp [hil, hs9]
  have hfl : ∀ y : Ope, (fm Ope.cellsL (D1.s.l.set i y)).length = D1.s.l.length * 37 := fun y => by rw [fm_len len_ope, List.length_set]
  have hshb : 0 ≤ o.sh ∧ o.sh ≤ 30 := by
    obtain ⟨k, hk, h⟩ := hsh
    omega
  rw [show fm Ope.cellsL D1.s.l = fm Ope.cellsL (D1.s.l.set i o) by rw [set_self hoo]] at M
  refine wp_quiet M (by kernel_rfl) (by kernel_rfl) ?_
  refine qt_y S rfl rfl rfl (fun w M => y_move S rfl) ?_; clear S a; intro a S
  refine qt_y S rfl rfl rfl (fun w M => y_nilCheck S rfl) ?_; clear S a; intro a S
  refine qt_y S rfl rfl rfl (fun w M => y_fieldAddr (k := 6) S (by kernel_rfl) rfl) ?_; clear S a; intro a S
  refine qt_y S rfl rfl rfl (fun w M => y_load S (by kernel_rfl) rfl (((M.readAll 1 rfl (by unfold maxLen; omega)).at_.row (i := i) (fm_get len_ope (hgs o)) rfl) 6 (by show 6 < 37; omega))) ?_; clear S a; intro a S
  refine qt_y S rfl rfl rfl (fun w M => y_move S rfl) ?_; clear S a; intro a S
  refine qt_y S rfl rfl rfl (fun w M => y_nilCheck S rfl) ?_; clear S a; intro a S
  refine qt_y S rfl rfl rfl (fun w M => y_fieldAddr (k := 6) S (by kernel_rfl) rfl) ?_; clear S a; intro a S
  refine qt_y S rfl rfl rfl (fun w M => y_load S (by kernel_rfl) rfl (((M.readAll 1 rfl (by unfold maxLen; omega)).at_.row (i := i) (fm_get len_ope (hgs o)) rfl) 6 (by show 6 < 37; omega))) ?_; clear S a; intro a S
  (first | refine qt_y S rfl rfl rfl (fun w M => y_subN S rfl rfl (by omega)) ?_ | refine qt_y S rfl rfl rfl (fun w M => y_int S rfl rfl rfl) ?_); clear S a; intro a S
  refine qt_y S rfl rfl rfl (fun w M => y_int S rfl rfl rfl) ?_; clear S a; intro a S
  refine qt_y S rfl rfl rfl (fun w M => y_int S rfl rfl rfl) ?_; clear S a; intro a S
  refine qt_y S rfl rfl rfl (fun w M => y_assign S rfl) ?_; clear S a; intro a S
  refine wpQuiet_nil ?_; clear M; intro w9 M
  replace S := S.sub [(0, _), (1, _), (4, _), (37, _), (69, _)] rfl
  refine then_normal ?_
  refine st_fi (t := 69) S rfl ?_ ?_
  · clear S; intro h69 S
    refine st_condF S rfl ?_
    refine nxD ?_
    refine st_go [1, 1, 6] S rfl (by kernel_rfl) ?_; clear S a; intro a S
    refine st_storeRow (v := .slice la2 D1.s.l.length lc2) (sz := 37) (m := D1.s.l.length) (j := i * 37 + 5) (us := [.int .i8 3]) S M 1 rfl (by kernel_rfl) rfl rfl (by first | rfl | omega | (simp only [Int.toNat_natCast]; omega)) rfl rfl rfl rfl rfl (by omega) (hfl o) (by rw [hfl]; show i * 37 + 5 + 1 ≤ _; omega) ?_; clear M; intro wz lo9 hi9 M
    simp only [List.eraseIdx_cons_succ, List.eraseIdx_cons_zero] at M
    rw [fm_put (x' := { o with ph := 3 }) len_ope hil1 (by show 5 + 1 ≤ 37; omega) (rfl)] at M
    refine nxC ?_
    obtain ⟨o1, ho1⟩ : ∃ o1 : Ope, { o with ph := 3 } = o1 := ⟨_, rfl⟩
    rw [ho1] at M
    have hnm : o1.nm = o.nm := by rw [← ho1]
    refine wp_regionK [11, 15] #[false, false, false, false, false, false, false, false, false, false, false, false, false, false, false, false] rfl M (by kernel_rfl) ?_; clear M; intro w16 M
    refine k_pure (listed' := #[true, false, false, false, false, false, false, false, false, false, false, false, false, false, false, false]) 0 S rfl rfl rfl rfl (by kernel_rfl) rfl (fun _ d _ _ _ h => by cases d <;> exact h) (fun w => y_move S rfl) ?_; clear S a; intro a S
    refine k_pure (listed' := #[true, true, false, false, false, false, false, false, false, false, false, false, false, false, false, false]) 1 S rfl rfl rfl rfl (by kernel_rfl) rfl (fun _ d _ _ _ h => by cases d <;> exact h) (fun w => y_move S rfl) ?_; clear S a; intro a S
    refine k_pure (listed' := #[true, true, true, false, false, false, false, false, false, false, false, false, false, false, false, false]) 2 S rfl rfl rfl rfl (by kernel_rfl) rfl (fun _ d _ _ _ h => by cases d <;> exact h) (fun w => y_nilCheck S rfl) ?_; clear S a; intro a S
    refine k_pure (listed' := #[true, true, true, true, false, false, false, false, false, false, false, false, false, false, false, false]) 3 S rfl rfl rfl rfl (by kernel_rfl) rfl (fun _ d _ _ _ h => by cases d <;> exact h) (fun w => y_fieldAddr (k := 4) S (by kernel_rfl) rfl) ?_; clear S a; intro a S
    refine k_pure (listed' := #[true, true, true, true, true, false, false, false, false, false, false, false, false, false, false, false]) 4 S rfl rfl rfl rfl (by kernel_rfl) rfl (fun _ d _ _ _ h => by cases d <;> exact h) (fun w => y_fieldAddr (k := 3) S (by kernel_rfl) rfl) ?_; clear S a; intro a S
    refine k_read (listed' := #[true, true, true, true, true, true, false, false, false, false, false, false, false, false, false, false]) 5 S rfl rfl rfl rfl (by kernel_rfl) rfl (fun _ d _ _ _ h => by cases d <;> exact h) (fun w hW => have M := M.grow hW; y_load S (by kernel_rfl) rfl (M.cell 1 rfl rfl)) ?_; clear S a; intro a S
    refine k_pure (listed' := #[true, true, true, true, true, true, true, false, false, false, false, false, false, false, false, false]) 6 S rfl rfl rfl rfl (by kernel_rfl) rfl (fun _ d _ _ _ h => by cases d <;> exact h) (fun w => y_move S rfl) ?_; clear S a; intro a S
    refine k_pure (listed' := #[true, true, true, true, true, true, true, true, false, false, false, false, false, false, false, false]) 7 S rfl rfl rfl rfl (by kernel_rfl) rfl (fun _ d _ _ _ h => by cases d <;> exact h) (fun w => y_nilCheck S rfl) ?_; clear S a; intro a S
    refine k_pure (listed' := #[true, true, true, true, true, true, true, true, true, false, false, false, false, false, false, false]) 8 S rfl rfl rfl rfl (by kernel_rfl) rfl (fun _ d _ _ _ h => by cases d <;> exact h) (fun w => y_fieldAddr (k := 2) S (by kernel_rfl) rfl) ?_; clear S a; intro a S
    refine k_read (listed' := #[true, true, true, true, true, true, true, true, true, true, false, false, false, false, false, false]) 9 S rfl rfl rfl rfl (by kernel_rfl) rfl (fun _ d _ _ _ h => by cases d <;> exact h) (fun w hW => have M := M.grow hW; y_loadAgg S (by kernel_rfl) rfl rfl (show CellsAt _ _ _ (nmL o.nm) from (by rw [← hnm, ← ope_nm o1]; exact ((M.readAll 0 rfl (by unfold maxLen; omega)).at_.row (i := i) (fm_get len_ope (hgs o1)) rfl).sub (i := 2) (k := 3)))) ?_; clear S a; intro a S
    refine k_one (listed' := #[true, true, true, true, true, true, true, true, true, true, true, false, false, false, false, false]) 10 rfl (by kernel_rfl) rfl ?_
    refine st_lit (ps := [(0, (Operand.tmp 31))]) (e := 40) (sz := 3) (zl := [.int .i64 0, .int .i64 0, .int .i64 0]) (cs := [_, _, _]) S M rfl rfl (by kernel_rfl) rfl (rfl) ?_; clear S M a; intro a w17 bZ3 S M hB
    refine wpList_nil ?_; refine then_normal ?_; refine ⟨fun _ => hB, ?_⟩
    refine k_one (listed' := #[true, true, true, true, true, true, true, true, true, true, true, true, false, false, false, false]) 11 rfl (by kernel_rfl) rfl ?_
    refine st_append (e := 40) (sz := 3) (by_ := 24) (zc := [.int .i64 0, .int .i64 0, .int .i64 0]) S M 7 rfl rfl (by kernel_rfl) rfl (by decide) rfl rfl rfl (show Rd _ _ _ 3 _ 1 (nmL o.nm) from M.sliceAt 0 rfl (M.cellsAt (k := 3) 0 rfl rfl) rfl (Nat.le_refl _) (by unfold maxLen; omega)) (rfl) (by omega) (by unfold maxLen; omega) ?_; clear S M a; intro a w18 vA loA hiA S M
    refine wpList_nil ?_; refine then_normal ?_; refine ⟨fun h => absurd h (by decide), ?_⟩
    refine k_pure (listed' := #[true, true, true, true, true, true, true, true, true, true, true, true, true, false, false, false]) 12 S rfl rfl rfl rfl (by kernel_rfl) rfl (fun _ d _ _ _ h => by cases d <;> exact h) (fun w => y_nilCheck S rfl) ?_; clear S a; intro a S
    refine k_pure (listed' := #[true, true, true, true, true, true, true, true, true, true, true, true, true, true, false, false]) 13 S rfl rfl rfl rfl (by kernel_rfl) rfl (fun _ d _ _ _ h => by cases d <;> exact h) (fun w => y_fieldAddr (k := 4) S (by kernel_rfl) rfl) ?_; clear S a; intro a S
    refine k_pure (listed' := #[true, true, true, true, true, true, true, true, true, true, true, true, true, true, true, false]) 14 S rfl rfl rfl rfl (by kernel_rfl) rfl (fun _ d _ _ _ h => by cases d <;> exact h) (fun w => y_fieldAddr (k := 3) S (by kernel_rfl) rfl) ?_; clear S a; intro a S
    refine k_one (listed' := #[true, true, true, true, true, true, true, true, true, true, true, true, true, true, true, true]) 15 rfl (by kernel_rfl) rfl ?_
    obtain ⟨aM, cM, rfl, -, -⟩ := (M.readAll 0 rfl (by unfold maxLen; omega)).form
    refine st_store (sz := 1) (us := [_]) S M 3 rfl (by kernel_rfl) rfl rfl rfl rfl rfl rfl (by first | decide | (simp; done) | (simp; omega)) ?_; clear M; intro w19 M
    simp only [putL, List.set_cons_zero, List.set_cons_succ, Nat.reduceAdd] at M
    refine wpList_nil ?_; refine then_normal ?_; refine ⟨fun h => absurd h (by decide), ?_⟩
    refine k_end (by kernel_rfl) ?_
    replace S := S.sub [(0, _), (1, _), (4, _), (37, _), (69, _)] rfl
    refine block_normal ?_
    refine end_noneN S rfl ?_
    skip
    replace M := M.drop 1
    simp only [List.eraseIdx_cons_succ, List.eraseIdx_cons_zero] at M
    replace M := M.front 6 rfl
    simp only [List.eraseIdx_cons_succ, List.eraseIdx_cons_zero] at M
    replace M := M.front 6 rfl
    simp only [List.eraseIdx_cons_succ, List.eraseIdx_cons_zero] at M
    replace M := M.front 6 rfl
    simp only [List.eraseIdx_cons_succ, List.eraseIdx_cons_zero] at M
    replace M := M.front 6 rfl
    simp only [List.eraseIdx_cons_succ, List.eraseIdx_cons_zero] at M
    replace M := M.front 5 rfl
    simp only [List.eraseIdx_cons_succ, List.eraseIdx_cons_zero] at M
    replace M := M.front 6 rfl
    simp only [List.eraseIdx_cons_succ, List.eraseIdx_cons_zero] at M
    have q1 : ((D1.setO i o1).com0 o.nm).s.l.length = D1.s.l.length := List.length_set
    have q2 : ((D1.setO i o1).com0 o.nm).t.com.length = D1.t.com.length + 1 := by simp
    have q3 : fm nmL ((D1.setO i o1).com0 o.nm).t.com = fm nmL D1.t.com ++ nmL o.nm := fm_snoc _ _ _
    obtain ⟨E3, hE3, M2⟩ := Dsk.closeG ((D1.setO i o1).com0 o.nm) ⟨la2, lc2, lo9, hi9⟩ ro2 rm2 ra2 rs2 ⟨aM, cM, loA, hiA⟩ re2 M (by unfold dskL; rw [q1, q2]) (by unfold Rw.ent Rw.v; rw [q1]) rfl rfl rfl rfl (by unfold Rw.ent Rw.v; rw [q2, q3]) rfl
    refine ⟨rfl, E3, ?_, M2⟩
    unfold Dsk.commit0
    rw [if_neg (by omega), if_neg (by first | omega | (unfold andV; omega)), ho1]; exact hE3
  clear S; intro h69 S
  refine st_condT S rfl ?_
  refine nxD ?_
  refine st_go [1, 1, 6] S rfl (by kernel_rfl) ?_; clear S a; intro a S
  refine st_storeRow (v := .slice la2 D1.s.l.length lc2) (sz := 37) (m := D1.s.l.length) (j := i * 37 + 5) (us := [.int .i8 2]) S M 1 rfl (by kernel_rfl) rfl rfl (by first | rfl | omega | (simp only [Int.toNat_natCast]; omega)) rfl rfl rfl rfl rfl (by omega) (hfl o) (by rw [hfl]; show i * 37 + 5 + 1 ≤ _; omega) ?_; clear M; intro wz lo9 hi9 M
  simp only [List.eraseIdx_cons_succ, List.eraseIdx_cons_zero] at M
  rw [fm_put (x' := { o with ph := 2 }) len_ope hil1 (by show 5 + 1 ≤ 37; omega) (rfl)] at M
  refine nxC ?_
  refine wp_seq ?_
  refine wp_seq ?_
  have hlo := lone_is hsh (by omega) (by first | omega | (unfold andV; omega))
  refine wp_region_lit ?_
  refine st_go [1, 1, 13] S rfl (by kernel_rfl) ?_; clear S a; intro a S
  refine st_storeRow (v := .slice la2 D1.s.l.length lc2) (sz := 37) (m := D1.s.l.length) (j := i * 37 + 12) (us := [.int .i64 1]) S M 0 rfl (by kernel_rfl) rfl rfl (by first | rfl | omega | (simp only [Int.toNat_natCast]; omega)) rfl rfl rfl rfl rfl (by omega) (hfl { o with ph := 2 }) (by rw [hfl]; show i * 37 + 12 + 1 ≤ _; omega) ?_; clear M; intro wz lo9 hi9 M
  simp only [List.eraseIdx_cons_succ, List.eraseIdx_cons_zero] at M
  rw [fm_put (x' := { o with ph := 2, at_ := ((1 : Nat) : Int) }) len_ope hil1 (by show 12 + 1 ≤ 37; omega) (rfl)] at M
  refine nxC ?_
  refine wp_block ?_
  refine wp_loop_g (fun m a w' => ∃ (j lo9 hi9 : Nat), 1 ≤ j ∧ j ≤ loneB o.sh ∧ m = loneB o.sh - j ∧ Sees 119 a [(0, .pointer (some ⟨b, 0, none⟩)), (1, .int .i64 (i : Int)), (4, .pointer (some ⟨(adr (.slice la2 D1.s.l.length lc2)).block, (adr (.slice la2 D1.s.l.length lc2)).off + (Int.toNat (i : Int)) * 37, none⟩))] ∧ Mem wc w' (rowE lo9 hi9 65 37 (.slice la2 D1.s.l.length lc2) D1.s.l.length (fm Ope.cellsL (D1.s.l.set i { o with ph := 2, at_ := (j : Int) })) :: .blk b (dskL D1 ⟨la2, lc2, llo2, lhi2⟩ ro2 rm2 ra2 rs2 rc2 re2).toArray 79 :: ro2.ent 91 5 D1.s.over.length (fm End_.cellsL D1.s.over) :: rm2.ent 45 24 D1.t.mail.length (fm msgL D1.t.mail) :: ra2.ent 69 13 D1.t.ans.length (fm Ans.cellsL D1.t.ans) :: rs2.ent 71 14 D1.t.seen.length (fm Seen_.cellsL D1.t.seen) :: rc2.ent 40 3 D1.t.com.length (fm nmL D1.t.com) :: re2.ent 40 3 D1.t.ends.length (fm nmL D1.t.ends) :: A)) (loneB o.sh - 1) ?_ ?_
  · skip
    exact ⟨1, _, _, Nat.le_refl _, hlo.1, rfl, S.sub _ rfl, M⟩
  clear S M a; intro m a wl
  rintro ⟨j, lo9, hi9, hj1, hj2, rfl, S, M⟩
  refine wp_seq ?_
  refine wp_seq ?_
  refine wp_quiet M (by kernel_rfl) (by kernel_rfl) ?_
  refine qt_y S rfl rfl rfl (fun w M => y_move S rfl) ?_; clear S a; intro a S
  refine qt_y S rfl rfl rfl (fun w M => y_nilCheck S rfl) ?_; clear S a; intro a S
  refine qt_y S rfl rfl rfl (fun w M => y_fieldAddr (k := 6) S (by kernel_rfl) rfl) ?_; clear S a; intro a S
  refine qt_y S rfl rfl rfl (fun w M => y_load S (by kernel_rfl) rfl ((((M.readAll 0 rfl (by unfold maxLen; omega)).at_.row (i := i) (fm_get len_ope (hgs { o with ph := 2, at_ := (j : Int) })) rfl) 6 (by show 6 < 37; omega)).trans (show _ = some (Value.int .i64 o.sh) from rfl))) ?_; clear S a; intro a S
  refine qt_y S rfl rfl rfl (fun w M => y_move S rfl) ?_; clear S a; intro a S
  refine qt_y S rfl rfl rfl (fun w M => y_nilCheck S rfl) ?_; clear S a; intro a S
  refine qt_y S rfl rfl rfl (fun w M => y_fieldAddr (k := 12) S (by kernel_rfl) rfl) ?_; clear S a; intro a S
  refine qt_y S rfl rfl rfl (fun w M => y_load S (by kernel_rfl) rfl ((((M.readAll 0 rfl (by unfold maxLen; omega)).at_.row (i := i) (fm_get len_ope (hgs { o with ph := 2, at_ := (j : Int) })) rfl) 12 (by show 12 < 37; omega)).trans (show _ = some (Value.int .i64 (j : Int)) from rfl))) ?_; clear S a; intro a S
  (first | refine qt_y S rfl rfl rfl (fun w M => y_shlN S rfl rfl (by omega) (by first | exact shl_bd (by omega) | (rw [Int.toNat_natCast]; exact shl_bd (by omega)))) ?_ | refine qt_y S rfl rfl rfl (fun w M => y_shl S rfl rfl (by omega)) ?_); clear S a; intro a S
  refine qt_y S rfl rfl rfl (fun w M => y_int S rfl rfl rfl) ?_; clear S a; intro a S
  refine wpQuiet_nil ?_; clear M; intro w10 M
  refine then_normal ?_
  refine st_split (t := 96) S rfl ?_ ?_
  · clear S; intro h96 S
    refine st_condT S rfl ?_
    refine wp_skip ?_
    refine then_normal ?_
    refine wp_seq ?_
    refine wp_block ?_
    refine wp_skip ?_
    refine block_normal ?_
    refine nxF ?_
    refine st_go [1, 1, 13] S rfl (by kernel_rfl) ?_; clear S a; intro a S
    refine st_y S rfl rfl rfl (y_load S (by kernel_rfl) rfl ((((M.readAll 0 rfl (by unfold maxLen; omega)).at_.row (i := i) (fm_get len_ope (hgs { o with ph := 2, at_ := (j : Int) })) rfl) 12 (by show 12 < 37; omega)).trans (show _ = some (Value.int .i64 (j : Int)) from rfl))) ?_; clear S a; intro a S
    (first | refine st_y S rfl rfl rfl (y_addN S rfl rfl (by omega)) ?_ | refine st_y S rfl rfl rfl (y_int S rfl rfl rfl) ?_); clear S a; intro a S
    refine st_go [1, 13] S rfl (by kernel_rfl) ?_; clear S a; intro a S
    refine st_storeRow (v := .slice la2 D1.s.l.length lc2) (sz := 37) (m := D1.s.l.length) (j := i * 37 + 12) (us := [.int .i64 ((j : Int) + 1)]) S M 0 rfl (by kernel_rfl) rfl rfl (by first | rfl | omega | (simp only [Int.toNat_natCast]; omega)) rfl rfl rfl rfl rfl (by omega) (hfl { o with ph := 2, at_ := (j : Int) }) (by rw [hfl]; show i * 37 + 12 + 1 ≤ _; omega) ?_; clear M; intro wz lo9 hi9 M
    simp only [List.eraseIdx_cons_succ, List.eraseIdx_cons_zero] at M
    rw [fm_put (x' := { o with ph := 2, at_ := ((j + 1 : Nat) : Int) }) len_ope hil1 (by show 12 + 1 ≤ 37; omega) (rfl)] at M
    replace S := S.sub [(0, _), (1, _), (4, _), (96, _)] rfl
    refine nxC ?_
    have hne : j ≠ loneB o.sh := fun h => by
      rw [h, Int.toNat_natCast, ← hlo.2.2] at h96; simp at h96
    exact ⟨loneB o.sh - (j + 1), by omega, j + 1, lo9, hi9, by omega, by omega, rfl, S.sub _ rfl, M⟩
  clear S; intro h96 S
  refine st_condF S rfl ?_
  refine wp_exit ?_
  refine then_exit ?_
  refine then_exit ?_
  refine block_hit ?_
  refine then_normal ?_
  have hje : j = loneB o.sh := by
    have h9 : (o.sh != 1 * (2 : Int) ^ j) = false := by rw [← h96, Int.toNat_natCast]
    have h8 : o.sh = 1 * (2 : Int) ^ j := by simpa using h9
    exact pow_eq (by omega) (by omega) (h8.symm.trans hlo.2.2)
  obtain ⟨o1, ho1⟩ : ∃ o1 : Ope, { o with ph := 2, at_ := (j : Int) } = o1 := ⟨_, rfl⟩
  rw [ho1] at M
  refine wp_regionK [11, 15] #[false, false, false, false, false, false, false, false, false, false, false, false, false, false, false, false] rfl M (by kernel_rfl) ?_; clear M; intro w11 M
  refine k_pure (listed' := #[true, false, false, false, false, false, false, false, false, false, false, false, false, false, false, false]) 0 S rfl rfl rfl rfl (by kernel_rfl) rfl (fun _ d _ _ _ h => by cases d <;> exact h) (fun w => y_move S rfl) ?_; clear S a; intro a S
  refine k_pure (listed' := #[true, true, false, false, false, false, false, false, false, false, false, false, false, false, false, false]) 1 S rfl rfl rfl rfl (by kernel_rfl) rfl (fun _ d _ _ _ h => by cases d <;> exact h) (fun w => y_move S rfl) ?_; clear S a; intro a S
  refine k_pure (listed' := #[true, true, true, false, false, false, false, false, false, false, false, false, false, false, false, false]) 2 S rfl rfl rfl rfl (by kernel_rfl) rfl (fun _ d _ _ _ h => by cases d <;> exact h) (fun w => y_nilCheck S rfl) ?_; clear S a; intro a S
  refine k_pure (listed' := #[true, true, true, true, false, false, false, false, false, false, false, false, false, false, false, false]) 3 S rfl rfl rfl rfl (by kernel_rfl) rfl (fun _ d _ _ _ h => by cases d <;> exact h) (fun w => y_fieldAddr (k := 4) S (by kernel_rfl) rfl) ?_; clear S a; intro a S
  refine k_pure (listed' := #[true, true, true, true, true, false, false, false, false, false, false, false, false, false, false, false]) 4 S rfl rfl rfl rfl (by kernel_rfl) rfl (fun _ d _ _ _ h => by cases d <;> exact h) (fun w => y_fieldAddr (k := 0) S (by kernel_rfl) rfl) ?_; clear S a; intro a S
  refine k_read (listed' := #[true, true, true, true, true, true, false, false, false, false, false, false, false, false, false, false]) 5 S rfl rfl rfl rfl (by kernel_rfl) rfl (fun _ d _ _ _ h => by cases d <;> exact h) (fun w hW => have M := M.grow hW; y_load S (by kernel_rfl) rfl (M.cell 1 rfl rfl)) ?_; clear S a; intro a S
  refine k_pure (listed' := #[true, true, true, true, true, true, true, false, false, false, false, false, false, false, false, false]) 6 S rfl rfl rfl rfl (by kernel_rfl) rfl (fun _ d _ _ _ h => by cases d <;> exact h) (fun w => y_move S rfl) ?_; clear S a; intro a S
  refine k_pure (listed' := #[true, true, true, true, true, true, true, true, false, false, false, false, false, false, false, false]) 7 S rfl rfl rfl rfl (by kernel_rfl) rfl (fun _ d _ _ _ h => by cases d <;> exact h) (fun w => y_nilCheck S rfl) ?_; clear S a; intro a S
  refine k_read (listed' := #[true, true, true, true, true, true, true, true, true, false, false, false, false, false, false, false]) 8 S rfl rfl rfl rfl (by kernel_rfl) rfl (fun _ d _ _ _ h => by cases d <;> exact h) (fun w hW => have M := M.grow hW; y_loadAgg S (by kernel_rfl) rfl rfl ((M.readAll 0 rfl (by unfold maxLen; omega)).at_.row (i := i) (fm_get len_ope (hgs o1)) rfl)) ?_; clear S a; intro a S
  refine k_one (listed' := #[true, true, true, true, true, true, true, true, true, true, false, false, false, false, false, false]) 9 rfl (by kernel_rfl) rfl ?_
  refine st_call (xs := [(Operand.tmp 112)]) S (enters_of Try.func26 (by decide) rfl) rfl rfl rfl (fast_any o1 _) ?_
  rintro _ w12 ⟨rfl, hK⟩; refine ⟨_, rfl, ?_⟩; clear S a; intro a S; replace M := M.grow hK
  refine wpList_nil ?_; refine then_normal ?_; refine ⟨fun _ => hK, ?_⟩
  refine k_one (listed' := #[true, true, true, true, true, true, true, true, true, true, true, false, false, false, false, false]) 10 rfl (by kernel_rfl) rfl ?_
  refine st_lit (ps := [(0, (Operand.tmp 113))]) (e := 45) (sz := 24) (zl := [.int .i8 0, .int .i64 0, .int .i64 0, .int .i64 0, .int .i64 0, .int .i64 0, .int .i64 0, .int .i64 0, .int .i64 0, .int .i8 0, .int .i64 0, .int .u8 0, .int .u8 0, .int .u8 0, .int .u8 0, .int .u8 0, .int .u8 0, .int .u8 0, .int .u8 0, .int .i64 0, .bool false, .int .i64 0, .int .i64 0, .slice none 0 0]) (cs := msgL o1.fast) S M rfl rfl (by kernel_rfl) rfl (by kernel_rfl) ?_; clear S M a; intro a w13 bZ2 S M hB
  refine wpList_nil ?_; refine then_normal ?_; refine ⟨fun _ => hB, ?_⟩
  refine k_one (listed' := #[true, true, true, true, true, true, true, true, true, true, true, true, false, false, false, false]) 11 rfl (by kernel_rfl) rfl ?_
  refine st_append (e := 45) (sz := 24) (by_ := 152) (zc := [.int .i8 0, .int .i64 0, .int .i64 0, .int .i64 0, .int .i64 0, .int .i64 0, .int .i64 0, .int .i64 0, .int .i64 0, .int .i8 0, .int .i64 0, .int .u8 0, .int .u8 0, .int .u8 0, .int .u8 0, .int .u8 0, .int .u8 0, .int .u8 0, .int .u8 0, .int .i64 0, .bool false, .int .i64 0, .int .i64 0, .slice none 0 0]) S M 4 rfl rfl (by kernel_rfl) rfl (by decide) rfl rfl rfl (show Rd _ _ _ 24 _ 1 (msgL o1.fast) from M.sliceAt 0 rfl (M.cellsAt (k := 24) 0 rfl rfl) rfl (Nat.le_refl _) (by unfold maxLen; omega)) (rfl) (by omega) (by unfold maxLen; omega) ?_; clear S M a; intro a w14 vA loA hiA S M
  refine wpList_nil ?_; refine then_normal ?_; refine ⟨fun h => absurd h (by decide), ?_⟩
  refine k_pure (listed' := #[true, true, true, true, true, true, true, true, true, true, true, true, true, false, false, false]) 12 S rfl rfl rfl rfl (by kernel_rfl) rfl (fun _ d _ _ _ h => by cases d <;> exact h) (fun w => y_nilCheck S rfl) ?_; clear S a; intro a S
  refine k_pure (listed' := #[true, true, true, true, true, true, true, true, true, true, true, true, true, true, false, false]) 13 S rfl rfl rfl rfl (by kernel_rfl) rfl (fun _ d _ _ _ h => by cases d <;> exact h) (fun w => y_fieldAddr (k := 4) S (by kernel_rfl) rfl) ?_; clear S a; intro a S
  refine k_pure (listed' := #[true, true, true, true, true, true, true, true, true, true, true, true, true, true, true, false]) 14 S rfl rfl rfl rfl (by kernel_rfl) rfl (fun _ d _ _ _ h => by cases d <;> exact h) (fun w => y_fieldAddr (k := 0) S (by kernel_rfl) rfl) ?_; clear S a; intro a S
  refine k_one (listed' := #[true, true, true, true, true, true, true, true, true, true, true, true, true, true, true, true]) 15 rfl (by kernel_rfl) rfl ?_
  obtain ⟨aM, cM, rfl, -, -⟩ := (M.readAll 0 rfl (by unfold maxLen; omega)).form
  refine st_store (sz := 1) (us := [_]) S M 3 rfl (by kernel_rfl) rfl rfl rfl rfl rfl rfl (by first | decide | (simp; done) | (simp; omega)) ?_; clear M; intro w15 M
  simp only [putL, List.set_cons_zero, List.set_cons_succ, Nat.reduceAdd] at M
  refine wpList_nil ?_; refine then_normal ?_; refine ⟨fun h => absurd h (by decide), ?_⟩
  refine k_end (by kernel_rfl) ?_
  replace S := S.sub [(0, _), (1, _), (4, _), (96, _)] rfl
  refine block_normal ?_
  refine end_noneN S rfl ?_
  skip
  replace M := M.drop 1
  simp only [List.eraseIdx_cons_succ, List.eraseIdx_cons_zero] at M
  replace M := M.front 3 rfl
  simp only [List.eraseIdx_cons_succ, List.eraseIdx_cons_zero] at M
  replace M := M.front 2 rfl
  simp only [List.eraseIdx_cons_succ, List.eraseIdx_cons_zero] at M
  replace M := M.front 3 rfl
  simp only [List.eraseIdx_cons_succ, List.eraseIdx_cons_zero] at M
  have q1 : ((D1.setO i o1).mail o1.fast).s.l.length = D1.s.l.length := List.length_set
  have q2 : ((D1.setO i o1).mail o1.fast).t.mail.length = D1.t.mail.length + 1 := by simp
  have q3 : fm msgL ((D1.setO i o1).mail o1.fast).t.mail = fm msgL D1.t.mail ++ msgL o1.fast := fm_snoc _ _ _
  obtain ⟨E3, hE3, M2⟩ := Dsk.closeG ((D1.setO i o1).mail o1.fast) ⟨la2, lc2, lo9, hi9⟩ ro2 ⟨aM, cM, loA, hiA⟩ ra2 rs2 rc2 re2 M (by unfold dskL; rw [q1, q2]) (by unfold Rw.ent Rw.v; rw [q1]) rfl (by unfold Rw.ent Rw.v; rw [q2, q3]) rfl rfl rfl rfl
  refine ⟨rfl, E3, ?_, M2⟩
  unfold Dsk.commit0
  rw [if_neg (by omega), if_pos (by first | omega | (unfold andV; omega)), ← hje, ho1]; exact hE3
end Go.Proofs.Ytniijiipkfhjgaa

namespace Go.Proofs.Ytniijiipkfhjgaa
open Go.RowKit Go.Sort
/-- a message with a row of writes -/
abbrev msgW (m : Msg) (v : Value) : List Value := [.int .i8 m.kind, .int .i64 m.frm, .int .i64 m.to, .int .i64 m.inc, .int .i64 m.your, .int .i64 m.name.stamp, .int .i64 m.name.inc, .int .i64 m.name.try_, .int .i64 m.n, .int .i8 m.op, .int .i64 m.block, .int .u8 (m.val.v0.toNat : Int), .int .u8 (m.val.v1.toNat : Int), .int .u8 (m.val.v2.toNat : Int), .int .u8 (m.val.v3.toNat : Int), .int .u8 (m.val.v4.toNat : Int), .int .u8 (m.val.v5.toNat : Int), .int .u8 (m.val.v6.toNat : Int), .int .u8 (m.val.v7.toNat : Int), .int .i64 m.e, .bool m.yes, .int .i64 m.give, .int .i64 m.take, v]
def Dsk.didA (o : Ope) (m : Msg) : Ans := ⟨o.c, o.h, 0, if o.kind = 1 then m.val else zV8, o.nm.stamp, o.kind⟩
def Dsk.didS (o : Ope) (m : Msg) : Seen_ := ⟨if o.kind = 1 then 1 else 2, o.nm, o.ex.block, if o.kind = 1 then m.val else o.ex.val, 0⟩
def Dsk.did (D : Dsk) (i : Nat) (o : Ope) (m : Msg) : Dsk :=
  if m.e = 0 then ((D.setO i { o with ph := 0, at_ := 0, ex := zMg }).answer (Dsk.didA o m)).seen (Dsk.didS o m)
  else if m.e = 112 ∧ execOk D o o.ex then D.execd i o o.ex
  else (D.mails (refuseP o m.frm 4)).ended i o o.kind m.e m.e true
set_option maxHeartbeats 4000000 in
theorem did_any {wo w : World} {A E : List Ent} {b : Nat} {D : Dsk} (i : Nat) (o : Ope) (m : Msg) (ma : Option Addr) (ml mc : Nat) (hE : DeskE b D E) (M : Mem wo w (A ++ E)) (hs : D.tiny) (ho : D.s.l[i]? = some o) (hn : ∀ k, 0 ≤ o.nAt k ∧ o.nAt k ≤ 1048576) :
    Calls Try.prog 23 #[.pointer (some ⟨b, 0, none⟩), .int .i64 (i : Int), .agg (msgW m (.slice ma ml mc)).toArray] w fun e w' => e = .returned (.tuple #[]) ∧ ∃ E', DeskE b (D.did i o m) E' ∧ Mem wo w' (A ++ E') := by
  have hsl := hs.l
  obtain ⟨hil, -⟩ := List.getElem?_eq_some_iff.1 ho
  obtain ⟨x, hx⟩ : ∃ x, o.ex = x := ⟨_, rfl⟩
  obtain ⟨⟨la, lc, llo, lhi⟩, ro, rm, ra, rs, rc, re, M1⟩ := Dsk.open hE M
  clear M; have M := M1; clear M1 hE
  refine calls_enter Try.func23 rfl 103 rfl rfl ?_; intro a S
  refine wp_seq ?_
  skip
  refine wp_region_lit ?_
  refine st_box S M rfl rfl rfl #[_, _, _, _, _, _, _, _, _, _, _, _, _, _, _, _, _, _, _, _, _, _, _, _] rfl ?_; clear S M a; intro a w1 bP S M hB
  refine nxA ?_
  refine st_run [1, 1, 1, 1, 2, 1] S M rfl (by kernel_rfl) ?_; clear S a; intro a S
  refine st_y S rfl rfl rfl (y_indexR (e := 65) (sz := 37) S (by kernel_rfl) rfl (M.readAll 2 rfl (by unfold maxLen; omega)) rfl (by first | omega | (simp; done) | (simp; omega))) ?_; clear S a; intro a S
  try simp only [Int.toNat_natCast, Nat.mul_one, Nat.zero_add] at S
  refine st_go [1] S rfl (by kernel_rfl) ?_; clear S a; intro a S
  refine nxA ?_
  refine st_go [1, 1, 14] S rfl (by kernel_rfl) ?_; clear S a; intro a S
  refine st_y S rfl rfl rfl (y_loadAgg S (by kernel_rfl) rfl rfl (show CellsAt _ _ _ (msgL x) from (by rw [← hx, ← ope_ex o]; exact ((M.readAll 2 rfl (by unfold maxLen; omega)).at_.row (i := i) (fm_get len_ope ho) rfl).sub (i := 13) (k := 24)))) ?_; clear S a; intro a S
  refine st_alloc S M rfl rfl #[.int .i8 0, .int .i64 0, .int .i64 0, .int .i64 0, .int .i64 0, .int .i64 0, .int .i64 0, .int .i64 0, .int .i64 0, .int .i8 0, .int .i64 0, .int .u8 0, .int .u8 0, .int .u8 0, .int .u8 0, .int .u8 0, .int .u8 0, .int .u8 0, .int .u8 0, .int .i64 0, .bool false, .int .i64 0, .int .i64 0, .slice none 0 0] (by kernel_rfl) ?_; clear S M a; intro a w2 bX S M hB
  refine st_store (sz := 24) (us := [_, _, _, _, _, _, _, _, _, _, _, _, _, _, _, _, _, _, _, _, _, _, _, _]) S M 0 rfl (by kernel_rfl) rfl rfl rfl rfl rfl rfl (by first | decide | (simp; done) | (simp; omega)) ?_; clear M; intro w3 M
  simp only [putL, List.set_cons_zero, List.set_cons_succ, Nat.reduceAdd] at M
  refine nxA ?_
  refine st_run [20, 2] S M rfl (by kernel_rfl) ?_; clear S a; intro a S
  refine nxC ?_
  refine wp_block ?_
  refine wp_cut (fun a w' => ∃ E2, m.e ≠ 0 ∧ ¬ (m.e = 112 ∧ execOk D o x) ∧ DeskR b la lc D E2 ∧ Sees 103 a [(0, .pointer (some ⟨b, 0, none⟩)), (1, .int .i64 (i : Int)), (5, .pointer (some ⟨bP, 0, none⟩)), (6, .pointer (some ⟨(adr (.slice la D.s.l.length lc)).block, (adr (.slice la D.s.l.length lc)).off + (Int.toNat (i : Int)) * 37, none⟩))] ∧ Mem wo w' (.blk bX (msgL x).toArray 45 :: .blk bP (msgW m (.slice ma ml mc)).toArray 45 :: (A ++ E2))) ?_ ?_
  · skip
    refine wp_block ?_
    refine wp_seq ?_
    refine wp_block ?_
    refine wp_seq ?_
    refine wp_block ?_
    refine wp_seq ?_
    refine wp_seq ?_
    refine nxD ?_
    refine st_go [1, 1] S rfl (by kernel_rfl) ?_; clear S a; intro a S
    refine nxC ?_
    refine st_fi (t := 23) S rfl ?_ ?_
    · clear S; intro h23 S
      refine st_condF S rfl ?_
      refine wp_skip ?_
      refine nxE ?_
      refine st_go [1, 1] S rfl (by kernel_rfl) ?_; clear S a; intro a S
      replace S := S.sub [(0, _), (1, _), (2, _), (5, _), (6, _), (7, _), (22, _), (23, _), (25, _)] rfl
      refine nxC ?_
      refine st_fi (t := 25) S rfl ?_ ?_
      · clear S; intro h25 S
        refine st_condF S rfl ?_
        refine wp_skip ?_
        refine then_normal ?_
        refine wp_exit ?_
        refine block_miss rfl ?_
        refine then_exit ?_
        refine block_miss rfl ?_
        refine then_exit ?_
        refine block_hit ?_
        refine then_normal ?_
        first
          | (have hno : ¬ execOk D o x := by simpa using h83
             rw [if_neg hno] at hE2
             exact ⟨E2, by omega, fun h => hno h.2, hE2, S.sub _ rfl, M⟩)
          | (obtain ⟨E1, hE1, M2⟩ := Dsk.closeR (D := D) ⟨la, lc, llo, lhi⟩ ro rm ra rs rc re (M.perm (List.perm_append_comm (l₁ := [_, _]) (l₂ := dskE b D ⟨la, lc, llo, lhi⟩ ro rm ra rs rc re) |>.append_right A |>.trans (List.Perm.of_eq (List.append_assoc _ _ _))))
             exact ⟨E1, by omega, fun h => by omega, hE1, S.sub _ rfl, M2⟩)
      clear S; intro h25 S
      refine st_condT S rfl ?_
      refine wp_exit ?_
      refine then_exit ?_
      refine block_miss rfl ?_
      refine then_exit ?_
      refine block_hit ?_
      refine nxE ?_
      refine st_go [1, 1] S rfl (by kernel_rfl) ?_; clear S a; intro a S
      refine st_y S rfl rfl rfl (y_loadAgg (cs := [_, _, _, _, _, _, _, _, _, _, _, _, _, _, _, _, _, _, _, _, _, _, _, _]) S (by kernel_rfl) rfl rfl (M.cellsAt (k := 24) 0 rfl rfl)) ?_; clear S a; intro a S
      obtain ⟨E1, hE1, M2⟩ := Dsk.closeR (D := D) ⟨la, lc, llo, lhi⟩ ro rm ra rs rc re (M.perm (List.perm_append_comm (l₁ := [_, _]) (l₂ := dskE b D ⟨la, lc, llo, lhi⟩ ro rm ra rs rc re) |>.append_right A |>.trans (List.Perm.of_eq (List.append_assoc _ _ _))))
      clear M; have M := M2; clear M2
      refine st_call (xs := [(Operand.tmp 80), (Operand.tmp 81), (Operand.tmp 82)]) S (enters_of Try.func47 (by decide) rfl) rfl rfl rfl (exec_anyR (A := _ :: _ :: A) i o x hE1 M hs ho hn) ?_
      rintro _ w20 ⟨rfl, E2, hE2, M1⟩; refine ⟨_, rfl, ?_⟩; clear S M a; intro a S; have M := M1; clear M1
      refine nxC ?_
      refine st_split (t := 83) S rfl ?_ ?_
      · clear S; intro h83 S
        refine st_condT S rfl ?_
        refine wp_ret ?_
        refine block_ret ?_
        refine then_ret ?_
        refine block_ret ?_
        refine end_none S rfl ?_
        have hyes : execOk D o x := by simpa using h83
        rw [if_pos hyes] at hE2
        refine ⟨rfl, E2, ?_, (M.drop 0).drop 0⟩
        unfold Dsk.did
        rw [if_neg (by omega), hx, if_pos ⟨by omega, hyes⟩]; exact hE2.desk
      clear S; intro h83 S
      refine st_condF S rfl ?_
      refine wp_skip ?_
      refine block_normal ?_
      refine then_normal ?_
      first
        | (have hno : ¬ execOk D o x := by simpa using h83
           rw [if_neg hno] at hE2
           exact ⟨E2, by omega, fun h => hno h.2, hE2, S.sub _ rfl, M⟩)
        | (obtain ⟨E1, hE1, M2⟩ := Dsk.closeR (D := D) ⟨la, lc, llo, lhi⟩ ro rm ra rs rc re (M.perm (List.perm_append_comm (l₁ := [_, _]) (l₂ := dskE b D ⟨la, lc, llo, lhi⟩ ro rm ra rs rc re) |>.append_right A |>.trans (List.Perm.of_eq (List.append_assoc _ _ _))))
           exact ⟨E1, by omega, fun h => by omega, hE1, S.sub _ rfl, M2⟩)
    clear S; intro h23 S
    refine st_condT S rfl ?_
    refine wp_exit ?_
    refine then_exit ?_
    refine then_exit ?_
    refine block_hit ?_
    refine then_normal ?_
    refine wp_seq ?_
    refine wp_cut (fun a w' => ∃ bK, Sees 103 a [(0, .pointer (some ⟨b, 0, none⟩)), (5, .pointer (some ⟨bP, 0, none⟩)), (6, .pointer (some ⟨(adr (.slice la D.s.l.length lc)).block, (adr (.slice la D.s.l.length lc)).off + (Int.toNat (i : Int)) * 37, none⟩)), (7, .pointer (some ⟨bX, 0, none⟩)), (8, .pointer (some ⟨bK, 0, none⟩))] ∧ Mem wo w' (.blk bK (Ans.cellsL ⟨o.c, o.h, 0, zV8, o.nm.stamp, o.kind⟩).toArray 69 :: .blk bX (msgL x).toArray 45 :: .blk bP (msgW m (.slice ma ml mc)).toArray 45 :: .blk b (dskL D ⟨la, lc, llo, lhi⟩ ro rm ra rs rc re).toArray 79 :: rowE llo lhi 65 37 (.slice la D.s.l.length lc) D.s.l.length (fm Ope.cellsL D.s.l) :: ro.ent 91 5 D.s.over.length (fm End_.cellsL D.s.over) :: rm.ent 45 24 D.t.mail.length (fm msgL D.t.mail) :: ra.ent 69 13 D.t.ans.length (fm Ans.cellsL D.t.ans) :: rs.ent 71 14 D.t.seen.length (fm Seen_.cellsL D.t.seen) :: rc.ent 40 3 D.t.com.length (fm nmL D.t.com) :: re.ent 40 3 D.t.ends.length (fm nmL D.t.ends) :: A)) ?_ ?_
    · skip
      refine wp_regionK [19] #[false, false, false, false, false, false, false, false, false, false, false, false, false, false, false, false, false, false, false, false] rfl M (by kernel_rfl) ?_; clear M; intro w4 M
      refine k_pure (listed' := #[true, false, false, false, false, false, false, false, false, false, false, false, false, false, false, false, false, false, false, false]) 0 S rfl rfl rfl rfl (by kernel_rfl) rfl (fun _ d _ _ _ h => by cases d <;> exact h) (fun w => y_move S rfl) ?_; clear S a; intro a S
      refine k_pure (listed' := #[true, true, false, false, false, false, false, false, false, false, false, false, false, false, false, false, false, false, false, false]) 1 S rfl rfl rfl rfl (by kernel_rfl) rfl (fun _ d _ _ _ h => by cases d <;> exact h) (fun w => y_nilCheck S rfl) ?_; clear S a; intro a S
      refine k_pure (listed' := #[true, true, true, false, false, false, false, false, false, false, false, false, false, false, false, false, false, false, false, false]) 2 S rfl rfl rfl rfl (by kernel_rfl) rfl (fun _ d _ _ _ h => by cases d <;> exact h) (fun w => y_fieldAddr (k := 1) S (by kernel_rfl) rfl) ?_; clear S a; intro a S
      refine k_read (listed' := #[true, true, true, true, false, false, false, false, false, false, false, false, false, false, false, false, false, false, false, false]) 3 S rfl rfl rfl rfl (by kernel_rfl) rfl (fun _ d _ _ _ h => by cases d <;> exact h) (fun w hW => have M := M.grow hW; y_load S (by kernel_rfl) rfl (((M.readAll 3 rfl (by unfold maxLen; omega)).at_.row (i := i) (fm_get len_ope ho) rfl) 1 (by show 1 < 37; omega))) ?_; clear S a; intro a S
      refine k_pure (listed' := #[true, true, true, true, true, false, false, false, false, false, false, false, false, false, false, false, false, false, false, false]) 4 S rfl rfl rfl rfl (by kernel_rfl) rfl (fun _ d _ _ _ h => by cases d <;> exact h) (fun w => y_move S rfl) ?_; clear S a; intro a S
      refine k_pure (listed' := #[true, true, true, true, true, true, false, false, false, false, false, false, false, false, false, false, false, false, false, false]) 5 S rfl rfl rfl rfl (by kernel_rfl) rfl (fun _ d _ _ _ h => by cases d <;> exact h) (fun w => y_nilCheck S rfl) ?_; clear S a; intro a S
      refine k_pure (listed' := #[true, true, true, true, true, true, true, false, false, false, false, false, false, false, false, false, false, false, false, false]) 6 S rfl rfl rfl rfl (by kernel_rfl) rfl (fun _ d _ _ _ h => by cases d <;> exact h) (fun w => y_fieldAddr (k := 0) S (by kernel_rfl) rfl) ?_; clear S a; intro a S
      refine k_read (listed' := #[true, true, true, true, true, true, true, true, false, false, false, false, false, false, false, false, false, false, false, false]) 7 S rfl rfl rfl rfl (by kernel_rfl) rfl (fun _ d _ _ _ h => by cases d <;> exact h) (fun w hW => have M := M.grow hW; y_load S (by kernel_rfl) rfl (((M.readAll 3 rfl (by unfold maxLen; omega)).at_.row (i := i) (fm_get len_ope ho) rfl) 0 (by show 0 < 37; omega))) ?_; clear S a; intro a S
      refine k_pure (listed' := #[true, true, true, true, true, true, true, true, true, false, false, false, false, false, false, false, false, false, false, false]) 8 S rfl rfl rfl rfl (by kernel_rfl) rfl (fun _ d _ _ _ h => by cases d <;> exact h) (fun w => y_move S rfl) ?_; clear S a; intro a S
      refine k_pure (listed' := #[true, true, true, true, true, true, true, true, true, true, false, false, false, false, false, false, false, false, false, false]) 9 S rfl rfl rfl rfl (by kernel_rfl) rfl (fun _ d _ _ _ h => by cases d <;> exact h) (fun w => y_nilCheck S rfl) ?_; clear S a; intro a S
      refine k_pure (listed' := #[true, true, true, true, true, true, true, true, true, true, true, false, false, false, false, false, false, false, false, false]) 10 S rfl rfl rfl rfl (by kernel_rfl) rfl (fun _ d _ _ _ h => by cases d <;> exact h) (fun w => y_fieldAddr (k := 2) S (by kernel_rfl) rfl) ?_; clear S a; intro a S
      refine k_pure (listed' := #[true, true, true, true, true, true, true, true, true, true, true, true, false, false, false, false, false, false, false, false]) 11 S rfl rfl rfl rfl (by kernel_rfl) rfl (fun _ d _ _ _ h => by cases d <;> exact h) (fun w => y_fieldAddr (k := 0) S (by kernel_rfl) rfl) ?_; clear S a; intro a S
      refine k_read (listed' := #[true, true, true, true, true, true, true, true, true, true, true, true, true, false, false, false, false, false, false, false]) 12 S rfl rfl rfl rfl (by kernel_rfl) rfl (fun _ d _ _ _ h => by cases d <;> exact h) (fun w hW => have M := M.grow hW; y_load S (by kernel_rfl) rfl (((M.readAll 3 rfl (by unfold maxLen; omega)).at_.row (i := i) (fm_get len_ope ho) rfl) 2 (by show 2 < 37; omega))) ?_; clear S a; intro a S
      refine k_pure (listed' := #[true, true, true, true, true, true, true, true, true, true, true, true, true, true, false, false, false, false, false, false]) 13 S rfl rfl rfl rfl (by kernel_rfl) rfl (fun _ d _ _ _ h => by cases d <;> exact h) (fun w => y_move S rfl) ?_; clear S a; intro a S
      refine k_pure (listed' := #[true, true, true, true, true, true, true, true, true, true, true, true, true, true, true, false, false, false, false, false]) 14 S rfl rfl rfl rfl (by kernel_rfl) rfl (fun _ d _ _ _ h => by cases d <;> exact h) (fun w => y_nilCheck S rfl) ?_; clear S a; intro a S
      refine k_read (listed' := #[true, true, true, true, true, true, true, true, true, true, true, true, true, true, true, true, false, false, false, false]) 15 S rfl rfl rfl rfl (by kernel_rfl) rfl (fun _ d _ _ _ h => by cases d <;> exact h) (fun w hW => have M := M.grow hW; y_loadAgg S (by kernel_rfl) rfl rfl ((M.readAll 3 rfl (by unfold maxLen; omega)).at_.row (i := i) (fm_get len_ope ho) rfl)) ?_; clear S a; intro a S
      refine k_two (l1 := #[true, true, true, true, true, true, true, true, true, true, true, true, true, true, true, true, true, false, false, false]) (l2 := #[true, true, true, true, true, true, true, true, true, true, true, true, true, true, true, true, false, false, true, false]) 16 18 rfl rfl (by kernel_rfl) rfl rfl ?_ ?_
      · skip
        refine st_call (xs := [(Operand.tmp 42)]) S (enters_of Try.func27 (by decide) rfl) rfl rfl rfl (kind_any o _) ?_
        rintro _ w5 ⟨rfl, hK⟩; refine ⟨_, rfl, ?_⟩; clear S a; intro a S; replace M := M.grow hK
        refine wpList_nil ?_; refine then_normal ?_; refine ⟨fun _ => hK, ?_⟩
        refine k_pure (listed' := #[true, true, true, true, true, true, true, true, true, true, true, true, true, true, true, true, true, true, false, false]) 17 S rfl rfl rfl rfl (by kernel_rfl) rfl (fun _ d _ _ _ h => by cases d <;> exact h) (fun w => y_build (ps := [(0, (Operand.tmp 30)), (1, (Operand.tmp 34)), (4, (Operand.tmp 39)), (5, (Operand.tmp 43))]) (pl := [(0, 1), (1, 1), (2, 1), (3, 8), (11, 1), (12, 1)]) (z := [.int .i64 0, .int .i64 0, .int .i64 0, .int .u8 0, .int .u8 0, .int .u8 0, .int .u8 0, .int .u8 0, .int .u8 0, .int .u8 0, .int .u8 0, .int .i64 0, .int .i8 0]) (cs := Ans.cellsL ⟨o.c, o.h, 0, zV8, o.nm.stamp, o.kind⟩) S (by kernel_rfl) rfl (by kernel_rfl)) ?_; clear S a; intro a S
        refine k_one (listed' := #[true, true, true, true, true, true, true, true, true, true, true, true, true, true, true, true, true, true, true, false]) 18 rfl (by kernel_rfl) rfl ?_
        refine st_alloc S M rfl rfl #[.int .i64 0, .int .i64 0, .int .i64 0, .int .u8 0, .int .u8 0, .int .u8 0, .int .u8 0, .int .u8 0, .int .u8 0, .int .u8 0, .int .u8 0, .int .i64 0, .int .i8 0] (by kernel_rfl) ?_; clear S M a; intro a w6 bK S M hB
        refine wpList_nil ?_; refine then_normal ?_; refine ⟨fun _ => hB, ?_⟩
        refine k_one (listed' := #[true, true, true, true, true, true, true, true, true, true, true, true, true, true, true, true, true, true, true, true]) 19 rfl (by kernel_rfl) rfl ?_
        refine st_store (sz := 13) (us := [_, _, _, _, _, _, _, _, _, _, _, _, _]) S M 0 rfl (by kernel_rfl) rfl rfl rfl rfl rfl rfl (by first | decide | (simp; done) | (simp; omega)) ?_; clear M; intro w7 M
        simp only [putL, List.set_cons_zero, List.set_cons_succ, Nat.reduceAdd] at M
        refine wpList_nil ?_; refine then_normal ?_; refine ⟨fun h => absurd h (by decide), ?_⟩
        refine k_end (by kernel_rfl) ?_
        replace S := S.sub [(0, _), (1, _), (2, _), (5, _), (6, _), (7, _), (22, _), (23, _), (8, _)] rfl
        refine then_normal ?_
        exact ⟨_, S.sub _ rfl, M⟩
      · skip
        refine st_alloc S M rfl rfl #[.int .i64 0, .int .i64 0, .int .i64 0, .int .u8 0, .int .u8 0, .int .u8 0, .int .u8 0, .int .u8 0, .int .u8 0, .int .u8 0, .int .u8 0, .int .i64 0, .int .i8 0] (by kernel_rfl) ?_; clear S M a; intro a w8 bK S M hB
        refine wpList_nil ?_; refine then_normal ?_; refine ⟨fun _ => hB, ?_⟩
        refine k_one (listed' := #[true, true, true, true, true, true, true, true, true, true, true, true, true, true, true, true, true, false, true, false]) 16 rfl (by kernel_rfl) rfl ?_
        refine st_call (xs := [(Operand.tmp 42)]) S (enters_of Try.func27 (by decide) rfl) rfl rfl rfl (kind_any o _) ?_
        rintro _ w9 ⟨rfl, hK⟩; refine ⟨_, rfl, ?_⟩; clear S a; intro a S; replace M := M.grow hK
        refine wpList_nil ?_; refine then_normal ?_; refine ⟨fun _ => hK, ?_⟩
        refine k_pure (listed' := #[true, true, true, true, true, true, true, true, true, true, true, true, true, true, true, true, true, true, true, false]) 17 S rfl rfl rfl rfl (by kernel_rfl) rfl (fun _ d _ _ _ h => by cases d <;> exact h) (fun w => y_build (ps := [(0, (Operand.tmp 30)), (1, (Operand.tmp 34)), (4, (Operand.tmp 39)), (5, (Operand.tmp 43))]) (pl := [(0, 1), (1, 1), (2, 1), (3, 8), (11, 1), (12, 1)]) (z := [.int .i64 0, .int .i64 0, .int .i64 0, .int .u8 0, .int .u8 0, .int .u8 0, .int .u8 0, .int .u8 0, .int .u8 0, .int .u8 0, .int .u8 0, .int .i64 0, .int .i8 0]) (cs := Ans.cellsL ⟨o.c, o.h, 0, zV8, o.nm.stamp, o.kind⟩) S (by kernel_rfl) rfl (by kernel_rfl)) ?_; clear S a; intro a S
        refine k_one (listed' := #[true, true, true, true, true, true, true, true, true, true, true, true, true, true, true, true, true, true, true, true]) 19 rfl (by kernel_rfl) rfl ?_
        refine st_store (sz := 13) (us := [_, _, _, _, _, _, _, _, _, _, _, _, _]) S M 0 rfl (by kernel_rfl) rfl rfl rfl rfl rfl rfl (by first | decide | (simp; done) | (simp; omega)) ?_; clear M; intro w10 M
        simp only [putL, List.set_cons_zero, List.set_cons_succ, Nat.reduceAdd] at M
        refine wpList_nil ?_; refine then_normal ?_; refine ⟨fun h => absurd h (by decide), ?_⟩
        refine k_end (by kernel_rfl) ?_
        replace S := S.sub [(0, _), (1, _), (2, _), (5, _), (6, _), (7, _), (22, _), (23, _), (8, _)] rfl
        refine then_normal ?_
        exact ⟨_, S.sub _ rfl, M⟩
    clear S a M; intro a wc
    rintro ⟨bK, S, M⟩
    refine wp_seq ?_
    refine wp_regionK [10] #[false, false, false, false, false, false, false, false, false, false, false] rfl M (by kernel_rfl) ?_; clear M; intro w11 M
    refine k_pure (listed' := #[true, false, false, false, false, false, false, false, false, false, false]) 0 S rfl rfl rfl rfl (by kernel_rfl) rfl (fun _ d _ _ _ h => by cases d <;> exact h) (fun w => y_move S rfl) ?_; clear S a; intro a S
    refine k_pure (listed' := #[true, true, false, false, false, false, false, false, false, false, false]) 1 S rfl rfl rfl rfl (by kernel_rfl) rfl (fun _ d _ _ _ h => by cases d <;> exact h) (fun w => y_nilCheck S rfl) ?_; clear S a; intro a S
    refine k_pure (listed' := #[true, true, true, false, false, false, false, false, false, false, false]) 2 S rfl rfl rfl rfl (by kernel_rfl) rfl (fun _ d _ _ _ h => by cases d <;> exact h) (fun w => y_fieldAddr (k := 2) S (by kernel_rfl) rfl) ?_; clear S a; intro a S
    refine k_read (listed' := #[true, true, true, true, false, false, false, false, false, false, false]) 3 S rfl rfl rfl rfl (by kernel_rfl) rfl (fun _ d _ _ _ h => by cases d <;> exact h) (fun w hW => have M := M.grow hW; y_loadAgg S (by kernel_rfl) rfl rfl (show CellsAt _ _ _ (nmL o.nm) from (by rw [← ope_nm o]; exact ((M.readAll 4 rfl (by unfold maxLen; omega)).at_.row (i := i) (fm_get len_ope ho) rfl).sub (i := 2) (k := 3)))) ?_; clear S a; intro a S
    refine k_pure (listed' := #[true, true, true, true, true, false, false, false, false, false, false]) 4 S rfl rfl rfl rfl (by kernel_rfl) rfl (fun _ d _ _ _ h => by cases d <;> exact h) (fun w => y_fieldAddr (k := 10) S (by kernel_rfl) rfl) ?_; clear S a; intro a S
    refine k_read (listed' := #[true, true, true, true, true, true, false, false, false, false, false]) 5 S rfl rfl rfl rfl (by kernel_rfl) rfl (fun _ d _ _ _ h => by cases d <;> exact h) (fun w hW => have M := M.grow hW; y_load S (by kernel_rfl) rfl (M.cell 1 rfl rfl)) ?_; clear S a; intro a S
    refine k_pure (listed' := #[true, true, true, true, true, true, true, false, false, false, false]) 6 S rfl rfl rfl rfl (by kernel_rfl) rfl (fun _ d _ _ _ h => by cases d <;> exact h) (fun w => y_fieldAddr (k := 11) S (by kernel_rfl) rfl) ?_; clear S a; intro a S
    refine k_read (listed' := #[true, true, true, true, true, true, true, true, false, false, false]) 7 S rfl rfl rfl rfl (by kernel_rfl) rfl (fun _ d _ _ _ h => by cases d <;> exact h) (fun w hW => have M := M.grow hW; y_loadAgg (cs := [_, _, _, _, _, _, _, _]) S (by kernel_rfl) rfl rfl (M.cellsAt (k := 8) 1 rfl rfl)) ?_; clear S a; intro a S
    refine k_pure (listed' := #[true, true, true, true, true, true, true, true, true, false, false]) 8 S rfl rfl rfl rfl (by kernel_rfl) rfl (fun _ d _ _ _ h => by cases d <;> exact h) (fun w => y_build (ps := [(0, (Operand.const (Value.int IntKind.i8 2))), (1, (Operand.tmp 48)), (2, (Operand.tmp 50)), (3, (Operand.tmp 52))]) (pl := [(0, 1), (1, 3), (4, 1), (5, 8), (13, 1)]) (z := [.int .i8 0, .int .i64 0, .int .i64 0, .int .i64 0, .int .i64 0, .int .u8 0, .int .u8 0, .int .u8 0, .int .u8 0, .int .u8 0, .int .u8 0, .int .u8 0, .int .u8 0, .int .i64 0]) (cs := Seen_.cellsL ⟨2, o.nm, x.block, x.val, 0⟩) S (by kernel_rfl) rfl (by kernel_rfl)) ?_; clear S a; intro a S
    refine k_one (listed' := #[true, true, true, true, true, true, true, true, true, true, false]) 9 rfl (by kernel_rfl) rfl ?_
    refine st_alloc S M rfl rfl #[.int .i8 0, .int .i64 0, .int .i64 0, .int .i64 0, .int .i64 0, .int .u8 0, .int .u8 0, .int .u8 0, .int .u8 0, .int .u8 0, .int .u8 0, .int .u8 0, .int .u8 0, .int .i64 0] (by kernel_rfl) ?_; clear S M a; intro a w12 bQ S M hB
    refine wpList_nil ?_; refine then_normal ?_; refine ⟨fun _ => hB, ?_⟩
    refine k_one (listed' := #[true, true, true, true, true, true, true, true, true, true, true]) 10 rfl (by kernel_rfl) rfl ?_
    refine st_store (sz := 14) (us := [_, _, _, _, _, _, _, _, _, _, _, _, _, _]) S M 0 rfl (by kernel_rfl) rfl rfl rfl rfl rfl rfl (by first | decide | (simp; done) | (simp; omega)) ?_; clear M; intro w13 M
    simp only [putL, List.set_cons_zero, List.set_cons_succ, Nat.reduceAdd] at M
    refine wpList_nil ?_; refine then_normal ?_; refine ⟨fun h => absurd h (by decide), ?_⟩
    refine k_end (by kernel_rfl) ?_
    refine then_normal ?_
    refine wp_cut (fun a w' => Sees 103 a [(0, .pointer (some ⟨b, 0, none⟩)), (6, .pointer (some ⟨(adr (.slice la D.s.l.length lc)).block, (adr (.slice la D.s.l.length lc)).off + (Int.toNat (i : Int)) * 37, none⟩)), (8, .pointer (some ⟨bK, 0, none⟩)), (9, .pointer (some ⟨bQ, 0, none⟩))] ∧ Mem wo w' (.blk bQ (Dsk.didS o m).cellsL.toArray 71 :: .blk bK (Dsk.didA o m).cellsL.toArray 69 :: .blk bX (msgL x).toArray 45 :: .blk bP (msgW m (.slice ma ml mc)).toArray 45 :: .blk b (dskL D ⟨la, lc, llo, lhi⟩ ro rm ra rs rc re).toArray 79 :: rowE llo lhi 65 37 (.slice la D.s.l.length lc) D.s.l.length (fm Ope.cellsL D.s.l) :: ro.ent 91 5 D.s.over.length (fm End_.cellsL D.s.over) :: rm.ent 45 24 D.t.mail.length (fm msgL D.t.mail) :: ra.ent 69 13 D.t.ans.length (fm Ans.cellsL D.t.ans) :: rs.ent 71 14 D.t.seen.length (fm Seen_.cellsL D.t.seen) :: rc.ent 40 3 D.t.com.length (fm nmL D.t.com) :: re.ent 40 3 D.t.ends.length (fm nmL D.t.ends) :: A)) ?_ ?_
    · skip
      refine nxD ?_
      refine st_run [13, 2, 1] S M rfl (by kernel_rfl) ?_; clear S a; intro a S
      refine nxC ?_
      refine st_fi (t := 56) S rfl ?_ ?_
      · clear S; intro h56 S
        refine st_condF S rfl ?_
        refine wp_skip ?_
        refine then_normal ?_
        refine ⟨S.sub _ rfl, ?_⟩
        first
          | (have hk : o.kind = 1 := by omega
             have e1 : Dsk.didS o m = ⟨1, o.nm, x.block, m.val, 0⟩ := by unfold Dsk.didS; rw [if_pos hk, if_pos hk, hx]
             have e2 : Dsk.didA o m = ⟨o.c, o.h, 0, m.val, o.nm.stamp, o.kind⟩ := by unfold Dsk.didA; rw [if_pos hk]
             rw [e1, e2]; exact M)
          | (have hk : o.kind ≠ 1 := by omega
             have e1 : Dsk.didS o m = ⟨2, o.nm, x.block, x.val, 0⟩ := by unfold Dsk.didS; rw [if_neg hk, if_neg hk, hx]
             have e2 : Dsk.didA o m = ⟨o.c, o.h, 0, zV8, o.nm.stamp, o.kind⟩ := by unfold Dsk.didA; rw [if_neg hk]
             rw [e1, e2]; exact M)
      clear S; intro h56 S
      refine st_condT S rfl ?_
      refine nxD ?_
      refine st_go [12] S rfl (by kernel_rfl) ?_; clear S a; intro a S
      refine st_y S rfl rfl rfl (y_loadAgg (cs := [_, _, _, _, _, _, _, _]) S (by kernel_rfl) rfl rfl (M.cellsAt (k := 8) 3 rfl rfl)) ?_; clear S a; intro a S
      refine st_go [4] S rfl (by kernel_rfl) ?_; clear S a; intro a S
      refine st_store (sz := 8) (us := [_, _, _, _, _, _, _, _]) S M 1 rfl (by kernel_rfl) rfl rfl rfl rfl rfl rfl (by first | decide | (simp; done) | (simp; omega)) ?_; clear M; intro w14 M
      simp only [putL, List.set_cons_zero, List.set_cons_succ, Nat.reduceAdd] at M
      replace S := S.sub [(0, _), (5, _), (6, _), (7, _), (8, _), (9, _), (56, _)] rfl
      refine nxC ?_
      refine wp_regionKC (C := fun W => CellsAt W bP 11 [.int .u8 (m.val.v0.toNat : Int), .int .u8 (m.val.v1.toNat : Int), .int .u8 (m.val.v2.toNat : Int), .int .u8 (m.val.v3.toNat : Int), .int .u8 (m.val.v4.toNat : Int), .int .u8 (m.val.v5.toNat : Int), .int .u8 (m.val.v6.toNat : Int), .int .u8 (m.val.v7.toNat : Int)]) [3, 5] #[false, false, false, false, false, false] rfl M (by kernel_rfl) ?_; clear M; intro w15 M; have hC := M.cellsAt (o := 11) (k := 8) 3 rfl rfl
      refine kc_readC (listed' := #[true, false, false, false, false, false]) 0 S rfl rfl rfl rfl (by kernel_rfl) rfl (fun _ d _ _ _ h => by cases d <;> exact h) hC (fun w _ => y_fieldAddr (k := 11) S (by kernel_rfl) rfl) ?_; clear S a; intro a S
      refine kc_readC (listed' := #[true, true, false, false, false, false]) 1 S rfl rfl rfl rfl (by kernel_rfl) rfl (fun _ d _ _ _ h => by cases d <;> exact h) hC (fun w hC => y_loadAgg (cs := [_, _, _, _, _, _, _, _]) S (by kernel_rfl) rfl rfl (hC)) ?_; clear S a; intro a S
      refine kc_readC (listed' := #[true, true, true, false, false, false]) 2 S rfl rfl rfl rfl (by kernel_rfl) rfl (fun _ d _ _ _ h => by cases d <;> exact h) hC (fun w _ => y_fieldAddr (k := 0) S (by kernel_rfl) rfl) ?_; clear S a; intro a S
      refine kc_one (listed' := #[true, true, true, true, false, false]) 3 rfl (by kernel_rfl) rfl ?_
      refine st_store (sz := 1) (us := [_]) S M 0 rfl (by kernel_rfl) rfl rfl rfl rfl rfl rfl (by first | decide | (simp; done) | (simp; omega)) ?_; clear M; intro w16 M
      simp only [putL, List.set_cons_zero, List.set_cons_succ, Nat.reduceAdd] at M
      replace hC := M.cellsAt (o := 11) (k := 8) 3 rfl rfl
      refine wpList_nil ?_; refine then_normal ?_; refine ⟨fun h => absurd h (by decide), hC, ?_⟩
      refine kc_readC (listed' := #[true, true, true, true, true, false]) 4 S rfl rfl rfl rfl (by kernel_rfl) rfl (fun _ d _ _ _ h => by cases d <;> exact h) hC (fun w _ => y_fieldAddr (k := 5) S (by kernel_rfl) rfl) ?_; clear S a; intro a S
      refine kc_one (listed' := #[true, true, true, true, true, true]) 5 rfl (by kernel_rfl) rfl ?_
      refine st_store (sz := 8) (us := [_, _, _, _, _, _, _, _]) S M 0 rfl (by kernel_rfl) rfl rfl rfl rfl rfl rfl (by first | decide | (simp; done) | (simp; omega)) ?_; clear M; intro w17 M
      simp only [putL, List.set_cons_zero, List.set_cons_succ, Nat.reduceAdd] at M
      replace hC := M.cellsAt (o := 11) (k := 8) 3 rfl rfl
      refine wpList_nil ?_; refine then_normal ?_; refine ⟨fun h => absurd h (by decide), hC, ?_⟩
      refine kc_end (by kernel_rfl) ?_
      refine then_normal ?_
      refine ⟨S.sub _ rfl, ?_⟩
      first
        | (have hk : o.kind = 1 := by omega
           have e1 : Dsk.didS o m = ⟨1, o.nm, x.block, m.val, 0⟩ := by unfold Dsk.didS; rw [if_pos hk, if_pos hk, hx]
           have e2 : Dsk.didA o m = ⟨o.c, o.h, 0, m.val, o.nm.stamp, o.kind⟩ := by unfold Dsk.didA; rw [if_pos hk]
           rw [e1, e2]; exact M)
        | (have hk : o.kind ≠ 1 := by omega
           have e1 : Dsk.didS o m = ⟨2, o.nm, x.block, x.val, 0⟩ := by unfold Dsk.didS; rw [if_neg hk, if_neg hk, hx]
           have e2 : Dsk.didA o m = ⟨o.c, o.h, 0, zV8, o.nm.stamp, o.kind⟩ := by unfold Dsk.didA; rw [if_neg hk]
           rw [e1, e2]; exact M)
    clear S a M; intro a wc
    rintro ⟨S, M⟩
    refine wp_seq ?_
    have hgs : ∀ y : Ope, (D.s.l.set i y)[i]? = some y := fun y => by simp [hil]
    have hfl : ∀ y : Ope, (fm Ope.cellsL (D.s.l.set i y)).length = D.s.l.length * 37 := fun y => by rw [fm_len len_ope, List.length_set]
    rw [show fm Ope.cellsL D.s.l = fm Ope.cellsL (D.s.l.set i o) by rw [set_self ho]] at M
    refine wp_region_lit ?_
    refine st_go [1, 1, 1] S rfl (by kernel_rfl) ?_; clear S a; intro a S
    refine st_y S rfl rfl rfl (y_build (ps := []) (pl := [(0, 1), (1, 1), (2, 1), (3, 1), (4, 1), (5, 3), (8, 1), (9, 1), (10, 1), (11, 8), (19, 1), (20, 1), (21, 1), (22, 1), (23, 1)]) (z := [.int .i8 0, .int .i64 0, .int .i64 0, .int .i64 0, .int .i64 0, .int .i64 0, .int .i64 0, .int .i64 0, .int .i64 0, .int .i8 0, .int .i64 0, .int .u8 0, .int .u8 0, .int .u8 0, .int .u8 0, .int .u8 0, .int .u8 0, .int .u8 0, .int .u8 0, .int .i64 0, .bool false, .int .i64 0, .int .i64 0, .slice none 0 0]) (cs := msgL zMg) S (by kernel_rfl) rfl (by kernel_rfl)) ?_; clear S a; intro a S
    refine st_go [1, 6] S rfl (by kernel_rfl) ?_; clear S a; intro a S
    refine st_storeRow (v := .slice la D.s.l.length lc) (sz := 37) (m := D.s.l.length) (j := i * 37 + 5) (us := [.int .i8 0]) S M 5 rfl (by kernel_rfl) rfl rfl (by first | rfl | omega | (simp only [Int.toNat_natCast]; omega)) rfl rfl rfl rfl rfl (by omega) (hfl o) (by rw [hfl]; show i * 37 + 5 + 1 ≤ _; omega) ?_; clear M; intro wz lo9 hi9 M
    simp only [List.eraseIdx_cons_succ, List.eraseIdx_cons_zero] at M
    rw [fm_put (x' := { o with ph := 0 }) len_ope hil (by show 5 + 1 ≤ 37; omega) (rfl)] at M
    refine st_go [1, 13] S rfl (by kernel_rfl) ?_; clear S a; intro a S
    refine st_storeRow (v := .slice la D.s.l.length lc) (sz := 37) (m := D.s.l.length) (j := i * 37 + 12) (us := [.int .i64 0]) S M 0 rfl (by kernel_rfl) rfl rfl (by first | rfl | omega | (simp only [Int.toNat_natCast]; omega)) rfl rfl rfl rfl rfl (by omega) (hfl { o with ph := 0 }) (by rw [hfl]; show i * 37 + 12 + 1 ≤ _; omega) ?_; clear M; intro wz lo9 hi9 M
    simp only [List.eraseIdx_cons_succ, List.eraseIdx_cons_zero] at M
    rw [fm_put (x' := { o with ph := 0, at_ := 0 }) len_ope hil (by show 12 + 1 ≤ 37; omega) (rfl)] at M
    refine st_go [1, 14] S rfl (by kernel_rfl) ?_; clear S a; intro a S
    refine st_storeRow (v := .slice la D.s.l.length lc) (sz := 37) (m := D.s.l.length) (j := i * 37 + 13) (us := msgL zMg) S M 0 rfl (by kernel_rfl) rfl rfl (by first | rfl | omega | (simp only [Int.toNat_natCast]; omega)) rfl rfl rfl rfl rfl (by omega) (hfl { o with ph := 0, at_ := 0 }) (by rw [hfl]; show i * 37 + 13 + 24 ≤ _; omega) ?_; clear M; intro wz lo9 hi9 M
    simp only [List.eraseIdx_cons_succ, List.eraseIdx_cons_zero] at M
    rw [fm_put (x' := { o with ph := 0, at_ := 0, ex := zMg }) len_ope hil (by show 13 + 24 ≤ 37; omega) (ope_putEx { o with ph := 0, at_ := 0 } zMg)] at M
    refine nxC ?_
    refine wp_seq ?_
    obtain ⟨o1, ho1⟩ : ∃ o1 : Ope, { o with ph := 0, at_ := 0, ex := zMg } = o1 := ⟨_, rfl⟩
    rw [ho1] at M
    refine wp_region_lit ?_
    refine st_go [1] S rfl (by kernel_rfl) ?_; clear S a; intro a S
    refine st_y S rfl rfl rfl (y_loadAgg (cs := [_, _, _, _, _, _, _, _, _, _, _, _, _]) S (by kernel_rfl) rfl rfl (M.cellsAt (k := 13) 2 rfl rfl)) ?_; clear S a; intro a S
    skip
    replace M := M.front 11 rfl
    simp only [List.eraseIdx_cons_succ, List.eraseIdx_cons_zero] at M
    replace M := M.front 11 rfl
    simp only [List.eraseIdx_cons_succ, List.eraseIdx_cons_zero] at M
    replace M := M.front 11 rfl
    simp only [List.eraseIdx_cons_succ, List.eraseIdx_cons_zero] at M
    replace M := M.front 11 rfl
    simp only [List.eraseIdx_cons_succ, List.eraseIdx_cons_zero] at M
    replace M := M.front 11 rfl
    simp only [List.eraseIdx_cons_succ, List.eraseIdx_cons_zero] at M
    replace M := M.front 11 rfl
    simp only [List.eraseIdx_cons_succ, List.eraseIdx_cons_zero] at M
    replace M := M.front 6 rfl
    simp only [List.eraseIdx_cons_succ, List.eraseIdx_cons_zero] at M
    replace M := M.front 11 rfl
    simp only [List.eraseIdx_cons_succ, List.eraseIdx_cons_zero] at M
    have q1 : (D.setO i o1).s.l.length = D.s.l.length := List.length_set
    obtain ⟨E1, hE1, M2⟩ := Dsk.closeG (D.setO i o1) ⟨la, lc, lo9, hi9⟩ ro rm ra rs rc re M (by unfold dskL; rw [q1]) (by unfold Rw.ent Rw.v; rw [q1]) rfl rfl rfl rfl rfl rfl
    clear M; have M := M2; clear M2
    have hsm1 : (D.setO i o1).small := ⟨by rw [q1]; omega, hs.small.over, hs.small.mail, hs.small.ans, hs.small.seen, hs.small.com, hs.small.ends⟩
    refine st_call (xs := [(Operand.tmp 74), (Operand.tmp 75)]) S (enters_of Try.func33 (by decide) rfl) rfl rfl rfl (answer_any (A := _ :: _ :: _ :: _ :: A) (Dsk.didA o m) hE1 M hsm1) ?_
    rintro _ w18 ⟨rfl, E2, hE2, M1⟩; refine ⟨_, rfl, ?_⟩; clear S M a; intro a S; have M := M1; clear M1
    refine nxC ?_
    skip
    have hsa := hs.ans
    have hsm2 : ((D.setO i o1).answer (Dsk.didA o m)).small := ⟨hsm1.l, hsm1.over, hsm1.mail, by show (D.t.ans ++ [_]).length ≤ 1000; rw [List.length_append, List.length_singleton]; omega, hsm1.seen, hsm1.com, hsm1.ends⟩
    refine wp_region_lit ?_
    refine st_go [1] S rfl (by kernel_rfl) ?_; clear S a; intro a S
    refine st_y S rfl rfl rfl (y_loadAgg (cs := [_, _, _, _, _, _, _, _, _, _, _, _, _, _]) S (by kernel_rfl) rfl rfl (M.cellsAt (k := 14) 0 rfl rfl)) ?_; clear S a; intro a S
    refine st_call (xs := [(Operand.tmp 77), (Operand.tmp 78)]) S (enters_of Try.func34 (by decide) rfl) rfl rfl rfl (seen_any (A := _ :: _ :: _ :: _ :: A) (Dsk.didS o m) hE2 M hsm2) ?_
    rintro _ w19 ⟨rfl, E3, hE3, M1⟩; refine ⟨_, rfl, ?_⟩; clear S M a; intro a S; have M := M1; clear M1
    replace S := S.sub [(0, _), (6, _), (8, _), (9, _)] rfl
    refine nxC ?_
    refine wp_exit ?_
    refine block_miss rfl ?_
    refine then_exit ?_
    refine block_miss rfl ?_
    refine then_exit ?_
    refine block_hit ?_
    refine end_noneN S rfl ?_
    refine ⟨rfl, E3, ?_, (((M.drop 0).drop 0).drop 0).drop 0⟩
    unfold Dsk.did
    rw [if_pos (by omega), ho1]; exact hE3
  clear S a M; intro a wc
  rintro ⟨E2, hm1, hm2, hE2, S, M⟩
  obtain ⟨⟨la2, lc2, llo2, lhi2⟩, ro2, rm2, ra2, rs2, rc2, re2, hla, hlc, M1⟩ := Dsk.openR (A := _ :: _ :: A) hE2 M
  obtain rfl : la2 = la := hla
  obtain rfl : lc2 = lc := hlc
  clear M hE2; have M := M1; clear M1
  refine wp_seq ?_
  refine wp_seq ?_
  refine wp_regionK [6] #[false, false, false, false, false, false, false] rfl M (by kernel_rfl) ?_; clear M; intro w21 M
  refine k_pure (listed' := #[true, false, false, false, false, false, false]) 0 S rfl rfl rfl rfl (by kernel_rfl) rfl (fun _ d _ _ _ h => by cases d <;> exact h) (fun w => y_move S rfl) ?_; clear S a; intro a S
  refine k_pure (listed' := #[true, true, false, false, false, false, false]) 1 S rfl rfl rfl rfl (by kernel_rfl) rfl (fun _ d _ _ _ h => by cases d <;> exact h) (fun w => y_move S rfl) ?_; clear S a; intro a S
  refine k_pure (listed' := #[true, true, true, false, false, false, false]) 2 S rfl rfl rfl rfl (by kernel_rfl) rfl (fun _ d _ _ _ h => by cases d <;> exact h) (fun w => y_nilCheck S rfl) ?_; clear S a; intro a S
  refine k_read (listed' := #[true, true, true, true, false, false, false]) 3 S rfl rfl rfl rfl (by kernel_rfl) rfl (fun _ d _ _ _ h => by cases d <;> exact h) (fun w hW => have M := M.grow hW; y_loadAgg S (by kernel_rfl) rfl rfl ((M.readAll 1 rfl (by unfold maxLen; omega)).at_.row (i := i) (fm_get len_ope ho) rfl)) ?_; clear S a; intro a S
  refine k_pure (listed' := #[true, true, true, true, true, false, false]) 4 S rfl rfl rfl rfl (by kernel_rfl) rfl (fun _ d _ _ _ h => by cases d <;> exact h) (fun w => y_fieldAddr (k := 1) S (by kernel_rfl) rfl) ?_; clear S a; intro a S
  refine k_read (listed' := #[true, true, true, true, true, true, false]) 5 S rfl rfl rfl rfl (by kernel_rfl) rfl (fun _ d _ _ _ h => by cases d <;> exact h) (fun w hW => have M := M.grow hW; y_load S (by kernel_rfl) rfl (M.cell 9 rfl rfl)) ?_; clear S a; intro a S
  refine k_one (listed' := #[true, true, true, true, true, true, true]) 6 rfl (by kernel_rfl) rfl ?_
  obtain ⟨E1, hE1, M2⟩ := Dsk.closeR (D := D) ⟨la2, lc2, llo2, lhi2⟩ ro2 rm2 ra2 rs2 rc2 re2 M
  clear M; have M := M2; clear M2
  refine st_call (xs := [(Operand.tmp 84), (Operand.tmp 87), (Operand.tmp 89)]) S (enters_of Try.func25 (by decide) rfl) rfl rfl rfl (refuse_anyR (A := _ :: _ :: A) o m.frm hE1 M hs.small) ?_
  rintro _ w22 ⟨rfl, E3, hE3, M1⟩; refine ⟨_, rfl, ?_⟩; clear S M a; intro a S; have M := M1; clear M1
  refine wpList_nil ?_; refine then_normal ?_; refine ⟨fun h => absurd h (by decide), ?_⟩
  refine k_end (by kernel_rfl) ?_
  refine then_normal ?_
  have hpl := refuseP_len o m.frm 4
  have hs1 : (D.mails (refuseP o m.frm 4)).mid := ⟨hs.mid.l, hs.mid.over, by show (D.t.mail ++ _).length ≤ 900; have := hs.mail; rw [List.length_append]; omega, hs.mid.ans, hs.mid.seen, hs.mid.com, hs.mid.ends⟩
  have hso : (D.mails (refuseP o m.frm 4)).s.l[i]? = some o := ho
  have hsl2 : (D.mails (refuseP o m.frm 4)).s.l.length ≤ 500 := hsl
  have hsl3 : (D.mails (refuseP o m.frm 4)).s.l.length = D.s.l.length := rfl
  obtain ⟨D1, hD1⟩ : ∃ D1, D.mails (refuseP o m.frm 4) = D1 := ⟨_, rfl⟩
  rw [hD1] at hE3 hs1 hso hsl2 hsl3
  rw [← hsl3] at S
  obtain ⟨⟨la3, lc3, llo3, lhi3⟩, ro3, rm3, ra3, rs3, rc3, re3, hla, hlc, M1⟩ := Dsk.openR (A := _ :: _ :: A) hE3 M
  obtain rfl : la3 = la2 := hla
  obtain rfl : lc3 = lc2 := hlc
  clear M; have M := M1; clear M1
  refine wp_regionKC (C := fun W => Blk W bP (msgW m (.slice ma ml mc)).toArray 45) [6, 11] #[false, false, false, false, false, false, false, false, false, false, false, false] rfl M (by kernel_rfl) ?_; clear M; intro w23 M; have hC := M.blk 9 rfl
  refine kc_readC (listed' := #[true, false, false, false, false, false, false, false, false, false, false, false]) 0 S rfl rfl rfl rfl (by kernel_rfl) rfl (fun _ d _ _ _ h => by cases d <;> exact h) hC (fun w _ => y_move S rfl) ?_; clear S a; intro a S
  refine kc_readC (listed' := #[true, true, false, false, false, false, false, false, false, false, false, false]) 1 S rfl rfl rfl rfl (by kernel_rfl) rfl (fun _ d _ _ _ h => by cases d <;> exact h) hC (fun w _ => y_move S rfl) ?_; clear S a; intro a S
  refine kc_readC (listed' := #[true, true, true, false, false, false, false, false, false, false, false, false]) 2 S rfl rfl rfl rfl (by kernel_rfl) rfl (fun _ d _ _ _ h => by cases d <;> exact h) hC (fun w _ => y_move S rfl) ?_; clear S a; intro a S
  refine kc_readC (listed' := #[true, true, true, true, false, false, false, false, false, false, false, false]) 3 S rfl rfl rfl rfl (by kernel_rfl) rfl (fun _ d _ _ _ h => by cases d <;> exact h) hC (fun w _ => y_nilCheck S rfl) ?_; clear S a; intro a S
  refine kc_read (listed' := #[true, true, true, true, true, false, false, false, false, false, false, false]) 4 S rfl rfl rfl rfl (by kernel_rfl) rfl (fun _ d _ _ _ h => by cases d <;> exact h) hC (fun w hW => have M := M.grow hW; y_loadAgg S (by kernel_rfl) rfl rfl ((M.readAll 1 rfl (by unfold maxLen; omega)).at_.row (i := i) (fm_get len_ope hso) rfl)) ?_; clear S a; intro a S
  refine kc_readC (listed' := #[true, true, true, true, true, false, false, true, false, false, false, false]) 7 S rfl rfl rfl rfl (by kernel_rfl) rfl (fun _ d _ _ _ h => by cases d <;> exact h) hC (fun w _ => y_fieldAddr (k := 19) S (by kernel_rfl) rfl) ?_; clear S a; intro a S
  refine kc_readC (listed' := #[true, true, true, true, true, false, false, true, true, false, false, false]) 8 S rfl rfl rfl rfl (by kernel_rfl) rfl (fun _ d _ _ _ h => by cases d <;> exact h) hC (fun w hC => y_load S (by kernel_rfl) rfl (hC.cells 19)) ?_; clear S a; intro a S
  refine kc_readC (listed' := #[true, true, true, true, true, false, false, true, true, true, false, false]) 9 S rfl rfl rfl rfl (by kernel_rfl) rfl (fun _ d _ _ _ h => by cases d <;> exact h) hC (fun w _ => y_fieldAddr (k := 19) S (by kernel_rfl) rfl) ?_; clear S a; intro a S
  refine kc_readC (listed' := #[true, true, true, true, true, false, false, true, true, true, true, false]) 10 S rfl rfl rfl rfl (by kernel_rfl) rfl (fun _ d _ _ _ h => by cases d <;> exact h) hC (fun w hC => y_load S (by kernel_rfl) rfl (hC.cells 19)) ?_; clear S a; intro a S
  refine kc_one (listed' := #[true, true, true, true, true, true, false, true, true, true, true, false]) 5 rfl (by kernel_rfl) rfl ?_
  refine st_call (xs := [(Operand.tmp 95)]) S (enters_of Try.func27 (by decide) rfl) rfl rfl rfl (kind_any o _) ?_
  rintro _ w24 ⟨rfl, hK⟩; refine ⟨_, rfl, ?_⟩; clear S a; intro a S; replace M := M.grow hK
  replace hC := M.blk 9 rfl
  refine wpList_nil ?_; refine then_normal ?_; refine ⟨fun _ => hK, hC, ?_⟩
  refine kc_one (listed' := #[true, true, true, true, true, true, true, true, true, true, true, false]) 6 rfl (by kernel_rfl) rfl ?_
  obtain ⟨E1, hE1, M2⟩ := Dsk.close (D := D1) ⟨la3, lc3, llo3, lhi3⟩ ro3 rm3 ra3 rs3 rc3 re3 M
  clear M; have M := M2; clear M2
  refine st_call (xs := [(Operand.tmp 91), (Operand.tmp 92), (Operand.tmp 96)]) S (enters_of Try.func24 (by decide) rfl) rfl rfl rfl (ending_any (A := _ :: _ :: A) i o o.kind hE1 M hs1 hso) ?_
  rintro _ w25 ⟨b3, b4, b5, b7, rfl, E5, hE5, M1⟩; refine ⟨_, rfl, ?_⟩; clear S M a; intro a S; have M := M1; clear M1
  replace hC := M.blk 5 rfl
  refine wpList_nil ?_; refine then_normal ?_; refine ⟨fun h => absurd h (by decide), hC, ?_⟩
  refine kc_one (listed' := #[true, true, true, true, true, true, true, true, true, true, true, true]) 11 rfl (by kernel_rfl) rfl ?_
  refine st_callB (xs := [(Operand.tmp 99), (Operand.tmp 101), (Operand.const (Value.bool true))]) (fi := []) (ca := [.pointer (some ⟨b3, 0, none⟩), .pointer (some ⟨b7, 0, none⟩), .pointer (some ⟨b4, 0, none⟩), .pointer (some ⟨b5, 0, none⟩)]) S (enters_of Try.func48 (by decide) rfl) rfl rfl (rfl) rfl (ending1_any (A := _ :: _ :: A) i o o.kind m.e m.e true hE5 M hs1 (List.getElem?_eq_some_iff.1 hso).1) ?_
  rintro _ w26 ⟨rfl, E6, hE6, M1⟩; refine ⟨_, rfl, ?_⟩; clear S M a; intro a S; have M := M1; clear M1
  replace hC := M.blk 1 rfl
  refine wpList_nil ?_; refine then_normal ?_; refine ⟨fun h => absurd h (by decide), hC, ?_⟩
  refine kc_end (by kernel_rfl) ?_
  replace S := S.sub [(0, _), (1, _), (5, _), (6, _)] rfl
  refine then_normal ?_
  refine wp_exit ?_
  refine block_hit ?_
  refine end_noneN S rfl ?_
  refine ⟨rfl, E6, ?_, (M.drop 0).drop 0⟩
  unfold Dsk.did
  rw [if_neg hm1, hx, if_neg hm2, hD1]; exact hE6
end Go.Proofs.Ytniijiipkfhjgaa

namespace Go.Proofs.Ytniijiipkfhjgaa
open Go.RowKit Go.Sort
theorem handled1_any (x : End_) (b : Nat) (c : Cal) (da : Option Addr) (dl dc : Nat) (w : World) (hb : Blk w b (c.cellsL (.slice da dl dc)).toArray 38) :
    Calls Try.prog 36 #[.agg x.cellsL.toArray, .pointer (some ⟨b, 0, none⟩)] w fun e w' => e = .returned (.bool (x.h == c.h && x.c == c.c)) ∧ Below w.heap.size w w' := by
  have M := Mem.start w
  refine calls_enter Try.func36 rfl 16 rfl rfl ?_; intro a S
  refine nxD ?_
  refine st_box S M rfl rfl rfl #[_, _, _, _, _] rfl ?_; clear S M a; intro a w1 b1 S M hB
  refine st_go [1] S rfl (by kernel_rfl) ?_; clear S a; intro a S
  refine nxA ?_
  refine st_run [1, 1, 3] S M rfl (by kernel_rfl) ?_; clear S a; intro a S
  refine st_y S rfl rfl rfl (y_load S (by kernel_rfl) rfl ((hb.ext M.below).cells 2)) ?_; clear S a; intro a S
  refine st_go [1, 1] S rfl (by kernel_rfl) ?_; clear S a; intro a S
  refine st_fi (t := 9) S rfl ?_ ?_
  · clear S; intro h9 S
    refine st_go [0, 0, 0, 0, 0, 1, 1] S rfl (by kernel_rfl) ?_; clear S a; intro a S
    refine nxC ?_
    refine wp_ret ?_
    refine end_one S rfl (res_tmp rfl) ?_
    refine ⟨ret_bool ?_, M.below⟩; clear S M; simp [*]
  clear S; intro h9 S
  refine st_run [2, 1, 2] S M rfl (by kernel_rfl) ?_; clear S a; intro a S
  refine st_y S rfl rfl rfl (y_load S (by kernel_rfl) rfl ((hb.ext M.below).cells 1)) ?_; clear S a; intro a S
  refine st_go [1, 1, 1] S rfl (by kernel_rfl) ?_; clear S a; intro a S
  refine nxC ?_
  refine wp_ret ?_
  refine end_one S rfl (res_tmp rfl) ?_
  refine ⟨ret_bool ?_, M.below⟩; clear S M; simp [*]
theorem handled2_any (x : Ope) (b : Nat) (c : Cal) (da : Option Addr) (dl dc : Nat) (w : World) (hb : Blk w b (c.cellsL (.slice da dl dc)).toArray 38) :
    Calls Try.prog 38 #[.agg x.cellsL.toArray, .pointer (some ⟨b, 0, none⟩)] w fun e w' => e = .returned (.bool (x.h == c.h && x.c == c.c)) ∧ Below w.heap.size w w' := by
  have M := Mem.start w
  refine calls_enter Try.func38 rfl 16 rfl rfl ?_; intro a S
  refine nxD ?_
  refine st_box S M rfl rfl rfl #[_, _, _, _, _, _, _, _, _, _, _, _, _, _, _, _, _, _, _, _, _, _, _, _, _, _, _, _, _, _, _, _, _, _, _, _, _] rfl ?_; clear S M a; intro a w1 b1 S M hB
  refine st_go [1] S rfl (by kernel_rfl) ?_; clear S a; intro a S
  refine nxA ?_
  refine st_run [1, 1, 3] S M rfl (by kernel_rfl) ?_; clear S a; intro a S
  refine st_y S rfl rfl rfl (y_load S (by kernel_rfl) rfl ((hb.ext M.below).cells 2)) ?_; clear S a; intro a S
  refine st_go [1, 1] S rfl (by kernel_rfl) ?_; clear S a; intro a S
  refine st_fi (t := 9) S rfl ?_ ?_
  · clear S; intro h9 S
    refine st_go [0, 0, 0, 0, 0, 1, 1] S rfl (by kernel_rfl) ?_; clear S a; intro a S
    refine nxC ?_
    refine wp_ret ?_
    refine end_one S rfl (res_tmp rfl) ?_
    refine ⟨ret_bool ?_, M.below⟩; clear S M; simp [*]
  clear S; intro h9 S
  refine st_run [2, 1, 2] S M rfl (by kernel_rfl) ?_; clear S a; intro a S
  refine st_y S rfl rfl rfl (y_load S (by kernel_rfl) rfl ((hb.ext M.below).cells 1)) ?_; clear S a; intro a S
  refine st_go [1, 1, 1] S rfl (by kernel_rfl) ?_; clear S a; intro a S
  refine nxC ?_
  refine wp_ret ?_
  refine end_one S rfl (res_tmp rfl) ?_
  refine ⟨ret_bool ?_, M.below⟩; clear S M; simp [*]
/-- where one alone is open, is the call not one of it at rest? -/
def Dsk.NoCall (D : Dsk) (c : Cal) : Prop := D.s.over = [] → ∀ o, D.s.l = [o] → o.h = c.h → o.c = c.c → o.ph ≠ 0
/-- what comes of a call of a handle -/
def Dsk.HandledR (D : Dsk) (c : Cal) (bs : List UInt8) (D' : Dsk) : Prop :=
  ((∃ er, D' = D.refused c er) ∧ D.NoCall c) ∨ ∃ (i : Nat) (o : Ope), D.s.l[i]? = some o ∧ o.h = c.h ∧ o.c = c.c ∧ o.ph = 0 ∧
    (c.kind = 3 ∧ D' = D.commit i o ∨ c.kind = 4 ∧ D' = (D.mails (refuseP o 0 4)).ended i o c.kind 4 0 true ∨ (c.kind ≠ 3 ∧ c.kind ≠ 4) ∧ D' = D.touch i o c bs)
set_option maxHeartbeats 4000000 in
theorem handled_any {wo w : World} {A E : List Ent} {b : Nat} {D : Dsk} (c : Cal) (da : Option Addr) (dc : Nat) (bs : List UInt8) (st : Int) (hE : DeskE b D E) (M : Mem wo w (A ++ E)) (hs : D.tiny) (hn : ∀ o ∈ D.s.l, ∀ k, 0 ≤ o.nAt k ∧ o.nAt k ≤ 1048576) (hsh : ∀ o ∈ D.s.l, ShOk o.sh) (hv : RdH wo A (.slice da bs.length dc) bs) :
    Calls Try.prog 20 #[.pointer (some ⟨b, 0, none⟩), .agg (c.cellsL (.slice da bs.length dc)).toArray, .int .i64 st] w fun e w' => e = .returned (.tuple #[]) ∧ ∃ D' E', D.HandledR c bs D' ∧ DeskE b D' E' ∧ Mem wo w' (A ++ E') := by
  have hsl := hs.l
  have hso := hs.over
  refine calls_enter Try.func20 rfl 79 rfl rfl ?_; intro a S
  refine nxD ?_
  refine st_box S M rfl rfl rfl #[_, _, _, _, _, _] rfl ?_; clear S M a; intro a w1 bX S M hB
  refine nxC ?_
  refine wp_seq ?_
  obtain ⟨rl, ro, rm, ra, rs, rc, re, M1⟩ := Dsk.open (A := _ :: A) hE M
  clear M hE; have M := M1; clear M1
  refine wp_region_lit ?_
  refine st_run [1, 1, 1, 4, 1] S M rfl (by kernel_rfl) ?_; clear S a; intro a S
  refine st_y S rfl rfl rfl (y_makeFunc (fs := []) (cs := [(Operand.tmp 4)]) S rfl rfl) ?_; clear S a; intro a S
  refine st_call (xs := [(Operand.tmp 12), (Operand.tmp 13)]) S (enters_of Try.func35 (by decide) rfl) rfl rfl rfl (findE_any (fi := []) (ca := [.pointer (some ⟨bX, 0, none⟩)]) (enters_of Try.func36 (by decide) rfl) ro.a ro.c D.s.over (fun x => x.h == c.h && x.c == c.c) _ (M.readAll 2 rfl (by unfold maxLen; omega)) (fun x w' hw => handled1_any x bX c da bs.length dc w' ((M.blk 8 rfl).ext hw))) ?_
  rintro _ w2 ⟨j1, rfl, hK, hF1⟩; refine ⟨_, rfl, ?_⟩; clear S a; intro a S; replace M := M.grow hK
  refine st_go [1] S rfl (by kernel_rfl) ?_; clear S a; intro a S
  refine nxA ?_
  refine st_run [1, 1, 1, 1, 1] S M rfl (by kernel_rfl) ?_; clear S a; intro a S
  refine st_y S rfl rfl rfl (y_makeFunc (fs := []) (cs := [(Operand.tmp 4)]) S rfl rfl) ?_; clear S a; intro a S
  refine st_call (xs := [(Operand.tmp 19), (Operand.tmp 20)]) S (enters_of Try.func37 (by decide) rfl) rfl rfl rfl (findO_any (fi := []) (ca := [.pointer (some ⟨bX, 0, none⟩)]) (enters_of Try.func38 (by decide) rfl) rl.a rl.c D.s.l (fun x => x.h == c.h && x.c == c.c) _ (M.readAll 1 rfl (by unfold maxLen; omega)) (fun x w' hw => handled2_any x bX c da bs.length dc w' ((M.blk 8 rfl).ext hw))) ?_
  rintro _ w3 ⟨j2, rfl, hK, hF2⟩; refine ⟨_, rfl, ?_⟩; clear S a; intro a S; replace M := M.grow hK
  refine st_go [1] S rfl (by kernel_rfl) ?_; clear S a; intro a S
  replace S := S.sub [(0, _), (1, _), (2, _), (4, _), (6, _), (7, _)] rfl
  refine nxC ?_
  refine wp_block ?_
  refine nxD ?_
  refine st_go [1, 1, 1] S rfl (by kernel_rfl) ?_; clear S a; intro a S
  refine nxC ?_
  refine st_if (t := 26) S rfl ?_ ?_
  · clear S; intro h26 S
    refine st_condT S rfl ?_
    refine wp_region_lit ?_
    refine st_go [1] S rfl (by kernel_rfl) ?_; clear S a; intro a S
    refine st_y S rfl rfl rfl (y_loadAgg (cs := [_, _, _, _, _, _]) S (by kernel_rfl) rfl rfl (M.cellsAt (k := 6) 8 rfl rfl)) ?_; clear S a; intro a S
    obtain ⟨E1, hE1, M2⟩ := Dsk.close (D := D) rl ro rm ra rs rc re M
    clear M; have M := M2; clear M2
    refine st_call (xs := [(Operand.tmp 29), (Operand.tmp 30), (Operand.const (Value.int IntKind.i64 241))]) S (enters_of Try.func32 (by decide) rfl) rfl rfl rfl (refused_any (A := _ :: A) c da bs.length dc _ hE1 M hs.small) ?_
    rintro _ w4 ⟨rfl, E2, hE2, M1⟩; refine ⟨_, rfl, ?_⟩; clear S M a; intro a S; have M := M1; clear M1
    refine wpList_nil ?_
    refine block_normal ?_
    refine end_noneN S rfl ?_
    refine ⟨rfl, _, E2, .inl ⟨⟨_, rfl⟩, fun h0 => ?_⟩, hE2, M.drop 0⟩
    rcases hF1 with ⟨k, q, -, h2, -⟩ | ⟨h1, -⟩
    · rw [h0] at h2; exact absurd h2 (by simp)
    · omega
  clear S; intro h26 S
  refine st_condF S rfl ?_
  refine nxD ?_
  refine st_go [1, 1, 1] S rfl (by kernel_rfl) ?_; clear S a; intro a S
  refine nxC ?_
  refine st_if (t := 32) S rfl ?_ ?_
  · clear S; intro h32 S
    refine st_condT S rfl ?_
    refine wp_region_lit ?_
    refine st_go [1] S rfl (by kernel_rfl) ?_; clear S a; intro a S
    refine st_y S rfl rfl rfl (y_loadAgg (cs := [_, _, _, _, _, _]) S (by kernel_rfl) rfl rfl (M.cellsAt (k := 6) 8 rfl rfl)) ?_; clear S a; intro a S
    obtain ⟨E1, hE1, M2⟩ := Dsk.close (D := D) rl ro rm ra rs rc re M
    clear M; have M := M2; clear M2
    refine st_call (xs := [(Operand.tmp 35), (Operand.tmp 36), (Operand.const (Value.int IntKind.i64 240))]) S (enters_of Try.func32 (by decide) rfl) rfl rfl rfl (refused_any (A := _ :: A) c da bs.length dc _ hE1 M hs.small) ?_
    rintro _ w5 ⟨rfl, E2, hE2, M1⟩; refine ⟨_, rfl, ?_⟩; clear S M a; intro a S; have M := M1; clear M1
    refine wpList_nil ?_
    refine block_normal ?_
    refine end_noneN S rfl ?_
    refine ⟨rfl, _, E2, .inl ⟨⟨_, rfl⟩, fun _ o9 h9 e1 e2 => ?_⟩, hE2, M.drop 0⟩
    rcases hF2 with ⟨k, q, h1, -⟩ | ⟨-, h2⟩
    · omega
    · have := h2 o9 (by rw [h9]; simp)
      simp [e1, e2] at this
  clear S; intro h32 S
  refine st_condF S rfl ?_
  refine wp_seq ?_
  obtain ⟨i, o, hj, ho, hoq, -⟩ : ∃ (k : Nat) (q : Ope), j2 = (k : Int) ∧ D.s.l[k]? = some q ∧ ((q.h == c.h && q.c == c.c) = true) ∧ True := by
    rcases hF2 with ⟨k, q, h1, h2, h3, -⟩ | ⟨h1, -⟩
    · exact ⟨k, q, h1, h2, h3, trivial⟩
    · omega
  subst hj
  have hom := List.mem_of_getElem? ho
  obtain ⟨hil, -⟩ := List.getElem?_eq_some_iff.1 ho
  have hoh : o.h = c.h ∧ o.c = c.c := by simpa using hoq
  clear hF2
  refine wp_region_lit ?_
  refine st_run [1, 1, 1, 1, 1, 1] S M rfl (by kernel_rfl) ?_; clear S a; intro a S
  refine st_y S rfl rfl rfl (y_indexR (e := 65) (sz := 37) S (by kernel_rfl) rfl (M.readAll 1 rfl (by unfold maxLen; omega)) rfl (by first | omega | (simp; done) | (simp; omega))) ?_; clear S a; intro a S
  try simp only [Int.toNat_natCast, Nat.mul_one, Nat.zero_add] at S
  refine st_go [6] S rfl (by kernel_rfl) ?_; clear S a; intro a S
  refine st_y S rfl rfl rfl (y_load S (by kernel_rfl) rfl (((M.readAll 1 rfl (by unfold maxLen; omega)).at_.row (i := i) (fm_get len_ope ho) rfl) 5 (by show 5 < 37; omega))) ?_; clear S a; intro a S
  refine st_go [1, 1] S rfl (by kernel_rfl) ?_; clear S a; intro a S
  replace S := S.sub [(0, _), (1, _), (2, _), (4, _), (6, _), (7, _), (26, _), (32, _), (38, _)] rfl
  refine nxC ?_
  refine st_if (t := 38) S rfl ?_ ?_
  · clear S; intro h38 S
    refine st_condT S rfl ?_
    refine wp_region_lit ?_
    refine st_go [1] S rfl (by kernel_rfl) ?_; clear S a; intro a S
    refine st_y S rfl rfl rfl (y_loadAgg (cs := [_, _, _, _, _, _]) S (by kernel_rfl) rfl rfl (M.cellsAt (k := 6) 8 rfl rfl)) ?_; clear S a; intro a S
    obtain ⟨E1, hE1, M2⟩ := Dsk.close (D := D) rl ro rm ra rs rc re M
    clear M; have M := M2; clear M2
    refine st_call (xs := [(Operand.tmp 49), (Operand.tmp 50), (Operand.const (Value.int IntKind.i64 242))]) S (enters_of Try.func32 (by decide) rfl) rfl rfl rfl (refused_any (A := _ :: A) c da bs.length dc _ hE1 M hs.small) ?_
    rintro _ w6 ⟨rfl, E2, hE2, M1⟩; refine ⟨_, rfl, ?_⟩; clear S M a; intro a S; have M := M1; clear M1
    refine wpList_nil ?_
    refine block_normal ?_
    refine end_noneN S rfl ?_
    refine ⟨rfl, _, E2, .inl ⟨⟨_, rfl⟩, fun _ o9 h9 e1 e2 => ?_⟩, hE2, M.drop 0⟩
    have ho9 := ho
    rw [h9, show i = 0 by rw [h9] at hil; simpa using hil] at ho9
    obtain rfl := Option.some.inj ho9
    omega
  clear S; intro h38 S
  refine st_condF S rfl ?_
  refine wp_seq ?_
  have hph : o.ph = 0 := by omega
  obtain ⟨E1, hE1, M2⟩ := Dsk.close (D := D) rl ro rm ra rs rc re M
  clear M; have M := M2; clear M2
  refine wp_region_lit ?_
  refine st_run [1, 1, 1, 1] S M rfl (by kernel_rfl) ?_; clear S a; intro a S
  refine nxC ?_
  refine st_if (t := 52) S rfl ?_ ?_
  · clear S; intro h52 S
    refine st_condT S rfl ?_
    refine wp_region_lit ?_
    refine st_go [1, 1] S rfl (by kernel_rfl) ?_; clear S a; intro a S
    refine st_call (xs := [(Operand.tmp 56), (Operand.tmp 57)]) S (enters_of Try.func39 (by decide) rfl) rfl rfl rfl (commit_any (A := _ :: A) i o hE1 M hs ho (hsh o hom)) ?_
    rintro _ w7 ⟨rfl, E2, hE2, M1⟩; refine ⟨_, rfl, ?_⟩; clear S M a; intro a S; have M := M1; clear M1
    refine wpList_nil ?_
    refine block_normal ?_
    refine end_noneN S rfl ?_
    exact ⟨rfl, _, E2, .inr ⟨i, o, ho, hoh.1, hoh.2, hph, .inl ⟨by omega, rfl⟩⟩, hE2, M.drop 0⟩
  clear S; intro h52 S
  refine st_condF S rfl ?_
  refine nxD ?_
  refine st_run [1, 1, 1, 1] S M rfl (by kernel_rfl) ?_; clear S a; intro a S
  refine nxC ?_
  refine st_fi (t := 59) S rfl ?_ ?_
  · clear S; intro h59 S
    refine st_condF S rfl ?_
    refine wp_region_lit ?_
    refine st_go [1, 1] S rfl (by kernel_rfl) ?_; clear S a; intro a S
    refine st_y S rfl rfl rfl (y_loadAgg (cs := [_, _, _, _, _, _]) S (by kernel_rfl) rfl rfl (M.cellsAt (k := 6) 0 rfl rfl)) ?_; clear S a; intro a S
    refine st_call (xs := [(Operand.tmp 22), (Operand.tmp 23), (Operand.tmp 24)]) S (enters_of Try.func40 (by decide) rfl) rfl rfl rfl (touch_any (A := _ :: A) i o c da dc bs hE1 M hs ho (hn o hom) (hv.cons _)) ?_
    rintro _ w11 ⟨rfl, E2, hE2, M1⟩; refine ⟨_, rfl, ?_⟩; clear S M a; intro a S; have M := M1; clear M1
    refine wpList_nil ?_
    refine block_normal ?_
    refine end_noneN S rfl ?_
    exact ⟨rfl, _, E2, .inr ⟨i, o, ho, hoh.1, hoh.2, hph, .inr (.inr ⟨⟨by omega, by omega⟩, rfl⟩)⟩, hE2, M.drop 0⟩
  clear S; intro h59 S
  refine st_condT S rfl ?_
  refine wp_seq ?_
  obtain ⟨⟨la, lc, llo, lhi⟩, ro, rm, ra, rs, rc, re, M1⟩ := Dsk.open (A := _ :: A) hE1 M
  clear M hE1; have M := M1; clear M1
  refine wp_region_lit ?_
  refine st_run [1, 1, 1, 1, 1, 1, 1] S M rfl (by kernel_rfl) ?_; clear S a; intro a S
  refine st_y S rfl rfl rfl (y_indexR (e := 65) (sz := 37) S (by kernel_rfl) rfl (M.readAll 1 rfl (by unfold maxLen; omega)) rfl (by first | omega | (simp; done) | (simp; omega))) ?_; clear S a; intro a S
  try simp only [Int.toNat_natCast, Nat.mul_one, Nat.zero_add] at S
  refine st_y S rfl rfl rfl (y_loadAgg S (by kernel_rfl) rfl rfl ((M.readAll 1 rfl (by unfold maxLen; omega)).at_.row (i := i) (fm_get len_ope ho) rfl)) ?_; clear S a; intro a S
  obtain ⟨E1, hE1, M2⟩ := Dsk.close (D := D) ⟨la, lc, llo, lhi⟩ ro rm ra rs rc re M
  clear M; have M := M2; clear M2
  refine st_call (xs := [(Operand.tmp 63), (Operand.tmp 71), (Operand.const (Value.int IntKind.i64 0))]) S (enters_of Try.func25 (by decide) rfl) rfl rfl rfl (refuse_any (A := _ :: A) o 0 hE1 M hs.small) ?_
  rintro _ w8 ⟨rfl, E3, hE3, M1⟩; refine ⟨_, rfl, ?_⟩; clear S M a; intro a S; have M := M1; clear M1
  replace S := S.sub [(0, _), (1, _), (2, _), (4, _), (6, _), (7, _), (26, _), (32, _), (38, _), (52, _), (59, _)] rfl
  refine nxC ?_
  have hpl := refuseP_len o 0 4
  have hs1 : (D.mails (refuseP o 0 4)).mid := ⟨hs.mid.l, hs.mid.over, by show (D.t.mail ++ _).length ≤ 900; have := hs.mail; rw [List.length_append]; omega, hs.mid.ans, hs.mid.seen, hs.mid.com, hs.mid.ends⟩
  have hso1 : (D.mails (refuseP o 0 4)).s.l[i]? = some o := ho
  refine wp_region_lit ?_
  refine st_run [1, 1, 1, 1] S M rfl (by kernel_rfl) ?_; clear S a; intro a S
  refine st_call (xs := [(Operand.tmp 73), (Operand.tmp 74), (Operand.tmp 76)]) S (enters_of Try.func24 (by decide) rfl) rfl rfl rfl (ending_any (A := _ :: A) i o c.kind hE3 M hs1 hso1) ?_
  rintro _ w9 ⟨b3, b4, b5, b7, rfl, E5, hE5, M1⟩; refine ⟨_, rfl, ?_⟩; clear S M a; intro a S; have M := M1; clear M1
  refine st_callB (xs := [(Operand.const (Value.int IntKind.i64 4)), (Operand.const (Value.int IntKind.i64 0)), (Operand.const (Value.bool true))]) (fi := []) (ca := [.pointer (some ⟨b3, 0, none⟩), .pointer (some ⟨b7, 0, none⟩), .pointer (some ⟨b4, 0, none⟩), .pointer (some ⟨b5, 0, none⟩)]) S (enters_of Try.func48 (by decide) rfl) rfl rfl (rfl) rfl (ending1_any (A := _ :: A) i o c.kind 4 0 true hE5 M hs1 (List.getElem?_eq_some_iff.1 hso1).1) ?_
  rintro _ w10 ⟨rfl, E6, hE6, M1⟩; refine ⟨_, rfl, ?_⟩; clear S M a; intro a S; have M := M1; clear M1
  refine wpList_nil ?_
  refine block_normal ?_
  refine end_noneN S rfl ?_
  exact ⟨rfl, _, E6, .inr ⟨i, o, ho, hoh.1, hoh.2, hph, .inr (.inl ⟨by omega, rfl⟩)⟩, hE6, M.drop 0⟩
end Go.Proofs.Ytniijiipkfhjgaa

namespace Go.Proofs.Ytniijiipkfhjgaa
open Go.RowKit Go.Sort
variable {ds : List Deferred}
theorem equalCh (d : Nat) (a b c e : Int) (w : World) : (Op.equalIn (d + 2) 125 (.agg #[.int .i64 a, .int .i64 b]) (.agg #[.int .i64 c, .int .i64 e])).run Try.prog w = .ok (a == c && b == e) w := by
  simp [go_sem]
  (repeat' split) <;> simp_all
theorem within_any (n m : Int) (w : World) : Calls Try.prog 51 #[.int .i64 n, .int .i64 m] w fun e w' => e = .returned (.bool (withinB n m)) ∧ Below w.heap.size w w' := by
  have M := Mem.start w
  refine calls_enter Try.func51 rfl 12 rfl rfl ?_; intro a S
  refine nxD ?_
  refine st_go [1] S rfl (by kernel_rfl) ?_; clear S a; intro a S
  refine nxA ?_
  refine st_go [1, 1, 1] S rfl (by kernel_rfl) ?_; clear S a; intro a S
  refine st_if (t := 7) S rfl ?_ ?_
  · clear S; intro h7 S
    refine st_go [1, 1, 1, 1, 1] S rfl (by kernel_rfl) ?_; clear S a; intro a S
    refine nxC ?_
    refine wp_ret ?_
    refine end_one S rfl (res_tmp rfl) ?_
    refine ⟨ret_bool ?_, M.below⟩; unfold withinB; rw [Bool.eq_iff_iff]; (first | (simp; done) | (simp; omega))
  clear S; intro h7 S
  refine st_go [0, 0, 0, 1, 1] S rfl (by kernel_rfl) ?_; clear S a; intro a S
  refine nxC ?_
  refine wp_ret ?_
  refine end_one S rfl (res_tmp rfl) ?_
  refine ⟨ret_bool ?_, M.below⟩; unfold withinB; rw [Bool.eq_iff_iff]; (first | (simp; done) | (simp; omega))
theorem named_any (n : Nm) (w : World) : Calls Try.prog 30 #[.agg n.cells] w fun e w' => e = .returned (.bool n.named) ∧ Below w.heap.size w w' := by
  have M := Mem.start w
  refine calls_enter Try.func30 rfl 16 rfl rfl ?_; intro a S
  refine nxD ?_
  refine st_box S M rfl rfl rfl #[_, _, _] rfl ?_; clear S M a; intro a w1 b1 S M hB
  refine st_go [1] S rfl (by kernel_rfl) ?_; clear S a; intro a S
  refine nxA ?_
  refine st_run [1, 1] S M rfl (by kernel_rfl) ?_; clear S a; intro a S
  refine st_call (xs := [(Operand.tmp 4), (Operand.const (Value.int IntKind.i64 1048576))]) S (enters_of Try.func51 (by decide) rfl) rfl rfl rfl (within_any _ _ _) ?_
  rintro _ w2 ⟨rfl, hK⟩; refine ⟨_, rfl, ?_⟩; clear S a; intro a S; replace M := M.grow hK
  refine st_go [1] S rfl (by kernel_rfl) ?_; clear S a; intro a S
  refine st_tils (t := 6) S rfl ?_ ?_
  · clear S; intro h6 S
    refine st_go [0, 0, 0, 1, 1, 0, 0, 0, 1, 1] S rfl (by kernel_rfl) ?_; clear S a; intro a S
    replace S := S.sub [(0, _), (1, _), (2, _)] rfl
    refine nxC ?_
    refine wp_ret ?_
    refine end_one S rfl (res_tmp rfl) ?_
    exact ⟨ret_bool (by simp [Nm.named, *]), M.below⟩
  clear S; intro h6 S
  refine st_run [2, 1] S M rfl (by kernel_rfl) ?_; clear S a; intro a S
  refine st_call (xs := [(Operand.tmp 8), (Operand.const (Value.int IntKind.i64 1048576))]) S (enters_of Try.func51 (by decide) rfl) rfl rfl rfl (within_any _ _ _) ?_
  rintro _ w3 ⟨rfl, hK⟩; refine ⟨_, rfl, ?_⟩; clear S a; intro a S; replace M := M.grow hK
  refine st_go [1, 1] S rfl (by kernel_rfl) ?_; clear S a; intro a S
  refine st_tils (t := 11) S rfl ?_ ?_
  · clear S; intro h11 S
    refine st_go [0, 0, 0, 1, 1] S rfl (by kernel_rfl) ?_; clear S a; intro a S
    replace S := S.sub [(0, _), (1, _), (2, _)] rfl
    refine nxC ?_
    refine wp_ret ?_
    refine end_one S rfl (res_tmp rfl) ?_
    exact ⟨ret_bool (by simp [Nm.named, *]), M.below⟩
  clear S; intro h11 S
  refine st_run [3, 1] S M rfl (by kernel_rfl) ?_; clear S a; intro a S
  refine st_call (xs := [(Operand.tmp 13), (Operand.const (Value.int IntKind.i64 1048576))]) S (enters_of Try.func51 (by decide) rfl) rfl rfl rfl (within_any _ _ _) ?_
  rintro _ w4 ⟨rfl, hK⟩; refine ⟨_, rfl, ?_⟩; clear S a; intro a S; replace M := M.grow hK
  refine st_go [1, 1] S rfl (by kernel_rfl) ?_; clear S a; intro a S
  replace S := S.sub [(0, _), (1, _), (2, _)] rfl
  refine nxC ?_
  refine wp_ret ?_
  refine end_one S rfl (res_tmp rfl) ?_
  exact ⟨ret_bool (by simp [Nm.named, *]), M.below⟩
theorem bits_any (n : Int) (w : World) : Calls Try.prog 64 #[.int .i64 n] w fun e w' => e = .returned (.bool (bitsB n)) ∧ Below w.heap.size w w' := by
  have M := Mem.start w
  refine calls_enter Try.func64 rfl 9 rfl rfl ?_; intro a S
  refine nxD ?_
  refine st_go [1] S rfl (by kernel_rfl) ?_; clear S a; intro a S
  refine nxA ?_
  refine st_go [1, 1, 1] S rfl (by kernel_rfl) ?_; clear S a; intro a S
  refine st_if (t := 5) S rfl ?_ ?_
  · clear S; intro h5 S
    refine st_go [1, 1, 1, 1] S rfl (by kernel_rfl) ?_; clear S a; intro a S
    refine nxC ?_
    refine wp_ret ?_
    refine end_one S rfl (res_tmp rfl) ?_
    refine ⟨ret_bool ?_, M.below⟩; unfold bitsB; rw [Bool.eq_iff_iff]; (first | (simp; done) | (simp; omega))
  clear S; intro h5 S
  refine st_go [0, 0, 1, 1] S rfl (by kernel_rfl) ?_; clear S a; intro a S
  refine nxC ?_
  refine wp_ret ?_
  refine end_one S rfl (res_tmp rfl) ?_
  refine ⟨ret_bool ?_, M.below⟩; unfold bitsB; rw [Bool.eq_iff_iff]; (first | (simp; done) | (simp; omega))
theorem changed_any (s t : Int) (w : World) : Calls Try.prog 68 #[.agg #[.int .i64 s, .int .i64 t]] w fun e w' => e = .returned (.bool (changedB s t)) ∧ Below w.heap.size w w' := by
  have M := Mem.start w
  refine calls_enter Try.func68 rfl 27 rfl rfl ?_; intro a S
  refine nxD ?_
  refine st_box S M rfl rfl rfl #[_, _] rfl ?_; clear S M a; intro a w1 b1 S M hB
  refine st_go [1] S rfl (by kernel_rfl) ?_; clear S a; intro a S
  refine nxC ?_
  refine wp_seq ?_
  refine nxD ?_
  refine st_run [1, 1, 1] S M rfl (by kernel_rfl) ?_; clear S a; intro a S
  refine nxC ?_
  refine st_if (t := 5) S rfl ?_ ?_
  · clear S; intro h5 S
    refine st_condT S rfl ?_
    refine nxD ?_
    refine st_run [2, 1, 1, 1] S M rfl (by kernel_rfl) ?_; clear S a; intro a S
    refine nxC ?_
    refine wp_ret ?_
    refine then_ret ?_
    refine end_one S rfl (res_tmp rfl) ?_
    refine ⟨ret_bool ?_, M.below⟩; unfold changedB; rw [Bool.eq_iff_iff]; (first | (simp; done) | (simp; omega))
  clear S; intro h5 S
  refine st_condF S rfl ?_
  refine wp_skip ?_
  refine nxE ?_
  refine st_run [1, 1, 1, 1] S M rfl (by kernel_rfl) ?_; clear S a; intro a S
  refine st_fi (t := 12) S rfl ?_ ?_
  · clear S; intro h12 S
    refine st_go [0, 0, 0, 1, 1, 0, 0, 0, 1, 1, 0, 0, 0, 1, 1] S rfl (by kernel_rfl) ?_; clear S a; intro a S
    replace S := S.sub [(0, _), (1, _), (5, _), (2, _)] rfl
    refine nxC ?_
    refine wp_ret ?_
    refine end_one S rfl (res_tmp rfl) ?_
    refine ⟨ret_bool ?_, M.below⟩; unfold changedB; rw [Bool.eq_iff_iff]; (first | (simp; done) | (simp; omega))
  clear S; intro h12 S
  refine st_run [1, 1, 1, 1, 1] S M rfl (by kernel_rfl) ?_; clear S a; intro a S
  refine st_fi (t := 17) S rfl ?_ ?_
  · clear S; intro h17 S
    refine st_go [0, 0, 0, 1, 1, 0, 0, 0, 1, 1] S rfl (by kernel_rfl) ?_; clear S a; intro a S
    replace S := S.sub [(0, _), (1, _), (5, _), (2, _)] rfl
    refine nxC ?_
    refine wp_ret ?_
    refine end_one S rfl (res_tmp rfl) ?_
    refine ⟨ret_bool ?_, M.below⟩; unfold changedB; rw [Bool.eq_iff_iff]; (first | (simp; done) | (simp; omega))
  clear S; intro h17 S
  refine st_run [2, 1, 1, 1, 1] S M rfl (by kernel_rfl) ?_; clear S a; intro a S
  refine st_fi (t := 22) S rfl ?_ ?_
  · clear S; intro h22 S
    refine st_go [0, 0, 0, 1, 1] S rfl (by kernel_rfl) ?_; clear S a; intro a S
    replace S := S.sub [(0, _), (1, _), (5, _), (2, _)] rfl
    refine nxC ?_
    refine wp_ret ?_
    refine end_one S rfl (res_tmp rfl) ?_
    refine ⟨ret_bool ?_, M.below⟩; unfold changedB; rw [Bool.eq_iff_iff]; (first | (simp; done) | (simp; omega))
  clear S; intro h22 S
  refine st_run [2, 1, 1, 1, 1] S M rfl (by kernel_rfl) ?_; clear S a; intro a S
  replace S := S.sub [(0, _), (1, _), (5, _), (2, _)] rfl
  refine nxC ?_
  refine wp_ret ?_
  refine end_one S rfl (res_tmp rfl) ?_
  refine ⟨ret_bool ?_, M.below⟩; unfold changedB; rw [Bool.eq_iff_iff]; (first | (simp; done) | (simp; omega))
theorem andNot30 {n : Int} (h0 : 0 < n) (h : n ≤ 9223372036854775807) : (andNotV n 30 == 0) = decide (n < 32 ∧ n % 2 = 0) := by
  obtain ⟨k, rfl⟩ := Int.eq_ofNat_of_zero_le (show 0 ≤ n by omega)
  have e1 : BitVec.ofInt 64 (k : Int) = BitVec.ofNat 64 k := by simp
  have hw : ∀ x : BitVec 64, (IntKind.i64.wrap (x.toNat : Int) == 0) = (x == 0#64) := fun x => by
    have hx := x.isLt
    have : IntKind.i64.wrap (x.toNat : Int) = 0 ↔ x = 0#64 := by
      have hz : x = 0#64 ↔ x.toNat = 0 := by rw [← BitVec.toNat_inj]; simp
      rw [hz]
      simp only [IntKind.wrap, IntKind.bits, IntKind.signed]
      simp
      omega
    rw [Bool.eq_iff_iff]; simpa using this
  unfold andNotV
  rw [show IntKind.i64.bits = 64 from rfl, hw, e1]
  rcases Nat.lt_or_ge k 32 with hk | hk
  · have : ∀ j : Fin 32, (BitVec.ofNat 64 j.val &&& ~~~BitVec.ofInt 64 30 == 0#64) = decide ((j.val : Int) < 32 ∧ (j.val : Int) % 2 = 0) := by decide
    exact this ⟨k, hk⟩
  · rw [decide_eq_false (by omega), beq_eq_false_iff_ne]
    intro hc
    have h5 : ∀ i, 5 ≤ i → i < 64 → k.testBit i = false := fun i hi hlt => by
      have := congrArg (fun b : BitVec 64 => b.getLsbD i) hc
      simp only [BitVec.getLsbD_and, BitVec.getLsbD_not, BitVec.getLsbD_ofNat, BitVec.getLsbD_zero, hlt, decide_true, Bool.true_and] at this
      rw [Nat.zero_testBit] at this
      cases hb : k.testBit i with
      | false => rfl
      | true =>
        have h30 : (!(BitVec.ofInt 64 30).getLsbD i) = false := by rw [hb, Bool.true_and] at this; exact this
        rw [show BitVec.ofInt 64 30 = BitVec.ofNat 64 30 from rfl, BitVec.getLsbD_ofNat] at h30
        have : Nat.testBit 30 i = false := Nat.testBit_lt_two_pow (Nat.lt_of_lt_of_le (by omega : 30 < 2 ^ 5) (Nat.pow_le_pow_right (by omega) hi))
        simp [hlt, this] at h30
    have hk63 : k < 2 ^ 64 := by omega
    have : k >>> 5 = 0 := by
      apply Nat.eq_of_testBit_eq
      intro i
      rw [Nat.testBit_shiftRight, Nat.zero_testBit]
      rcases Nat.lt_or_ge (5 + i) 64 with hlt | hge
      · exact h5 _ (by omega) hlt
      · exact Nat.testBit_lt_two_pow (Nat.lt_of_lt_of_le hk63 (Nat.pow_le_pow_right (by omega) hge))
    rw [Nat.shiftRight_eq_div_pow] at this
    omega
theorem shards_any (n : Int) (w : World) (hn : n ≤ 9223372036854775807) : Calls Try.prog 67 #[.int .i64 n] w fun e w' => e = .returned (.bool (shardsB n)) ∧ Below w.heap.size w w' := by
  have M := Mem.start w
  have key := fun h => andNot30 (n := n) h hn
  unfold andNotV at key
  refine calls_enter Try.func67 rfl 10 rfl rfl ?_; intro a S
  refine nxD ?_
  refine st_go [1] S rfl (by kernel_rfl) ?_; clear S a; intro a S
  refine nxA ?_
  refine st_go [1, 1, 1] S rfl (by kernel_rfl) ?_; clear S a; intro a S
  refine st_fi (t := 5) S rfl ?_ ?_
  · clear S; intro h5 S
    refine st_go [0, 0, 0, 1, 1] S rfl (by kernel_rfl) ?_; clear S a; intro a S
    refine nxC ?_
    refine wp_ret ?_
    refine end_one S rfl (res_tmp rfl) ?_
    refine ⟨ret_bool ?_, M.below⟩; unfold shardsB
    first
      | (rw [key (by assumption)]; rw [Bool.eq_iff_iff]; simp; omega)
      | (rw [Bool.eq_iff_iff]; simp; omega)
  clear S; intro h5 S
  refine st_go [1] S rfl (by kernel_rfl) ?_; clear S a; intro a S
  refine st_y S rfl rfl rfl (y_andNot S rfl rfl) ?_; clear S a; intro a S
  refine st_go [1, 1, 1] S rfl (by kernel_rfl) ?_; clear S a; intro a S
  refine nxC ?_
  refine wp_ret ?_
  refine end_one S rfl (res_tmp rfl) ?_
  refine ⟨ret_bool ?_, M.below⟩; unfold shardsB
  first
    | (rw [key (by assumption)]; rw [Bool.eq_iff_iff]; simp; omega)
    | (rw [Bool.eq_iff_iff]; simp; omega)
theorem equalW_any (va vb : Value) (x y : List Wr) (w : World) (hx : Ws 0 w.heap.size w va x) (hy : Ws 0 w.heap.size w vb y) :
    Calls Try.prog 55 #[va, vb] w fun e w' => e = .returned (.bool (eqWs x y)) ∧ Below w.heap.size w w' := by
  have M := Mem.start w
  have hl := hx.2.1
  unfold maxLen at hl
  have hne : x.length ≠ y.length → eqWs x y = false := fun h => by
    cases e : eqWs x y with
    | false => rfl
    | true => exact absurd (by rw [eqWs_iff.1 e]) h
  refine calls_enter Try.func55 rfl 26 rfl rfl ?_; intro a S
  refine nxD ?_
  refine st_go [1] S rfl (by kernel_rfl) ?_; clear S a; intro a S
  refine nxC ?_
  refine wp_seq ?_
  refine nxD ?_
  refine st_go [1] S rfl (by kernel_rfl) ?_; clear S a; intro a S
  refine st_y S rfl rfl rfl (y_lenR (E := 122) S rfl (M.arg hx) (by kernel_rfl)) ?_; clear S a; intro a S
  refine st_go [1] S rfl (by kernel_rfl) ?_; clear S a; intro a S
  refine st_y S rfl rfl rfl (y_lenR (E := 122) S rfl (M.arg hy) (by kernel_rfl)) ?_; clear S a; intro a S
  refine st_go [1] S rfl (by kernel_rfl) ?_; clear S a; intro a S
  refine nxC ?_
  refine st_if (t := 10) S rfl ?_ ?_
  · clear S; intro h10 S
    refine st_condT S rfl ?_
    refine nxD ?_
    refine st_go [1] S rfl (by kernel_rfl) ?_; clear S a; intro a S
    refine nxC ?_
    refine wp_ret ?_
    refine then_ret ?_
    refine end_one S rfl (res_tmp rfl) ?_
    exact ⟨ret_bool (hne (by omega)).symm, M.below⟩
  clear S; intro h10 S
  refine st_condF S rfl ?_
  refine wp_skip ?_
  refine then_normal ?_
  refine wp_seq ?_
  refine nxD ?_
  refine st_go [1] S rfl (by kernel_rfl) ?_; clear S a; intro a S
  refine st_y S rfl rfl rfl (y_lenR (E := 122) S rfl (M.arg hx) (by kernel_rfl)) ?_; clear S a; intro a S
  refine st_go [1] S rfl (by kernel_rfl) ?_; clear S a; intro a S
  refine nxC ?_
  refine wp_block ?_
  refine wp_loop_g (fun m a w' => ∃ (k : Nat), k ≤ x.length ∧ m = x.length - k ∧ Sees 26 a [(0, va), (1, vb), (12, .int .i64 (x.length : Int)), (13, .int .i64 (k : Int))] ∧ Mem w w' [] ∧ ∀ j, j < k → x[j]? = y[j]?) (x.length) ?_ ?_
  · skip
    exact ⟨0, Nat.zero_le _, rfl, S.sub _ rfl, M, fun j h => by omega⟩
  clear S M a; intro m a wl
  rintro ⟨k, hk, rfl, S, M, hpre⟩
  refine nxD ?_
  refine st_go [1] S rfl (by kernel_rfl) ?_; clear S a; intro a S
  refine nxC ?_
  refine wp_seq ?_
  refine st_fi (t := 14) S rfl ?_ ?_
  · clear S; intro h14 S
    refine st_condF S rfl ?_
    refine wp_exit ?_
    refine then_exit ?_
    refine then_exit ?_
    refine block_hit ?_
    refine nxE ?_
    refine st_go [1] S rfl (by kernel_rfl) ?_; clear S a; intro a S
    refine nxC ?_
    refine wp_ret ?_
    refine end_one S rfl (res_tmp rfl) ?_
    obtain rfl : k = x.length := by omega
    refine ⟨ret_bool (eqWs_iff.2 (List.ext_getElem? fun j => ?_)).symm, M.below⟩
    by_cases hj : j < x.length
    · exact hpre j hj
    · rw [List.getElem?_eq_none (by omega), List.getElem?_eq_none (by omega)]
  clear S; intro h14 S
  refine st_condT S rfl ?_
  refine wp_skip ?_
  refine then_normal ?_
  refine wp_seq ?_
  refine wp_block ?_
  refine nxD ?_
  refine st_go [1, 1] S rfl (by kernel_rfl) ?_; clear S a; intro a S
  refine nxC ?_
  refine wp_seq ?_
  obtain ⟨p, hp⟩ : ∃ p, x[k]? = some p := ⟨_, List.getElem?_eq_getElem (by omega)⟩
  obtain ⟨q, hq⟩ : ∃ q, y[k]? = some q := ⟨_, List.getElem?_eq_getElem (by omega)⟩
  refine wp_quiet M (by kernel_rfl) (by kernel_rfl) ?_
  refine qt_y S rfl rfl rfl (fun w M => y_move S rfl) ?_; clear S a; intro a S
  refine qt_y S rfl rfl rfl (fun w M => y_move S rfl) ?_; clear S a; intro a S
  refine qt_y S rfl rfl rfl (fun w M => y_indexR (e := 122) (sz := 9) S (by kernel_rfl) rfl ((M.arg hx)) rfl (by first | omega | (simp; done) | (simp; omega))) ?_; clear S a; intro a S
  try simp only [Int.toNat_natCast, Nat.mul_one, Nat.zero_add] at S
  refine qt_y S rfl rfl rfl (fun w M => y_loadAgg S (by kernel_rfl) rfl rfl ((M.arg hx).at_.row (i := k) (wcells_get hp) rfl)) ?_; clear S a; intro a S
  refine qt_y S rfl rfl rfl (fun w M => y_move S rfl) ?_; clear S a; intro a S
  refine qt_y S rfl rfl rfl (fun w M => y_move S rfl) ?_; clear S a; intro a S
  refine qt_y S rfl rfl rfl (fun w M => y_indexR (e := 122) (sz := 9) S (by kernel_rfl) rfl ((M.arg hy)) rfl (by first | omega | (simp; done) | (simp; omega))) ?_; clear S a; intro a S
  try simp only [Int.toNat_natCast, Nat.mul_one, Nat.zero_add] at S
  refine qt_y S rfl rfl rfl (fun w M => y_loadAgg S (by kernel_rfl) rfl rfl ((M.arg hy).at_.row (i := k) (wcells_get hq) rfl)) ?_; clear S a; intro a S
  refine qt_y S rfl rfl rfl (fun w M => y_neqG (by kernel_rfl) S rfl rfl (fun w => equalWr 9997 p q w)) ?_; clear S a; intro a S
  refine wpQuiet_nil ?_; clear M; intro w1 M
  refine then_normal ?_
  refine st_split (t := 24) S rfl ?_ ?_
  · clear S; intro h24 S
    refine st_condT S rfl ?_
    refine nxD ?_
    refine st_go [1] S rfl (by kernel_rfl) ?_; clear S a; intro a S
    refine nxC ?_
    refine wp_ret ?_
    refine block_ret ?_
    refine then_ret ?_
    refine then_ret ?_
    refine block_ret ?_
    refine then_ret ?_
    refine end_one S rfl (res_tmp rfl) ?_
    refine ⟨ret_bool ?_, M.below⟩
    cases e : eqWs x y with
    | false => rfl
    | true =>
      rw [eqWs_iff.1 e, hq] at hp
      cases hp
      rw [Wr.eqb_iff.2 rfl] at h24
      cases h24
  clear S; intro h24 S
  refine st_condF S rfl ?_
  refine wp_skip ?_
  refine block_normal ?_
  refine nxF ?_
  (first | refine st_y S rfl rfl rfl (y_addN S rfl rfl (by omega)) ?_ | refine st_y S rfl rfl rfl (y_int S rfl rfl rfl) ?_); clear S a; intro a S
  refine st_go [1] S rfl (by kernel_rfl) ?_; clear S a; intro a S
  refine nxC ?_
  refine ⟨x.length - (k + 1), by omega, k + 1, by omega, rfl, S.sub _ rfl, M, fun j hj => ?_⟩
  rcases Nat.lt_or_ge j k with h | h
  · exact hpre j h
  · obtain rfl : j = k := by omega
    rw [hp, hq, (Wr.eqb_iff (a := p) (b := q)).1 (by simpa using h24)]
theorem drop_get {α : Type} {x : List α} {k : Nat} {a : α} (h : x[k]? = some a) : x.drop k = a :: x.drop (k + 1) := by
  obtain ⟨h, e⟩ := List.getElem?_eq_some_iff.1 h
  rw [List.drop_eq_getElem_cons h, e]
theorem written_any (v : Value) (x : List Wr) (w : World) (hx : Ws 0 w.heap.size w v x) : Calls Try.prog 62 #[v] w fun e w' => e = .returned (.bool (writtenB x)) ∧ Below w.heap.size w w' := by
  have M := Mem.start w
  refine calls_enter Try.func62 rfl 27 rfl rfl ?_; intro a S
  refine nxD ?_
  refine st_go [1] S rfl (by kernel_rfl) ?_; clear S a; intro a S
  refine nxC ?_
  refine wp_seq ?_
  refine nxD ?_
  refine st_go [1] S rfl (by kernel_rfl) ?_; clear S a; intro a S
  refine st_y S rfl rfl rfl (y_lenR (E := 122) S rfl (M.arg hx) (by kernel_rfl)) ?_; clear S a; intro a S
  refine st_go [1] S rfl (by kernel_rfl) ?_; clear S a; intro a S
  refine nxC ?_
  refine st_if (t := 8) S rfl ?_ ?_
  · clear S; intro h8 S
    refine st_condT S rfl ?_
    refine nxD ?_
    refine st_go [1] S rfl (by kernel_rfl) ?_; clear S a; intro a S
    refine nxC ?_
    refine wp_ret ?_
    refine then_ret ?_
    refine end_one S rfl (res_tmp rfl) ?_
    refine ⟨ret_bool ?_, M.below⟩; unfold writtenB; rw [decide_eq_false (by omega)]; rfl
  clear S; intro h8 S
  refine st_condF S rfl ?_
  refine wp_skip ?_
  refine nxE ?_
  refine st_go [1] S rfl (by kernel_rfl) ?_; clear S a; intro a S
  refine nxC ?_
  refine wp_seq ?_
  refine nxD ?_
  refine st_go [1] S rfl (by kernel_rfl) ?_; clear S a; intro a S
  refine st_y S rfl rfl rfl (y_lenR (E := 122) S rfl (M.arg hx) (by kernel_rfl)) ?_; clear S a; intro a S
  refine st_go [1] S rfl (by kernel_rfl) ?_; clear S a; intro a S
  refine nxC ?_
  refine wp_block ?_
  refine wp_loop_g (fun m a w' => ∃ (k : Nat) (last : Int), k ≤ x.length ∧ m = x.length - k ∧ Sees 27 a [(3, .int .i64 last), (9, v), (10, .int .i64 (x.length : Int)), (11, .int .i64 (k : Int))] ∧ Mem w w' [] ∧ risingB (-1) x = risingB last (x.drop k)) (x.length) ?_ ?_
  · skip
    exact ⟨0, -1, Nat.zero_le _, rfl, S.sub _ rfl, M, rfl⟩
  clear S M a; intro m a wl
  rintro ⟨k, last, hk, rfl, S, M, hpre⟩
  refine nxD ?_
  refine st_go [1] S rfl (by kernel_rfl) ?_; clear S a; intro a S
  refine nxC ?_
  refine wp_seq ?_
  refine st_fi (t := 12) S rfl ?_ ?_
  · clear S; intro h12 S
    refine st_condF S rfl ?_
    refine wp_exit ?_
    refine then_exit ?_
    refine then_exit ?_
    refine block_hit ?_
    refine nxE ?_
    refine st_go [1] S rfl (by kernel_rfl) ?_; clear S a; intro a S
    refine nxC ?_
    refine wp_ret ?_
    refine end_one S rfl (res_tmp rfl) ?_
    obtain rfl : k = x.length := by omega
    refine ⟨ret_bool ?_, M.below⟩; unfold writtenB; rw [decide_eq_true (by omega), hpre, List.drop_length]; rfl
  clear S; intro h12 S
  refine st_condT S rfl ?_
  refine wp_skip ?_
  refine then_normal ?_
  refine wp_seq ?_
  refine wp_block ?_
  refine nxD ?_
  obtain ⟨p, hp⟩ : ∃ p, x[k]? = some p := ⟨_, List.getElem?_eq_getElem (by omega)⟩
  rw [drop_get hp] at hpre
  refine st_y S rfl rfl rfl (y_indexR (e := 122) (sz := 9) S (by kernel_rfl) rfl ((M.arg hx)) rfl (by first | omega | (simp; done) | (simp; omega))) ?_; clear S a; intro a S
  try simp only [Int.toNat_natCast, Nat.mul_one, Nat.zero_add] at S
  refine st_y S rfl rfl rfl (y_loadAgg S (by kernel_rfl) rfl rfl ((M.arg hx).at_.row (i := k) (wcells_get hp) rfl)) ?_; clear S a; intro a S
  refine st_alloc S M rfl rfl #[.int .i64 0, .int .u8 0, .int .u8 0, .int .u8 0, .int .u8 0, .int .u8 0, .int .u8 0, .int .u8 0, .int .u8 0] (by kernel_rfl) ?_; clear S M a; intro a w1 bW S M hB
  refine st_store (sz := 9) (us := [_, _, _, _, _, _, _, _, _]) S M 0 rfl (by kernel_rfl) rfl rfl rfl rfl rfl rfl (by first | decide | (simp; done) | (simp; omega)) ?_; clear M; intro w2 M
  simp only [putL, List.set_cons_zero, List.set_cons_succ, Nat.reduceAdd] at M
  refine nxC ?_
  refine wp_seq ?_
  refine nxD ?_
  refine st_run [1, 1, 1, 1, 1] S M rfl (by kernel_rfl) ?_; clear S a; intro a S
  refine st_if (t := 19) S rfl ?_ ?_
  · clear S; intro h19 S
    refine st_go [0, 0, 0, 1] S rfl (by kernel_rfl) ?_; clear S a; intro a S
    refine nxC ?_
    refine st_condT S rfl ?_
    refine nxD ?_
    refine st_go [1] S rfl (by kernel_rfl) ?_; clear S a; intro a S
    refine nxC ?_
    refine wp_ret ?_
    refine then_ret ?_
    refine block_ret ?_
    refine then_ret ?_
    refine then_ret ?_
    refine block_ret ?_
    refine then_ret ?_
    refine end_one S rfl (res_tmp rfl) ?_
    refine ⟨ret_bool ?_, M.below⟩; unfold writtenB; rw [hpre]; unfold risingB; rw [decide_eq_false (p := last < p.block ∧ p.block < 32) (by omega)]; simp
  clear S; intro h19 S
  refine st_run [1, 1, 1, 1] S M rfl (by kernel_rfl) ?_; clear S a; intro a S
  refine nxC ?_
  refine st_if (t := 23) S rfl ?_ ?_
  · clear S; intro h23 S
    refine st_condT S rfl ?_
    refine nxD ?_
    refine st_go [1] S rfl (by kernel_rfl) ?_; clear S a; intro a S
    refine nxC ?_
    refine wp_ret ?_
    refine then_ret ?_
    refine block_ret ?_
    refine then_ret ?_
    refine then_ret ?_
    refine block_ret ?_
    refine then_ret ?_
    refine end_one S rfl (res_tmp rfl) ?_
    refine ⟨ret_bool ?_, M.below⟩; unfold writtenB; rw [hpre]; unfold risingB; rw [decide_eq_false (p := last < p.block ∧ p.block < 32) (by omega)]; simp
  clear S; intro h23 S
  refine st_condF S rfl ?_
  refine wp_skip ?_
  refine nxF ?_
  refine st_run [1, 1, 1] S M rfl (by kernel_rfl) ?_; clear S a; intro a S
  refine wpList_nil ?_
  refine block_normal ?_
  refine nxF ?_
  (first | refine st_y S rfl rfl rfl (y_addN S rfl rfl (by omega)) ?_ | refine st_y S rfl rfl rfl (y_int S rfl rfl rfl) ?_); clear S a; intro a S
  refine st_go [1] S rfl (by kernel_rfl) ?_; clear S a; intro a S
  replace S := S.sub [(9, _), (10, _), (12, _), (5, _), (23, _), (3, _), (11, _)] rfl
  refine nxC ?_
  replace M := M.drop 0
  simp only [List.eraseIdx_cons_succ, List.eraseIdx_cons_zero] at M
  refine ⟨x.length - (k + 1), by omega, k + 1, p.block, by omega, rfl, S.sub _ rfl, M, ?_⟩
  rw [hpre]; unfold risingB; rw [decide_eq_true (p := last < p.block ∧ p.block < 32) (by omega)]; cases hd : x.drop (k + 1) <;> simp [risingB]
theorem same_any (a b : Rc) (va vb : Value) (x y : List Wr) (w : World) (hx : Ws 0 w.heap.size w va x) (hy : Ws 0 w.heap.size w vb y) :
    Calls Try.prog 60 #[.agg (a.cells va), .agg (b.cells vb)] w fun e w' => e = .returned (.bool (a.same b x y)) ∧ Below w.heap.size w w' := by
  obtain ⟨aa, ca, rfl, -, -⟩ := hx.form
  obtain ⟨ab, cb, rfl, -, -⟩ := hy.form
  have M := Mem.start w
  generalize hr : a.same b x y = R
  refine calls_enter Try.func60 rfl 66 rfl rfl ?_; intro a S
  refine nxD ?_
  refine st_box S M rfl rfl rfl #[_, _, _, _, _, _, _, _, _, _, _, _] rfl ?_; clear S M a; intro a w1 b1 S M hB
  refine st_box S M rfl rfl rfl #[_, _, _, _, _, _, _, _, _, _, _, _] rfl ?_; clear S M a; intro a w2 b2 S M hB
  refine st_go [1] S rfl (by kernel_rfl) ?_; clear S a; intro a S
  refine nxA ?_
  refine st_run [1, 2, 1, 1, 1, 1] S M rfl (by kernel_rfl) ?_; clear S a; intro a S
  refine st_tils (t := 10) S rfl ?_ ?_
  · clear S; intro h10 S
    refine st_go [0, 0, 0, 0, 0, 1, 1, 0, 0, 0, 0, 0, 1, 1, 0, 0, 0, 0, 0, 1, 1, 0, 0, 0, 0, 0, 1, 1, 0, 0, 0, 0, 0, 1, 1, 0, 0, 0, 0, 0, 1, 1, 0, 0, 0, 0, 0, 1, 1, 0, 0, 0, 0, 0, 1, 1] S rfl (by kernel_rfl) ?_; clear S a; intro a S
    replace S := S.sub [(0, _), (1, _), (2, _), (3, _), (4, _)] rfl
    refine nxC ?_
    refine wp_ret ?_
    refine end_one S rfl (res_tmp rfl) ?_
    refine ⟨ret_bool ?_, M.below⟩; rw [← hr]; clear S M; simp [Rc.same, *]
  clear S; intro h10 S
  refine st_go [2] S rfl (by kernel_rfl) ?_; clear S a; intro a S
  refine st_y S rfl rfl rfl (y_loadAgg (cs := [_, _, _]) S (by kernel_rfl) rfl rfl (M.cellsAt (k := 3) 1 rfl rfl)) ?_; clear S a; intro a S
  refine st_go [2] S rfl (by kernel_rfl) ?_; clear S a; intro a S
  refine st_y S rfl rfl rfl (y_loadAgg (cs := [_, _, _]) S (by kernel_rfl) rfl rfl (M.cellsAt (k := 3) 0 rfl rfl)) ?_; clear S a; intro a S
  refine st_y S rfl rfl rfl (y_eqlG (by kernel_rfl) S rfl rfl (fun w => equalNm 9998 ⟨_, _, _⟩ ⟨_, _, _⟩ w)) ?_; clear S a; intro a S
  refine st_go [1, 1] S rfl (by kernel_rfl) ?_; clear S a; intro a S
  refine st_tils (t := 17) S rfl ?_ ?_
  · clear S; intro h17 S
    refine st_go [0, 0, 0, 0, 0, 1, 1, 0, 0, 0, 0, 0, 1, 1, 0, 0, 0, 0, 0, 1, 1, 0, 0, 0, 0, 0, 1, 1, 0, 0, 0, 0, 0, 1, 1, 0, 0, 0, 0, 0, 1, 1, 0, 0, 0, 0, 0, 1, 1] S rfl (by kernel_rfl) ?_; clear S a; intro a S
    replace S := S.sub [(0, _), (1, _), (2, _), (3, _), (4, _)] rfl
    refine nxC ?_
    refine wp_ret ?_
    refine end_one S rfl (res_tmp rfl) ?_
    refine ⟨ret_bool ?_, M.below⟩; rw [← hr]; clear S M; simp [Rc.same, *]
  clear S; intro h17 S
  refine st_run [5, 2, 5, 1] S M rfl (by kernel_rfl) ?_; clear S a; intro a S
  refine st_y S rfl rfl rfl (y_eqlBool (by kernel_rfl) S rfl rfl) ?_; clear S a; intro a S
  refine st_go [1, 1] S rfl (by kernel_rfl) ?_; clear S a; intro a S
  refine st_tils (t := 24) S rfl ?_ ?_
  · clear S; intro h24 S
    refine st_go [0, 0, 0, 0, 0, 1, 1, 0, 0, 0, 0, 0, 1, 1, 0, 0, 0, 0, 0, 1, 1, 0, 0, 0, 0, 0, 1, 1, 0, 0, 0, 0, 0, 1, 1, 0, 0, 0, 0, 0, 1, 1] S rfl (by kernel_rfl) ?_; clear S a; intro a S
    replace S := S.sub [(0, _), (1, _), (2, _), (3, _), (4, _)] rfl
    refine nxC ?_
    refine wp_ret ?_
    refine end_one S rfl (res_tmp rfl) ?_
    refine ⟨ret_bool ?_, M.below⟩; rw [← hr]; clear S M; simp [Rc.same, *]
  clear S; intro h24 S
  refine st_run [6, 2, 6, 1] S M rfl (by kernel_rfl) ?_; clear S a; intro a S
  refine st_call (xs := [(Operand.tmp 26), (Operand.tmp 28)]) S (enters_of Try.func55 (by decide) rfl) rfl rfl rfl (equalW_any _ _ x y _ (M.argW hx) (M.argW hy)) ?_
  rintro _ w3 ⟨rfl, hK⟩; refine ⟨_, rfl, ?_⟩; clear S a; intro a S; replace M := M.grow hK
  refine st_go [1, 1] S rfl (by kernel_rfl) ?_; clear S a; intro a S
  refine st_tils (t := 31) S rfl ?_ ?_
  · clear S; intro h31 S
    refine st_go [0, 0, 0, 0, 0, 1, 1, 0, 0, 0, 0, 0, 1, 1, 0, 0, 0, 0, 0, 1, 1, 0, 0, 0, 0, 0, 1, 1, 0, 0, 0, 0, 0, 1, 1] S rfl (by kernel_rfl) ?_; clear S a; intro a S
    replace S := S.sub [(0, _), (1, _), (2, _), (3, _), (4, _)] rfl
    refine nxC ?_
    refine wp_ret ?_
    refine end_one S rfl (res_tmp rfl) ?_
    refine ⟨ret_bool ?_, M.below⟩; rw [← hr]; clear S M; simp [Rc.same, *]
  clear S; intro h31 S
  refine st_run [7, 2, 7, 1, 1, 1, 1] S M rfl (by kernel_rfl) ?_; clear S a; intro a S
  refine st_tils (t := 38) S rfl ?_ ?_
  · clear S; intro h38 S
    refine st_go [0, 0, 0, 0, 0, 1, 1, 0, 0, 0, 0, 0, 1, 1, 0, 0, 0, 0, 0, 1, 1, 0, 0, 0, 0, 0, 1, 1] S rfl (by kernel_rfl) ?_; clear S a; intro a S
    replace S := S.sub [(0, _), (1, _), (2, _), (3, _), (4, _)] rfl
    refine nxC ?_
    refine wp_ret ?_
    refine end_one S rfl (res_tmp rfl) ?_
    refine ⟨ret_bool ?_, M.below⟩; rw [← hr]; clear S M; simp [Rc.same, *]
  clear S; intro h38 S
  refine st_run [8, 2, 8, 1, 1, 1, 1] S M rfl (by kernel_rfl) ?_; clear S a; intro a S
  refine st_tils (t := 45) S rfl ?_ ?_
  · clear S; intro h45 S
    refine st_go [0, 0, 0, 0, 0, 1, 1, 0, 0, 0, 0, 0, 1, 1, 0, 0, 0, 0, 0, 1, 1] S rfl (by kernel_rfl) ?_; clear S a; intro a S
    replace S := S.sub [(0, _), (1, _), (2, _), (3, _), (4, _)] rfl
    refine nxC ?_
    refine wp_ret ?_
    refine end_one S rfl (res_tmp rfl) ?_
    refine ⟨ret_bool ?_, M.below⟩; rw [← hr]; clear S M; simp [Rc.same, *]
  clear S; intro h45 S
  refine st_run [9, 2, 9, 1, 1, 1, 1] S M rfl (by kernel_rfl) ?_; clear S a; intro a S
  refine st_tils (t := 52) S rfl ?_ ?_
  · clear S; intro h52 S
    refine st_go [0, 0, 0, 0, 0, 1, 1, 0, 0, 0, 0, 0, 1, 1] S rfl (by kernel_rfl) ?_; clear S a; intro a S
    replace S := S.sub [(0, _), (1, _), (2, _), (3, _), (4, _)] rfl
    refine nxC ?_
    refine wp_ret ?_
    refine end_one S rfl (res_tmp rfl) ?_
    refine ⟨ret_bool ?_, M.below⟩; rw [← hr]; clear S M; simp [Rc.same, *]
  clear S; intro h52 S
  refine st_go [10] S rfl (by kernel_rfl) ?_; clear S a; intro a S
  refine st_y S rfl rfl rfl (y_loadAgg (cs := [_, _]) S (by kernel_rfl) rfl rfl (M.cellsAt (k := 2) 1 rfl rfl)) ?_; clear S a; intro a S
  refine st_go [10] S rfl (by kernel_rfl) ?_; clear S a; intro a S
  refine st_y S rfl rfl rfl (y_loadAgg (cs := [_, _]) S (by kernel_rfl) rfl rfl (M.cellsAt (k := 2) 0 rfl rfl)) ?_; clear S a; intro a S
  refine st_y S rfl rfl rfl (y_eqlG (by kernel_rfl) S rfl rfl (fun w => equalCh 9998 _ _ _ _ w)) ?_; clear S a; intro a S
  refine st_go [1, 1] S rfl (by kernel_rfl) ?_; clear S a; intro a S
  refine st_tils (t := 59) S rfl ?_ ?_
  · clear S; intro h59 S
    refine st_go [0, 0, 0, 0, 0, 1, 1] S rfl (by kernel_rfl) ?_; clear S a; intro a S
    replace S := S.sub [(0, _), (1, _), (2, _), (3, _), (4, _)] rfl
    refine nxC ?_
    refine wp_ret ?_
    refine end_one S rfl (res_tmp rfl) ?_
    refine ⟨ret_bool ?_, M.below⟩; rw [← hr]; clear S M; simp [Rc.same, *]
  clear S; intro h59 S
  refine st_run [12, 2, 12, 1, 1, 1, 1] S M rfl (by kernel_rfl) ?_; clear S a; intro a S
  replace S := S.sub [(0, _), (1, _), (2, _), (3, _), (4, _)] rfl
  refine nxC ?_
  refine wp_ret ?_
  refine end_one S rfl (res_tmp rfl) ?_
  refine ⟨ret_bool ?_, M.below⟩; rw [← hr]; clear S M; simp [Rc.same, *]
end Go.Proofs.Ytniijiipkfhjgaa

