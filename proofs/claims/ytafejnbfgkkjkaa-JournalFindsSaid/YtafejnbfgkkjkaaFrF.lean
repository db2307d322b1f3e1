/-
  Package frame: Read.
-/
import Derived.Test.YtafejnbfgkkjkaaFrE
namespace Go.Proofs.Ytafejnbfgkkjkaa
open Go.RowKit Go.Sort

/-- the numbers that stand in sixty bytes -/
def frIn (x : List UInt8) : Fr := ⟨getN x 0 6, getN x 6 3, getN x 9 1 / 16, getN x 9 1 % 16, BitVec.ofInt 32 (getN x 11 4)⟩
def ldIn (x : List UInt8) : List UInt8 := (x.drop 15).take (getN x 10 1).toNat
open Classical in
noncomputable def readF (bs : List UInt8) : Option (Fr × List UInt8) :=
  if bs.length = 64 ∧ openOk bs ∧ getN (bs.take 60) 10 1 ≤ 45 ∧ (frIn (bs.take 60)).may (ldIn (bs.take 60)).length = true ∧ bytesF (frIn (bs.take 60)) (ldIn (bs.take 60)) = bs then some (frIn (bs.take 60), ldIn (bs.take 60)) else none
def zeroFr : Fr := ⟨0, 0, 0, 0, 0#32⟩

theorem getN_bd (x : List UInt8) (i k : Int) (hk : k ≤ 6) : 0 ≤ getN x i k ∧ getN x i k ≤ 281474976710655 := by
  unfold getN
  split
  · rename_i h
    have h1 := leN_lt ((x.drop i.toNat).take k.toNat)
    have h2 : 256 ^ ((x.drop i.toNat).take k.toNat).length ≤ 256 ^ 6 := Nat.pow_le_pow_right (by omega) (by rw [List.length_take]; omega)
    omega
  · omega
theorem getN_bd1 (x : List UInt8) (i : Int) : getN x i 1 ≤ 255 := by
  unfold getN
  split
  · have h1 := leN_lt ((x.drop i.toNat).take (1 : Int).toNat)
    have h2 : 256 ^ ((x.drop i.toNat).take (1 : Int).toNat).length ≤ 256 ^ 1 := Nat.pow_le_pow_right (by omega) (by rw [List.length_take]; exact Nat.min_le_left _ _)
    omega
  · omega

theorem five5_length (f : Fr) (l : Nat) : (five f l 5).length = 15 := by simp [five, fiveN, leB_length]
theorem bytesF_length {f : Fr} {ld : List UInt8} (h : f.may ld.length = true) : (bytesF f ld).length = 64 := by
  simp only [Fr.may, decide_eq_true_eq] at h
  simp only [bytesF, sealB, List.length_append, five5_length, padL_length (show ld.length ≤ 45 by omega), sum4, List.length_cons, List.length_nil]
def ReadPost (bs : List UInt8) (w : World) (e : Ending) (w' : World) : Prop :=
  ∃ f lv E, e = .returned (.tuple #[.agg (Fr.cells f lv).toArray, .int .i64 E]) ∧ Below w.heap.size w w' ∧ (∀ g ld, readF bs = some (g, ld) → f = g ∧ E = 0 ∧ Fresh w w' 5 1 lv ld.length (bcells ld)) ∧ (readF bs = none → f = zeroFr ∧ lv = .slice none 0 0 ∧ E = 40)
theorem readPost_no {bs : List UInt8} {w w' : World} {H : List Ent} (M : Mem w w' H) (h : readF bs = none) : ReadPost bs w (.returned (.tuple #[.agg (zeroFr.cells (.slice none 0 0)).toArray, .int .i64 40])) w' :=
  ⟨zeroFr, _, _, rfl, M.below, (fun g ld h' => by rw [h] at h'; cases h'), fun _ => ⟨rfl, rfl, rfl⟩⟩

set_option maxHeartbeats 2000000 in
theorem read_any (v : Value) (bs : List UInt8) (w : World) (hv : Bs 0 w.heap.size w v bs) (hb : bs.length ≤ 1000) : Calls Try.prog 41 #[v] w (ReadPost bs w) := by
  have M := Mem.start w
  refine calls_enter Try.func41 rfl 64 rfl rfl ?_; intro a S
  refine nxD ?_
  refine st_alloc S M rfl rfl #[.int .i64 0, .int .i64 0, .int .i64 0, .int .i64 0, .int .u32 0, .slice none 0 0] (by kernel_rfl) ?_; clear S M a; intro a w1 b1 S M hB
  refine st_go [1] S rfl (by kernel_rfl) ?_; clear S a; intro a S
  refine nxC ?_
  refine wp_seq ?_
  refine nxD ?_
  refine st_go [1] S rfl (by kernel_rfl) ?_; clear S a; intro a S
  refine st_y S rfl rfl rfl (y_lenR (E := 5) S rfl (M.arg hv) (by kernel_rfl)) ?_; clear S a; intro a S
  refine st_go [1] S rfl (by kernel_rfl) ?_; clear S a; intro a S
  refine nxC ?_
  refine st_if (t := 13) S rfl ?_ ?_
  · clear S; intro h13 S
    refine st_condT S rfl ?_
    refine nxD ?_
    refine st_y S rfl rfl rfl (y_build (ps := []) (pl := [(0, 1), (1, 1), (2, 1), (3, 1), (4, 1), (5, 1)]) (z := [.int .i64 0, .int .i64 0, .int .i64 0, .int .i64 0, .int .u32 0, .slice none 0 0]) (cs := [_, _, _, _, _, _]) S (by kernel_rfl) rfl (rfl)) ?_; clear S a; intro a S
    refine st_store (sz := 6) (us := [_, _, _, _, _, _]) S M 0 rfl (by kernel_rfl) rfl rfl rfl rfl rfl rfl (by first | decide | (simp; done) | (simp; omega)) ?_; clear M; intro w2 M
    simp only [putL, List.set_cons_zero, List.set_cons_succ, Nat.reduceAdd] at M
    refine st_go [1] S rfl (by kernel_rfl) ?_; clear S a; intro a S
    refine nxC ?_
    refine wp_ret ?_
    refine then_ret ?_
    refine end_two S rfl (res_agg (cs := [_, _, _, _, _, _]) (by kernel_rfl) rfl rfl (M.cellsAt (k := 6) 0 rfl rfl)) (res_tmp rfl) ?_
    exact readPost_no M (by unfold readF; rw [if_neg]; rintro ⟨h, _⟩; omega)
  clear S; intro h13 S
  refine st_condF S rfl ?_
  refine wp_skip ?_
  refine nxE ?_
  refine st_go [1] S rfl (by kernel_rfl) ?_; clear S a; intro a S
  refine st_call (xs := [(Operand.tmp 16)]) S (enters_of Try.func55 (by decide) rfl) rfl rfl rfl (open_any v bs _ (M.argW hv) (by omega)) ?_
  rintro _ w3 ⟨v4, rfl, hK, hO, hN⟩; refine ⟨_, rfl, ?_⟩; clear S a; intro a S
  obtain ⟨loI, hiI, -, M⟩ := M.pushFresh (fresh_if hK hO hN)
  refine st_go [1, 1, 1, 1, 1] S rfl (by kernel_rfl) ?_; clear S a; intro a S
  refine nxC ?_
  refine wp_seq ?_
  refine nxD ?_
  refine st_go [1, 1] S rfl (by kernel_rfl) ?_; clear S a; intro a S
  refine nxC ?_
  refine st_split (t := 21) S rfl ?_ ?_
  · clear S; intro h21 S
    refine st_condT S rfl ?_
    refine nxD ?_
    refine st_y S rfl rfl rfl (y_build (ps := []) (pl := [(0, 1), (1, 1), (2, 1), (3, 1), (4, 1), (5, 1)]) (z := [.int .i64 0, .int .i64 0, .int .i64 0, .int .i64 0, .int .u32 0, .slice none 0 0]) (cs := [_, _, _, _, _, _]) S (by kernel_rfl) rfl (rfl)) ?_; clear S a; intro a S
    refine st_store (sz := 6) (us := [_, _, _, _, _, _]) S M 1 rfl (by kernel_rfl) rfl rfl rfl rfl rfl rfl (by first | decide | (simp; done) | (simp; omega)) ?_; clear M; intro w4 M
    simp only [putL, List.set_cons_zero, List.set_cons_succ, Nat.reduceAdd] at M
    refine st_go [1] S rfl (by kernel_rfl) ?_; clear S a; intro a S
    refine nxC ?_
    refine wp_ret ?_
    refine then_ret ?_
    refine end_two S rfl (res_agg (cs := [_, _, _, _, _, _]) (by kernel_rfl) rfl rfl (M.cellsAt (k := 6) 1 rfl rfl)) (res_tmp rfl) ?_
    exact readPost_no M (by unfold readF; rw [if_neg]; rintro ⟨_, h, _⟩; rw [openB_true h] at h21; simp at h21)
  clear S; intro h21 S
  refine st_condF S rfl ?_
  refine wp_skip ?_
  refine nxE ?_
  have hok : openOk bs := by
    by_cases h : openOk bs
    · exact h
    · rw [openB_false h] at h21; simp at h21
  have h64 : bs.length = 64 := by omega
  rw [ifL_pos hok, show bs.length - 4 = 60 by omega] at M
  have hx60 : (bs.take 60).length = 60 := by rw [List.length_take]; omega
  generalize hX : bs.take 60 = X at *
  have hm60 : X.length ≤ maxLen := by rw [hx60]; unfold maxLen; omega
  have hb10 := getN_bd X 10 1 (by omega)
  have hb9 := getN_bd X 9 1 (by omega)
  have hb9' := getN_bd1 X 9
  have hl10 : (ldIn X).length = (getN X 10 1).toNat ∨ 45 < getN X 10 1 := by
    rcases Int.lt_or_le 45 (getN X 10 1) with h | h
    · exact .inr h
    · left; simp only [ldIn, List.length_take, List.length_drop]; omega
  refine st_y S rfl rfl rfl (y_move S rfl) ?_; clear S a; intro a S
  refine st_call (xs := [(Operand.tmp 23), (Operand.const (Value.int IntKind.i64 10)), (Operand.const (Value.int IntKind.i64 1))]) S (enters_of Try.func56 (by decide) rfl) rfl rfl rfl (number_any v4 X _ _ _ ((M.readRow 0 rfl hm60).wide (Nat.zero_le _) (M.fits _ (List.mem_of_getElem? (show _[0]? = _ from rfl))).2) (by omega)) ?_
  rintro _ w5 ⟨rfl, hK⟩; refine ⟨_, rfl, ?_⟩; clear S a; intro a S; replace M := M.grow hK
  refine st_go [1] S rfl (by kernel_rfl) ?_; clear S a; intro a S
  refine nxC ?_
  refine wp_seq ?_
  refine nxD ?_
  refine st_go [1, 1] S rfl (by kernel_rfl) ?_; clear S a; intro a S
  refine nxC ?_
  refine st_if (t := 26) S rfl ?_ ?_
  · clear S; intro h26 S
    refine st_condT S rfl ?_
    refine nxD ?_
    refine st_y S rfl rfl rfl (y_build (ps := []) (pl := [(0, 1), (1, 1), (2, 1), (3, 1), (4, 1), (5, 1)]) (z := [.int .i64 0, .int .i64 0, .int .i64 0, .int .i64 0, .int .u32 0, .slice none 0 0]) (cs := [_, _, _, _, _, _]) S (by kernel_rfl) rfl (rfl)) ?_; clear S a; intro a S
    refine st_store (sz := 6) (us := [_, _, _, _, _, _]) S M 1 rfl (by kernel_rfl) rfl rfl rfl rfl rfl rfl (by first | decide | (simp; done) | (simp; omega)) ?_; clear M; intro w6 M
    simp only [putL, List.set_cons_zero, List.set_cons_succ, Nat.reduceAdd] at M
    refine st_go [1] S rfl (by kernel_rfl) ?_; clear S a; intro a S
    refine nxC ?_
    refine wp_ret ?_
    refine then_ret ?_
    refine end_two S rfl (res_agg (cs := [_, _, _, _, _, _]) (by kernel_rfl) rfl rfl (M.cellsAt (k := 6) 1 rfl rfl)) (res_tmp rfl) ?_
    exact readPost_no M (by unfold readF; rw [if_neg]; rintro ⟨_, _, h, _⟩; rw [hX] at h; omega)
  clear S; intro h26 S
  refine st_condF S rfl ?_
  refine wp_skip ?_
  refine nxE ?_
  refine st_go [1] S rfl (by kernel_rfl) ?_; clear S a; intro a S
  refine st_call (xs := [(Operand.tmp 28), (Operand.const (Value.int IntKind.i64 9)), (Operand.const (Value.int IntKind.i64 1))]) S (enters_of Try.func56 (by decide) rfl) rfl rfl rfl (number_any v4 X _ _ _ ((M.readRow 0 rfl hm60).wide (Nat.zero_le _) (M.fits _ (List.mem_of_getElem? (show _[0]? = _ from rfl))).2) (by omega)) ?_
  rintro _ w7 ⟨rfl, hK⟩; refine ⟨_, rfl, ?_⟩; clear S a; intro a S; replace M := M.grow hK
  refine st_go [1] S rfl (by kernel_rfl) ?_; clear S a; intro a S
  refine nxC ?_
  refine wp_cut (fun a w' => ∃ (lvv : Value) (b8 lo hi : Nat), Sees 64 a [(0, v), (2, .pointer (some ⟨b1, 0, none⟩)), (8, .pointer (some ⟨b8, 0, none⟩))] ∧ Mem w w' [.blk b8 ((frIn X).cells lvv).toArray 59, rowE lo hi 5 1 lvv (ldIn X).length (bcells (ldIn X)), .blk b1 (zeroFr.cells (.slice none 0 0)).toArray 59]) ?_ ?_
  · skip
    refine wp_regionK [20] #[false, false, false, false, false, false, false, false, false, false, false, false, false, false, false, false, false, false, false, false, false] rfl M (by kernel_rfl) ?_; clear M; intro w8 M
    refine k_pure (listed' := #[true, false, false, false, false, false, false, false, false, false, false, false, false, false, false, false, false, false, false, false, false]) 0 S rfl rfl rfl rfl (by kernel_rfl) rfl (fun _ d _ _ _ h => by cases d <;> exact h) (fun w => y_move S rfl) ?_; clear S a; intro a S
    refine k_pure (listed' := #[true, false, true, false, false, false, false, false, false, false, false, false, false, false, false, false, false, false, false, false, false]) 2 S rfl rfl rfl rfl (by kernel_rfl) rfl (fun _ d _ _ _ h => by cases d <;> exact h) (fun w => y_move S rfl) ?_; clear S a; intro a S
    refine k_pure (listed' := #[true, false, true, false, true, false, false, false, false, false, false, false, false, false, false, false, false, false, false, false, false]) 4 S rfl rfl rfl rfl (by kernel_rfl) rfl (fun _ d _ _ _ h => by cases d <;> exact h) (fun w => y_move S rfl) ?_; clear S a; intro a S
    refine k_pure (listed' := #[true, false, true, false, true, true, false, false, false, false, false, false, false, false, false, false, false, false, false, false, false]) 5 S rfl rfl rfl rfl (by kernel_rfl) rfl (fun _ d _ _ _ h => by cases d <;> exact h) (fun w => y_quoN S rfl rfl (by omega)) ?_; clear S a; intro a S
    refine k_pure (listed' := #[true, false, true, false, true, true, true, false, false, false, false, false, false, false, false, false, false, false, false, false, false]) 6 S rfl rfl rfl rfl (by kernel_rfl) rfl (fun _ d _ _ _ h => by cases d <;> exact h) (fun w => y_move S rfl) ?_; clear S a; intro a S
    (first | refine k_pure (listed' := #[true, false, true, false, true, true, true, true, false, false, false, false, false, false, false, false, false, false, false, false, false]) 7 S rfl rfl rfl rfl (by kernel_rfl) rfl (fun _ d _ _ _ h => by cases d <;> exact h) (fun w => y_remN S rfl rfl (by omega)) ?_ | refine k_pure (listed' := #[true, false, true, false, true, true, true, true, false, false, false, false, false, false, false, false, false, false, false, false, false]) 7 S rfl rfl rfl rfl (by kernel_rfl) rfl (fun _ d _ _ _ h => by cases d <;> exact h) (fun w => y_remZ S rfl rfl (by omega)) ?_); clear S a; intro a S
    refine k_pure (listed' := #[true, false, true, false, true, true, true, true, true, false, false, false, false, false, false, false, false, false, false, false, false]) 8 S rfl rfl rfl rfl (by kernel_rfl) rfl (fun _ d _ _ _ h => by cases d <;> exact h) (fun w => y_move S rfl) ?_; clear S a; intro a S
    refine k_pure (listed' := #[true, false, true, false, true, true, true, true, true, false, false, true, false, false, false, false, false, false, false, false, false]) 11 S rfl rfl rfl rfl (by kernel_rfl) rfl (fun _ d _ _ _ h => by cases d <;> exact h) (fun w => y_move S rfl) ?_; clear S a; intro a S
    refine k_pure (listed' := #[true, false, true, false, true, true, true, true, true, false, false, true, true, false, false, false, false, false, false, false, false]) 12 S rfl rfl rfl rfl (by kernel_rfl) rfl (fun _ d _ _ _ h => by cases d <;> exact h) (fun w => y_move S rfl) ?_; clear S a; intro a S
    (first | refine k_pure (listed' := #[true, false, true, false, true, true, true, true, true, false, false, true, true, true, false, false, false, false, false, false, false]) 13 S rfl rfl rfl rfl (by kernel_rfl) rfl (fun _ d _ _ _ h => by cases d <;> exact h) (fun w => y_addN S rfl rfl (by omega)) ?_ | refine k_pure (listed' := #[true, false, true, false, true, true, true, true, true, false, false, true, true, true, false, false, false, false, false, false, false]) 13 S rfl rfl rfl rfl (by kernel_rfl) rfl (fun _ d _ _ _ h => by cases d <;> exact h) (fun w => y_int S rfl rfl rfl) ?_); clear S a; intro a S
    refine k_pure (listed' := #[true, false, true, false, true, true, true, true, true, false, false, true, true, true, true, false, false, false, false, false, false]) 14 S rfl rfl rfl rfl (by kernel_rfl) rfl (fun _ d _ _ _ h => by cases d <;> exact h) (fun w => y_move S rfl) ?_; clear S a; intro a S
    (first | refine k_pure (listed' := #[true, false, true, false, true, true, true, true, true, false, false, true, true, true, true, true, false, false, false, false, false]) 15 S rfl rfl rfl rfl (by kernel_rfl) rfl (fun _ d _ _ _ h => by cases d <;> exact h) (fun w => y_addN S rfl rfl (by omega)) ?_ | refine k_pure (listed' := #[true, false, true, false, true, true, true, true, true, false, false, true, true, true, true, true, false, false, false, false, false]) 15 S rfl rfl rfl rfl (by kernel_rfl) rfl (fun _ d _ _ _ h => by cases d <;> exact h) (fun w => y_int S rfl rfl rfl) ?_); clear S a; intro a S
    refine k_read (listed' := #[true, false, true, false, true, true, true, true, true, false, false, true, true, true, true, true, true, false, false, false, false]) 16 S rfl rfl rfl rfl (by kernel_rfl) rfl (fun _ d _ _ _ h => by cases d <;> exact h) (fun w hW => have M := M.grow hW; y_slice3R (e := 5) (sz := 1) S (by kernel_rfl) rfl ((M.readRow 0 rfl hm60)) rfl rfl rfl (by first | omega | (simp; done) | (simp; omega))) ?_; clear S a; intro a S
    refine k_two (l1 := #[true, true, true, false, true, true, true, true, true, false, false, true, true, true, true, true, true, false, false, false, false]) (l2 := #[true, false, true, false, true, true, true, true, true, false, false, true, true, true, true, true, true, false, false, true, false]) 1 19 rfl rfl (by kernel_rfl) rfl rfl ?_ ?_
    · skip
      refine st_call (xs := [(Operand.tmp 30), (Operand.const (Value.int IntKind.i64 0)), (Operand.const (Value.int IntKind.i64 6))]) S (enters_of Try.func56 (by decide) rfl) rfl rfl rfl (number_any v4 X _ _ _ ((M.readRow 0 rfl hm60).wide (Nat.zero_le _) (M.fits _ (List.mem_of_getElem? (show _[0]? = _ from rfl))).2) (by omega)) ?_
      rintro _ w9 ⟨rfl, hK⟩; refine ⟨_, rfl, ?_⟩; clear S a; intro a S; replace M := M.grow hK
      refine wpList_nil ?_; refine then_normal ?_; refine ⟨fun _ => hK, ?_⟩
      refine k_two (l1 := #[true, true, true, true, true, true, true, true, true, false, false, true, true, true, true, true, true, false, false, false, false]) (l2 := #[true, true, true, false, true, true, true, true, true, false, false, true, true, true, true, true, true, false, false, true, false]) 3 19 rfl rfl (by kernel_rfl) rfl rfl ?_ ?_
      · skip
        refine st_call (xs := [(Operand.tmp 32), (Operand.const (Value.int IntKind.i64 6)), (Operand.const (Value.int IntKind.i64 3))]) S (enters_of Try.func56 (by decide) rfl) rfl rfl rfl (number_any v4 X _ _ _ ((M.readRow 0 rfl hm60).wide (Nat.zero_le _) (M.fits _ (List.mem_of_getElem? (show _[0]? = _ from rfl))).2) (by omega)) ?_
        rintro _ w10 ⟨rfl, hK⟩; refine ⟨_, rfl, ?_⟩; clear S a; intro a S; replace M := M.grow hK
        refine wpList_nil ?_; refine then_normal ?_; refine ⟨fun _ => hK, ?_⟩
        refine k_two (l1 := #[true, true, true, true, true, true, true, true, true, true, false, true, true, true, true, true, true, false, false, false, false]) (l2 := #[true, true, true, true, true, true, true, true, true, false, false, true, true, true, true, true, true, false, false, true, false]) 9 19 rfl rfl (by kernel_rfl) rfl rfl ?_ ?_
        · skip
          refine st_call (xs := [(Operand.tmp 38), (Operand.const (Value.int IntKind.i64 11)), (Operand.const (Value.int IntKind.i64 4))]) S (enters_of Try.func56 (by decide) rfl) rfl rfl rfl (number_any v4 X _ _ _ ((M.readRow 0 rfl hm60).wide (Nat.zero_le _) (M.fits _ (List.mem_of_getElem? (show _[0]? = _ from rfl))).2) (by omega)) ?_
          rintro _ w11 ⟨rfl, hK⟩; refine ⟨_, rfl, ?_⟩; clear S a; intro a S; replace M := M.grow hK
          refine wpList_nil ?_; refine then_normal ?_; refine ⟨fun _ => hK, ?_⟩
          refine k_pure (listed' := #[true, true, true, true, true, true, true, true, true, true, true, true, true, true, true, true, true, false, false, false, false]) 10 S rfl rfl rfl rfl (by kernel_rfl) rfl (fun _ d _ _ _ h => by cases d <;> exact h) (fun w => y_to32 S rfl (by kernel_rfl) (by kernel_rfl)) ?_; clear S a; intro a S
          refine k_two (l1 := #[true, true, true, true, true, true, true, true, true, true, true, true, true, true, true, true, true, true, false, false, false]) (l2 := #[true, true, true, true, true, true, true, true, true, true, true, true, true, true, true, true, true, false, false, true, false]) 17 19 rfl rfl (by kernel_rfl) rfl rfl ?_ ?_
          · skip
            have hC := ((M.readRow 0 rfl hm60).wide (Nat.zero_le _) (M.fits _ (List.mem_of_getElem? (show _[0]? = _ from rfl))).2).cutB (i := (15 : Int).toNat) (j := ((15 : Int) + getN X 10 1).toNat) (mx := ((15 : Int) + getN X 10 1).toNat) (by omega) (by omega) (by omega) (by have := (M.readRow 0 rfl hm60).cap; omega)
            rw [show (X.drop (15 : Int).toNat).take (((15 : Int) + getN X 10 1).toNat - (15 : Int).toNat) = ldIn X from by unfold ldIn; congr 1; omega] at hC
            refine st_call (xs := [(Operand.tmp 46)]) S (enters_of Try.func32 (by decide) rfl) rfl rfl rfl (clone_any _ (ldIn X) _ hC (by omega)) ?_
            rintro _ w12 ⟨lv, rfl, hF2⟩; refine ⟨_, rfl, ?_⟩; clear S a; intro a S
            obtain ⟨adL, capL, hlvE, -, -⟩ := (hF2.rd (by unfold maxLen; omega)).form
            have hK := hF2.below
            obtain ⟨loL, hiL, -, M⟩ := M.pushFresh hF2
            subst hlvE
            refine wpList_nil ?_; refine then_normal ?_; refine ⟨fun _ => hK, ?_⟩
            refine k_pure (listed' := #[true, true, true, true, true, true, true, true, true, true, true, true, true, true, true, true, true, true, true, false, false]) 18 S rfl rfl rfl rfl (by kernel_rfl) rfl (fun _ d _ _ _ h => by cases d <;> exact h) (fun w => y_build (ps := [(0, (Operand.tmp 31)), (1, (Operand.tmp 33)), (2, (Operand.tmp 35)), (3, (Operand.tmp 37)), (4, (Operand.tmp 40)), (5, (Operand.tmp 47))]) (pl := [(0, 1), (1, 1), (2, 1), (3, 1), (4, 1), (5, 1)]) (z := [.int .i64 0, .int .i64 0, .int .i64 0, .int .i64 0, .int .u32 0, .slice none 0 0]) (cs := [_, _, _, _, _, _]) S (by kernel_rfl) rfl (rfl)) ?_; clear S a; intro a S
            refine k_one (listed' := #[true, true, true, true, true, true, true, true, true, true, true, true, true, true, true, true, true, true, true, true, false]) 19 rfl (by kernel_rfl) rfl ?_
            refine st_alloc S M rfl rfl #[.int .i64 0, .int .i64 0, .int .i64 0, .int .i64 0, .int .u32 0, .slice none 0 0] (by kernel_rfl) ?_; clear S M a; intro a w13 bF S M hB
            refine wpList_nil ?_; refine then_normal ?_; refine ⟨fun _ => hB, ?_⟩
            refine k_one (listed' := #[true, true, true, true, true, true, true, true, true, true, true, true, true, true, true, true, true, true, true, true, true]) 20 rfl (by kernel_rfl) rfl ?_
            refine st_store (sz := 6) (us := [_, _, _, _, _, _]) S M 0 rfl (by kernel_rfl) rfl rfl rfl rfl rfl rfl (by first | decide | (simp; done) | (simp; omega)) ?_; clear M; intro w14 M
            simp only [putL, List.set_cons_zero, List.set_cons_succ, Nat.reduceAdd] at M
            refine wpList_nil ?_; refine then_normal ?_; refine ⟨fun h => absurd h (by decide), ?_⟩
            refine k_end (by kernel_rfl) ?_
            replace S := S.sub [(0, _), (2, _), (3, _), (13, _), (4, _), (5, _), (21, _), (6, _), (26, _), (7, _), (8, _)] rfl
            refine then_normal ?_
            replace M := M.front 3 rfl
            simp only [List.eraseIdx_cons_succ, List.eraseIdx_cons_zero] at M
            replace M := M.front 2 rfl
            simp only [List.eraseIdx_cons_succ, List.eraseIdx_cons_zero] at M
            replace M := M.front 2 rfl
            simp only [List.eraseIdx_cons_succ, List.eraseIdx_cons_zero] at M
            replace M := M.sub (H' := _ :: _ :: [_]) (List.Sublist.cons_cons _ (List.Sublist.cons_cons _ (List.Sublist.cons_cons _ (List.nil_sublist _))))
            exact ⟨_, _, _, _, S.sub _ rfl, M⟩
          · skip
            refine st_alloc S M rfl rfl #[.int .i64 0, .int .i64 0, .int .i64 0, .int .i64 0, .int .u32 0, .slice none 0 0] (by kernel_rfl) ?_; clear S M a; intro a w15 bF S M hB
            refine wpList_nil ?_; refine then_normal ?_; refine ⟨fun _ => hB, ?_⟩
            refine k_one (listed' := #[true, true, true, true, true, true, true, true, true, true, true, true, true, true, true, true, true, true, false, true, false]) 17 rfl (by kernel_rfl) rfl ?_
            have hC := ((M.readRow 1 rfl hm60).wide (Nat.zero_le _) (M.fits _ (List.mem_of_getElem? (show _[1]? = _ from rfl))).2).cutB (i := (15 : Int).toNat) (j := ((15 : Int) + getN X 10 1).toNat) (mx := ((15 : Int) + getN X 10 1).toNat) (by omega) (by omega) (by omega) (by have := (M.readRow 1 rfl hm60).cap; omega)
            rw [show (X.drop (15 : Int).toNat).take (((15 : Int) + getN X 10 1).toNat - (15 : Int).toNat) = ldIn X from by unfold ldIn; congr 1; omega] at hC
            refine st_call (xs := [(Operand.tmp 46)]) S (enters_of Try.func32 (by decide) rfl) rfl rfl rfl (clone_any _ (ldIn X) _ hC (by omega)) ?_
            rintro _ w16 ⟨lv, rfl, hF2⟩; refine ⟨_, rfl, ?_⟩; clear S a; intro a S
            obtain ⟨adL, capL, hlvE, -, -⟩ := (hF2.rd (by unfold maxLen; omega)).form
            have hK := hF2.below
            obtain ⟨loL, hiL, -, M⟩ := M.pushFresh hF2
            subst hlvE
            refine wpList_nil ?_; refine then_normal ?_; refine ⟨fun _ => hK, ?_⟩
            refine k_pure (listed' := #[true, true, true, true, true, true, true, true, true, true, true, true, true, true, true, true, true, true, true, true, false]) 18 S rfl rfl rfl rfl (by kernel_rfl) rfl (fun _ d _ _ _ h => by cases d <;> exact h) (fun w => y_build (ps := [(0, (Operand.tmp 31)), (1, (Operand.tmp 33)), (2, (Operand.tmp 35)), (3, (Operand.tmp 37)), (4, (Operand.tmp 40)), (5, (Operand.tmp 47))]) (pl := [(0, 1), (1, 1), (2, 1), (3, 1), (4, 1), (5, 1)]) (z := [.int .i64 0, .int .i64 0, .int .i64 0, .int .i64 0, .int .u32 0, .slice none 0 0]) (cs := [_, _, _, _, _, _]) S (by kernel_rfl) rfl (rfl)) ?_; clear S a; intro a S
            refine k_one (listed' := #[true, true, true, true, true, true, true, true, true, true, true, true, true, true, true, true, true, true, true, true, true]) 20 rfl (by kernel_rfl) rfl ?_
            refine st_store (sz := 6) (us := [_, _, _, _, _, _]) S M 1 rfl (by kernel_rfl) rfl rfl rfl rfl rfl rfl (by first | decide | (simp; done) | (simp; omega)) ?_; clear M; intro w17 M
            simp only [putL, List.set_cons_zero, List.set_cons_succ, Nat.reduceAdd] at M
            refine wpList_nil ?_; refine then_normal ?_; refine ⟨fun h => absurd h (by decide), ?_⟩
            refine k_end (by kernel_rfl) ?_
            replace S := S.sub [(0, _), (2, _), (3, _), (13, _), (4, _), (5, _), (21, _), (6, _), (26, _), (7, _), (8, _)] rfl
            refine then_normal ?_
            replace M := M.front 3 rfl
            simp only [List.eraseIdx_cons_succ, List.eraseIdx_cons_zero] at M
            replace M := M.front 1 rfl
            simp only [List.eraseIdx_cons_succ, List.eraseIdx_cons_zero] at M
            replace M := M.front 2 rfl
            simp only [List.eraseIdx_cons_succ, List.eraseIdx_cons_zero] at M
            replace M := M.sub (H' := _ :: _ :: [_]) (List.Sublist.cons_cons _ (List.Sublist.cons_cons _ (List.Sublist.cons_cons _ (List.nil_sublist _))))
            exact ⟨_, _, _, _, S.sub _ rfl, M⟩
        · skip
          refine st_alloc S M rfl rfl #[.int .i64 0, .int .i64 0, .int .i64 0, .int .i64 0, .int .u32 0, .slice none 0 0] (by kernel_rfl) ?_; clear S M a; intro a w18 bF S M hB
          refine wpList_nil ?_; refine then_normal ?_; refine ⟨fun _ => hB, ?_⟩
          refine k_one (listed' := #[true, true, true, true, true, true, true, true, true, true, false, true, true, true, true, true, true, false, false, true, false]) 9 rfl (by kernel_rfl) rfl ?_
          refine st_call (xs := [(Operand.tmp 38), (Operand.const (Value.int IntKind.i64 11)), (Operand.const (Value.int IntKind.i64 4))]) S (enters_of Try.func56 (by decide) rfl) rfl rfl rfl (number_any v4 X _ _ _ ((M.readRow 1 rfl hm60).wide (Nat.zero_le _) (M.fits _ (List.mem_of_getElem? (show _[1]? = _ from rfl))).2) (by omega)) ?_
          rintro _ w19 ⟨rfl, hK⟩; refine ⟨_, rfl, ?_⟩; clear S a; intro a S; replace M := M.grow hK
          refine wpList_nil ?_; refine then_normal ?_; refine ⟨fun _ => hK, ?_⟩
          refine k_pure (listed' := #[true, true, true, true, true, true, true, true, true, true, true, true, true, true, true, true, true, false, false, true, false]) 10 S rfl rfl rfl rfl (by kernel_rfl) rfl (fun _ d _ _ _ h => by cases d <;> exact h) (fun w => y_to32 S rfl (by kernel_rfl) (by kernel_rfl)) ?_; clear S a; intro a S
          refine k_one (listed' := #[true, true, true, true, true, true, true, true, true, true, true, true, true, true, true, true, true, true, false, true, false]) 17 rfl (by kernel_rfl) rfl ?_
          have hC := ((M.readRow 1 rfl hm60).wide (Nat.zero_le _) (M.fits _ (List.mem_of_getElem? (show _[1]? = _ from rfl))).2).cutB (i := (15 : Int).toNat) (j := ((15 : Int) + getN X 10 1).toNat) (mx := ((15 : Int) + getN X 10 1).toNat) (by omega) (by omega) (by omega) (by have := (M.readRow 1 rfl hm60).cap; omega)
          rw [show (X.drop (15 : Int).toNat).take (((15 : Int) + getN X 10 1).toNat - (15 : Int).toNat) = ldIn X from by unfold ldIn; congr 1; omega] at hC
          refine st_call (xs := [(Operand.tmp 46)]) S (enters_of Try.func32 (by decide) rfl) rfl rfl rfl (clone_any _ (ldIn X) _ hC (by omega)) ?_
          rintro _ w20 ⟨lv, rfl, hF2⟩; refine ⟨_, rfl, ?_⟩; clear S a; intro a S
          obtain ⟨adL, capL, hlvE, -, -⟩ := (hF2.rd (by unfold maxLen; omega)).form
          have hK := hF2.below
          obtain ⟨loL, hiL, -, M⟩ := M.pushFresh hF2
          subst hlvE
          refine wpList_nil ?_; refine then_normal ?_; refine ⟨fun _ => hK, ?_⟩
          refine k_pure (listed' := #[true, true, true, true, true, true, true, true, true, true, true, true, true, true, true, true, true, true, true, true, false]) 18 S rfl rfl rfl rfl (by kernel_rfl) rfl (fun _ d _ _ _ h => by cases d <;> exact h) (fun w => y_build (ps := [(0, (Operand.tmp 31)), (1, (Operand.tmp 33)), (2, (Operand.tmp 35)), (3, (Operand.tmp 37)), (4, (Operand.tmp 40)), (5, (Operand.tmp 47))]) (pl := [(0, 1), (1, 1), (2, 1), (3, 1), (4, 1), (5, 1)]) (z := [.int .i64 0, .int .i64 0, .int .i64 0, .int .i64 0, .int .u32 0, .slice none 0 0]) (cs := [_, _, _, _, _, _]) S (by kernel_rfl) rfl (rfl)) ?_; clear S a; intro a S
          refine k_one (listed' := #[true, true, true, true, true, true, true, true, true, true, true, true, true, true, true, true, true, true, true, true, true]) 20 rfl (by kernel_rfl) rfl ?_
          refine st_store (sz := 6) (us := [_, _, _, _, _, _]) S M 1 rfl (by kernel_rfl) rfl rfl rfl rfl rfl rfl (by first | decide | (simp; done) | (simp; omega)) ?_; clear M; intro w21 M
          simp only [putL, List.set_cons_zero, List.set_cons_succ, Nat.reduceAdd] at M
          refine wpList_nil ?_; refine then_normal ?_; refine ⟨fun h => absurd h (by decide), ?_⟩
          refine k_end (by kernel_rfl) ?_
          replace S := S.sub [(0, _), (2, _), (3, _), (13, _), (4, _), (5, _), (21, _), (6, _), (26, _), (7, _), (8, _)] rfl
          refine then_normal ?_
          replace M := M.front 3 rfl
          simp only [List.eraseIdx_cons_succ, List.eraseIdx_cons_zero] at M
          replace M := M.front 1 rfl
          simp only [List.eraseIdx_cons_succ, List.eraseIdx_cons_zero] at M
          replace M := M.front 2 rfl
          simp only [List.eraseIdx_cons_succ, List.eraseIdx_cons_zero] at M
          replace M := M.sub (H' := _ :: _ :: [_]) (List.Sublist.cons_cons _ (List.Sublist.cons_cons _ (List.Sublist.cons_cons _ (List.nil_sublist _))))
          exact ⟨_, _, _, _, S.sub _ rfl, M⟩
      · skip
        refine st_alloc S M rfl rfl #[.int .i64 0, .int .i64 0, .int .i64 0, .int .i64 0, .int .u32 0, .slice none 0 0] (by kernel_rfl) ?_; clear S M a; intro a w22 bF S M hB
        refine wpList_nil ?_; refine then_normal ?_; refine ⟨fun _ => hB, ?_⟩
        refine k_one (listed' := #[true, true, true, true, true, true, true, true, true, false, false, true, true, true, true, true, true, false, false, true, false]) 3 rfl (by kernel_rfl) rfl ?_
        refine st_call (xs := [(Operand.tmp 32), (Operand.const (Value.int IntKind.i64 6)), (Operand.const (Value.int IntKind.i64 3))]) S (enters_of Try.func56 (by decide) rfl) rfl rfl rfl (number_any v4 X _ _ _ ((M.readRow 1 rfl hm60).wide (Nat.zero_le _) (M.fits _ (List.mem_of_getElem? (show _[1]? = _ from rfl))).2) (by omega)) ?_
        rintro _ w23 ⟨rfl, hK⟩; refine ⟨_, rfl, ?_⟩; clear S a; intro a S; replace M := M.grow hK
        refine wpList_nil ?_; refine then_normal ?_; refine ⟨fun _ => hK, ?_⟩
        refine k_one (listed' := #[true, true, true, true, true, true, true, true, true, true, false, true, true, true, true, true, true, false, false, true, false]) 9 rfl (by kernel_rfl) rfl ?_
        refine st_call (xs := [(Operand.tmp 38), (Operand.const (Value.int IntKind.i64 11)), (Operand.const (Value.int IntKind.i64 4))]) S (enters_of Try.func56 (by decide) rfl) rfl rfl rfl (number_any v4 X _ _ _ ((M.readRow 1 rfl hm60).wide (Nat.zero_le _) (M.fits _ (List.mem_of_getElem? (show _[1]? = _ from rfl))).2) (by omega)) ?_
        rintro _ w24 ⟨rfl, hK⟩; refine ⟨_, rfl, ?_⟩; clear S a; intro a S; replace M := M.grow hK
        refine wpList_nil ?_; refine then_normal ?_; refine ⟨fun _ => hK, ?_⟩
        refine k_pure (listed' := #[true, true, true, true, true, true, true, true, true, true, true, true, true, true, true, true, true, false, false, true, false]) 10 S rfl rfl rfl rfl (by kernel_rfl) rfl (fun _ d _ _ _ h => by cases d <;> exact h) (fun w => y_to32 S rfl (by kernel_rfl) (by kernel_rfl)) ?_; clear S a; intro a S
        refine k_one (listed' := #[true, true, true, true, true, true, true, true, true, true, true, true, true, true, true, true, true, true, false, true, false]) 17 rfl (by kernel_rfl) rfl ?_
        have hC := ((M.readRow 1 rfl hm60).wide (Nat.zero_le _) (M.fits _ (List.mem_of_getElem? (show _[1]? = _ from rfl))).2).cutB (i := (15 : Int).toNat) (j := ((15 : Int) + getN X 10 1).toNat) (mx := ((15 : Int) + getN X 10 1).toNat) (by omega) (by omega) (by omega) (by have := (M.readRow 1 rfl hm60).cap; omega)
        rw [show (X.drop (15 : Int).toNat).take (((15 : Int) + getN X 10 1).toNat - (15 : Int).toNat) = ldIn X from by unfold ldIn; congr 1; omega] at hC
        refine st_call (xs := [(Operand.tmp 46)]) S (enters_of Try.func32 (by decide) rfl) rfl rfl rfl (clone_any _ (ldIn X) _ hC (by omega)) ?_
        rintro _ w25 ⟨lv, rfl, hF2⟩; refine ⟨_, rfl, ?_⟩; clear S a; intro a S
        obtain ⟨adL, capL, hlvE, -, -⟩ := (hF2.rd (by unfold maxLen; omega)).form
        have hK := hF2.below
        obtain ⟨loL, hiL, -, M⟩ := M.pushFresh hF2
        subst hlvE
        refine wpList_nil ?_; refine then_normal ?_; refine ⟨fun _ => hK, ?_⟩
        refine k_pure (listed' := #[true, true, true, true, true, true, true, true, true, true, true, true, true, true, true, true, true, true, true, true, false]) 18 S rfl rfl rfl rfl (by kernel_rfl) rfl (fun _ d _ _ _ h => by cases d <;> exact h) (fun w => y_build (ps := [(0, (Operand.tmp 31)), (1, (Operand.tmp 33)), (2, (Operand.tmp 35)), (3, (Operand.tmp 37)), (4, (Operand.tmp 40)), (5, (Operand.tmp 47))]) (pl := [(0, 1), (1, 1), (2, 1), (3, 1), (4, 1), (5, 1)]) (z := [.int .i64 0, .int .i64 0, .int .i64 0, .int .i64 0, .int .u32 0, .slice none 0 0]) (cs := [_, _, _, _, _, _]) S (by kernel_rfl) rfl (rfl)) ?_; clear S a; intro a S
        refine k_one (listed' := #[true, true, true, true, true, true, true, true, true, true, true, true, true, true, true, true, true, true, true, true, true]) 20 rfl (by kernel_rfl) rfl ?_
        refine st_store (sz := 6) (us := [_, _, _, _, _, _]) S M 1 rfl (by kernel_rfl) rfl rfl rfl rfl rfl rfl (by first | decide | (simp; done) | (simp; omega)) ?_; clear M; intro w26 M
        simp only [putL, List.set_cons_zero, List.set_cons_succ, Nat.reduceAdd] at M
        refine wpList_nil ?_; refine then_normal ?_; refine ⟨fun h => absurd h (by decide), ?_⟩
        refine k_end (by kernel_rfl) ?_
        replace S := S.sub [(0, _), (2, _), (3, _), (13, _), (4, _), (5, _), (21, _), (6, _), (26, _), (7, _), (8, _)] rfl
        refine then_normal ?_
        replace M := M.front 3 rfl
        simp only [List.eraseIdx_cons_succ, List.eraseIdx_cons_zero] at M
        replace M := M.front 1 rfl
        simp only [List.eraseIdx_cons_succ, List.eraseIdx_cons_zero] at M
        replace M := M.front 2 rfl
        simp only [List.eraseIdx_cons_succ, List.eraseIdx_cons_zero] at M
        replace M := M.sub (H' := _ :: _ :: [_]) (List.Sublist.cons_cons _ (List.Sublist.cons_cons _ (List.Sublist.cons_cons _ (List.nil_sublist _))))
        exact ⟨_, _, _, _, S.sub _ rfl, M⟩
    · skip
      refine st_alloc S M rfl rfl #[.int .i64 0, .int .i64 0, .int .i64 0, .int .i64 0, .int .u32 0, .slice none 0 0] (by kernel_rfl) ?_; clear S M a; intro a w27 bF S M hB
      refine wpList_nil ?_; refine then_normal ?_; refine ⟨fun _ => hB, ?_⟩
      refine k_one (listed' := #[true, true, true, false, true, true, true, true, true, false, false, true, true, true, true, true, true, false, false, true, false]) 1 rfl (by kernel_rfl) rfl ?_
      refine st_call (xs := [(Operand.tmp 30), (Operand.const (Value.int IntKind.i64 0)), (Operand.const (Value.int IntKind.i64 6))]) S (enters_of Try.func56 (by decide) rfl) rfl rfl rfl (number_any v4 X _ _ _ ((M.readRow 1 rfl hm60).wide (Nat.zero_le _) (M.fits _ (List.mem_of_getElem? (show _[1]? = _ from rfl))).2) (by omega)) ?_
      rintro _ w28 ⟨rfl, hK⟩; refine ⟨_, rfl, ?_⟩; clear S a; intro a S; replace M := M.grow hK
      refine wpList_nil ?_; refine then_normal ?_; refine ⟨fun _ => hK, ?_⟩
      refine k_one (listed' := #[true, true, true, true, true, true, true, true, true, false, false, true, true, true, true, true, true, false, false, true, false]) 3 rfl (by kernel_rfl) rfl ?_
      refine st_call (xs := [(Operand.tmp 32), (Operand.const (Value.int IntKind.i64 6)), (Operand.const (Value.int IntKind.i64 3))]) S (enters_of Try.func56 (by decide) rfl) rfl rfl rfl (number_any v4 X _ _ _ ((M.readRow 1 rfl hm60).wide (Nat.zero_le _) (M.fits _ (List.mem_of_getElem? (show _[1]? = _ from rfl))).2) (by omega)) ?_
      rintro _ w29 ⟨rfl, hK⟩; refine ⟨_, rfl, ?_⟩; clear S a; intro a S; replace M := M.grow hK
      refine wpList_nil ?_; refine then_normal ?_; refine ⟨fun _ => hK, ?_⟩
      refine k_one (listed' := #[true, true, true, true, true, true, true, true, true, true, false, true, true, true, true, true, true, false, false, true, false]) 9 rfl (by kernel_rfl) rfl ?_
      refine st_call (xs := [(Operand.tmp 38), (Operand.const (Value.int IntKind.i64 11)), (Operand.const (Value.int IntKind.i64 4))]) S (enters_of Try.func56 (by decide) rfl) rfl rfl rfl (number_any v4 X _ _ _ ((M.readRow 1 rfl hm60).wide (Nat.zero_le _) (M.fits _ (List.mem_of_getElem? (show _[1]? = _ from rfl))).2) (by omega)) ?_
      rintro _ w30 ⟨rfl, hK⟩; refine ⟨_, rfl, ?_⟩; clear S a; intro a S; replace M := M.grow hK
      refine wpList_nil ?_; refine then_normal ?_; refine ⟨fun _ => hK, ?_⟩
      refine k_pure (listed' := #[true, true, true, true, true, true, true, true, true, true, true, true, true, true, true, true, true, false, false, true, false]) 10 S rfl rfl rfl rfl (by kernel_rfl) rfl (fun _ d _ _ _ h => by cases d <;> exact h) (fun w => y_to32 S rfl (by kernel_rfl) (by kernel_rfl)) ?_; clear S a; intro a S
      refine k_one (listed' := #[true, true, true, true, true, true, true, true, true, true, true, true, true, true, true, true, true, true, false, true, false]) 17 rfl (by kernel_rfl) rfl ?_
      have hC := ((M.readRow 1 rfl hm60).wide (Nat.zero_le _) (M.fits _ (List.mem_of_getElem? (show _[1]? = _ from rfl))).2).cutB (i := (15 : Int).toNat) (j := ((15 : Int) + getN X 10 1).toNat) (mx := ((15 : Int) + getN X 10 1).toNat) (by omega) (by omega) (by omega) (by have := (M.readRow 1 rfl hm60).cap; omega)
      rw [show (X.drop (15 : Int).toNat).take (((15 : Int) + getN X 10 1).toNat - (15 : Int).toNat) = ldIn X from by unfold ldIn; congr 1; omega] at hC
      refine st_call (xs := [(Operand.tmp 46)]) S (enters_of Try.func32 (by decide) rfl) rfl rfl rfl (clone_any _ (ldIn X) _ hC (by omega)) ?_
      rintro _ w31 ⟨lv, rfl, hF2⟩; refine ⟨_, rfl, ?_⟩; clear S a; intro a S
      obtain ⟨adL, capL, hlvE, -, -⟩ := (hF2.rd (by unfold maxLen; omega)).form
      have hK := hF2.below
      obtain ⟨loL, hiL, -, M⟩ := M.pushFresh hF2
      subst hlvE
      refine wpList_nil ?_; refine then_normal ?_; refine ⟨fun _ => hK, ?_⟩
      refine k_pure (listed' := #[true, true, true, true, true, true, true, true, true, true, true, true, true, true, true, true, true, true, true, true, false]) 18 S rfl rfl rfl rfl (by kernel_rfl) rfl (fun _ d _ _ _ h => by cases d <;> exact h) (fun w => y_build (ps := [(0, (Operand.tmp 31)), (1, (Operand.tmp 33)), (2, (Operand.tmp 35)), (3, (Operand.tmp 37)), (4, (Operand.tmp 40)), (5, (Operand.tmp 47))]) (pl := [(0, 1), (1, 1), (2, 1), (3, 1), (4, 1), (5, 1)]) (z := [.int .i64 0, .int .i64 0, .int .i64 0, .int .i64 0, .int .u32 0, .slice none 0 0]) (cs := [_, _, _, _, _, _]) S (by kernel_rfl) rfl (rfl)) ?_; clear S a; intro a S
      refine k_one (listed' := #[true, true, true, true, true, true, true, true, true, true, true, true, true, true, true, true, true, true, true, true, true]) 20 rfl (by kernel_rfl) rfl ?_
      refine st_store (sz := 6) (us := [_, _, _, _, _, _]) S M 1 rfl (by kernel_rfl) rfl rfl rfl rfl rfl rfl (by first | decide | (simp; done) | (simp; omega)) ?_; clear M; intro w32 M
      simp only [putL, List.set_cons_zero, List.set_cons_succ, Nat.reduceAdd] at M
      refine wpList_nil ?_; refine then_normal ?_; refine ⟨fun h => absurd h (by decide), ?_⟩
      refine k_end (by kernel_rfl) ?_
      replace S := S.sub [(0, _), (2, _), (3, _), (13, _), (4, _), (5, _), (21, _), (6, _), (26, _), (7, _), (8, _)] rfl
      refine then_normal ?_
      replace M := M.front 3 rfl
      simp only [List.eraseIdx_cons_succ, List.eraseIdx_cons_zero] at M
      replace M := M.front 1 rfl
      simp only [List.eraseIdx_cons_succ, List.eraseIdx_cons_zero] at M
      replace M := M.front 2 rfl
      simp only [List.eraseIdx_cons_succ, List.eraseIdx_cons_zero] at M
      replace M := M.sub (H' := _ :: _ :: [_]) (List.Sublist.cons_cons _ (List.Sublist.cons_cons _ (List.Sublist.cons_cons _ (List.nil_sublist _))))
      exact ⟨_, _, _, _, S.sub _ rfl, M⟩
  clear S a M; intro a wc
  rintro ⟨lvv, b8, lo, hi, S, M⟩
  obtain ⟨adV, cpV, hE, -, -⟩ := (M.readRow 1 rfl (by unfold maxLen; omega)).form
  subst hE
  refine nxD ?_
  refine st_y S rfl rfl rfl (y_loadAgg (cs := [_, _, _, _, _, _]) S (by kernel_rfl) rfl rfl (M.cellsAt (k := 6) 0 rfl rfl)) ?_; clear S a; intro a S
  have hlv := (M.readRow 1 rfl (by unfold maxLen; omega)).wide (Nat.zero_le _) (M.fits _ (List.mem_of_getElem? (show _[1]? = _ from rfl))).2
  refine st_call (xs := [(Operand.tmp 50)]) S (enters_of Try.func36 (by decide) rfl) rfl rfl rfl (bytes_any (frIn X) _ (ldIn X) _ hlv) ?_
  rintro _ w33 ⟨v9, rfl, hK, hF3, hN3⟩; refine ⟨_, rfl, ?_⟩; clear S a; intro a S
  obtain ⟨lo9, hi9, -, M⟩ := M.pushFresh (fresh_if (p := (frIn X).may (ldIn X).length = true) hK hF3 (fun h => hN3 (by simpa using h)))
  refine st_go [1, 1, 1, 1, 1] S rfl (by kernel_rfl) ?_; clear S a; intro a S
  refine nxC ?_
  refine wp_seq ?_
  refine nxD ?_
  refine st_go [1, 1, 1] S rfl (by kernel_rfl) ?_; clear S a; intro a S
  refine st_if (t := 56) S rfl ?_ ?_
  · clear S; intro h56 S
    refine st_go [0, 0] S rfl (by kernel_rfl) ?_; clear S a; intro a S
    refine st_no S rfl rfl rfl ?_; clear S a; intro a S
    refine st_go [0, 1] S rfl (by kernel_rfl) ?_; clear S a; intro a S
    refine nxC ?_
    refine st_condT S rfl ?_
    refine nxD ?_
    have hno : readF bs = none := by
      unfold readF; rw [if_neg]; rw [hX]; rintro ⟨_, _, _, h4, h5⟩
      first
        | (rw [h4] at h56; simp at h56; done)
        | (rw [h5] at h61; simp at h61)
    refine st_y S rfl rfl rfl (y_build (ps := []) (pl := [(0, 1), (1, 1), (2, 1), (3, 1), (4, 1), (5, 1)]) (z := [.int .i64 0, .int .i64 0, .int .i64 0, .int .i64 0, .int .u32 0, .slice none 0 0]) (cs := [_, _, _, _, _, _]) S (by kernel_rfl) rfl (rfl)) ?_; clear S a; intro a S
    refine st_store (sz := 6) (us := [_, _, _, _, _, _]) S M 3 rfl (by kernel_rfl) rfl rfl rfl rfl rfl rfl (by first | decide | (simp; done) | (simp; omega)) ?_; clear M; intro w34 M
    simp only [putL, List.set_cons_zero, List.set_cons_succ, Nat.reduceAdd] at M
    refine st_go [1] S rfl (by kernel_rfl) ?_; clear S a; intro a S
    refine nxC ?_
    refine wp_ret ?_
    refine then_ret ?_
    refine end_two S rfl (res_agg (cs := [_, _, _, _, _, _]) (by kernel_rfl) rfl rfl (M.cellsAt (k := 6) 3 rfl rfl)) (res_tmp rfl) ?_
    exact readPost_no M hno
  clear S; intro h56 S
  refine st_go [1, 1] S rfl (by kernel_rfl) ?_; clear S a; intro a S
  have hmay : (frIn X).may (ldIn X).length = true := by
    cases h : (frIn X).may (ldIn X).length
    · rw [h] at h56; simp at h56
    · rfl
  rw [ifL_pos hmay] at M
  refine st_call (xs := [(Operand.tmp 57), (Operand.tmp 58)]) S (enters_of Try.func57 (by decide) rfl) rfl rfl rfl (equal_any v9 v (bytesF (frIn X) (ldIn X)) bs _ ((M.readRow 0 rfl (by rw [bytesF_length hmay]; unfold maxLen; omega)).wide (Nat.zero_le _) (M.fits _ (List.mem_of_getElem? (show _[0]? = _ from rfl))).2) (M.argW hv)) ?_
  rintro _ w35 ⟨rfl, hK⟩; refine ⟨_, rfl, ?_⟩; clear S a; intro a S; replace M := M.grow hK
  refine st_go [1, 1] S rfl (by kernel_rfl) ?_; clear S a; intro a S
  refine nxC ?_
  refine st_split (t := 61) S rfl ?_ ?_
  · clear S; intro h61 S
    refine st_condT S rfl ?_
    refine nxD ?_
    have hno : readF bs = none := by
      unfold readF; rw [if_neg]; rw [hX]; rintro ⟨_, _, _, h4, h5⟩
      first
        | (rw [h4] at h56; simp at h56; done)
        | (rw [h5] at h61; simp at h61)
    refine st_y S rfl rfl rfl (y_build (ps := []) (pl := [(0, 1), (1, 1), (2, 1), (3, 1), (4, 1), (5, 1)]) (z := [.int .i64 0, .int .i64 0, .int .i64 0, .int .i64 0, .int .u32 0, .slice none 0 0]) (cs := [_, _, _, _, _, _]) S (by kernel_rfl) rfl (rfl)) ?_; clear S a; intro a S
    refine st_store (sz := 6) (us := [_, _, _, _, _, _]) S M 3 rfl (by kernel_rfl) rfl rfl rfl rfl rfl rfl (by first | decide | (simp; done) | (simp; omega)) ?_; clear M; intro w36 M
    simp only [putL, List.set_cons_zero, List.set_cons_succ, Nat.reduceAdd] at M
    refine st_go [1] S rfl (by kernel_rfl) ?_; clear S a; intro a S
    refine nxC ?_
    refine wp_ret ?_
    refine then_ret ?_
    refine end_two S rfl (res_agg (cs := [_, _, _, _, _, _]) (by kernel_rfl) rfl rfl (M.cellsAt (k := 6) 3 rfl rfl)) (res_tmp rfl) ?_
    exact readPost_no M hno
  clear S; intro h61 S
  refine st_condF S rfl ?_
  refine wp_skip ?_
  refine nxE ?_
  have hyes : readF bs = some (frIn X, ldIn X) := by
    unfold readF; rw [hX, if_pos]
    exact ⟨h64, hok, h26, hmay, by simpa using h61⟩
  replace M := M.drop 0
  simp only [List.eraseIdx_cons_succ, List.eraseIdx_cons_zero] at M
  refine st_y S rfl rfl rfl (y_loadAgg (cs := [_, _, _, _, _, _]) S (by kernel_rfl) rfl rfl (M.cellsAt (k := 6) 0 rfl rfl)) ?_; clear S a; intro a S
  refine st_store (sz := 6) (us := [_, _, _, _, _, _]) S M 2 rfl (by kernel_rfl) rfl rfl rfl rfl rfl rfl (by first | decide | (simp; done) | (simp; omega)) ?_; clear M; intro w37 M
  simp only [putL, List.set_cons_zero, List.set_cons_succ, Nat.reduceAdd] at M
  refine st_go [1] S rfl (by kernel_rfl) ?_; clear S a; intro a S
  refine nxC ?_
  refine wp_ret ?_
  refine end_two S rfl (res_agg (cs := [_, _, _, _, _, _]) (by kernel_rfl) rfl rfl (M.cellsAt (k := 6) 2 rfl rfl)) (res_tmp rfl) ?_
  exact ⟨frIn X, _, 0, rfl, M.below, (fun g ld' h => by
    rw [hyes] at h
    obtain ⟨rfl, rfl⟩ := Prod.mk.inj (Option.some.inj h)
    exact ⟨rfl, rfl, M.fresh 1 rfl⟩), fun h => by rw [hyes] at h; cases h⟩

end Go.Proofs.Ytafejnbfgkkjkaa
